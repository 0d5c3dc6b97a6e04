/- The walk of (*pair.play).work where the node has the fence. Printed by gen_work2.py. -/
import Derived.Test.YtifphhkkpadpoaaDoorPWork
import Derived.Test.YtifphhkkpadpoaaDoorLay
import Derived.Test.YtifphhkkpadpoaaDoorPlaw2
namespace Go.Proofs.YtifphhkkpadpoaaDoor
open Go.RowKit Go.Proofs.YtifphhkkpadpoaaDoorW.PrintWords
set_option linter.unusedVariables false
set_option linter.unusedSimpArgs false
theorem emit_M {w : World} {B : Nat} {ok : Nat → Prop} {e : Emit} {cs : List Value} (h : kEmit.K w e cs) : kEmit.M w B ok e cs := by
  obtain ⟨_, _, rfl, rfl, rfl⟩ := h
  exact ⟨_, _, rfl, rfl, rfl⟩
theorem fed_len {xs : List Int} {r : Nat} (hr : r ≤ xs.length) : (if (xs.length : Int) < (r : Int) + 1 then (xs.length : Int) else (r : Int) + 1).toNat - r = (fed xs r).length := by
  unfold fed
  rw [List.length_take, List.length_drop, Int.toNat_natCast]
  split <;> omega
theorem fed_C {W : World} {A : Option Addr} {xs : List Int} {r c : Nat} (hr : r ≤ xs.length) (hc : xs.length ≤ c) (hW : (Kd.int .i64).C W A xs.length xs) : (Kd.int .i64).C W (if c = r then A else Option.map (fun x => x.add r) A) (fed xs r).length (fed xs r) := by
  have h1 := Kd.C_take (Kd.C_drop (c := c) hW hr hc) (m := min 1 (xs.length - r)) (by rw [List.length_drop]; omega)
  have e : (xs.drop r).take (min 1 (xs.length - r)) = fed xs r := by
    unfold fed
    rw [Int.toNat_natCast, ← List.length_drop, ← List.take_take, List.take_of_length_le (Nat.le_refl (xs.drop r).length)]
  rw [e] at h1
  have e2 : (Kd.int .i64).sz = 1 := rfl
  rw [e2, Nat.mul_one] at h1
  exact h1
set_option maxRecDepth 100000 in
set_option maxHeartbeats 8000000 in
theorem work_goes (B hp : Nat) (cv : Ext) (s : Pai) (y : Lay) (j : Nat) (x : Nod) (code : List Ins) (Ac : Option Addr) (cc : Nat) (k wh num : Int) (w : World) (hP : PlayAt w B hp cv s y) (hx : s.nodes[j]? = some x) (hB : B ≤ w.heap.size) (hcv : cv.val = .slice Ac code.length cc) (hcc : code.length ≤ cc)
    (hcode : ∀ W, Below B w W → kIns.C W Ac code.length code) (hn : x.epoch ≠ 0) (hfp : (fencePass s.fence.epoch s.fence.owner wh x.epoch).1 = true) (hre : runErr code x.vm (fed s.log x.read) 50 = 0) (h0 : 0 ≤ x.read) (h1 : x.read ≤ s.log.length) (ho : x.outs.length ≤ 1000000) (hlog : s.log.length ≤ 1000) :
    Calls Tryd.prog 64 #[.pointer (some ⟨hp, 0, none⟩), .pointer (some ⟨y.bn, j * 8, none⟩), .agg #[.int .i64 k, .int .i64 wh, .int .i64 num]] w (ActPost w B hp cv (workAct code s j x ⟨k, wh, num⟩)) := by
  have HCV := Aside0.mk hcv
  clear hcv
  have hv : workAct code s j x ⟨k, wh, num⟩ = (setNod s j (worked code s.log x), 0) := by unfold workAct; rw [if_neg hn, if_neg (by rw [hfp]; decide)]; rfl
  rw [hv]
  have HP := Aside0.mk hP
  have HB := Aside0.mk hB
  have HX := Aside0.mk hx
  have HC := Aside0.mk hcode
  have HE := Aside0.mk hre
  have HL := Aside0.mk ho
  have hlt := hP.lt
  have e0 : (x.epoch == 0) = false := by simpa using hn
  obtain ⟨er, HF⟩ : ∃ er, Aside0 (fencePass s.fence.epoch s.fence.owner wh x.epoch = (true, er)) := ⟨(fencePass s.fence.epoch s.fence.owner wh x.epoch).2, ⟨by rw [← hfp]⟩⟩
  have HFP : Aside0 (∀ W : World, Calls Tryd.prog 88 #[.agg #[.int .i64 s.fence.epoch, .int .i64 s.fence.owner], .int .i64 wh, .int .i64 x.epoch] W fun r W' => r = .returned (.tuple #[.bool true, .int .i64 er]) ∧ Below W.heap.size W W') := ⟨fun W => (fencePass_calls s.fence.epoch s.fence.owner wh x.epoch W).mono (by rintro r W' ⟨rfl, hb⟩; rw [HF.out]; exact ⟨rfl, hb⟩)⟩
  obtain ⟨r, hr⟩ := Int.eq_ofNat_of_zero_le h0
  have HR := Aside0.mk hr
  have h1 : r ≤ s.log.length := by omega
  clear hv hn hfp hP hB hx hcode hre ho hr
  go_enter Tryd.func64, Tryd.ntmps64
  have hb := HP.out.far (below_alloc (Below.refl w.heap.size w) (.cells #[.int .i64 k, .int .i64 wh, .int .i64 num] 41))
  have b1 := blk_new w (.cells #[.int .i64 k, .int .i64 wh, .int .i64 num] 41)
  have HB1 := Aside0.mk ((below_alloc (Below.refl w.heap.size w) (.cells #[.int .i64 k, .int .i64 wh, .int .i64 num] 41)).mono HB.out)
  have HS1 := Aside0.mk (Nat.le_trans HB.out (below_alloc (Below.refl w.heap.size w) (.cells #[.int .i64 k, .int .i64 wh, .int .i64 num] 41)).size)
  obtain ⟨cs, hcs, h8, _, hN, hc, hf⟩ := hb.cells HX.out
  obtain ⟨Ar, cr, vo, rfl, hN1, hN2, hN3⟩ := hN.out
  have n0 : (w.alloc (.cells #[.int .i64 k, .int .i64 wh, .int .i64 num] 41)).cell? ⟨y.bn, j * 8, none⟩ = some (.int .i64 x.epoch) := hc 0 _ rfl
  have v1 : (w.alloc (.cells #[.int .i64 k, .int .i64 wh, .int .i64 num] 41)).cell? ⟨w.heap.size, 1, none⟩ = some (.int .i64 wh) := blk_cell b1 1
  have p1 : (w.alloc (.cells #[.int .i64 k, .int .i64 wh, .int .i64 num] 41)).cell? ⟨hp, 1, none⟩ = some (.int .i64 s.fence.epoch) := blk_cell hb.blk 1
  have p2 : (w.alloc (.cells #[.int .i64 k, .int .i64 wh, .int .i64 num] 41)).cell? ⟨hp, 2, none⟩ = some (.int .i64 s.fence.owner) := blk_cell hb.blk 2
  have HP1 := Aside0.mk hb
  clear hb b1 hc hf hN hN1 hN2 hN3 hcs h8
  go_wp2_with fail
  generalize (w.alloc (.cells #[.int .i64 k, .int .i64 wh, .int .i64 num] 41)) = w1 at *
  generalize w.heap.size = ga at *
  have HB0 := Aside0.mk (Below.refl w1.heap.size w1)
  have Lv1 := below_lay v1
  have Ln0 := below_lay n0
  have Lp1 := below_lay p1
  have Lp2 := below_lay p2
  clear v1 n0 p1 p2
  go_region_held3 (fun w' => Below w1.heap.size w1 w') (with_reducible first | exact below_drew HB0.out | assumption)
    ((go_at_call 88; refine (HFP.out _).mono ?_; rintro e2 w2 ⟨rfl, hb⟩; have HB2 : Below w1.heap.size w1 w2 := below_step (by assumption) hb; clear hb))
  clear Lv1 Ln0 Lp1 Lp2 HB0 HFP
  have HB2 := Aside0.mk HB2
  have hp2 := HP1.out.far HB2.out
  have HBB := Aside0.mk ((HB1.out.trans (HB2.out.mono HS1.out)))
  have HS2 := Aside0.mk (Nat.le_trans HS1.out HB2.out.size)
  clear HP1 HB1 HS1 HB2
  obtain ⟨AL, cL, hvL, hlL, hCL⟩ := Kd.R_reads hp2.log
  obtain ⟨cs, hcs, h8, _, hN, hc, hf⟩ := hp2.cells HX.out
  obtain ⟨Ar, cr, vo, rfl, hN1, hN2, hN3⟩ := hN.out
  have p0 : w2.cell? ⟨hp, 0, none⟩ = some (.slice AL s.log.length cL) := by rw [← hvL]; exact blk_cell hp2.blk 0
  have n5 : w2.cell? ⟨y.bn, j * 8 + 5, none⟩ = some (.int .i64 (r : Int)) := HR.out ▸ hc 5 _ rfl
  have hCm := hCL.2.1
  have HP2 := Aside0.mk hp2
  clear hp2 hvL hc hf hN hN1 hN2 hN3 hcs h8
  have HC2 := Aside0.mk (fed_C h1 hlL hCL)
  have hw1 : IntKind.i64.wrap ((r : Int) + 1) = (r : Int) + 1 := IntWalk.i64_in _ (by omega)
  clear hCL
  go_wp2_with fail
  have hb1 : (r : Int) ≤ (if (s.log.length : Int) < (r : Int) + 1 then (s.log.length : Int) else (r : Int) + 1) := by split <;> omega
  have hb2 : (if (s.log.length : Int) < (r : Int) + 1 then (s.log.length : Int) else (r : Int) + 1) ≤ (cL : Int) := by split <;> omega
  go_quiet (fail)
  clear hb1 hb2
  rw [fed_len h1]
  generalize (if (s.log.length : Int) < (r : Int) + 1 then (s.log.length : Int) else (r : Int) + 1) = mn at *
  generalize hA2 : (if cL = r then AL else Option.map (fun x => x.add r) AL) = A2 at *
  obtain ⟨c2, hc2⟩ : ∃ c2, c2 = cL - r := ⟨_, rfl⟩
  have hfc : (fed s.log r).length ≤ c2 := by unfold fed; rw [List.length_take, List.length_drop, Int.toNat_natCast]; omega
  rw [← hc2]
  clear hA2 hc2 hw1
  have hp3 := HP2.out.far (w' := w2.drewN nq) (by apply pw_below_drewN; exact Below.refl _ _)
  have HB3 := Aside0.mk (HBB.out.trans (show Below B w2 (w2.drewN nq) by apply pw_below_drewN; exact Below.refl _ _))
  have HC3 := Aside0.mk (Kd.C_drewN HC2.out nq)
  have HS3 : Aside0 (B ≤ (w2.drewN nq).heap.size) := ⟨HS2.out⟩
  go_wp2_with fail
  generalize w2.drewN nq = w3 at *
  clear HP2 HBB HC2 HS2 p0 n5
  obtain ⟨cs, hcs, h8, _, hN, hc, hf⟩ := hp3.cells HX.out
  obtain ⟨Ar, cr, vo, rfl, hN1, hN2, hN3⟩ := hN.out
  have Lp8 := below_lay (show w3.cell? ⟨hp, 8, none⟩ = some (.slice Ac code.length cc) by rw [← HCV.out]; exact blk_cell hp3.blk 8)
  have Ln1 := below_lay (show w3.cell? ⟨y.bn, j * 8 + 1, none⟩ = some (.int .i64 x.vm.pc) from hc 1 _ rfl)
  have Ln2 := below_lay (show w3.cell? ⟨y.bn, j * 8 + 2, none⟩ = some (.slice Ar x.vm.regs.length cr) from hc 2 _ rfl)
  have Ln3 := below_lay (show w3.cell? ⟨y.bn, j * 8 + 3, none⟩ = some (.bool x.vm.halts) from hc 3 _ rfl)
  have Ln4 := below_lay (show w3.cell? ⟨y.bn, j * 8 + 4, none⟩ = some (.bool x.vm.fault) from hc 4 _ rfl)
  have HRUN : Aside0 (∀ W, Below w3.heap.size w3 W → Calls Tryd.prog 19 #[.slice Ac code.length cc, .agg #[.int .i64 x.vm.pc, .slice Ar x.vm.regs.length cr, .bool x.vm.halts, .bool x.vm.fault], .slice A2 (fed s.log r).length c2, .int .i64 50] W (RunOk W (fed s.log r).length (ran code x.vm (fed s.log r) 50).1 (ran code x.vm (fed s.log r) 50).2)) := ⟨fun W hW => by
    have h := run_ok code x.vm (fed s.log r) 50 Ac Ar A2 cc cr c2 W (HC.out W (HB3.out.trans (hW.mono HS3.out))) (Kd.C_below hN2.now hW) (Kd.C_below HC3.out hW) hcc hfc (by rw [← HR.out]; exact HE.out)
    exact h⟩
  obtain ⟨M, u, HM⟩ : ∃ M u, Aside0 (ran code x.vm (fed s.log r) 50 = (M, u)) := ⟨_, _, ⟨rfl⟩⟩
  rw [HM.out] at HRUN
  obtain ⟨⟨pc', regs', ha', fa'⟩, inp', out'⟩ := M
  have HOL : Aside0 (out'.length ≤ 50) := ⟨by
    have h2 := runs_iter (code := code) 50 ⟨x.vm, fed s.log r, []⟩
    have h3 : runs code 50 ⟨x.vm, fed s.log r, []⟩ = (⟨⟨pc', regs', ha', fa'⟩, inp', out'⟩, u) := HM.out
    rw [h3] at h2
    obtain ⟨_, o, h4, h5⟩ := iter_ext _ _ _ h2.2
    have h6 : out' = [] ++ o := h4
    rw [h6]
    simp only [List.nil_append]
    exact Nat.le_trans h5 h2.1⟩
  have HIL : Aside0 (inp'.length ≤ (fed s.log (r : Int)).length) := ⟨by
    have h2 := runs_iter (code := code) 50 ⟨x.vm, fed s.log r, []⟩
    have h3 : runs code 50 ⟨x.vm, fed s.log r, []⟩ = (⟨⟨pc', regs', ha', fa'⟩, inp', out'⟩, u) := HM.out
    rw [h3] at h2
    obtain ⟨⟨c, h4, h5⟩, _⟩ := iter_ext _ _ _ h2.2
    have h6 : inp' = (fed s.log (r : Int)).drop c := h5
    rw [h6, List.length_drop]
    omega⟩
  have HG8 : Aside0 (regs'.length = 8) := ⟨by
    have h2 := runErr_good HE.out
    have h3 := runs_good h2.1 50 _ h2.2.2.1
    have h4 : runs code 50 ⟨x.vm, fed s.log x.read, []⟩ = (⟨⟨pc', regs', ha', fa'⟩, inp', out'⟩, u) := by rw [HR.out]; exact HM.out
    rw [h4] at h3
    exact h3.len⟩
  have HB0 := Aside0.mk (Below.refl w3.heap.size w3)
  have HP3 := Aside0.mk hp3
  clear hp3 hc hf hN hN1 hN2 hN3 hcs h8
  go_region_held3 (fun w' => Below w3.heap.size w3 w') (with_reducible first | exact below_drew HB0.out | exact below_drew (below_alloc HB0.out _) | exact below_alloc (by assumption) _ | exact below_four (by assumption) (Nat.le_refl _) | exact below_four (by assumption) (Below.size HB4) | assumption)
    (first
      | (go_at_call 19; refine (HRUN.out _ (by assumption)).mono ?_; rintro e4 w4 ⟨Ar4, cr4, Ao4, co4, rfl, hcr4, hco4, hKr4, hKo4, hb⟩; have hD := blk_below (w := (w3.alloc (.cells #[.int .i64 0, .slice none 0 0, .bool false, .bool false] 46)).drew) (blk_new w3 _) hb; have t0 := blk_cell hD 0; have t1 := blk_cell hD 1; have t2 := blk_cell hD 2; have t3 := blk_cell hD 3; have tf0 := blk_frozen hD 0; have tf1 := blk_frozen hD 1; have tf2 := blk_frozen hD 2; have tf3 := blk_frozen hD 3; have tl := blk_lt hD; have HB4 : Below w3.heap.size w3 w4 := below_step (by assumption) hb; clear hb; )
      | (go_at_call 19; refine (HRUN.out _ (by assumption)).mono ?_; rintro e4 w4 ⟨Ar4, cr4, Ao4, co4, rfl, hcr4, hco4, hKr4, hKo4, hb⟩; have HB4 : Below w3.heap.size w3 w4 := below_step (by assumption) hb; clear hb; ))
  all_goals
    have hpl := HP3.out.lt
    have hbl : y.bn < w3.heap.size := Kd.R_lt HP3.out.nod y.bn (by simp [Value.ownBlock])
    first
      | (have hbk := blk_put (blk_put (blk_put (blk_put hD 0 (.int .i64 pc') rfl) 1 (.slice Ar4 8 cr4) rfl) 2 (.bool ha') rfl) 3 (.bool fa') rfl; have HB5 : Below w3.heap.size w3 ((((w4.setCell ⟨w3.heap.size, 0, none⟩ (.int .i64 pc')).setCell ⟨w3.heap.size, 1, none⟩ (.slice Ar4 8 cr4)).setCell ⟨w3.heap.size, 2, none⟩ (.bool ha')).setCell ⟨w3.heap.size, 3, none⟩ (.bool fa')) := below_four HB4 (Nat.le_refl _); have HKr5 : Keeps (fun W => (Kd.int .i64).C W Ar4 8 regs') ((((w4.setCell ⟨w3.heap.size, 0, none⟩ (.int .i64 pc')).setCell ⟨w3.heap.size, 1, none⟩ (.slice Ar4 8 cr4)).setCell ⟨w3.heap.size, 2, none⟩ (.bool ha')).setCell ⟨w3.heap.size, 3, none⟩ (.bool fa')) (fun q => w3.heap.size ≤ q) := Keeps.mono (Keeps.step hKr4 (only_four (Only.refl (fun k => k = w3.heap.size) w4) rfl) (fun k hk _ hx => by have hk' : (w3.alloc (.cells #[.int .i64 0, .slice none 0 0, .bool false, .bool false] 46)).drew.heap.size ≤ k := hk; have hx1 : k = w3.heap.size := hx; simp at hk'; omega)) (fun k hk => by have hk' : (w3.alloc (.cells #[.int .i64 0, .slice none 0 0, .bool false, .bool false] 46)).drew.heap.size ≤ k := hk; show w3.heap.size ≤ k; simp at hk'; omega); have HKo5 : Keeps (fun W => kEmit.C W Ao4 out'.length out') ((((w4.setCell ⟨w3.heap.size, 0, none⟩ (.int .i64 pc')).setCell ⟨w3.heap.size, 1, none⟩ (.slice Ar4 8 cr4)).setCell ⟨w3.heap.size, 2, none⟩ (.bool ha')).setCell ⟨w3.heap.size, 3, none⟩ (.bool fa')) (fun q => w3.heap.size ≤ q) := Keeps.mono (Keeps.step hKo4 (only_four (Only.refl (fun k => k = w3.heap.size) w4) rfl) (fun k hk _ hx => by have hk' : (w3.alloc (.cells #[.int .i64 0, .slice none 0 0, .bool false, .bool false] 46)).drew.heap.size ≤ k := hk; have hx1 : k = w3.heap.size := hx; simp at hk'; omega)) (fun k hk => by have hk' : (w3.alloc (.cells #[.int .i64 0, .slice none 0 0, .bool false, .bool false] 46)).drew.heap.size ≤ k := hk; show w3.heap.size ≤ k; simp at hk'; omega); have hgp : hp < w3.heap.size := hpl; have hgn : y.bn < w3.heap.size := hbl; have hgl : w3.heap.size ≤ w3.heap.size := Nat.le_refl _; clear hKr4 hKo4 t0 t1 t2 t3 tf0 tf1 tf2 tf3 tl hD; generalize (((w4.setCell ⟨w3.heap.size, 0, none⟩ (.int .i64 pc')).setCell ⟨w3.heap.size, 1, none⟩ (.slice Ar4 8 cr4)).setCell ⟨w3.heap.size, 2, none⟩ (.bool ha')).setCell ⟨w3.heap.size, 3, none⟩ (.bool fa') = w5 at *; generalize hgeq : w3.heap.size = gb at hbk hgp hgn ⊢; replace hgl : w3.heap.size ≤ gb := Nat.le_of_eq hgeq; clear hgeq)
      | (have hbk := blk_new w4 (.cells #[.int .i64 pc', .slice Ar4 8 cr4, .bool ha', .bool fa'] 46); have HB5 : Below w3.heap.size w3 (w4.alloc (.cells #[.int .i64 pc', .slice Ar4 8 cr4, .bool ha', .bool fa'] 46)) := below_alloc HB4 _; have HKr5 : Keeps (fun W => (Kd.int .i64).C W Ar4 8 regs') (w4.alloc (.cells #[.int .i64 pc', .slice Ar4 8 cr4, .bool ha', .bool fa'] 46)) (fun q => w3.heap.size ≤ q) := Keeps.mono (Keeps.step hKr4 ((Only.refl (fun _ => False) w4).alloc _) (fun k hk _ hx => by have hk' : w3.heap.size ≤ k := hk; exact hx)) (fun k hk => by have hk' : w3.heap.size ≤ k := hk; show w3.heap.size ≤ k; omega); have HKo5 : Keeps (fun W => kEmit.C W Ao4 out'.length out') (w4.alloc (.cells #[.int .i64 pc', .slice Ar4 8 cr4, .bool ha', .bool fa'] 46)) (fun q => w3.heap.size ≤ q) := Keeps.mono (Keeps.step hKo4 ((Only.refl (fun _ => False) w4).alloc _) (fun k hk _ hx => by have hk' : w3.heap.size ≤ k := hk; exact hx)) (fun k hk => by have hk' : w3.heap.size ≤ k := hk; show w3.heap.size ≤ k; omega); have hgp : hp < w4.heap.size := Nat.lt_of_lt_of_le hpl HB4.size; have hgn : y.bn < w4.heap.size := Nat.lt_of_lt_of_le hbl HB4.size; have hgl : w3.heap.size ≤ w4.heap.size := HB4.size; clear hKr4 hKo4; generalize w4.alloc (.cells #[.int .i64 pc', .slice Ar4 8 cr4, .bool ha', .bool fa'] 46) = w5 at *; generalize w4.heap.size = gb at hbk hgp hgn hgl ⊢)
    have HB6 := Aside0.mk (HB3.out.trans (HB5.mono HS3.out))
    have HS5 := Aside0.mk (Nat.le_trans HS3.out HB5.size)
    obtain ⟨cs, hcs, h8, _, hN, hc, hf⟩ := HP3.out.cells HX.out
    obtain ⟨Ar5, cr5, vo5, rfl, hN1, hN2, hN3⟩ := hN.out
    obtain ⟨Ao, co, hvo⟩ := Kd.R_slice hN3
    subst hvo
    have q0 : w5.cell? ⟨gb, 0, none⟩ = some (.int .i64 pc') := blk_cell hbk 0
    have q1 : w5.cell? ⟨gb, 1, none⟩ = some (.slice Ar4 8 cr4) := blk_cell hbk 1
    have q2 : w5.cell? ⟨gb, 2, none⟩ = some (.bool ha') := blk_cell hbk 2
    have q3 : w5.cell? ⟨gb, 3, none⟩ = some (.bool fa') := blk_cell hbk 3
    have n5 : w5.cell? ⟨y.bn, j * 8 + 5, none⟩ = some (.int .i64 (r : Int)) := (HB5.cell (p := ⟨y.bn, j * 8 + 5, none⟩) hbl).trans (HR.out ▸ hc 5 _ rfl)
    have n6 : w5.cell? ⟨y.bn, j * 8 + 6, none⟩ = some (.slice Ao x.outs.length co) := (HB5.cell (p := ⟨y.bn, j * 8 + 6, none⟩) hbl).trans (hc 6 _ rfl)
    have hvo : ∀ q, (Value.slice Ao x.outs.length co).ownBlock = some q → y.col q = 5 + j ∧ q < w3.heap.size := fun q hq => ⟨hN3.1 q hq, Kd.R_lt hN3 q hq⟩
    have HVO := Aside0.mk hvo
    have HNE : Aside0 (¬ some y.bn = (Value.slice Ao x.outs.length co).ownBlock) := ⟨fun e => by have h1 := (hvo y.bn e.symm).1; have h2 := HP3.out.bn_col; omega⟩
    have hT : ¬ RowOr y.bn (.slice Ao x.outs.length co) gb := fun hx => by
      rcases hx with hx | hx
      · omega
      · have := (hvo gb hx.symm).2; omega
    have HO := Aside0.mk (Only.refl (RowOr y.bn (.slice Ao x.outs.length co)) w5)
    have Lq0 := only_lay q0 hT
    have Lq1 := only_lay q1 hT
    have Lq2 := only_lay q2 hT
    have Lq3 := only_lay q3 hT
    have HRo : Aside0 (kEmit.R 52 w5.drew B (fun q => recol y.col w3.heap.size (5 + j) q = 5 + j) (.slice Ao x.outs.length co) x.outs) := ⟨R_col hN3 ((Only.of_below HB5 (fun _ => False)).drew) (fun _ _ hx => hx.elim) (fun k hk => recol_old hk)⟩
    have HRR : Aside0 (ReadsRow (kEmit.K w5.drew) kEmit.sz w5.drew Ao4 out'.length out') := ⟨Kd.C_drew HKo5.now⟩
    have HKM : Aside0 (∀ e cs, kEmit.K w5.drew e cs → kEmit.M w5.drew B (fun _ => False) e cs) := ⟨fun e cs he => emit_M he⟩
    have HFr : Aside0 (∀ q, w5.drew.heap.size ≤ q → recol y.col w3.heap.size (5 + j) q = 5 + j) := ⟨fun q hq => recol_new (Nat.le_trans HB5.size hq)⟩
    have HBd : Aside0 (B ≤ w5.drew.heap.size) := ⟨HS5.out⟩
    have HLb : Aside0 ((x.outs.length + out'.length) * 16 ≤ 140737488355328) := ⟨by have := HL.out; have := HOL.out; omega⟩
    have HCS := Aside0.mk hcs
    have HB5 := Aside0.mk HB5
    have HKr5 := Aside0.mk HKr5
    have hjn : j < s.nodes.length := (List.getElem?_eq_some_iff.1 HX.out).1
    have hil : inp'.length ≤ (fed s.log (r : Int)).length := HIL.out
    have hfl := fed_le s.log (r : Int)
    have hw1 : IntKind.i64.wrap ((r : Int) + (((fed s.log (r : Int)).length : Int) - (inp'.length : Int))) = (r : Int) + (((fed s.log (r : Int)).length : Int) - (inp'.length : Int)) := IntWalk.i64_in _ (by omega)
    have hs1 : 0 < kEmit.sz := by decide
    have hs2 : 0 < 16 := by decide
    clear hbk hc hf hN hN1 hN2 hN3 hcs h8 hvo hT HKo5 Lp8 Ln1 Ln2 Ln3 Ln4 HRUN HB0 HC3
    go_wp2_with fail
    go_region_law
      ((refine Kd.R_append_rows_step kEmit (Rr := kEmit.K w5.drew) (w0 := w5.drew) (W := w5.drew) B rfl (.tmp 88) (.tmp 89) 47 52 (.agg #[.int .i64 0, .int .i64 0]) 16 rfl Tryd.underlying47 info_emit rfl hs1 hs2 (.slice Ao x.outs.length co) x.outs out' Ao4 out'.length co4 (fun q => recol y.col w3.heap.size (5 + j) q = 5 + j) (fun _ => False) rfl rfl HRo.out HRR.out HKM.out (fun _ h => h.elim) HFr.out (Below.refl B _) HBd.out HLb.out ?_; intro v6 w6 hR6 hB6 hg6 hat6; obtain ⟨A6, c6, rfl⟩ := Kd.R_slice hR6; have HS6 : Only (RowOr y.bn (.slice Ao x.outs.length co)) w5 w6 := (only_undrew (Only.of_grown hg6)).mono (fun q hq => .inr hq); have hraw6 := HP3.out.rawAt (j := j) (((Only.of_below HB5.out _)).then_ (only_undrew (Only.of_grown hg6)) (fun q hq => .inl (HVO.out q hq.symm).1)); obtain ⟨rc, rf⟩ := raw_cells hraw6 hjn HCS.out; have m1 : w6.cell? ⟨y.bn, j * 8 + 1, none⟩ = some (.int .i64 x.vm.pc) := rc 1 _ rfl; have m2 : w6.cell? ⟨y.bn, j * 8 + 2, none⟩ = some (.slice Ar5 x.vm.regs.length cr5) := rc 2 _ rfl; have m3 : w6.cell? ⟨y.bn, j * 8 + 3, none⟩ = some (.bool x.vm.halts) := rc 3 _ rfl; have m4 : w6.cell? ⟨y.bn, j * 8 + 4, none⟩ = some (.bool x.vm.fault) := rc 4 _ rfl; have m5 := rc 5 (.int .i64 x.read) rfl; rw [HR.out] at m5; have m6 : w6.cell? ⟨y.bn, j * 8 + 6, none⟩ = some (.slice Ao x.outs.length co) := rc 6 _ rfl; have mf1 := rf 1; have mf2 := rf 2; have mf3 := rf 3; have mf4 := rf 4; have mf5 := rf 5; have mf6 := rf 6; have HR6 := Aside0.mk hR6; have HG6 := Aside0.mk hg6; have HB7 := Aside0.mk hB6; have u0 := Lq0 _ HS6; have u1 := Lq1 _ HS6; have u2 := Lq2 _ HS6; have u3 := Lq3 _ HS6; clear hR6 hg6 hB6 hat6 hraw6 rc rf))
    all_goals
      go_wp2
      go_ret
      have hwk : worked code s.log x = { x with vm := ⟨pc', regs', ha', fa'⟩, outs := x.outs ++ out', read := (r : Int) + (((fed s.log (r : Int)).length : Int) - (inp'.length : Int)) } := by
        unfold worked
        rw [HR.out, HM.out]
      obtain ⟨css, HQ⟩ := HP3.out.worked HX.out HB5.out (grown_undrew HG6.out) HVO.out HCS.out { x with vm := ⟨pc', regs', ha', fa'⟩, outs := x.outs ++ out', read := (r : Int) + (((fed s.log (r : Int)).length : Int) - (inp'.length : Int)) } HG8.out hcr4 rfl rfl HKr5.out HR6.out rfl
      rw [hwk]
      simp only [List.length_append] at HQ
      refine ⟨rfl, ⟨_, HQ⟩, ?_⟩
      have hbl := HP3.out.bn_low
      exact Below.setCell (Below.setCell (Below.setCell (Below.setCell (Below.setCell (Below.setCell (HB6.out.trans ((Below.refl B w5).drew.trans HB7.out)) (p := ⟨y.bn, j * 8 + 1, none⟩) hbl _) (p := ⟨y.bn, j * 8 + 2, none⟩) hbl _) (p := ⟨y.bn, j * 8 + 3, none⟩) hbl _) (p := ⟨y.bn, j * 8 + 4, none⟩) hbl _) (p := ⟨y.bn, j * 8 + 6, none⟩) hbl _) (p := ⟨y.bn, j * 8 + 5, none⟩) hbl _
end Go.Proofs.YtifphhkkpadpoaaDoor
