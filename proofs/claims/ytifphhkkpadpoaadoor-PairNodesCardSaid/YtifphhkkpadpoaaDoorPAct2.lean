/- The walk of (*pair.play).act where what a node has is kept, or forgotten. Printed by gen_act2.py. -/
import Derived.Test.YtifphhkkpadpoaaDoorPAct
import Derived.Test.YtifphhkkpadpoaaDoorPLoad
namespace Go.Proofs.YtifphhkkpadpoaaDoor
open Go.RowKit Go.Proofs.YtifphhkkpadpoaaDoorW.PrintWords
set_option linter.unusedVariables false
set_option linter.unusedSimpArgs false
set_option maxRecDepth 100000 in
set_option maxHeartbeats 8000000 in
theorem act_crash (B hp : Nat) (cv : Ext) (s : Pai) (y : Lay) (j : Nat) (num : Int) (w : World) (hP : PlayAt w B hp cv s y) (hB : B ≤ w.heap.size) (x : Nod) (hx : s.nodes[j]? = some x) (hm : s.nodes.length ≤ 1000) :
    Calls Tryd.prog 33 #[.pointer (some ⟨hp, 0, none⟩), .agg #[.int .i64 7, .int .i64 (j : Int), .int .i64 num]] w (ActPost w B hp cv (setNod s j freshNod, 0)) := by
  have hj : j < s.nodes.length := (List.getElem?_eq_some_iff.1 hx).1
  have HX := Aside0.mk hx
  obtain ⟨zf, HZ⟩ : ∃ zf, ∀ W : World, (zeroValue 120).run Tryd.prog W = .ok zf W := ⟨_, fun W => rfl⟩
  clear hx
  have HP := Aside0.mk hP
  have HB := Aside0.mk hB
  have hlt := hP.lt
  have hP1 := hP.far (below_alloc (Below.refl w.heap.size w) (.cells #[.int .i64 7, .int .i64 (j : Int), .int .i64 num] 41))
  have b1 := blk_new w (.cells #[.int .i64 7, .int .i64 (j : Int), .int .i64 num] 41)
  have HB1 := Aside0.mk ((below_alloc (Below.refl w.heap.size w) (.cells #[.int .i64 7, .int .i64 (j : Int), .int .i64 num] 41)).mono HB.out)
  have HS1 := Aside0.mk (Nat.le_trans HB.out (below_alloc (Below.refl w.heap.size w) (.cells #[.int .i64 7, .int .i64 (j : Int), .int .i64 num] 41)).size)
  have i0 : (0 : Int) ≤ (j : Int) := by omega
  have i1 : (j : Int) < (s.nodes.length : Int) := by omega
  have d3 : decide ((j : Int) < 0) = false := decide_eq_false (by omega)
  have d4 : decide ((s.nodes.length : Int) ≤ (j : Int)) = false := decide_eq_false (by omega)
  have d5 : decide (s.nodes.length ≤ j) = false := decide_eq_false (by omega)
  clear hP hB
  go_enter Tryd.func33, Tryd.ntmps33
  go_wp2_with fail
  generalize (w.alloc (.cells #[.int .i64 7, .int .i64 (j : Int), .int .i64 num] 41)) = w1 at *
  generalize w.heap.size = ga at *
  have a0 : w1.cell? ⟨ga, 0, none⟩ = some (.int .i64 7) := blk_cell b1 0
  have a1 : w1.cell? ⟨ga, 1, none⟩ = some (.int .i64 (j : Int)) := blk_cell b1 1
  have a2 : w1.cell? ⟨ga, 2, none⟩ = some (.int .i64 num) := blk_cell b1 2
  have p3 : w1.cell? ⟨hp, 3, none⟩ = some (.slice (some ⟨y.bn, 0, none⟩) s.nodes.length y.cap) := blk_cell hP1.blk 3
  clear b1
  go_quiet (fail)
  replace hP1 := hP1.far (w' := w1.drewN nq) (by apply pw_below_drewN; exact Below.refl _ _)
  replace HB1 : Aside0 (Below B w (w1.drewN nq)) := ⟨HB1.out.trans (by apply pw_below_drewN; exact Below.refl _ _)⟩
  replace HS1 : Aside0 (B ≤ (w1.drewN nq).heap.size) := ⟨HS1.out⟩
  replace a0 : (w1.drewN nq).cell? ⟨ga, 0, none⟩ = some (.int .i64 7) := a0
  replace a1 : (w1.drewN nq).cell? ⟨ga, 1, none⟩ = some (.int .i64 (j : Int)) := a1
  replace a2 : (w1.drewN nq).cell? ⟨ga, 2, none⟩ = some (.int .i64 num) := a2
  replace p3 : (w1.drewN nq).cell? ⟨hp, 3, none⟩ = some (.slice (some ⟨y.bn, 0, none⟩) s.nodes.length y.cap) := p3
  go_wp2_with fail
  generalize w1.drewN nq = w2 at *
  go_quiet (fail)
  replace hP1 := hP1.far (w' := w2.drewN nq) (by apply pw_below_drewN; exact Below.refl _ _)
  replace HB1 : Aside0 (Below B w (w2.drewN nq)) := ⟨HB1.out.trans (by apply pw_below_drewN; exact Below.refl _ _)⟩
  replace HS1 : Aside0 (B ≤ (w2.drewN nq).heap.size) := ⟨HS1.out⟩
  replace a0 : (w2.drewN nq).cell? ⟨ga, 0, none⟩ = some (.int .i64 7) := a0
  replace a1 : (w2.drewN nq).cell? ⟨ga, 1, none⟩ = some (.int .i64 (j : Int)) := a1
  replace a2 : (w2.drewN nq).cell? ⟨ga, 2, none⟩ = some (.int .i64 num) := a2
  replace p3 : (w2.drewN nq).cell? ⟨hp, 3, none⟩ = some (.slice (some ⟨y.bn, 0, none⟩) s.nodes.length y.cap) := p3
  generalize w2.drewN nq = w3 at *
  have HP1 := Aside0.mk hP1
  clear hP1
  have HB2 := Below.refl w3.heap.size w3
  have La0 := below_lay a0
  have La1 := below_lay a1
  have La2 := below_lay a2
  go_wp2_with (first
    | (refine ev_makeMap rfl rfl rfl HB2 (Nat.le_refl _) ?_; intro gm w4 hgm hmb hmB)
    | (refine ev_insert rfl rfl rfl Tryd.underlying121 Tryd.underlying3 hmb rfl rfl rfl rfl hmB hgm ?_; clear hmb hmB; intro w5 hmb hmB)
    | (refine ev_lookup rfl rfl rfl rfl rfl (run_miss Tryd.underlying121 Tryd.underlying3 hmb 7 (HZ _) rfl) ?_; have a0x := La0 _ hmB; have a1x := La1 _ hmB; have a2x := La2 _ hmB)
    | fail)
  have HB6 := Aside0.mk (HB1.out.trans (hmB.mono HS1.out))
  have HS6 := Aside0.mk (Nat.le_trans HS1.out hmB.size)
  have hp6 := HP1.out.far hmB
  clear La0 La1 La2 a0x a1x a2x hmb hmB HB2 HP1 HB1 HS1 a0 a1 a2 p3
  generalize hw6 : w5 = w6 at *
  clear hw6
  obtain ⟨cs, hcs, h8, _, hN, hc, hf⟩ := hp6.cells HX.out
  obtain ⟨Ar, cr, vo, rfl, hN1, hN2, hN3⟩ := hN.out
  obtain ⟨Ao, co, hvo⟩ := Kd.R_slice hN3
  subst hvo
  refine (fresh_calls _).mono ?_
  rintro e7 w7 ⟨Ar7, cr7, vo7, rfl, hcr7, hK7, hO7, hb7⟩
  have HG7 := Aside0.mk (hp6.grow hb7 (5 + j))
  have HK7 := Aside0.mk (Keeps_fresh (c := 5 + j) (col := y.col) hK7)
  have HO7 := Aside0.mk (R_fresh (c := 5 + j) (col := y.col) hO7 HS6.out)
  have HB7 := Aside0.mk (HB6.out.trans (hb7.mono HS6.out))
  have hbl := hp6.bn_low
  have hp7 := hp6.far hb7
  obtain ⟨A8, c8, hvo8⟩ := Kd.R_slice hO7
  subst hvo8
  clear hK7 hO7 hb7 hp6 hc hf hN hN1 hN2 hN3 hcs h8
  obtain ⟨cs, hcs, h8, _, hN, hc, hf⟩ := hp7.cells HX.out
  obtain ⟨Ar, cr, vo, rfl, hN1, hN2, hN3⟩ := hN.out
  obtain ⟨Ao, co, hvo⟩ := Kd.R_slice hN3
  subst hvo
  have n0 : w7.cell? ⟨y.bn, j * 8, none⟩ = some (.int .i64 x.epoch) := hc 0 _ rfl
  have f0 : w7.frozen? ⟨y.bn, j * 8, none⟩ = false := hf 0
  have n1 : w7.cell? ⟨y.bn, j * 8 + 1, none⟩ = some (.int .i64 x.vm.pc) := hc 1 _ rfl
  have f1 : w7.frozen? ⟨y.bn, j * 8 + 1, none⟩ = false := hf 1
  have n2 : w7.cell? ⟨y.bn, j * 8 + 2, none⟩ = some (.slice Ar x.vm.regs.length cr) := hc 2 _ rfl
  have f2 : w7.frozen? ⟨y.bn, j * 8 + 2, none⟩ = false := hf 2
  have n3 : w7.cell? ⟨y.bn, j * 8 + 3, none⟩ = some (.bool x.vm.halts) := hc 3 _ rfl
  have f3 : w7.frozen? ⟨y.bn, j * 8 + 3, none⟩ = false := hf 3
  have n4 : w7.cell? ⟨y.bn, j * 8 + 4, none⟩ = some (.bool x.vm.fault) := hc 4 _ rfl
  have f4 : w7.frozen? ⟨y.bn, j * 8 + 4, none⟩ = false := hf 4
  have n5 : w7.cell? ⟨y.bn, j * 8 + 5, none⟩ = some (.int .i64 x.read) := hc 5 _ rfl
  have f5 : w7.frozen? ⟨y.bn, j * 8 + 5, none⟩ = false := hf 5
  have n6 : w7.cell? ⟨y.bn, j * 8 + 6, none⟩ = some (.slice Ao x.outs.length co) := hc 6 _ rfl
  have f6 : w7.frozen? ⟨y.bn, j * 8 + 6, none⟩ = false := hf 6
  have n7 : w7.cell? ⟨y.bn, j * 8 + 7, none⟩ = some (.int .i64 x.sent) := hc 7 _ rfl
  have f7 : w7.frozen? ⟨y.bn, j * 8 + 7, none⟩ = false := hf 7
  clear hp7 hc hf hN hN1 hN2 hN3 hcs h8
  go_wp2
  go_ret
  have HQ := HG7.out.put8 HX.out freshNod hcr7 HK7.out HO7.out
  refine ⟨rfl, ⟨_, HQ⟩, ?_⟩
  exact Below.setCell (Below.setCell (Below.setCell (Below.setCell (Below.setCell (Below.setCell (Below.setCell (Below.setCell (HB7.out) (p := ⟨y.bn, j * 8 + 0, none⟩) hbl (.int .i64 freshNod.epoch)) (p := ⟨y.bn, j * 8 + 1, none⟩) hbl (.int .i64 freshNod.vm.pc)) (p := ⟨y.bn, j * 8 + 2, none⟩) hbl (.slice Ar7 freshNod.vm.regs.length cr7)) (p := ⟨y.bn, j * 8 + 3, none⟩) hbl (.bool freshNod.vm.halts)) (p := ⟨y.bn, j * 8 + 4, none⟩) hbl (.bool freshNod.vm.fault)) (p := ⟨y.bn, j * 8 + 5, none⟩) hbl (.int .i64 freshNod.read)) (p := ⟨y.bn, j * 8 + 6, none⟩) hbl (.slice A8 freshNod.outs.length c8)) (p := ⟨y.bn, j * 8 + 7, none⟩) hbl (.int .i64 freshNod.sent)
set_option maxRecDepth 100000 in
set_option maxHeartbeats 8000000 in
theorem act_save (B hp : Nat) (cv : Ext) (s : Pai) (y : Lay) (j : Nat) (num : Int) (w : World) (hP : PlayAt w B hp cv s y) (hB : B ≤ w.heap.size) (x : Nod) (hx : s.nodes[j]? = some x) (hm : s.nodes.length ≤ 1000) (hsm : x.vm.regs.length ≤ 1000 ∧ x.outs.length ≤ 1000000) (hsv : s.saved.length ≤ 1000) :
    Calls Tryd.prog 33 #[.pointer (some ⟨hp, 0, none⟩), .agg #[.int .i64 5, .int .i64 (j : Int), .int .i64 num]] w (ActPost w B hp cv ({ s with saved := s.saved ++ [still x] }, 0)) := by
  have hj : j < s.nodes.length := (List.getElem?_eq_some_iff.1 hx).1
  have HX := Aside0.mk hx
  obtain ⟨zf, HZ⟩ : ∃ zf, ∀ W : World, (zeroValue 120).run Tryd.prog W = .ok zf W := ⟨_, fun W => rfl⟩
  clear hx
  have HP := Aside0.mk hP
  have HB := Aside0.mk hB
  have hlt := hP.lt
  have hP1 := hP.far (below_alloc (Below.refl w.heap.size w) (.cells #[.int .i64 5, .int .i64 (j : Int), .int .i64 num] 41))
  have b1 := blk_new w (.cells #[.int .i64 5, .int .i64 (j : Int), .int .i64 num] 41)
  have HB1 := Aside0.mk ((below_alloc (Below.refl w.heap.size w) (.cells #[.int .i64 5, .int .i64 (j : Int), .int .i64 num] 41)).mono HB.out)
  have HS1 := Aside0.mk (Nat.le_trans HB.out (below_alloc (Below.refl w.heap.size w) (.cells #[.int .i64 5, .int .i64 (j : Int), .int .i64 num] 41)).size)
  have i0 : (0 : Int) ≤ (j : Int) := by omega
  have i1 : (j : Int) < (s.nodes.length : Int) := by omega
  have d3 : decide ((j : Int) < 0) = false := decide_eq_false (by omega)
  have d4 : decide ((s.nodes.length : Int) ≤ (j : Int)) = false := decide_eq_false (by omega)
  have d5 : decide (s.nodes.length ≤ j) = false := decide_eq_false (by omega)
  clear hP hB
  go_enter Tryd.func33, Tryd.ntmps33
  go_wp2_with fail
  generalize (w.alloc (.cells #[.int .i64 5, .int .i64 (j : Int), .int .i64 num] 41)) = w1 at *
  generalize w.heap.size = ga at *
  have a0 : w1.cell? ⟨ga, 0, none⟩ = some (.int .i64 5) := blk_cell b1 0
  have a1 : w1.cell? ⟨ga, 1, none⟩ = some (.int .i64 (j : Int)) := blk_cell b1 1
  have a2 : w1.cell? ⟨ga, 2, none⟩ = some (.int .i64 num) := blk_cell b1 2
  have p3 : w1.cell? ⟨hp, 3, none⟩ = some (.slice (some ⟨y.bn, 0, none⟩) s.nodes.length y.cap) := blk_cell hP1.blk 3
  clear b1
  go_quiet (fail)
  replace hP1 := hP1.far (w' := w1.drewN nq) (by apply pw_below_drewN; exact Below.refl _ _)
  replace HB1 : Aside0 (Below B w (w1.drewN nq)) := ⟨HB1.out.trans (by apply pw_below_drewN; exact Below.refl _ _)⟩
  replace HS1 : Aside0 (B ≤ (w1.drewN nq).heap.size) := ⟨HS1.out⟩
  replace a0 : (w1.drewN nq).cell? ⟨ga, 0, none⟩ = some (.int .i64 5) := a0
  replace a1 : (w1.drewN nq).cell? ⟨ga, 1, none⟩ = some (.int .i64 (j : Int)) := a1
  replace a2 : (w1.drewN nq).cell? ⟨ga, 2, none⟩ = some (.int .i64 num) := a2
  replace p3 : (w1.drewN nq).cell? ⟨hp, 3, none⟩ = some (.slice (some ⟨y.bn, 0, none⟩) s.nodes.length y.cap) := p3
  go_wp2_with fail
  generalize w1.drewN nq = w2 at *
  go_quiet (fail)
  replace hP1 := hP1.far (w' := w2.drewN nq) (by apply pw_below_drewN; exact Below.refl _ _)
  replace HB1 : Aside0 (Below B w (w2.drewN nq)) := ⟨HB1.out.trans (by apply pw_below_drewN; exact Below.refl _ _)⟩
  replace HS1 : Aside0 (B ≤ (w2.drewN nq).heap.size) := ⟨HS1.out⟩
  replace a0 : (w2.drewN nq).cell? ⟨ga, 0, none⟩ = some (.int .i64 5) := a0
  replace a1 : (w2.drewN nq).cell? ⟨ga, 1, none⟩ = some (.int .i64 (j : Int)) := a1
  replace a2 : (w2.drewN nq).cell? ⟨ga, 2, none⟩ = some (.int .i64 num) := a2
  replace p3 : (w2.drewN nq).cell? ⟨hp, 3, none⟩ = some (.slice (some ⟨y.bn, 0, none⟩) s.nodes.length y.cap) := p3
  generalize w2.drewN nq = w3 at *
  have HP1 := Aside0.mk hP1
  clear hP1
  have HB2 := Below.refl w3.heap.size w3
  have La0 := below_lay a0
  have La1 := below_lay a1
  have La2 := below_lay a2
  go_wp2_with (first
    | (refine ev_makeMap rfl rfl rfl HB2 (Nat.le_refl _) ?_; intro gm w4 hgm hmb hmB)
    | (refine ev_insert rfl rfl rfl Tryd.underlying121 Tryd.underlying3 hmb rfl rfl rfl rfl hmB hgm ?_; clear hmb hmB; intro w5 hmb hmB)
    | (refine ev_lookup rfl rfl rfl rfl rfl (run_miss Tryd.underlying121 Tryd.underlying3 hmb 5 (HZ _) rfl) ?_; have a0x := La0 _ hmB; have a1x := La1 _ hmB; have a2x := La2 _ hmB)
    | fail)
  have HB6 := Aside0.mk (HB1.out.trans (hmB.mono HS1.out))
  have HS6 := Aside0.mk (Nat.le_trans HS1.out hmB.size)
  have hp6 := HP1.out.far hmB
  clear La0 La1 La2 a0x a1x a2x hmb hmB HB2 HP1 HB1 HS1 a0 a1 a2 p3
  generalize hw6 : w5 = w6 at *
  clear hw6
  obtain ⟨cs, hcs, h8, _, hN, hc, hf⟩ := hp6.cells HX.out
  obtain ⟨Ar, cr, vo, rfl, hN1, hN2, hN3⟩ := hN.out
  obtain ⟨Ao, co, hvo⟩ := Kd.R_slice hN3
  subst hvo
  obtain ⟨AS, cS, hvS, hlS, hCS⟩ := Kd.R_reads hp6.saved
  have p4 : w6.cell? ⟨hp, 4, none⟩ = some (.slice AS s.saved.length cS) := by rw [← hvS]; exact blk_cell hp6.blk 4
  have hvs : ∀ q, y.vS.ownBlock = some q → y.col q = 3 ∧ q < w6.heap.size := fun q hq => ⟨hp6.saved.1 q hq, Kd.R_lt hp6.saved q hq⟩
  have hbc := hp6.bn_col
  have hph := hp6.hcol
  have hT : ¬ RowOr hp y.vS y.bn := fun hx => by
    rcases hx with hx | hx
    · exact hp6.bn_ne hx
    · have := (hvs _ hx.symm).1; omega
  have hdis : ∀ q, y.col q = 5 + j → ¬ RowOr hp y.vS q := fun q hq hx => by
    rcases hx with hx | hx
    · rw [hx] at hq; omega
    · have := (hvs _ hx.symm).1; omega
  have HO := Aside0.mk (Only.refl (RowOr hp y.vS) w6)
  have n0 : w6.cell? ⟨y.bn, j * 8, none⟩ = some (.int .i64 x.epoch) := hc 0 _ rfl
  have n1 : w6.cell? ⟨y.bn, j * 8 + 1, none⟩ = some (.int .i64 x.vm.pc) := hc 1 _ rfl
  have n2 : w6.cell? ⟨y.bn, j * 8 + 2, none⟩ = some (.slice Ar x.vm.regs.length cr) := hc 2 _ rfl
  have n3 : w6.cell? ⟨y.bn, j * 8 + 3, none⟩ = some (.bool x.vm.halts) := hc 3 _ rfl
  have n4 : w6.cell? ⟨y.bn, j * 8 + 4, none⟩ = some (.bool x.vm.fault) := hc 4 _ rfl
  have n5 : w6.cell? ⟨y.bn, j * 8 + 5, none⟩ = some (.int .i64 x.read) := hc 5 _ rfl
  have n6 : w6.cell? ⟨y.bn, j * 8 + 6, none⟩ = some (.slice Ao x.outs.length co) := hc 6 _ rfl
  have n7 : w6.cell? ⟨y.bn, j * 8 + 7, none⟩ = some (.int .i64 x.sent) := hc 7 _ rfl
  have HST : Aside0 (∀ W, Only (RowOr hp y.vS) w6 W → Calls Tryd.prog 67 #[.agg #[.int .i64 x.epoch, .int .i64 x.vm.pc, .slice Ar x.vm.regs.length cr, .bool x.vm.halts, .bool x.vm.fault, .int .i64 x.read, .slice Ao x.outs.length co, .int .i64 x.sent]] W (StillPost W (still x))) := ⟨fun W hW => still_calls x.epoch x.vm.pc x.read x.sent x.vm.halts x.vm.fault x.vm.regs x.outs Ar Ao cr co W (hN2.step hW (fun k hk _ => hdis k hk)).now ((Keeps.row hN3).step hW (fun k hk _ => hdis k hk)).now hsm.1 hsm.2⟩
  have HP6 := Aside0.mk hp6
  have HNE : Aside0 (some hp ≠ (Value.slice AS s.saved.length cS).ownBlock) := ⟨fun e => by rw [← hvS] at e; have := (hvs _ e.symm).1; omega⟩
  have HVS := Aside0.mk hvS
  have HLb : Aside0 ((s.saved.length + 1) * 88 ≤ 140737488355328) := ⟨by omega⟩
  have HOK : Aside0 (∀ q, w6.heap.size ≤ q → recol y.col w6.heap.size 3 q = 3 ∧ some q ≠ (Value.slice AS s.saved.length cS).ownBlock) := ⟨fun q hq => ⟨recol_new hq, fun e => by rw [← hvS] at e; have := (hvs _ e.symm).2; omega⟩⟩
  have HFR : Aside0 (∀ W : World, w6.heap.size ≤ W.heap.size → ∀ q, W.heap.size ≤ q → recol y.col w6.heap.size 3 q = 3) := ⟨fun W hW q hq => recol_new (Nat.le_trans hW hq)⟩
  have hs1 : 0 < kNod.sz := by decide
  have hs2 : 0 < 88 := by decide
  clear hp6 hcs h8 hN hc hf hN1 hN2 hN3 hvS hCS hvs hT hdis hbc hph
  go_region_law
    (first
      | (refine Kd.R_append_step kNod (W := w7) (w0 := w7) B rfl (.tmp 75) (.tmp 80) 27 49 (.agg #[.int .i64 0, .int .i64 0, .slice none 0 0, .bool false, .bool false, .int .i64 0, .slice none 0 0, .int .i64 0]) 88 rfl Tryd.underlying27 info_node rfl hs1 hs2 (.slice AS s.saved.length cS) s.saved (still x) _ (fun q => recol y.col w6.heap.size 3 q = 3) (fun q => w6.heap.size ≤ q) rfl rfl HM7.out HOK.out (HFR.out _ HS7.size) HR7.out (Below.refl B _) HZ7.out HLb.out ?_; intro v9 w9 hR9 hB9 hg9 hat9; obtain ⟨A9, c9, rfl⟩ := Kd.R_slice hR9; have HS9 : Only (RowOr hp y.vS) w6 w9 := HS7.trans ((Only.of_grown hg9).mono (fun q hq => .inr (by rw [HVS.out]; exact hq))); have hb9 := blk_grown (w := w7) HP7.out.blk hg9 HNE.out; have g4 : w9.cell? ⟨hp, 4, none⟩ = some y.vS := blk_cell hb9 4; rw [HVS.out] at g4; have g5 := blk_frozen hb9 4; have HR9 := Aside0.mk hR9; have HG9 := Aside0.mk hg9; have HB9 := Aside0.mk hB9; clear hR9 hg9 hB9 hat9 hb9)
      | (go_simp; go_at_call 67; refine (HST.out _ (Only.drew HO.out)).mono ?_; rintro e7 w7 ⟨vr7, vo7, rfl, hR7, hO7, hb7⟩; obtain ⟨A7, c7, rfl⟩ := Kd.R_slice hR7; obtain ⟨A8, c8, rfl⟩ := Kd.R_slice hO7; have HB7 := Aside0.mk (below_undrew (w := w6) hb7); have HS7 : Only (RowOr hp y.vS) w6 w7 := Only.of_below HB7.out _; have HP7 := Aside0.mk (HP6.out.far HB7.out); have l7 := HP7.out.lt; have p47 : w7.cell? ⟨hp, 4, none⟩ = some y.vS := blk_cell HP7.out.blk 4; rw [HVS.out] at p47; have HM7 := Aside0.mk (nod_M (Kd.R_lower hR7 HS6.out) (Kd.R_lower hO7 HS6.out)); have HR7 : Aside0 (kNod.R 49 w7 B (fun q => recol y.col w6.heap.size 3 q = 3) y.vS s.saved) := Aside0.mk (R_col HP6.out.saved (Only.of_below HB7.out (fun _ => False)) (fun _ _ hx => hx.elim) (fun k hk => recol_old hk)); rw [HVS.out] at HR7; have HZ7 : Aside0 (B ≤ w7.heap.size) := Aside0.mk (Nat.le_trans HS6.out HB7.out.size); clear hR7 hO7 hb7; go_wp2_with fail))
  all_goals
    go_wp2
    go_ret
    rw [← HVS.out] at HG9
    have HQ := HP6.out.setSaved HB7.out HG9.out HR9.out
    simp only [List.length_append, List.length_singleton] at HQ
    refine ⟨rfl, ⟨_, HQ⟩, ?_⟩
    exact Below.setCell ((HB6.out.trans (HB7.out.mono HS6.out)).trans HB9.out) (p := ⟨hp, 4, none⟩) HP6.out.low _
end Go.Proofs.YtifphhkkpadpoaaDoor
