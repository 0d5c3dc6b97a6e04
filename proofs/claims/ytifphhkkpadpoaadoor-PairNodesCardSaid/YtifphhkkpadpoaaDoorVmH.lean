/- The walk of vm.Run where all is right: it returns what the plain law's run comes to. Printed by gen_run2.py. -/
import Derived.Test.YtifphhkkpadpoaaDoorVmG
namespace Go.Proofs.YtifphhkkpadpoaaDoor
open Go.RowKit Go.Proofs.YtifphhkkpadpoaaDoorW.PrintWords
set_option linter.unusedVariables false
set_option linter.unusedSimpArgs false
theorem step_len {p : List Ins} {m m1 : Mach} {k : Nat} (hs : step p m = some m1) (h : m.out.length ≤ k) : m1.out.length ≤ k + 1 := by
  unfold step at hs
  split at hs
  · injection hs with hs; subst hs; simp only; omega
  · unfold exec at hs
    simp only at hs
    repeat' (split at hs)
    all_goals first
      | (injection hs with hs; subst hs; simp; omega)
      | (injection hs with hs; subst hs; simp only [setReg]; omega)
      | cases hs
def RunOk (w : World) (n : Nat) (r : Mach) (used : Nat) (e : Ending) (w' : World) : Prop :=
  ∃ Ar cr Ao co, e = .returned (.tuple #[.agg #[.int .i64 r.vm.pc, .slice Ar 8 cr, .bool r.vm.halts, .bool r.vm.fault], .slice Ao r.out.length co, .int .i64 ((n : Int) - (r.inp.length : Int)), .int .i64 used, .int .i64 0]) ∧ 8 ≤ cr ∧ r.out.length ≤ co ∧
    Keeps (fun W => (Kd.int .i64).C W Ar 8 r.vm.regs) w' (fun k => w.heap.size ≤ k) ∧ Keeps (fun W => kEmit.C W Ao r.out.length r.out) w' (fun k => w.heap.size ≤ k) ∧ Below w.heap.size w w'
/-- What is left of the runs, k of them done. -/
def Left (p : List Ins) (f : Nat) (m0 : Mach) (k : Nat) (m : Mach) : Prop := runs p f m0 = ((runs p (f - k) m).1, (runs p (f - k) m).2 + k)
theorem Left.start (p : List Ins) (f : Nat) (m0 : Mach) : Left p f m0 0 m0 := rfl
theorem Left.next {p : List Ins} {f k : Nat} {m0 m m1 : Mach} (h : Left p f m0 k m) (hk : k < f) (hr : (m.vm.halts || m.vm.fault) = false) (hs : step p m = some m1) : Left p f m0 (k + 1) m1 := by
  unfold Left at h ⊢
  rw [h]
  obtain ⟨d, hd⟩ : ∃ d, f - k = d + 1 := ⟨f - k - 1, by omega⟩
  have hd' : f - (k + 1) = d := by omega
  rw [hd, hd']
  simp [runs, hr, hs]
  omega
theorem Left.done {p : List Ins} {f k : Nat} {m0 m : Mach} (h : Left p f m0 k m) (hd : f ≤ k ∨ (m.vm.halts || m.vm.fault) = true ∨ step p m = none) : runs p f m0 = (m, k) := by
  unfold Left at h
  rw [h]
  cases hf : f - k with
  | zero => simp [runs]
  | succ d =>
    rcases hd with hd | hd | hd
    · omega
    · simp [runs, hd]
    · simp [runs, hd]
theorem RunOk.mk {w wr : World} {p : List Ins} {v : Vm} {inp mi regs : List Int} {out : List Emit} {pc : Int} {halts fault : Bool} {vr : Value} {hh hf : Bool} {vpc : Int} {gm gr cr c0 ci co k fuel : Nat} {A0 Ai Ao : Option Addr} (hX : Boxes w wr vpc vr hh hf)
    (hM : MachAt wr gm gm gr cr A0 c0 Ai ci (.slice Ao out.length co) p ⟨⟨pc, regs, halts, fault⟩, mi, out⟩) (hgm : w.heap.size + 1 < gm) (hran : runs p fuel ⟨v, inp, []⟩ = (⟨⟨pc, regs, halts, fault⟩, mi, out⟩, k)) :
    RunOk w inp.length (ran p v inp fuel).1 (ran p v inp fuel).2 (.returned (.tuple #[.agg #[.int .i64 pc, .slice (some ⟨gr, 0, none⟩) 8 cr, .bool halts, .bool fault], .slice Ao out.length co, .int .i64 ((inp.length : Int) - (mi.length : Int)), .int .i64 k, .int .i64 0]))
      ((((wr.setCell ⟨w.heap.size + 1, 0, none⟩ (.int .i64 pc)).setCell ⟨w.heap.size + 1, 1, none⟩ (.slice (some ⟨gr, 0, none⟩) 8 cr)).setCell ⟨w.heap.size + 1, 2, none⟩ (.bool halts)).setCell ⟨w.heap.size + 1, 3, none⟩ (.bool fault)).drew := by
  have hr : ran p v inp fuel = (⟨⟨pc, regs, halts, fault⟩, mi, out⟩, k) := by unfold ran; rw [Int.toNat_natCast]; exact hran
  rw [hr]
  have ho : Only (fun j => j = w.heap.size + 1) wr ((((wr.setCell ⟨w.heap.size + 1, 0, none⟩ (.int .i64 pc)).setCell ⟨w.heap.size + 1, 1, none⟩ (.slice (some ⟨gr, 0, none⟩) 8 cr)).setCell ⟨w.heap.size + 1, 2, none⟩ (.bool halts)).setCell ⟨w.heap.size + 1, 3, none⟩ (.bool fault)).drew :=
    (((((Only.refl (fun j => j = w.heap.size + 1) wr).setCell (p := ⟨w.heap.size + 1, 0, none⟩) (.inl rfl) _).setCell (p := ⟨w.heap.size + 1, 1, none⟩) (.inl rfl) _).setCell (p := ⟨w.heap.size + 1, 2, none⟩) (.inl rfl) _).setCell (p := ⟨w.heap.size + 1, 3, none⟩) (.inl rfl) _).drew
  have h8 : 8 ≤ cr := by
    obtain ⟨A, c, he, hl, _⟩ := Kd.R_reads hM.rows.regs
    injection he with _ h1 h2
    subst h2
    omega
  have hco : out.length ≤ co := by
    obtain ⟨A, c, he, hl, _⟩ := Kd.R_reads hM.rows.outs
    injection he with _ h1 h2
    subst h2
    exact hl
  refine ⟨_, cr, Ao, co, rfl, h8, hco, ?_, ?_, ?_⟩
  · exact ((Keeps.row hM.rows.regs).step ho (fun j hj _ hx => by omega)).mono (fun j hj => by omega)
  · exact ((Keeps.row hM.rows.outs).step ho (fun j hj _ hx => by omega)).mono (fun j hj => by omega)
  · exact (((((hX.below.setCell (p := ⟨w.heap.size + 1, 0, none⟩) (Nat.le_succ _) _).setCell (p := ⟨w.heap.size + 1, 1, none⟩) (Nat.le_succ _) _).setCell (p := ⟨w.heap.size + 1, 2, none⟩) (Nat.le_succ _) _).setCell (p := ⟨w.heap.size + 1, 3, none⟩) (Nat.le_succ _) _)).drew
set_option maxRecDepth 100000 in
set_option maxHeartbeats 8000000 in
theorem run_ok (p : List Ins) (v : Vm) (inp : List Int) (fuel : Nat) (A0 A1 A2 : Option Addr) (c0 c1 c2 : Nat) (w : World) (hp : kIns.C w A0 p.length p) (hv : (Kd.int .i64).C w A1 v.regs.length v.regs) (hi : (Kd.int .i64).C w A2 inp.length inp) (hc0 : p.length ≤ c0) (hc2 : inp.length ≤ c2)
    (h : runErr p v inp fuel = 0) :
    Calls Tryd.prog 19 #[.slice A0 p.length c0, .agg #[.int .i64 v.pc, .slice A1 v.regs.length c1, .bool v.halts, .bool v.fault], .slice A2 inp.length c2, .int .i64 fuel] w (RunOk w inp.length (ran p v inp fuel).1 (ran p v inp fuel).2) := by
  obtain ⟨h0, h1, hg, h4, h5, h6⟩ := runErr_good h
  have h7 := hg.len
  simp only at h7
  have hd2 : decide ((p.length : Int) < v.pc) = false := decide_eq_false (by have := hg.hi; simp only at this; omega)
  have h3 : inp.all is32 = true := by rw [List.all_eq_true]; exact fun x hx => hg.inp x hx
  have hd4 : decide (0 ≤ (fuel : Int)) = true := decide_eq_true h4
  have hd5 : decide ((fuel : Int) ≤ 5000) = true := decide_eq_true h5
  have hd5' : decide (fuel ≤ 5000) = true := decide_eq_true (by omega)
  have hd6 : decide (5000 < inp.length) = false := decide_eq_false (by omega)
  have HF : fuel ≤ 5000 := by omega
  have hq6 : (inp.length : Int) ≤ 5000 := by omega
  have hl0 := hp.2.1
  have hl2 := hi.2.1
  have HP := Aside0.mk hp
  have HV := Aside0.mk hv
  have HI := Aside0.mk hi
  have HG := Aside0.mk hg
  have H0 := Aside0.mk h0
  have H1 := Aside0.mk h1
  have H3 := Aside0.mk h3
  have H7 := Aside0.mk h7
  clear hp hv hi h hg h0 h1 h3 h4 h5 h6 h7
  go_enter Tryd.func19, Tryd.ntmps19
  go_wp2_with fail
  have HX := Aside0.mk (Boxes.start w v.pc (.slice A1 v.regs.length c1) v.halts v.fault)
  generalize ((w.alloc (.cells #[.int .i64 v.pc, .slice A1 v.regs.length c1, .bool v.halts, .bool v.fault] 46)).alloc (.cells #[.int .i64 0, .slice none 0 0, .bool false, .bool false] 46)) = W at *
  refine (check_calls _ _ _ _ (Kd.C_below HP.out HX.out.below)).mono ?_
  rintro e w1 ⟨rfl, hb⟩
  rw [H0.out]
  have HX1 := Aside0.mk (HX.out.step hb)
  clear hb
  obtain ⟨z0, z1, z2, z3⟩ := HX1.out.cells
  go_wp2_with fail
  clear z0 z1 z2 z3
  refine (vmRight_calls v _ _ _ (Kd.C_below HV.out HX1.out.below)).mono ?_
  rintro e w2 ⟨rfl, hb⟩
  rw [H1.out]
  have HX2 := Aside0.mk (HX1.out.step hb)
  clear hb
  obtain ⟨z0, z1, z2, z3⟩ := HX2.out.cells
  go_wp2_with fail
  clear z0 z1 z2 z3
  refine (containsFunc_int _ _ _ _ _ _ (wide_run _ _) (Kd.C_below HI.out HX2.out.below)).mono ?_
  rintro e w3 ⟨rfl, hb⟩
  rw [any_wide, H3.out]
  have HX3 := Aside0.mk (HX2.out.step hb)
  clear hb
  obtain ⟨z0, z1, z2, z3⟩ := HX3.out.cells
  have z4 := blk_lt HX3.out.vm
  go_wp2_with (first | (go_at_call 41; go_in))
  have HB3 := Aside0.mk HX3.out.below
  have hz3 : w.heap.size + 1 < w3.heap.size := by have := blk_lt HX3.out.res; omega
  clear z0 z1 z2 z3
  have HM4 := Aside0.mk (blk_new w3 (.cells #[.int .i64 v.pc, .slice A1 v.regs.length c1, .bool v.halts, .bool v.fault, .slice A0 p.length c0, .slice A2 inp.length c2, .slice none 0 0] 87))
  have HX4 := Aside0.mk (HX3.out.step (below_alloc (Below.refl w3.heap.size w3) (.cells #[.int .i64 v.pc, .slice A1 v.regs.length c1, .bool v.halts, .bool v.fault, .slice A0 p.length c0, .slice A2 inp.length c2, .slice none 0 0] 87)))
  generalize w3.alloc (.cells #[.int .i64 v.pc, .slice A1 v.regs.length c1, .bool v.halts, .bool v.fault, .slice A0 p.length c0, .slice A2 inp.length c2, .slice none 0 0] 87) = w4 at *
  generalize w3.heap.size = gm at *
  refine (clone_int _ _ _ _ (Kd.C_below HV.out HX4.out.below) (by rw [H7.out]; decide)).mono ?_
  rintro e w5 ⟨vr, rfl, hR, hb⟩
  have HX5 := Aside0.mk (HX4.out.step hb)
  have HM5 := Aside0.mk (blk_below HM4.out hb)
  have hg4 := blk_lt HM4.out
  have HR5 := Aside0.mk (Kd.R_lower (base' := gm) (Kd.R_mono (ok' := fun k => gm ≤ k) hR (fun k hk => by omega)) (by omega))
  obtain ⟨gr, cr, hvr⟩ : ∃ gr cr, vr = .slice (some ⟨gr, 0, none⟩) 8 cr := by
    obtain ⟨g, cap, he, _⟩ := (Kd.own_of_R hR).form (by rw [H7.out]; decide)
    exact ⟨g, cap, by rw [he, H7.out]⟩
  subst hvr
  clear hR hb HX4 HM4 hg4 HX HX1 HX2 HX3
  have x1 : w5.cell? ⟨gm, 1, none⟩ = some (.slice A1 v.regs.length c1) := blk_cell HM5.out 1
  have f1 : w5.frozen? ⟨gm, 1, none⟩ = false := blk_frozen HM5.out 1
  go_wp2
  have HX6 : Aside0 (Boxes w (w5.setCell ⟨gm, 1, none⟩ (.slice (some ⟨gr, 0, none⟩) 8 cr)) v.pc (.slice A1 v.regs.length c1) v.halts v.fault) :=
    ⟨⟨blk_far HX5.out.vm (by simp only; omega) _, blk_far HX5.out.res (by simp only; omega) _, HX5.out.below.setCell (p := ⟨gm, 1, none⟩) (by simp only; omega) _⟩⟩
  have HM6 : Aside0 (MachAt (w5.setCell ⟨gm, 1, none⟩ (.slice (some ⟨gr, 0, none⟩) 8 cr)) gm gm gr cr A0 c0 A2 c2 (.slice none 0 0) p ⟨v, inp, []⟩) :=
    ⟨⟨blk_put HM5.out 1 _ rfl, Nat.le_refl _, hc0, hc2, Kd.R_set HR5.out HM5.out (by intro q hq; rcases List.mem_cons.1 hq with rfl | hq; decide; cases hq) _ _, Kd.R_nil _ _ _ _ _, ((Keeps.came HP.out).below HX6.out.below).mono (fun k hk => by omega), ((Keeps.came HI.out).below HX6.out.below).mono (fun k hk => by omega)⟩⟩
  clear x1 f1 HX5 HM5 HR5
  generalize w5.setCell ⟨gm, 1, none⟩ (.slice (some ⟨gr, 0, none⟩) 8 cr) = w6 at *
  go_loopw [15] (fun u wr => ∃ (m : Mach) (k ci : Nat) (Ai : Option Addr) (vo : Value), u = .int .i64 k ∧ k ≤ fuel ∧ Aside0 (MachAt wr gm gm gr cr A0 c0 Ai ci vo p m) ∧ Aside0 (Good p m) ∧ Aside0 (Left p fuel ⟨v, inp, []⟩ k m) ∧ Aside0 (m.out.length ≤ k) ∧ Aside0 (Below gm w6 wr)) (fun u _ => fuel - (intOf u).toNat)
  case atStart => exact ⟨_, 0, _, _, _, rfl, Nat.zero_le _, HM6, HG, ⟨Left.start _ _ _⟩, ⟨Nat.le_refl _⟩, ⟨Below.refl _ _⟩⟩
  case round =>
    obtain ⟨⟨⟨pc, regs, halts, fault⟩, mi, out⟩, k, ci, Ai, vo, rfl, hk, HM, HGm, HL, HO, HB⟩ := hrel
    simp only at HO
    by_cases hlt : k < fuel
    · have hkf : decide (k < fuel) = true := decide_eq_true hlt
      cases halts
      · cases fault
        · have m2 : wr.cell? ⟨gm, 2, none⟩ = some (.bool false) := blk_cell HM.out.blk 2
          have m3 : wr.cell? ⟨gm, 3, none⟩ = some (.bool false) := blk_cell HM.out.blk 3
          go_wp2_with fail
          clear m2 m3
          refine (step_calls _ _ _ _ _ _ _ _ _ _ _ _ H0.out HGm.out rfl HM.out (by have := blk_lt HM.out.blk; omega) (by have := HO.out; simp only; omega)).mono ?_
          rintro e w7 ⟨⟨Aj, cj, vj, hst⟩, hb7⟩
          have HB7 := Aside0.mk (HB.out.trans hb7)
          clear hb7
          cases hs : step p ⟨⟨pc, regs, false, false⟩, mi, out⟩ with
          | none =>
            rw [hs] at hst
            obtain ⟨rfl, hM7⟩ := hst
            have HM7 := Aside0.mk hM7
            have HD := Aside0.mk (HL.out.done (.inr (.inr hs)))
            clear hM7 hs
            obtain ⟨Ao, co, hvo⟩ := Kd.R_slice HM7.out.rows.outs
            subst hvo
            have HX7 : Aside0 (Boxes w w7 v.pc (.slice A1 v.regs.length c1) v.halts v.fault) := ⟨⟨(HB7.out.block _ (by omega)).trans HX6.out.vm, (HB7.out.block _ (by omega)).trans HX6.out.res, HX6.out.below.trans (HB7.out.mono (by omega))⟩⟩
            obtain ⟨⟨x0, x1, x2, x3⟩, y0, y1, y2, y3⟩ := HX7.out.rescells
            have m0 : w7.cell? ⟨gm, 0, none⟩ = some (.int .i64 pc) := blk_cell HM7.out.blk 0
            have m1 : w7.cell? ⟨gm, 1, none⟩ = some (.slice (some ⟨gr, 0, none⟩) 8 cr) := blk_cell HM7.out.blk 1
            have m2 : w7.cell? ⟨gm, 2, none⟩ = some (.bool false) := blk_cell HM7.out.blk 2
            have m3 : w7.cell? ⟨gm, 3, none⟩ = some (.bool false) := blk_cell HM7.out.blk 3
            have m5 : w7.cell? ⟨gm, 5, none⟩ = some (.slice Aj mi.length cj) := blk_cell HM7.out.blk 5
            have m6 : w7.cell? ⟨gm, 6, none⟩ = some (.slice Ao out.length co) := blk_cell HM7.out.blk 6
            have hmi := HM7.out.rows.inp.now.2.1
            go_wp2
            go_region
            go_wp2
            refine bodyPost_ret (v := .tuple #[.agg #[.int .i64 pc, .slice (some ⟨gr, 0, none⟩) 8 cr, .bool false, .bool false], .slice Ao out.length co, .int .i64 ((inp.length : Int) - (mi.length : Int)), .int .i64 k, .int .i64 0]) (by simp [results, Tryd.results19, go_sem, x0, x1, x2, x3]) rfl ?_
            exact RunOk.mk HX7.out HM7.out hz3 HD.out
          | some m1 =>
            rw [hs] at hst
            obtain ⟨rfl, hM7⟩ := hst
            have HM7 := Aside0.mk hM7
            have HG7 := Aside0.mk (step_good H0.out HGm.out rfl hs)
            have HL7 := Aside0.mk (HL.out.next hlt rfl hs)
            have HO7 := Aside0.mk (step_len hs HO.out)
            clear hM7 hs
            go_wp2
            go_roundw
            case rel => exact ⟨m1, k + 1, cj, Aj, vj, by go_num, by omega, HM7, HG7, HL7, HO7, HB7⟩
            case measure => simp [intOf]; omega
        · have HD := Aside0.mk (HL.out.done (.inr (.inl rfl)))
          obtain ⟨Ao, co, hvo⟩ := Kd.R_slice HM.out.rows.outs
          subst hvo
          have HX7 : Aside0 (Boxes w wr v.pc (.slice A1 v.regs.length c1) v.halts v.fault) := ⟨⟨(HB.out.block _ (by omega)).trans HX6.out.vm, (HB.out.block _ (by omega)).trans HX6.out.res, HX6.out.below.trans (HB.out.mono (by omega))⟩⟩
          obtain ⟨⟨x0, x1, x2, x3⟩, y0, y1, y2, y3⟩ := HX7.out.rescells
          have m0 : wr.cell? ⟨gm, 0, none⟩ = some (.int .i64 pc) := blk_cell HM.out.blk 0
          have m1 : wr.cell? ⟨gm, 1, none⟩ = some (.slice (some ⟨gr, 0, none⟩) 8 cr) := blk_cell HM.out.blk 1
          have m2 : wr.cell? ⟨gm, 2, none⟩ = some (.bool false) := blk_cell HM.out.blk 2
          have m3 : wr.cell? ⟨gm, 3, none⟩ = some (.bool true) := blk_cell HM.out.blk 3
          have m5 : wr.cell? ⟨gm, 5, none⟩ = some (.slice Ai mi.length ci) := blk_cell HM.out.blk 5
          have m6 : wr.cell? ⟨gm, 6, none⟩ = some (.slice Ao out.length co) := blk_cell HM.out.blk 6
          have hmi := HM.out.rows.inp.now.2.1
          go_wp2
          go_region
          go_wp2
          refine bodyPost_ret (v := .tuple #[.agg #[.int .i64 pc, .slice (some ⟨gr, 0, none⟩) 8 cr, .bool false, .bool true], .slice Ao out.length co, .int .i64 ((inp.length : Int) - (mi.length : Int)), .int .i64 k, .int .i64 0]) (by simp [results, Tryd.results19, go_sem, x0, x1, x2, x3]) rfl ?_
          exact RunOk.mk HX7.out HM.out hz3 HD.out
      · have HD := Aside0.mk (HL.out.done (.inr (.inl rfl)))
        obtain ⟨Ao, co, hvo⟩ := Kd.R_slice HM.out.rows.outs
        subst hvo
        have HX7 : Aside0 (Boxes w wr v.pc (.slice A1 v.regs.length c1) v.halts v.fault) := ⟨⟨(HB.out.block _ (by omega)).trans HX6.out.vm, (HB.out.block _ (by omega)).trans HX6.out.res, HX6.out.below.trans (HB.out.mono (by omega))⟩⟩
        obtain ⟨⟨x0, x1, x2, x3⟩, y0, y1, y2, y3⟩ := HX7.out.rescells
        have m0 : wr.cell? ⟨gm, 0, none⟩ = some (.int .i64 pc) := blk_cell HM.out.blk 0
        have m1 : wr.cell? ⟨gm, 1, none⟩ = some (.slice (some ⟨gr, 0, none⟩) 8 cr) := blk_cell HM.out.blk 1
        have m2 : wr.cell? ⟨gm, 2, none⟩ = some (.bool true) := blk_cell HM.out.blk 2
        have m3 : wr.cell? ⟨gm, 3, none⟩ = some (.bool fault) := blk_cell HM.out.blk 3
        have m5 : wr.cell? ⟨gm, 5, none⟩ = some (.slice Ai mi.length ci) := blk_cell HM.out.blk 5
        have m6 : wr.cell? ⟨gm, 6, none⟩ = some (.slice Ao out.length co) := blk_cell HM.out.blk 6
        have hmi := HM.out.rows.inp.now.2.1
        go_wp2
        go_region
        go_wp2
        refine bodyPost_ret (v := .tuple #[.agg #[.int .i64 pc, .slice (some ⟨gr, 0, none⟩) 8 cr, .bool true, .bool fault], .slice Ao out.length co, .int .i64 ((inp.length : Int) - (mi.length : Int)), .int .i64 k, .int .i64 0]) (by simp [results, Tryd.results19, go_sem, x0, x1, x2, x3]) rfl ?_
        exact RunOk.mk HX7.out HM.out hz3 HD.out
    · have hkf : decide (k < fuel) = false := decide_eq_false hlt
      have HD := Aside0.mk (HL.out.done (.inl (by omega)))
      obtain ⟨Ao, co, hvo⟩ := Kd.R_slice HM.out.rows.outs
      subst hvo
      have HX7 : Aside0 (Boxes w wr v.pc (.slice A1 v.regs.length c1) v.halts v.fault) := ⟨⟨(HB.out.block _ (by omega)).trans HX6.out.vm, (HB.out.block _ (by omega)).trans HX6.out.res, HX6.out.below.trans (HB.out.mono (by omega))⟩⟩
      obtain ⟨⟨x0, x1, x2, x3⟩, y0, y1, y2, y3⟩ := HX7.out.rescells
      have m0 : wr.cell? ⟨gm, 0, none⟩ = some (.int .i64 pc) := blk_cell HM.out.blk 0
      have m1 : wr.cell? ⟨gm, 1, none⟩ = some (.slice (some ⟨gr, 0, none⟩) 8 cr) := blk_cell HM.out.blk 1
      have m2 : wr.cell? ⟨gm, 2, none⟩ = some (.bool halts) := blk_cell HM.out.blk 2
      have m3 : wr.cell? ⟨gm, 3, none⟩ = some (.bool fault) := blk_cell HM.out.blk 3
      have m5 : wr.cell? ⟨gm, 5, none⟩ = some (.slice Ai mi.length ci) := blk_cell HM.out.blk 5
      have m6 : wr.cell? ⟨gm, 6, none⟩ = some (.slice Ao out.length co) := blk_cell HM.out.blk 6
      have hmi := HM.out.rows.inp.now.2.1
      go_wp2
      go_region
      go_wp2
      refine bodyPost_ret (v := .tuple #[.agg #[.int .i64 pc, .slice (some ⟨gr, 0, none⟩) 8 cr, .bool halts, .bool fault], .slice Ao out.length co, .int .i64 ((inp.length : Int) - (mi.length : Int)), .int .i64 k, .int .i64 0]) (by simp [results, Tryd.results19, go_sem, x0, x1, x2, x3]) rfl ?_
      exact RunOk.mk HX7.out HM.out hz3 HD.out
end Go.Proofs.YtifphhkkpadpoaaDoor
