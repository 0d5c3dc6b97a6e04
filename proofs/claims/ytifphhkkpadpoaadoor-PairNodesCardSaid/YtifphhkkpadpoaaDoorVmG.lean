/- The walk of vm.Run, where it tells an error. -/
import Derived.Test.YtifphhkkpadpoaaDoorVmF
namespace Go.Proofs.YtifphhkkpadpoaaDoor
open Go.RowKit Go.Proofs.YtifphhkkpadpoaaDoorW.PrintWords
set_option linter.unusedVariables false
set_option linter.unusedSimpArgs false
theorem bcell {W w1 : World} (hb : Below W.heap.size W w1) : (∀ b o, b < W.heap.size → w1.cell? ⟨b, o, none⟩ = W.cell? ⟨b, o, none⟩) ∧ (∀ b o, b < W.heap.size → w1.frozen? ⟨b, o, none⟩ = W.frozen? ⟨b, o, none⟩) :=
  ⟨fun b o h => hb.cell (p := ⟨b, o, none⟩) h, fun b o h => hb.frozen (p := ⟨b, o, none⟩) h⟩
def RunErr (w : World) (r : Int) (e : Ending) (w' : World) : Prop :=
  e = .returned (.tuple #[.agg #[.int .i64 0, .slice none 0 0, .bool false, .bool false], .slice none 0 0, .int .i64 0, .int .i64 0, .int .i64 r]) ∧ Below w.heap.size w w'
/-- The two boxes at the head of Run: the machine that came in, and the result. -/
structure Boxes (w W : World) (pc : Int) (vr : Value) (h f : Bool) : Prop where
  vm : W.heap[w.heap.size]? = some (.cells #[.int .i64 pc, vr, .bool h, .bool f] 46 (0, 0))
  res : W.heap[w.heap.size + 1]? = some (.cells #[.int .i64 0, .slice none 0 0, .bool false, .bool false] 46 (0, 0))
  below : Below w.heap.size w W
theorem Boxes.start (w : World) (pc : Int) (vr : Value) (h f : Bool) : Boxes w ((w.alloc (.cells #[.int .i64 pc, vr, .bool h, .bool f] 46)).alloc (.cells #[.int .i64 0, .slice none 0 0, .bool false, .bool false] 46)) pc vr h f :=
  ⟨blk_alloc (blk_new w _) _, by have := blk_new (w.alloc (.cells #[.int .i64 pc, vr, .bool h, .bool f] 46)) (.cells #[.int .i64 0, .slice none 0 0, .bool false, .bool false] 46); simpa using this, below_alloc (below_alloc (Below.refl _ _) _) _⟩
theorem Boxes.step {w W W1 : World} {pc : Int} {vr : Value} {h f : Bool} (hb : Boxes w W pc vr h f) (hW : Below W.heap.size W W1) : Boxes w W1 pc vr h f :=
  ⟨blk_below hb.vm hW, blk_below hb.res hW, below_step hb.below hW⟩
theorem Boxes.cells {w W : World} {pc : Int} {vr : Value} {h f : Bool} (hb : Boxes w W pc vr h f) :
    W.cell? ⟨w.heap.size, 0, none⟩ = some (.int .i64 pc) ∧ W.cell? ⟨w.heap.size, 1, none⟩ = some vr ∧ W.cell? ⟨w.heap.size, 2, none⟩ = some (.bool h) ∧ W.cell? ⟨w.heap.size, 3, none⟩ = some (.bool f) :=
  ⟨blk_cell hb.vm 0, blk_cell hb.vm 1, blk_cell hb.vm 2, blk_cell hb.vm 3⟩
theorem Boxes.rescells {w W : World} {pc : Int} {vr : Value} {h f : Bool} (hb : Boxes w W pc vr h f) :
    (W.cell? ⟨w.heap.size + 1, 0, none⟩ = some (.int .i64 0) ∧ W.cell? ⟨w.heap.size + 1, 1, none⟩ = some (.slice none 0 0) ∧ W.cell? ⟨w.heap.size + 1, 2, none⟩ = some (.bool false) ∧ W.cell? ⟨w.heap.size + 1, 3, none⟩ = some (.bool false)) ∧
    (W.frozen? ⟨w.heap.size + 1, 0, none⟩ = false ∧ W.frozen? ⟨w.heap.size + 1, 1, none⟩ = false ∧ W.frozen? ⟨w.heap.size + 1, 2, none⟩ = false ∧ W.frozen? ⟨w.heap.size + 1, 3, none⟩ = false) :=
  ⟨⟨blk_cell hb.res 0, blk_cell hb.res 1, blk_cell hb.res 2, blk_cell hb.res 3⟩, blk_frozen hb.res 0, blk_frozen hb.res 1, blk_frozen hb.res 2, blk_frozen hb.res 3⟩
section
variable (p : List Ins) (v : Vm) (inp : List Int) (fuel : Int) (A0 A1 A2 : Option Addr) (c0 c1 c2 : Nat) (w : World)
set_option maxRecDepth 100000 in
set_option maxHeartbeats 4000000 in
theorem run_err1 (hp : kIns.C w A0 p.length p) (hv : (Kd.int .i64).C w A1 v.regs.length v.regs) (hi : (Kd.int .i64).C w A2 inp.length inp) (r : Int) (hr : codeCheck p = r) (hne : r ≠ 0) :
    Calls Tryd.prog 19 #[.slice A0 p.length c0, .agg #[.int .i64 v.pc, .slice A1 v.regs.length c1, .bool v.halts, .bool v.fault], .slice A2 inp.length c2, .int .i64 fuel] w (RunErr w r) := by
  have HP := Aside0.mk hp
  have HV := Aside0.mk hv
  have HI := Aside0.mk hi
  have hl0 := hp.2.1
  have hl2 := hi.2.1
  have HR := Aside0.mk hr
  have hz : (r == 0) = false := by simpa using hne
  have hz' : (r != 0) = true := by simpa using hne
  clear hr hne
  clear hp hv hi
  go_enter Tryd.func19, Tryd.ntmps19
  go_wp2_with fail
  have HX := Aside0.mk (Boxes.start w v.pc (.slice A1 v.regs.length c1) v.halts v.fault)
  generalize ((w.alloc (.cells #[.int .i64 v.pc, .slice A1 v.regs.length c1, .bool v.halts, .bool v.fault] 46)).alloc (.cells #[.int .i64 0, .slice none 0 0, .bool false, .bool false] 46)) = W at *
  refine (check_calls _ _ _ _ (Kd.C_below HP.out HX.out.below)).mono ?_
  rintro e w1 ⟨rfl, hb⟩
  rw [HR.out]
  have HX1 := Aside0.mk (HX.out.step hb)
  clear hb
  obtain ⟨⟨x0, x1, x2, x3⟩, y0, y1, y2, y3⟩ := HX1.out.rescells
  obtain ⟨z0, z1, z2, z3⟩ := HX1.out.cells
  go_wp2
  refine bodyPost_ret (v := .tuple #[.agg #[.int .i64 0, .slice none 0 0, .bool false, .bool false], .slice none 0 0, .int .i64 0, .int .i64 0, .int .i64 r]) (by simp [results, Tryd.results19, go_sem, x0, x1, x2, x3]) rfl ⟨rfl, ?_⟩
  exact ((((HX1.out.below.setCell (Nat.le_succ _) _).setCell (Nat.le_succ _) _).setCell (Nat.le_succ _) _).setCell (Nat.le_succ _) _)
set_option maxRecDepth 100000 in
set_option maxHeartbeats 4000000 in
theorem run_err2 (hp : kIns.C w A0 p.length p) (hv : (Kd.int .i64).C w A1 v.regs.length v.regs) (hi : (Kd.int .i64).C w A2 inp.length inp) (h0 : codeCheck p = 0) (r : Int) (hr : vmRight v = r) (hne : r ≠ 0) :
    Calls Tryd.prog 19 #[.slice A0 p.length c0, .agg #[.int .i64 v.pc, .slice A1 v.regs.length c1, .bool v.halts, .bool v.fault], .slice A2 inp.length c2, .int .i64 fuel] w (RunErr w r) := by
  have HP := Aside0.mk hp
  have HV := Aside0.mk hv
  have HI := Aside0.mk hi
  have hl0 := hp.2.1
  have hl2 := hi.2.1
  have H0 := Aside0.mk h0
  clear h0
  have HR := Aside0.mk hr
  have hz : (r == 0) = false := by simpa using hne
  have hz' : (r != 0) = true := by simpa using hne
  clear hr hne
  clear hp hv hi
  go_enter Tryd.func19, Tryd.ntmps19
  go_wp2_with fail
  have HX := Aside0.mk (Boxes.start w v.pc (.slice A1 v.regs.length c1) v.halts v.fault)
  generalize ((w.alloc (.cells #[.int .i64 v.pc, .slice A1 v.regs.length c1, .bool v.halts, .bool v.fault] 46)).alloc (.cells #[.int .i64 0, .slice none 0 0, .bool false, .bool false] 46)) = W at *
  refine (check_calls _ _ _ _ (Kd.C_below HP.out HX.out.below)).mono ?_
  rintro e w1 ⟨rfl, hb⟩
  rw [H0.out]
  have HX1 := Aside0.mk (HX.out.step hb)
  clear hb
  obtain ⟨z0, z1, z2, z3⟩ := HX1.out.cells
  go_wp2_with fail
  clear z0 z1 z2 z3
  refine (vmRight_calls v _ _ _ (Kd.C_below HV.out HX1.out.below)).mono ?_
  rintro e w2 ⟨rfl, hb⟩
  rw [HR.out]
  have HX2 := Aside0.mk (HX1.out.step hb)
  clear hb
  obtain ⟨⟨x0, x1, x2, x3⟩, y0, y1, y2, y3⟩ := HX2.out.rescells
  obtain ⟨z0, z1, z2, z3⟩ := HX2.out.cells
  go_wp2
  refine bodyPost_ret (v := .tuple #[.agg #[.int .i64 0, .slice none 0 0, .bool false, .bool false], .slice none 0 0, .int .i64 0, .int .i64 0, .int .i64 r]) (by simp [results, Tryd.results19, go_sem, x0, x1, x2, x3]) rfl ⟨rfl, ?_⟩
  exact ((((HX2.out.below.setCell (Nat.le_succ _) _).setCell (Nat.le_succ _) _).setCell (Nat.le_succ _) _).setCell (Nat.le_succ _) _)
set_option maxRecDepth 100000 in
set_option maxHeartbeats 4000000 in
theorem run_err3 (hp : kIns.C w A0 p.length p) (hv : (Kd.int .i64).C w A1 v.regs.length v.regs) (hi : (Kd.int .i64).C w A2 inp.length inp) (h0 : codeCheck p = 0) (h1 : vmRight v = 0) (h2 : (p.length : Int) < v.pc) :
    Calls Tryd.prog 19 #[.slice A0 p.length c0, .agg #[.int .i64 v.pc, .slice A1 v.regs.length c1, .bool v.halts, .bool v.fault], .slice A2 inp.length c2, .int .i64 fuel] w (RunErr w 4) := by
  have HP := Aside0.mk hp
  have HV := Aside0.mk hv
  have HI := Aside0.mk hi
  have hl0 := hp.2.1
  have hl2 := hi.2.1
  have H0 := Aside0.mk h0
  clear h0
  have H1 := Aside0.mk h1
  clear h1
  have hd2 : decide ((p.length : Int) < v.pc) = true := decide_eq_true h2
  clear hp hv hi
  go_enter Tryd.func19, Tryd.ntmps19
  go_wp2_with fail
  have HX := Aside0.mk (Boxes.start w v.pc (.slice A1 v.regs.length c1) v.halts v.fault)
  generalize ((w.alloc (.cells #[.int .i64 v.pc, .slice A1 v.regs.length c1, .bool v.halts, .bool v.fault] 46)).alloc (.cells #[.int .i64 0, .slice none 0 0, .bool false, .bool false] 46)) = W at *
  refine (check_calls _ _ _ _ (Kd.C_below HP.out HX.out.below)).mono ?_
  rintro e w1 ⟨rfl, hb⟩
  rw [H0.out]
  have HX1 := Aside0.mk (HX.out.step hb)
  clear hb
  obtain ⟨z0, z1, z2, z3⟩ := HX1.out.cells
  go_wp2_with fail
  clear z0 z1 z2 z3
  refine (vmRight_calls v _ _ _ (Kd.C_below HV.out HX1.out.below)).mono ?_
  rintro e w2 ⟨rfl, hb⟩
  rw [H1.out]
  have HX2 := Aside0.mk (HX1.out.step hb)
  clear hb
  obtain ⟨⟨x0, x1, x2, x3⟩, y0, y1, y2, y3⟩ := HX2.out.rescells
  obtain ⟨z0, z1, z2, z3⟩ := HX2.out.cells
  go_wp2
  refine bodyPost_ret (v := .tuple #[.agg #[.int .i64 0, .slice none 0 0, .bool false, .bool false], .slice none 0 0, .int .i64 0, .int .i64 0, .int .i64 4]) (by simp [results, Tryd.results19, go_sem, x0, x1, x2, x3]) rfl ⟨rfl, ?_⟩
  exact ((((HX2.out.below.setCell (Nat.le_succ _) _).setCell (Nat.le_succ _) _).setCell (Nat.le_succ _) _).setCell (Nat.le_succ _) _)
set_option maxRecDepth 100000 in
set_option maxHeartbeats 4000000 in
theorem run_err4 (hp : kIns.C w A0 p.length p) (hv : (Kd.int .i64).C w A1 v.regs.length v.regs) (hi : (Kd.int .i64).C w A2 inp.length inp) (h0 : codeCheck p = 0) (h1 : vmRight v = 0) (h2 : ¬ (p.length : Int) < v.pc) (h3 : inp.all is32 = false) :
    Calls Tryd.prog 19 #[.slice A0 p.length c0, .agg #[.int .i64 v.pc, .slice A1 v.regs.length c1, .bool v.halts, .bool v.fault], .slice A2 inp.length c2, .int .i64 fuel] w (RunErr w 4) := by
  have HP := Aside0.mk hp
  have HV := Aside0.mk hv
  have HI := Aside0.mk hi
  have hl0 := hp.2.1
  have hl2 := hi.2.1
  have H0 := Aside0.mk h0
  clear h0
  have H1 := Aside0.mk h1
  clear h1
  have hd2 : decide ((p.length : Int) < v.pc) = false := decide_eq_false h2
  have H3 := Aside0.mk h3
  clear h3
  clear hp hv hi
  go_enter Tryd.func19, Tryd.ntmps19
  go_wp2_with fail
  have HX := Aside0.mk (Boxes.start w v.pc (.slice A1 v.regs.length c1) v.halts v.fault)
  generalize ((w.alloc (.cells #[.int .i64 v.pc, .slice A1 v.regs.length c1, .bool v.halts, .bool v.fault] 46)).alloc (.cells #[.int .i64 0, .slice none 0 0, .bool false, .bool false] 46)) = W at *
  refine (check_calls _ _ _ _ (Kd.C_below HP.out HX.out.below)).mono ?_
  rintro e w1 ⟨rfl, hb⟩
  rw [H0.out]
  have HX1 := Aside0.mk (HX.out.step hb)
  clear hb
  obtain ⟨z0, z1, z2, z3⟩ := HX1.out.cells
  go_wp2_with fail
  clear z0 z1 z2 z3
  refine (vmRight_calls v _ _ _ (Kd.C_below HV.out HX1.out.below)).mono ?_
  rintro e w2 ⟨rfl, hb⟩
  rw [H1.out]
  have HX2 := Aside0.mk (HX1.out.step hb)
  clear hb
  obtain ⟨z0, z1, z2, z3⟩ := HX2.out.cells
  go_wp2_with fail
  clear z0 z1 z2 z3
  refine (containsFunc_int _ _ _ _ _ _ (wide_run _ _) (Kd.C_below HI.out HX2.out.below)).mono ?_
  rintro e w3 ⟨rfl, hb⟩
  rw [any_wide, H3.out]
  have HX3 := Aside0.mk (HX2.out.step hb)
  clear hb
  obtain ⟨⟨x0, x1, x2, x3⟩, y0, y1, y2, y3⟩ := HX3.out.rescells
  obtain ⟨z0, z1, z2, z3⟩ := HX3.out.cells
  go_wp2
  refine bodyPost_ret (v := .tuple #[.agg #[.int .i64 0, .slice none 0 0, .bool false, .bool false], .slice none 0 0, .int .i64 0, .int .i64 0, .int .i64 4]) (by simp [results, Tryd.results19, go_sem, x0, x1, x2, x3]) rfl ⟨rfl, ?_⟩
  exact ((((HX3.out.below.setCell (Nat.le_succ _) _).setCell (Nat.le_succ _) _).setCell (Nat.le_succ _) _).setCell (Nat.le_succ _) _)
set_option maxRecDepth 100000 in
set_option maxHeartbeats 4000000 in
theorem run_err5a (hp : kIns.C w A0 p.length p) (hv : (Kd.int .i64).C w A1 v.regs.length v.regs) (hi : (Kd.int .i64).C w A2 inp.length inp) (h0 : codeCheck p = 0) (h1 : vmRight v = 0) (h2 : ¬ (p.length : Int) < v.pc) (h3 : inp.all is32 = true) (h4 : fuel < 0) :
    Calls Tryd.prog 19 #[.slice A0 p.length c0, .agg #[.int .i64 v.pc, .slice A1 v.regs.length c1, .bool v.halts, .bool v.fault], .slice A2 inp.length c2, .int .i64 fuel] w (RunErr w 1) := by
  have HP := Aside0.mk hp
  have HV := Aside0.mk hv
  have HI := Aside0.mk hi
  have hl0 := hp.2.1
  have hl2 := hi.2.1
  have H0 := Aside0.mk h0
  clear h0
  have H1 := Aside0.mk h1
  clear h1
  have hd2 : decide ((p.length : Int) < v.pc) = false := decide_eq_false h2
  have H3 := Aside0.mk h3
  clear h3
  have hd4 : decide (0 ≤ fuel) = false := decide_eq_false (by omega)
  clear hp hv hi
  go_enter Tryd.func19, Tryd.ntmps19
  go_wp2_with fail
  have HX := Aside0.mk (Boxes.start w v.pc (.slice A1 v.regs.length c1) v.halts v.fault)
  generalize ((w.alloc (.cells #[.int .i64 v.pc, .slice A1 v.regs.length c1, .bool v.halts, .bool v.fault] 46)).alloc (.cells #[.int .i64 0, .slice none 0 0, .bool false, .bool false] 46)) = W at *
  refine (check_calls _ _ _ _ (Kd.C_below HP.out HX.out.below)).mono ?_
  rintro e w1 ⟨rfl, hb⟩
  rw [H0.out]
  have HX1 := Aside0.mk (HX.out.step hb)
  clear hb
  obtain ⟨z0, z1, z2, z3⟩ := HX1.out.cells
  go_wp2_with fail
  clear z0 z1 z2 z3
  refine (vmRight_calls v _ _ _ (Kd.C_below HV.out HX1.out.below)).mono ?_
  rintro e w2 ⟨rfl, hb⟩
  rw [H1.out]
  have HX2 := Aside0.mk (HX1.out.step hb)
  clear hb
  obtain ⟨z0, z1, z2, z3⟩ := HX2.out.cells
  go_wp2_with fail
  clear z0 z1 z2 z3
  refine (containsFunc_int _ _ _ _ _ _ (wide_run _ _) (Kd.C_below HI.out HX2.out.below)).mono ?_
  rintro e w3 ⟨rfl, hb⟩
  rw [any_wide, H3.out]
  have HX3 := Aside0.mk (HX2.out.step hb)
  clear hb
  obtain ⟨⟨x0, x1, x2, x3⟩, y0, y1, y2, y3⟩ := HX3.out.rescells
  obtain ⟨z0, z1, z2, z3⟩ := HX3.out.cells
  go_wp2
  refine bodyPost_ret (v := .tuple #[.agg #[.int .i64 0, .slice none 0 0, .bool false, .bool false], .slice none 0 0, .int .i64 0, .int .i64 0, .int .i64 1]) (by simp [results, Tryd.results19, go_sem, x0, x1, x2, x3]) rfl ⟨rfl, ?_⟩
  exact ((((HX3.out.below.setCell (Nat.le_succ _) _).setCell (Nat.le_succ _) _).setCell (Nat.le_succ _) _).setCell (Nat.le_succ _) _)
set_option maxRecDepth 100000 in
set_option maxHeartbeats 4000000 in
theorem run_err5b (hp : kIns.C w A0 p.length p) (hv : (Kd.int .i64).C w A1 v.regs.length v.regs) (hi : (Kd.int .i64).C w A2 inp.length inp) (h0 : codeCheck p = 0) (h1 : vmRight v = 0) (h2 : ¬ (p.length : Int) < v.pc) (h3 : inp.all is32 = true) (h4 : 5000 < fuel) :
    Calls Tryd.prog 19 #[.slice A0 p.length c0, .agg #[.int .i64 v.pc, .slice A1 v.regs.length c1, .bool v.halts, .bool v.fault], .slice A2 inp.length c2, .int .i64 fuel] w (RunErr w 1) := by
  have HP := Aside0.mk hp
  have HV := Aside0.mk hv
  have HI := Aside0.mk hi
  have hl0 := hp.2.1
  have hl2 := hi.2.1
  have H0 := Aside0.mk h0
  clear h0
  have H1 := Aside0.mk h1
  clear h1
  have hd2 : decide ((p.length : Int) < v.pc) = false := decide_eq_false h2
  have H3 := Aside0.mk h3
  clear h3
  have hd4 : decide (0 ≤ fuel) = true := decide_eq_true (by omega)
  have hd5 : decide (fuel ≤ 5000) = false := decide_eq_false (by omega)
  clear hp hv hi
  go_enter Tryd.func19, Tryd.ntmps19
  go_wp2_with fail
  have HX := Aside0.mk (Boxes.start w v.pc (.slice A1 v.regs.length c1) v.halts v.fault)
  generalize ((w.alloc (.cells #[.int .i64 v.pc, .slice A1 v.regs.length c1, .bool v.halts, .bool v.fault] 46)).alloc (.cells #[.int .i64 0, .slice none 0 0, .bool false, .bool false] 46)) = W at *
  refine (check_calls _ _ _ _ (Kd.C_below HP.out HX.out.below)).mono ?_
  rintro e w1 ⟨rfl, hb⟩
  rw [H0.out]
  have HX1 := Aside0.mk (HX.out.step hb)
  clear hb
  obtain ⟨z0, z1, z2, z3⟩ := HX1.out.cells
  go_wp2_with fail
  clear z0 z1 z2 z3
  refine (vmRight_calls v _ _ _ (Kd.C_below HV.out HX1.out.below)).mono ?_
  rintro e w2 ⟨rfl, hb⟩
  rw [H1.out]
  have HX2 := Aside0.mk (HX1.out.step hb)
  clear hb
  obtain ⟨z0, z1, z2, z3⟩ := HX2.out.cells
  go_wp2_with fail
  clear z0 z1 z2 z3
  refine (containsFunc_int _ _ _ _ _ _ (wide_run _ _) (Kd.C_below HI.out HX2.out.below)).mono ?_
  rintro e w3 ⟨rfl, hb⟩
  rw [any_wide, H3.out]
  have HX3 := Aside0.mk (HX2.out.step hb)
  clear hb
  obtain ⟨⟨x0, x1, x2, x3⟩, y0, y1, y2, y3⟩ := HX3.out.rescells
  obtain ⟨z0, z1, z2, z3⟩ := HX3.out.cells
  go_wp2
  refine bodyPost_ret (v := .tuple #[.agg #[.int .i64 0, .slice none 0 0, .bool false, .bool false], .slice none 0 0, .int .i64 0, .int .i64 0, .int .i64 1]) (by simp [results, Tryd.results19, go_sem, x0, x1, x2, x3]) rfl ⟨rfl, ?_⟩
  exact ((((HX3.out.below.setCell (Nat.le_succ _) _).setCell (Nat.le_succ _) _).setCell (Nat.le_succ _) _).setCell (Nat.le_succ _) _)
set_option maxRecDepth 100000 in
set_option maxHeartbeats 4000000 in
theorem run_err6 (hp : kIns.C w A0 p.length p) (hv : (Kd.int .i64).C w A1 v.regs.length v.regs) (hi : (Kd.int .i64).C w A2 inp.length inp) (h0 : codeCheck p = 0) (h1 : vmRight v = 0) (h2 : ¬ (p.length : Int) < v.pc) (h3 : inp.all is32 = true) (h4 : 0 ≤ fuel) (h5 : fuel ≤ 5000) (h6 : 5000 < inp.length) :
    Calls Tryd.prog 19 #[.slice A0 p.length c0, .agg #[.int .i64 v.pc, .slice A1 v.regs.length c1, .bool v.halts, .bool v.fault], .slice A2 inp.length c2, .int .i64 fuel] w (RunErr w 2) := by
  have HP := Aside0.mk hp
  have HV := Aside0.mk hv
  have HI := Aside0.mk hi
  have hl0 := hp.2.1
  have hl2 := hi.2.1
  have H0 := Aside0.mk h0
  clear h0
  have H1 := Aside0.mk h1
  clear h1
  have hd2 : decide ((p.length : Int) < v.pc) = false := decide_eq_false h2
  have H3 := Aside0.mk h3
  clear h3
  have hd4 : decide (0 ≤ fuel) = true := decide_eq_true h4
  have hd5 : decide (fuel ≤ 5000) = true := decide_eq_true h5
  have hd6 : decide (5000 < inp.length) = true := decide_eq_true h6
  clear hp hv hi
  go_enter Tryd.func19, Tryd.ntmps19
  go_wp2_with fail
  have HX := Aside0.mk (Boxes.start w v.pc (.slice A1 v.regs.length c1) v.halts v.fault)
  generalize ((w.alloc (.cells #[.int .i64 v.pc, .slice A1 v.regs.length c1, .bool v.halts, .bool v.fault] 46)).alloc (.cells #[.int .i64 0, .slice none 0 0, .bool false, .bool false] 46)) = W at *
  refine (check_calls _ _ _ _ (Kd.C_below HP.out HX.out.below)).mono ?_
  rintro e w1 ⟨rfl, hb⟩
  rw [H0.out]
  have HX1 := Aside0.mk (HX.out.step hb)
  clear hb
  obtain ⟨z0, z1, z2, z3⟩ := HX1.out.cells
  go_wp2_with fail
  clear z0 z1 z2 z3
  refine (vmRight_calls v _ _ _ (Kd.C_below HV.out HX1.out.below)).mono ?_
  rintro e w2 ⟨rfl, hb⟩
  rw [H1.out]
  have HX2 := Aside0.mk (HX1.out.step hb)
  clear hb
  obtain ⟨z0, z1, z2, z3⟩ := HX2.out.cells
  go_wp2_with fail
  clear z0 z1 z2 z3
  refine (containsFunc_int _ _ _ _ _ _ (wide_run _ _) (Kd.C_below HI.out HX2.out.below)).mono ?_
  rintro e w3 ⟨rfl, hb⟩
  rw [any_wide, H3.out]
  have HX3 := Aside0.mk (HX2.out.step hb)
  clear hb
  obtain ⟨⟨x0, x1, x2, x3⟩, y0, y1, y2, y3⟩ := HX3.out.rescells
  obtain ⟨z0, z1, z2, z3⟩ := HX3.out.cells
  go_wp2
  refine bodyPost_ret (v := .tuple #[.agg #[.int .i64 0, .slice none 0 0, .bool false, .bool false], .slice none 0 0, .int .i64 0, .int .i64 0, .int .i64 2]) (by simp [results, Tryd.results19, go_sem, x0, x1, x2, x3]) rfl ⟨rfl, ?_⟩
  exact ((((HX3.out.below.setCell (Nat.le_succ _) _).setCell (Nat.le_succ _) _).setCell (Nat.le_succ _) _).setCell (Nat.le_succ _) _)
theorem run_err (hp : kIns.C w A0 p.length p) (hv : (Kd.int .i64).C w A1 v.regs.length v.regs) (hi : (Kd.int .i64).C w A2 inp.length inp) (h : runErr p v inp fuel ≠ 0) :
    Calls Tryd.prog 19 #[.slice A0 p.length c0, .agg #[.int .i64 v.pc, .slice A1 v.regs.length c1, .bool v.halts, .bool v.fault], .slice A2 inp.length c2, .int .i64 fuel] w (RunErr w (runErr p v inp fuel)) := by
  unfold runErr at h ⊢
  by_cases h0 : codeCheck p = 0
  · rw [if_neg (by simpa using h0)] at h ⊢
    by_cases h1 : vmRight v = 0
    · rw [if_neg (by simpa using h1)] at h ⊢
      by_cases h2 : (p.length : Int) < v.pc
      · rw [if_pos (.inl h2)]
        exact run_err3 p v inp fuel A0 A1 A2 c0 c1 c2 w hp hv hi h0 h1 h2
      · by_cases h3 : inp.all is32 = true
        · rw [if_neg (by rintro (x | x); exact h2 x; rw [h3] at x; cases x)] at h ⊢
          by_cases h4 : fuel < 0
          · rw [if_pos (.inl h4)]
            exact run_err5a p v inp fuel A0 A1 A2 c0 c1 c2 w hp hv hi h0 h1 h2 h3 h4
          · by_cases h5 : 5000 < fuel
            · rw [if_pos (.inr h5)]
              exact run_err5b p v inp fuel A0 A1 A2 c0 c1 c2 w hp hv hi h0 h1 h2 h3 h5
            · rw [if_neg (by omega)] at h ⊢
              by_cases h6 : 5000 < inp.length
              · rw [if_pos h6]
                exact run_err6 p v inp fuel A0 A1 A2 c0 c1 c2 w hp hv hi h0 h1 h2 h3 (by omega) (by omega) h6
              · rw [if_neg h6] at h
                exact absurd rfl h
        · rw [if_pos (.inr (by simpa using h3))]
          exact run_err4 p v inp fuel A0 A1 A2 c0 c1 c2 w hp hv hi h0 h1 h2 (by simpa using h3)
    · rw [if_pos h1]
      exact run_err2 p v inp fuel A0 A1 A2 c0 c1 c2 w hp hv hi h0 _ rfl h1
  · rw [if_pos h0]
    exact run_err1 p v inp fuel A0 A1 A2 c0 c1 c2 w hp hv hi _ rfl h0
end
end Go.Proofs.YtifphhkkpadpoaaDoor
