/- The walk of (*machine).step at some kinds of instructions: it does what the plain law's step does. Printed by gen_step.py. -/
import Derived.Test.YtifphhkkpadpoaaDoorVmDd
import Derived.Test.YtifphhkkpadpoaaDoorVmB
namespace Go.Proofs.YtifphhkkpadpoaaDoor
open Go.RowKit Go.Proofs.YtifphhkkpadpoaaDoorW.PrintWords
set_option linter.unusedVariables false
set_option linter.unusedSimpArgs false
set_option maxRecDepth 100000 in
set_option maxHeartbeats 4000000 in
theorem step_op2 (w : World) (B gm gr cr cc ci : Nat) (Ac Ai : Option Addr) (vo : Value) (code : List Ins) (regs : List Int) (inp : List Int) (out : List Emit) (n : Nat) (a b : Int)
    (hM : MachAt w B gm gr cr Ac cc Ai ci vo code ⟨⟨n, regs, false, false⟩, inp, out⟩) (hB : B ≤ w.heap.size)
    (hx : code[n]? = some ⟨2, a, b⟩) (ha0 : 0 ≤ a) (ha1 : a ≤ 7) (hb0 : 0 ≤ b) (hb1 : b ≤ 7) :
    Calls Tryd.prog 43 #[.pointer (some ⟨gm, 0, none⟩)] w (StepPost B gm gr cr Ac cc code ⟨⟨n, regs, false, false⟩, inp, out⟩ w) := by
  have hlt : n < code.length := (List.getElem?_eq_some_iff.1 hx).1
  have hlen := hM.rows.code.now.2.1
  have hstep : step code ⟨⟨n, regs, false, false⟩, inp, out⟩ = some ⟨⟨n + 1, regs.set a.toNat (sumOf 2 (w32 (regs.getD a.toNat 0)) (w32 (regs.getD b.toNat 0))), false, false⟩, inp, out⟩ := by
    unfold step
    rw [if_neg (by simp only; omega)]
    have he : code.getD n default = ⟨2, a, b⟩ := by simp [List.getD_eq_getElem?_getD, hx]
    simp only [Int.toNat_natCast, he]
    simp [-List.getD_eq_getElem?_getD, exec, setReg, reg]
  obtain ⟨ad, x, e, hx', hc0, hc1, hc2⟩ := kIns_get hM.rows.code.now n hlt
  cases e
  obtain rfl : (⟨2, a, b⟩ : Ins) = x := by rw [hx] at hx'; injection hx'
  have hblk := hM.blk
  have HM := Aside0.mk hM
  have HX := Aside0.mk hx
  have HS := Aside0.mk hstep
  clear hx hx' hM hstep
  have i0 : (0 : Int) ≤ (n : Int) := by omega
  have i1 : (n : Int) < (code.length : Int) := by omega
  have hd : ((n : Int) == (code.length : Int)) = false := by rw [beq_eq_false_iff_ne]; omega
  have g0 : w.cell? ⟨gm, 0, none⟩ = some (.int .i64 (n : Int)) := blk_cell hblk 0
  have g4 : w.cell? ⟨gm, 4, none⟩ = some (.slice (some ad) code.length cc) := blk_cell hblk 4
  go_enter Tryd.func43, Tryd.ntmps43
  go_wp2
  go_quiet (fail)
  have HB1 : Aside0 (Below w.heap.size w (w.drewN nq)) := ⟨pw_below_drewN (Below.refl _ _) nq⟩
  replace g0 : (w.drewN nq).cell? ⟨gm, 0, none⟩ = some (.int .i64 (n : Int)) := g0
  replace g4 : (w.drewN nq).cell? ⟨gm, 4, none⟩ = some (.slice (some ad) code.length cc) := g4
  replace hc0 : (w.drewN nq).cell? (ad.add (n * 3)) = some (.int .i64 2) := hc0
  replace hc1 : (w.drewN nq).cell? ⟨(ad.add (n * 3)).block, (ad.add (n * 3)).off + 1, none⟩ = some (.int .i64 a) := hc1
  replace hc2 : (w.drewN nq).cell? ⟨(ad.add (n * 3)).block, (ad.add (n * 3)).off + 2, none⟩ = some (.int .i64 b) := hc2
  generalize w.drewN nq = w1 at *
  have n0 := World.new_ne w1 _ g0
  have nc := World.new_ne w1 _ hc0
  go_wp2
  go_region_held3 (fun w' => w'.cell? ⟨gm, 0, none⟩ = some (.int .i64 (n : Int)) ∧ w'.cell? ⟨gm, 4, none⟩ = some (.slice (some ad) code.length cc) ∧ w'.cell? (ad.add (n * 3)) = some (.int .i64 2) ∧ w'.cell? ⟨(ad.add (n * 3)).block, (ad.add (n * 3)).off + 1, none⟩ = some (.int .i64 a) ∧  w'.cell? ⟨(ad.add (n * 3)).block, (ad.add (n * 3)).off + 2, none⟩ = some (.int .i64 b)) (go_keep) (fail)
  have HB2 : Aside0 (Below w.heap.size w (w1.alloc (.cells #[.int .i64 2, .int .i64 a, .int .i64 b] 66)).drew) := ⟨(HB1.out.alloc HB1.out.size _).drew⟩
  have hbox : (w1.alloc (.cells #[.int .i64 2, .int .i64 a, .int .i64 b] 66)).drew.heap[w1.heap.size]? = some (.cells #[.int .i64 2, .int .i64 a, .int .i64 b] 66 (0, 0)) := blk_new w1 _
  clear g0 g4 hc0 hc1 hc2 n0 nc
  generalize (w1.alloc (.cells #[.int .i64 2, .int .i64 a, .int .i64 b] 66)).drew = w2 at *
  generalize w1.heap.size = hb at *
  have hM2 := HM.out.below HB2.out
  have g0 : w2.cell? ⟨gm, 0, none⟩ = some (.int .i64 (n : Int)) := blk_cell hM2.blk 0
  have g1 : w2.cell? ⟨gm, 1, none⟩ = some (.slice (some ⟨gr, 0, none⟩) 8 cr) := blk_cell hM2.blk 1
  have f0 := blk_frozen hM2.blk 0
  have b0 : w2.cell? ⟨hb, 0, none⟩ = some (.int .i64 2) := blk_cell hbox 0
  have b1 : w2.cell? ⟨hb, 1, none⟩ = some (.int .i64 a) := blk_cell hbox 1
  have b2 : w2.cell? ⟨hb, 2, none⟩ = some (.int .i64 b) := blk_cell hbox 2
  have hne := hM2.ne
  have HM2 := Aside0.mk hM2
  obtain ⟨r0, r1⟩ := hM2.rows.reg a ha0 (by omega)
  obtain ⟨q0, q1⟩ := hM2.rows.reg b hb0 (by omega)
  obtain ⟨ra, HA⟩ : ∃ ra, Aside0 (regs.getD a.toNat 0 = ra) := ⟨_, ⟨rfl⟩⟩
  obtain ⟨rb, HR⟩ : ∃ rb, Aside0 (regs.getD b.toNat 0 = rb) := ⟨_, ⟨rfl⟩⟩
  rw [HA.out] at r0
  rw [HR.out] at q0
  have hs := sum32 (c := 2) (a := w32 ra) (w32_is32 rb)
  obtain ⟨s, HQ⟩ : ∃ s, Aside0 (sumOf 2 (w32 ra) (w32 rb) = s) := ⟨_, ⟨rfl⟩⟩
  rw [HQ.out] at hs
  simp only [is32, Bool.and_eq_true, decide_eq_true_eq] at hs
  obtain ⟨hs0, hs1⟩ := hs
  have hsw : sumOf 2 (wrap32 ra) (wrap32 rb) = s := by rw [w32_is, w32_is]; exact HQ.out
  have hwr : wrap64 s = s := IntWalk.wrap64_in _ (by omega)
  replace HS : Aside0 (step code ⟨⟨n, regs, false, false⟩, inp, out⟩ = some ⟨⟨n + 1, regs.set a.toNat s, false, false⟩, inp, out⟩) := ⟨by rw [HS.out, HA.out, HR.out, HQ.out]⟩
  have ha2 : a < 8 := by omega
  have hb2 : b < 8 := by omega
  clear hM2 hbox
  go_wp2
  refine wp_region_still_tail 20 (by kernel_rfl) (by kernel_rfl) ?_
  simp only [List.take_succ_cons, List.take_zero, List.drop_succ_cons, List.drop_zero]
  repeat still_step
  still_call ((sum_calls _ _ _ _).mono fun e w' h => ⟨h.1, h.2.symm⟩)
  repeat still_step
  refine wpStill_nil ?_
  go_wp2
  go_ret
  exact StepPost.went HS.out (((HM2.out.setReg a s).setPc (n + 1)).below (below_drew (Below.refl _ _))) (((HB2.out.mono hB).setCell (p := ⟨gr, a.toNat, none⟩) HM2.out.rows.lowr _).setCell (p := ⟨gm, 0, none⟩) HM2.out.low _).drew
set_option maxRecDepth 100000 in
set_option maxHeartbeats 4000000 in
theorem step_op3 (w : World) (B gm gr cr cc ci : Nat) (Ac Ai : Option Addr) (vo : Value) (code : List Ins) (regs : List Int) (inp : List Int) (out : List Emit) (n : Nat) (a b : Int)
    (hM : MachAt w B gm gr cr Ac cc Ai ci vo code ⟨⟨n, regs, false, false⟩, inp, out⟩) (hB : B ≤ w.heap.size)
    (hx : code[n]? = some ⟨3, a, b⟩) (ha0 : 0 ≤ a) (ha1 : a ≤ 7) (hb0 : 0 ≤ b) (hb1 : b ≤ 7) :
    Calls Tryd.prog 43 #[.pointer (some ⟨gm, 0, none⟩)] w (StepPost B gm gr cr Ac cc code ⟨⟨n, regs, false, false⟩, inp, out⟩ w) := by
  have hlt : n < code.length := (List.getElem?_eq_some_iff.1 hx).1
  have hlen := hM.rows.code.now.2.1
  have hstep : step code ⟨⟨n, regs, false, false⟩, inp, out⟩ = some ⟨⟨n + 1, regs.set a.toNat (sumOf 3 (w32 (regs.getD a.toNat 0)) (w32 (regs.getD b.toNat 0))), false, false⟩, inp, out⟩ := by
    unfold step
    rw [if_neg (by simp only; omega)]
    have he : code.getD n default = ⟨3, a, b⟩ := by simp [List.getD_eq_getElem?_getD, hx]
    simp only [Int.toNat_natCast, he]
    simp [-List.getD_eq_getElem?_getD, exec, setReg, reg]
  obtain ⟨ad, x, e, hx', hc0, hc1, hc2⟩ := kIns_get hM.rows.code.now n hlt
  cases e
  obtain rfl : (⟨3, a, b⟩ : Ins) = x := by rw [hx] at hx'; injection hx'
  have hblk := hM.blk
  have HM := Aside0.mk hM
  have HX := Aside0.mk hx
  have HS := Aside0.mk hstep
  clear hx hx' hM hstep
  have i0 : (0 : Int) ≤ (n : Int) := by omega
  have i1 : (n : Int) < (code.length : Int) := by omega
  have hd : ((n : Int) == (code.length : Int)) = false := by rw [beq_eq_false_iff_ne]; omega
  have g0 : w.cell? ⟨gm, 0, none⟩ = some (.int .i64 (n : Int)) := blk_cell hblk 0
  have g4 : w.cell? ⟨gm, 4, none⟩ = some (.slice (some ad) code.length cc) := blk_cell hblk 4
  go_enter Tryd.func43, Tryd.ntmps43
  go_wp2
  go_quiet (fail)
  have HB1 : Aside0 (Below w.heap.size w (w.drewN nq)) := ⟨pw_below_drewN (Below.refl _ _) nq⟩
  replace g0 : (w.drewN nq).cell? ⟨gm, 0, none⟩ = some (.int .i64 (n : Int)) := g0
  replace g4 : (w.drewN nq).cell? ⟨gm, 4, none⟩ = some (.slice (some ad) code.length cc) := g4
  replace hc0 : (w.drewN nq).cell? (ad.add (n * 3)) = some (.int .i64 3) := hc0
  replace hc1 : (w.drewN nq).cell? ⟨(ad.add (n * 3)).block, (ad.add (n * 3)).off + 1, none⟩ = some (.int .i64 a) := hc1
  replace hc2 : (w.drewN nq).cell? ⟨(ad.add (n * 3)).block, (ad.add (n * 3)).off + 2, none⟩ = some (.int .i64 b) := hc2
  generalize w.drewN nq = w1 at *
  have n0 := World.new_ne w1 _ g0
  have nc := World.new_ne w1 _ hc0
  go_wp2
  go_region_held3 (fun w' => w'.cell? ⟨gm, 0, none⟩ = some (.int .i64 (n : Int)) ∧ w'.cell? ⟨gm, 4, none⟩ = some (.slice (some ad) code.length cc) ∧ w'.cell? (ad.add (n * 3)) = some (.int .i64 3) ∧ w'.cell? ⟨(ad.add (n * 3)).block, (ad.add (n * 3)).off + 1, none⟩ = some (.int .i64 a) ∧  w'.cell? ⟨(ad.add (n * 3)).block, (ad.add (n * 3)).off + 2, none⟩ = some (.int .i64 b)) (go_keep) (fail)
  have HB2 : Aside0 (Below w.heap.size w (w1.alloc (.cells #[.int .i64 3, .int .i64 a, .int .i64 b] 66)).drew) := ⟨(HB1.out.alloc HB1.out.size _).drew⟩
  have hbox : (w1.alloc (.cells #[.int .i64 3, .int .i64 a, .int .i64 b] 66)).drew.heap[w1.heap.size]? = some (.cells #[.int .i64 3, .int .i64 a, .int .i64 b] 66 (0, 0)) := blk_new w1 _
  clear g0 g4 hc0 hc1 hc2 n0 nc
  generalize (w1.alloc (.cells #[.int .i64 3, .int .i64 a, .int .i64 b] 66)).drew = w2 at *
  generalize w1.heap.size = hb at *
  have hM2 := HM.out.below HB2.out
  have g0 : w2.cell? ⟨gm, 0, none⟩ = some (.int .i64 (n : Int)) := blk_cell hM2.blk 0
  have g1 : w2.cell? ⟨gm, 1, none⟩ = some (.slice (some ⟨gr, 0, none⟩) 8 cr) := blk_cell hM2.blk 1
  have f0 := blk_frozen hM2.blk 0
  have b0 : w2.cell? ⟨hb, 0, none⟩ = some (.int .i64 3) := blk_cell hbox 0
  have b1 : w2.cell? ⟨hb, 1, none⟩ = some (.int .i64 a) := blk_cell hbox 1
  have b2 : w2.cell? ⟨hb, 2, none⟩ = some (.int .i64 b) := blk_cell hbox 2
  have hne := hM2.ne
  have HM2 := Aside0.mk hM2
  obtain ⟨r0, r1⟩ := hM2.rows.reg a ha0 (by omega)
  obtain ⟨q0, q1⟩ := hM2.rows.reg b hb0 (by omega)
  obtain ⟨ra, HA⟩ : ∃ ra, Aside0 (regs.getD a.toNat 0 = ra) := ⟨_, ⟨rfl⟩⟩
  obtain ⟨rb, HR⟩ : ∃ rb, Aside0 (regs.getD b.toNat 0 = rb) := ⟨_, ⟨rfl⟩⟩
  rw [HA.out] at r0
  rw [HR.out] at q0
  have hs := sum32 (c := 3) (a := w32 ra) (w32_is32 rb)
  obtain ⟨s, HQ⟩ : ∃ s, Aside0 (sumOf 3 (w32 ra) (w32 rb) = s) := ⟨_, ⟨rfl⟩⟩
  rw [HQ.out] at hs
  simp only [is32, Bool.and_eq_true, decide_eq_true_eq] at hs
  obtain ⟨hs0, hs1⟩ := hs
  have hsw : sumOf 3 (wrap32 ra) (wrap32 rb) = s := by rw [w32_is, w32_is]; exact HQ.out
  have hwr : wrap64 s = s := IntWalk.wrap64_in _ (by omega)
  replace HS : Aside0 (step code ⟨⟨n, regs, false, false⟩, inp, out⟩ = some ⟨⟨n + 1, regs.set a.toNat s, false, false⟩, inp, out⟩) := ⟨by rw [HS.out, HA.out, HR.out, HQ.out]⟩
  have ha2 : a < 8 := by omega
  have hb2 : b < 8 := by omega
  clear hM2 hbox
  go_wp2
  refine wp_region_still_tail 20 (by kernel_rfl) (by kernel_rfl) ?_
  simp only [List.take_succ_cons, List.take_zero, List.drop_succ_cons, List.drop_zero]
  repeat still_step
  still_call ((sum_calls _ _ _ _).mono fun e w' h => ⟨h.1, h.2.symm⟩)
  repeat still_step
  refine wpStill_nil ?_
  go_wp2
  go_ret
  exact StepPost.went HS.out (((HM2.out.setReg a s).setPc (n + 1)).below (below_drew (Below.refl _ _))) (((HB2.out.mono hB).setCell (p := ⟨gr, a.toNat, none⟩) HM2.out.rows.lowr _).setCell (p := ⟨gm, 0, none⟩) HM2.out.low _).drew
set_option maxRecDepth 100000 in
set_option maxHeartbeats 4000000 in
theorem step_op4 (w : World) (B gm gr cr cc ci : Nat) (Ac Ai : Option Addr) (vo : Value) (code : List Ins) (regs : List Int) (inp : List Int) (out : List Emit) (n : Nat) (a b : Int)
    (hM : MachAt w B gm gr cr Ac cc Ai ci vo code ⟨⟨n, regs, false, false⟩, inp, out⟩) (hB : B ≤ w.heap.size)
    (hx : code[n]? = some ⟨4, a, b⟩) (ha0 : 0 ≤ a) (ha1 : a ≤ 7) (hb0 : 0 ≤ b) (hb1 : b ≤ 7) :
    Calls Tryd.prog 43 #[.pointer (some ⟨gm, 0, none⟩)] w (StepPost B gm gr cr Ac cc code ⟨⟨n, regs, false, false⟩, inp, out⟩ w) := by
  have hlt : n < code.length := (List.getElem?_eq_some_iff.1 hx).1
  have hlen := hM.rows.code.now.2.1
  have hstep : step code ⟨⟨n, regs, false, false⟩, inp, out⟩ = some ⟨⟨n + 1, regs.set a.toNat (sumOf 4 (w32 (regs.getD a.toNat 0)) (w32 (regs.getD b.toNat 0))), false, false⟩, inp, out⟩ := by
    unfold step
    rw [if_neg (by simp only; omega)]
    have he : code.getD n default = ⟨4, a, b⟩ := by simp [List.getD_eq_getElem?_getD, hx]
    simp only [Int.toNat_natCast, he]
    simp [-List.getD_eq_getElem?_getD, exec, setReg, reg]
  obtain ⟨ad, x, e, hx', hc0, hc1, hc2⟩ := kIns_get hM.rows.code.now n hlt
  cases e
  obtain rfl : (⟨4, a, b⟩ : Ins) = x := by rw [hx] at hx'; injection hx'
  have hblk := hM.blk
  have HM := Aside0.mk hM
  have HX := Aside0.mk hx
  have HS := Aside0.mk hstep
  clear hx hx' hM hstep
  have i0 : (0 : Int) ≤ (n : Int) := by omega
  have i1 : (n : Int) < (code.length : Int) := by omega
  have hd : ((n : Int) == (code.length : Int)) = false := by rw [beq_eq_false_iff_ne]; omega
  have g0 : w.cell? ⟨gm, 0, none⟩ = some (.int .i64 (n : Int)) := blk_cell hblk 0
  have g4 : w.cell? ⟨gm, 4, none⟩ = some (.slice (some ad) code.length cc) := blk_cell hblk 4
  go_enter Tryd.func43, Tryd.ntmps43
  go_wp2
  go_quiet (fail)
  have HB1 : Aside0 (Below w.heap.size w (w.drewN nq)) := ⟨pw_below_drewN (Below.refl _ _) nq⟩
  replace g0 : (w.drewN nq).cell? ⟨gm, 0, none⟩ = some (.int .i64 (n : Int)) := g0
  replace g4 : (w.drewN nq).cell? ⟨gm, 4, none⟩ = some (.slice (some ad) code.length cc) := g4
  replace hc0 : (w.drewN nq).cell? (ad.add (n * 3)) = some (.int .i64 4) := hc0
  replace hc1 : (w.drewN nq).cell? ⟨(ad.add (n * 3)).block, (ad.add (n * 3)).off + 1, none⟩ = some (.int .i64 a) := hc1
  replace hc2 : (w.drewN nq).cell? ⟨(ad.add (n * 3)).block, (ad.add (n * 3)).off + 2, none⟩ = some (.int .i64 b) := hc2
  generalize w.drewN nq = w1 at *
  have n0 := World.new_ne w1 _ g0
  have nc := World.new_ne w1 _ hc0
  go_wp2
  go_region_held3 (fun w' => w'.cell? ⟨gm, 0, none⟩ = some (.int .i64 (n : Int)) ∧ w'.cell? ⟨gm, 4, none⟩ = some (.slice (some ad) code.length cc) ∧ w'.cell? (ad.add (n * 3)) = some (.int .i64 4) ∧ w'.cell? ⟨(ad.add (n * 3)).block, (ad.add (n * 3)).off + 1, none⟩ = some (.int .i64 a) ∧  w'.cell? ⟨(ad.add (n * 3)).block, (ad.add (n * 3)).off + 2, none⟩ = some (.int .i64 b)) (go_keep) (fail)
  have HB2 : Aside0 (Below w.heap.size w (w1.alloc (.cells #[.int .i64 4, .int .i64 a, .int .i64 b] 66)).drew) := ⟨(HB1.out.alloc HB1.out.size _).drew⟩
  have hbox : (w1.alloc (.cells #[.int .i64 4, .int .i64 a, .int .i64 b] 66)).drew.heap[w1.heap.size]? = some (.cells #[.int .i64 4, .int .i64 a, .int .i64 b] 66 (0, 0)) := blk_new w1 _
  clear g0 g4 hc0 hc1 hc2 n0 nc
  generalize (w1.alloc (.cells #[.int .i64 4, .int .i64 a, .int .i64 b] 66)).drew = w2 at *
  generalize w1.heap.size = hb at *
  have hM2 := HM.out.below HB2.out
  have g0 : w2.cell? ⟨gm, 0, none⟩ = some (.int .i64 (n : Int)) := blk_cell hM2.blk 0
  have g1 : w2.cell? ⟨gm, 1, none⟩ = some (.slice (some ⟨gr, 0, none⟩) 8 cr) := blk_cell hM2.blk 1
  have f0 := blk_frozen hM2.blk 0
  have b0 : w2.cell? ⟨hb, 0, none⟩ = some (.int .i64 4) := blk_cell hbox 0
  have b1 : w2.cell? ⟨hb, 1, none⟩ = some (.int .i64 a) := blk_cell hbox 1
  have b2 : w2.cell? ⟨hb, 2, none⟩ = some (.int .i64 b) := blk_cell hbox 2
  have hne := hM2.ne
  have HM2 := Aside0.mk hM2
  obtain ⟨r0, r1⟩ := hM2.rows.reg a ha0 (by omega)
  obtain ⟨q0, q1⟩ := hM2.rows.reg b hb0 (by omega)
  obtain ⟨ra, HA⟩ : ∃ ra, Aside0 (regs.getD a.toNat 0 = ra) := ⟨_, ⟨rfl⟩⟩
  obtain ⟨rb, HR⟩ : ∃ rb, Aside0 (regs.getD b.toNat 0 = rb) := ⟨_, ⟨rfl⟩⟩
  rw [HA.out] at r0
  rw [HR.out] at q0
  have hs := sum32 (c := 4) (a := w32 ra) (w32_is32 rb)
  obtain ⟨s, HQ⟩ : ∃ s, Aside0 (sumOf 4 (w32 ra) (w32 rb) = s) := ⟨_, ⟨rfl⟩⟩
  rw [HQ.out] at hs
  simp only [is32, Bool.and_eq_true, decide_eq_true_eq] at hs
  obtain ⟨hs0, hs1⟩ := hs
  have hsw : sumOf 4 (wrap32 ra) (wrap32 rb) = s := by rw [w32_is, w32_is]; exact HQ.out
  have hwr : wrap64 s = s := IntWalk.wrap64_in _ (by omega)
  replace HS : Aside0 (step code ⟨⟨n, regs, false, false⟩, inp, out⟩ = some ⟨⟨n + 1, regs.set a.toNat s, false, false⟩, inp, out⟩) := ⟨by rw [HS.out, HA.out, HR.out, HQ.out]⟩
  have ha2 : a < 8 := by omega
  have hb2 : b < 8 := by omega
  clear hM2 hbox
  go_wp2
  refine wp_region_still_tail 20 (by kernel_rfl) (by kernel_rfl) ?_
  simp only [List.take_succ_cons, List.take_zero, List.drop_succ_cons, List.drop_zero]
  repeat still_step
  still_call ((sum_calls _ _ _ _).mono fun e w' h => ⟨h.1, h.2.symm⟩)
  repeat still_step
  refine wpStill_nil ?_
  go_wp2
  go_ret
  exact StepPost.went HS.out (((HM2.out.setReg a s).setPc (n + 1)).below (below_drew (Below.refl _ _))) (((HB2.out.mono hB).setCell (p := ⟨gr, a.toNat, none⟩) HM2.out.rows.lowr _).setCell (p := ⟨gm, 0, none⟩) HM2.out.low _).drew
set_option maxRecDepth 100000 in
set_option maxHeartbeats 4000000 in
theorem step_op5 (w : World) (B gm gr cr cc ci : Nat) (Ac Ai : Option Addr) (vo : Value) (code : List Ins) (regs : List Int) (inp : List Int) (out : List Emit) (n : Nat) (a b : Int)
    (hM : MachAt w B gm gr cr Ac cc Ai ci vo code ⟨⟨n, regs, false, false⟩, inp, out⟩) (hB : B ≤ w.heap.size)
    (hx : code[n]? = some ⟨5, a, b⟩) (ha0 : 0 ≤ a) (ha1 : a ≤ 7) (hb0 : 0 ≤ b) (hb1 : b ≤ 7) :
    Calls Tryd.prog 43 #[.pointer (some ⟨gm, 0, none⟩)] w (StepPost B gm gr cr Ac cc code ⟨⟨n, regs, false, false⟩, inp, out⟩ w) := by
  have hlt : n < code.length := (List.getElem?_eq_some_iff.1 hx).1
  have hlen := hM.rows.code.now.2.1
  have hstep : step code ⟨⟨n, regs, false, false⟩, inp, out⟩ = some ⟨⟨n + 1, regs.set a.toNat (sumOf 5 (w32 (regs.getD a.toNat 0)) (w32 (regs.getD b.toNat 0))), false, false⟩, inp, out⟩ := by
    unfold step
    rw [if_neg (by simp only; omega)]
    have he : code.getD n default = ⟨5, a, b⟩ := by simp [List.getD_eq_getElem?_getD, hx]
    simp only [Int.toNat_natCast, he]
    simp [-List.getD_eq_getElem?_getD, exec, setReg, reg]
  obtain ⟨ad, x, e, hx', hc0, hc1, hc2⟩ := kIns_get hM.rows.code.now n hlt
  cases e
  obtain rfl : (⟨5, a, b⟩ : Ins) = x := by rw [hx] at hx'; injection hx'
  have hblk := hM.blk
  have HM := Aside0.mk hM
  have HX := Aside0.mk hx
  have HS := Aside0.mk hstep
  clear hx hx' hM hstep
  have i0 : (0 : Int) ≤ (n : Int) := by omega
  have i1 : (n : Int) < (code.length : Int) := by omega
  have hd : ((n : Int) == (code.length : Int)) = false := by rw [beq_eq_false_iff_ne]; omega
  have g0 : w.cell? ⟨gm, 0, none⟩ = some (.int .i64 (n : Int)) := blk_cell hblk 0
  have g4 : w.cell? ⟨gm, 4, none⟩ = some (.slice (some ad) code.length cc) := blk_cell hblk 4
  go_enter Tryd.func43, Tryd.ntmps43
  go_wp2
  go_quiet (fail)
  have HB1 : Aside0 (Below w.heap.size w (w.drewN nq)) := ⟨pw_below_drewN (Below.refl _ _) nq⟩
  replace g0 : (w.drewN nq).cell? ⟨gm, 0, none⟩ = some (.int .i64 (n : Int)) := g0
  replace g4 : (w.drewN nq).cell? ⟨gm, 4, none⟩ = some (.slice (some ad) code.length cc) := g4
  replace hc0 : (w.drewN nq).cell? (ad.add (n * 3)) = some (.int .i64 5) := hc0
  replace hc1 : (w.drewN nq).cell? ⟨(ad.add (n * 3)).block, (ad.add (n * 3)).off + 1, none⟩ = some (.int .i64 a) := hc1
  replace hc2 : (w.drewN nq).cell? ⟨(ad.add (n * 3)).block, (ad.add (n * 3)).off + 2, none⟩ = some (.int .i64 b) := hc2
  generalize w.drewN nq = w1 at *
  have n0 := World.new_ne w1 _ g0
  have nc := World.new_ne w1 _ hc0
  go_wp2
  go_region_held3 (fun w' => w'.cell? ⟨gm, 0, none⟩ = some (.int .i64 (n : Int)) ∧ w'.cell? ⟨gm, 4, none⟩ = some (.slice (some ad) code.length cc) ∧ w'.cell? (ad.add (n * 3)) = some (.int .i64 5) ∧ w'.cell? ⟨(ad.add (n * 3)).block, (ad.add (n * 3)).off + 1, none⟩ = some (.int .i64 a) ∧  w'.cell? ⟨(ad.add (n * 3)).block, (ad.add (n * 3)).off + 2, none⟩ = some (.int .i64 b)) (go_keep) (fail)
  have HB2 : Aside0 (Below w.heap.size w (w1.alloc (.cells #[.int .i64 5, .int .i64 a, .int .i64 b] 66)).drew) := ⟨(HB1.out.alloc HB1.out.size _).drew⟩
  have hbox : (w1.alloc (.cells #[.int .i64 5, .int .i64 a, .int .i64 b] 66)).drew.heap[w1.heap.size]? = some (.cells #[.int .i64 5, .int .i64 a, .int .i64 b] 66 (0, 0)) := blk_new w1 _
  clear g0 g4 hc0 hc1 hc2 n0 nc
  generalize (w1.alloc (.cells #[.int .i64 5, .int .i64 a, .int .i64 b] 66)).drew = w2 at *
  generalize w1.heap.size = hb at *
  have hM2 := HM.out.below HB2.out
  have g0 : w2.cell? ⟨gm, 0, none⟩ = some (.int .i64 (n : Int)) := blk_cell hM2.blk 0
  have g1 : w2.cell? ⟨gm, 1, none⟩ = some (.slice (some ⟨gr, 0, none⟩) 8 cr) := blk_cell hM2.blk 1
  have f0 := blk_frozen hM2.blk 0
  have b0 : w2.cell? ⟨hb, 0, none⟩ = some (.int .i64 5) := blk_cell hbox 0
  have b1 : w2.cell? ⟨hb, 1, none⟩ = some (.int .i64 a) := blk_cell hbox 1
  have b2 : w2.cell? ⟨hb, 2, none⟩ = some (.int .i64 b) := blk_cell hbox 2
  have hne := hM2.ne
  have HM2 := Aside0.mk hM2
  obtain ⟨r0, r1⟩ := hM2.rows.reg a ha0 (by omega)
  obtain ⟨q0, q1⟩ := hM2.rows.reg b hb0 (by omega)
  obtain ⟨ra, HA⟩ : ∃ ra, Aside0 (regs.getD a.toNat 0 = ra) := ⟨_, ⟨rfl⟩⟩
  obtain ⟨rb, HR⟩ : ∃ rb, Aside0 (regs.getD b.toNat 0 = rb) := ⟨_, ⟨rfl⟩⟩
  rw [HA.out] at r0
  rw [HR.out] at q0
  have hs := sum32 (c := 5) (a := w32 ra) (w32_is32 rb)
  obtain ⟨s, HQ⟩ : ∃ s, Aside0 (sumOf 5 (w32 ra) (w32 rb) = s) := ⟨_, ⟨rfl⟩⟩
  rw [HQ.out] at hs
  simp only [is32, Bool.and_eq_true, decide_eq_true_eq] at hs
  obtain ⟨hs0, hs1⟩ := hs
  have hsw : sumOf 5 (wrap32 ra) (wrap32 rb) = s := by rw [w32_is, w32_is]; exact HQ.out
  have hwr : wrap64 s = s := IntWalk.wrap64_in _ (by omega)
  replace HS : Aside0 (step code ⟨⟨n, regs, false, false⟩, inp, out⟩ = some ⟨⟨n + 1, regs.set a.toNat s, false, false⟩, inp, out⟩) := ⟨by rw [HS.out, HA.out, HR.out, HQ.out]⟩
  have ha2 : a < 8 := by omega
  have hb2 : b < 8 := by omega
  clear hM2 hbox
  go_wp2
  refine wp_region_still_tail 20 (by kernel_rfl) (by kernel_rfl) ?_
  simp only [List.take_succ_cons, List.take_zero, List.drop_succ_cons, List.drop_zero]
  repeat still_step
  still_call ((sum_calls _ _ _ _).mono fun e w' h => ⟨h.1, h.2.symm⟩)
  repeat still_step
  refine wpStill_nil ?_
  go_wp2
  go_ret
  exact StepPost.went HS.out (((HM2.out.setReg a s).setPc (n + 1)).below (below_drew (Below.refl _ _))) (((HB2.out.mono hB).setCell (p := ⟨gr, a.toNat, none⟩) HM2.out.rows.lowr _).setCell (p := ⟨gm, 0, none⟩) HM2.out.low _).drew
end Go.Proofs.YtifphhkkpadpoaaDoor
