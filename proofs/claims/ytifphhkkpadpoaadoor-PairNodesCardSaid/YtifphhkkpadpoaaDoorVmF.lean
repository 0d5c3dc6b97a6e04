/- The walk of (*machine).step, whole: at a right program and a machine that is on its way it does what the plain law's step does. -/
import Derived.Test.YtifphhkkpadpoaaDoorVmE1
import Derived.Test.YtifphhkkpadpoaaDoorVmE2
import Derived.Test.YtifphhkkpadpoaaDoorVmE3
import Derived.Test.YtifphhkkpadpoaaDoorVmE4
namespace Go.Proofs.YtifphhkkpadpoaaDoor
open Go.RowKit Go.Proofs.YtifphhkkpadpoaaDoorW.PrintWords
set_option linter.unusedVariables false
set_option linter.unusedSimpArgs false
set_option maxRecDepth 100000 in
set_option maxHeartbeats 4000000 in
theorem step_fault (w : World) (B gm gr cr cc ci : Nat) (Ac Ai : Option Addr) (vo : Value) (code : List Ins) (regs inp : List Int) (out : List Emit)
    (hM : MachAt w B gm gr cr Ac cc Ai ci vo code ⟨⟨code.length, regs, false, false⟩, inp, out⟩) (hB : B ≤ w.heap.size) :
    Calls Tryd.prog 43 #[.pointer (some ⟨gm, 0, none⟩)] w (StepPost B gm gr cr Ac cc code ⟨⟨code.length, regs, false, false⟩, inp, out⟩ w) := by
  have hlen := hM.rows.code.now.2.1
  have hstep : step code ⟨⟨code.length, regs, false, false⟩, inp, out⟩ = some ⟨⟨code.length, regs, false, true⟩, inp, out⟩ := by
    unfold step
    rw [if_pos rfl]
  have hblk := hM.blk
  have HM := Aside0.mk hM
  have HS := Aside0.mk hstep
  clear hM hstep
  have g0 : w.cell? ⟨gm, 0, none⟩ = some (.int .i64 (code.length : Int)) := blk_cell hblk 0
  have g4 : w.cell? ⟨gm, 4, none⟩ = some (.slice Ac code.length cc) := blk_cell hblk 4
  have g3 : w.cell? ⟨gm, 3, none⟩ = some (.bool false) := blk_cell hblk 3
  have f3 := blk_frozen hblk 3
  go_enter Tryd.func43, Tryd.ntmps43
  go_wp2
  go_quiet (fail)
  go_wp2
  go_ret
  exact StepPost.went HS.out ((HM.out.setFault true).below (pw_below_drewN (Below.refl _ _) _)) (pw_below_drewN ((Below.refl B w).setCell (p := ⟨gm, 3, none⟩) HM.out.low _) _)
theorem step_calls (w : World) (B gm gr cr cc ci : Nat) (Ac Ai : Option Addr) (vo : Value) (code : List Ins) (m : Mach) (hc : codeCheck code = 0) (hg : Good code m) (hr : (m.vm.halts || m.vm.fault) = false)
    (hM : MachAt w B gm gr cr Ac cc Ai ci vo code m) (hB : B ≤ w.heap.size) (hol : m.out.length ≤ 1000000) :
    Calls Tryd.prog 43 #[.pointer (some ⟨gm, 0, none⟩)] w (StepPost B gm gr cr Ac cc code m w) := by
  obtain ⟨⟨pc, regs, halts, fault⟩, inp, out⟩ := m
  have hlo := hg.lo
  have hhi := hg.hi
  simp only at hlo hhi hr hol
  obtain ⟨n, rfl⟩ := Int.eq_ofNat_of_zero_le hlo
  have hh : halts = false ∧ fault = false := by simpa using hr
  obtain ⟨rfl, rfl⟩ := hh
  by_cases he : n = code.length
  · subst he
    exact step_fault w B gm gr cr cc ci Ac Ai vo code regs inp out hM hB
  have hlt : n < code.length := by omega
  obtain ⟨⟨c, a, b⟩, hx⟩ : ∃ x, code[n]? = some x := ⟨_, List.getElem?_eq_getElem hlt⟩
  have hok := (codeCheck_all hc).2 _ (List.mem_of_getElem? hx)
  simp only [okIns, insRight] at hok
  have reg_ok : ∀ x : Int, isReg x = true → 0 ≤ x ∧ x ≤ 7 := fun x hx => by simpa [isReg] using hx
  by_cases c1 : c = 1
  · subst c1
    simp at hok
    exact step_set w B gm gr cr cc ci Ac Ai vo code regs inp out n a b hM hB hx (reg_ok a hok.1).1 (reg_ok a hok.1).2
  by_cases c2 : c = 2
  · subst c2
    simp at hok
    exact step_op2 w B gm gr cr cc ci Ac Ai vo code regs inp out n a b hM hB hx (reg_ok a hok.1).1 (reg_ok a hok.1).2 (reg_ok b hok.2).1 (reg_ok b hok.2).2
  by_cases c3 : c = 3
  · subst c3
    simp at hok
    exact step_op3 w B gm gr cr cc ci Ac Ai vo code regs inp out n a b hM hB hx (reg_ok a hok.1).1 (reg_ok a hok.1).2 (reg_ok b hok.2).1 (reg_ok b hok.2).2
  by_cases c4 : c = 4
  · subst c4
    simp at hok
    exact step_op4 w B gm gr cr cc ci Ac Ai vo code regs inp out n a b hM hB hx (reg_ok a hok.1).1 (reg_ok a hok.1).2 (reg_ok b hok.2).1 (reg_ok b hok.2).2
  by_cases c5 : c = 5
  · subst c5
    simp at hok
    exact step_op5 w B gm gr cr cc ci Ac Ai vo code regs inp out n a b hM hB hx (reg_ok a hok.1).1 (reg_ok a hok.1).2 (reg_ok b hok.2).1 (reg_ok b hok.2).2
  by_cases c6 : c = 6
  · subst c6
    exact step_jump w B gm gr cr cc ci Ac Ai vo code regs inp out n a b hM hB hx
  by_cases c7 : c = 7
  · subst c7
    simp at hok
    by_cases hz : regs.getD a.toNat 0 = 0
    · exact step_zero_yes w B gm gr cr cc ci Ac Ai vo code regs inp out n a b hM hB hx (reg_ok a hok.1).1 (reg_ok a hok.1).2 hz
    · exact step_zero_no w B gm gr cr cc ci Ac Ai vo code regs inp out n a b hM hB hx (reg_ok a hok.1).1 (reg_ok a hok.1).2 hz
  by_cases c8 : c = 8
  · subst c8
    simp at hok
    by_cases hz : regs.getD a.toNat 0 < 0
    · exact step_less_yes w B gm gr cr cc ci Ac Ai vo code regs inp out n a b hM hB hx (reg_ok a hok.1).1 (reg_ok a hok.1).2 hz
    · exact step_less_no w B gm gr cr cc ci Ac Ai vo code regs inp out n a b hM hB hx (reg_ok a hok.1).1 (reg_ok a hok.1).2 hz
  by_cases c9 : c = 9
  · subst c9
    simp at hok
    rcases inp with _ | ⟨x0, inp⟩
    · exact step_wait w B gm gr cr cc ci Ac Ai vo code regs out n a b hM hB hx (reg_ok a hok.1).1 (reg_ok a hok.1).2
    · exact step_in w B gm gr cr cc ci Ac Ai vo code regs x0 inp out n a b hM hB hx (reg_ok a hok.1).1 (reg_ok a hok.1).2
  by_cases c10 : c = 10
  · subst c10
    simp at hok
    exact step_out w B gm gr cr cc ci Ac Ai vo code regs inp out n a b hM hB hx (reg_ok a hok.1).1 (reg_ok a hok.1).2 hol
  by_cases c11 : c = 11
  · subst c11
    exact step_halt w B gm gr cr cc ci Ac Ai vo code regs inp out n a b hM hB hx
  · simp [c1, c2, c3, c4, c5, c6, c7, c8, c9, c10, c11] at hok
end Go.Proofs.YtifphhkkpadpoaaDoor
