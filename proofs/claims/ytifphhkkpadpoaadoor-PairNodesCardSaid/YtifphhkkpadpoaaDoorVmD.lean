/- A machine at work as it lies in memory, and what each kind of step does to it there. -/
import Derived.Test.YtifphhkkpadpoaaDoorVmA
import Derived.Test.YtifphhkkpadpoaaDoorVmB
import Derived.Test.YtifphhkkpadpoaaDoorVmC
namespace Go.Proofs.YtifphhkkpadpoaaDoor
open Go.RowKit Go.Proofs.YtifphhkkpadpoaaDoorW.PrintWords
set_option linter.unusedVariables false
/-- The rows of a machine: its registers and what has gone out are the call's own; the code and what comes in lie below B. -/
structure MRows (w : World) (B gr cr : Nat) (Ac : Option Addr) (Ai : Option Addr) (vo : Value) (code : List Ins) (regs inp : List Int) (out : List Emit) : Prop where
  regs : (Kd.int .i64).R 3 w B (fun k => B ≤ k) (.slice (some ⟨gr, 0, none⟩) 8 cr) regs
  outs : kEmit.R 52 w B (fun k => B ≤ k) vo out
  code : Keeps (fun W => kIns.C W Ac code.length code) w (fun k => k < B)
  inp : Keeps (fun W => (Kd.int .i64).C W Ai inp.length inp) w (fun k => k < B)
def machCells (gr cr : Nat) (Ac : Option Addr) (cc : Nat) (Ai : Option Addr) (ci : Nat) (vo : Value) (code : List Ins) (m : Mach) : Array Value :=
  #[.int .i64 m.vm.pc, .slice (some ⟨gr, 0, none⟩) 8 cr, .bool m.vm.halts, .bool m.vm.fault, .slice Ac code.length cc, .slice Ai m.inp.length ci, vo]
structure MachAt (w : World) (B gm gr cr : Nat) (Ac : Option Addr) (cc : Nat) (Ai : Option Addr) (ci : Nat) (vo : Value) (code : List Ins) (m : Mach) : Prop where
  blk : w.heap[gm]? = some (.cells (machCells gr cr Ac cc Ai ci vo code m) 87 (0, 0))
  low : B ≤ gm
  capc : code.length ≤ cc
  capi : m.inp.length ≤ ci
  rows : MRows w B gr cr Ac Ai vo code m.vm.regs m.inp m.out
section
variable {w w1 : World} {B gm gr cr cc ci : Nat} {Ac Ai : Option Addr} {vo : Value} {code : List Ins} {m : Mach} {regs inp : List Int} {out : List Emit}
theorem kEmit_E : kEmit.E = [] := rfl
theorem MRows.below (h : MRows w B gr cr Ac Ai vo code regs inp out) (hb : Below w.heap.size w w1) : MRows w1 B gr cr Ac Ai vo code regs inp out :=
  ⟨Kd.R_below h.regs hb, Kd.R_below h.outs hb, h.code.below hb, h.inp.below hb⟩
theorem MRows.machine (h : MRows w B gr cr Ac Ai vo code regs inp out) {cells : Array Value} (hb : w.heap[gm]? = some (.cells cells 87 (0, 0))) (hl : B ≤ gm) (j : Nat) (u : Value) : MRows (w.setCell ⟨gm, j, none⟩ u) B gr cr Ac Ai vo code regs inp out :=
  ⟨Kd.R_set h.regs hb (by intro q hq; rcases List.mem_cons.1 hq with rfl | hq; decide; cases hq) j u,
   Kd.R_set h.outs hb (by intro q hq; rcases List.mem_cons.1 hq with rfl | hq; decide; rw [kEmit_E] at hq; cases hq) j u,
   h.code.step ((Only.refl (fun k => B ≤ k) w).setCell (p := ⟨gm, j, none⟩) (.inl hl) u) (fun k hk _ hx => by omega),
   h.inp.step ((Only.refl (fun k => B ≤ k) w).setCell (p := ⟨gm, j, none⟩) (.inl hl) u) (fun k hk _ hx => by omega)⟩
theorem MRows.len (h : MRows w B gr cr Ac Ai vo code regs inp out) : regs.length = 8 := by
  obtain ⟨A, c, he, _⟩ := Kd.R_reads h.regs
  injection he with _ h2 _
  exact h2.symm
theorem MRows.reg (h : MRows w B gr cr Ac Ai vo code regs inp out) (i : Int) (h0 : 0 ≤ i) (h1 : i < 8) : w.cell? ⟨gr, i.toNat, none⟩ = some (.int .i64 (regs.getD i.toNat 0)) ∧ w.frozen? ⟨gr, i.toNat, none⟩ = false := by
  have ho := Kd.own_of_R h.regs
  rw [h.len] at ho
  exact own_at_of (enc := Value.int .i64) (d := (0 : Int)) (n := 8) ho i h0 (by omega)
theorem MRows.lowr (h : MRows w B gr cr Ac Ai vo code regs inp out) : B ≤ gr := h.regs.1 gr (by simp [Value.ownBlock])
theorem MRows.setReg (h : MRows w B gr cr Ac Ai vo code regs inp out) (i x : Int) : MRows (w.setCell ⟨gr, i.toNat, none⟩ (.int .i64 x)) B gr cr Ac Ai vo code (regs.set i.toNat x) inp out := by
  have hl := h.len
  have hr := h.lowr
  have ho := Kd.own_of_R h.regs
  rw [hl] at ho
  have hs := (own_store_of ho i x).1
  obtain ⟨cells, hc⟩ := own_typed ho gr (by simp [Value.ownBlock])
  have ho' : (Only (fun k => B ≤ k) w (w.setCell ⟨gr, i.toNat, none⟩ (.int .i64 x))) := (Only.refl _ w).setCell (p := ⟨gr, i.toNat, none⟩) (.inl hr) _
  exact ⟨Kd.R_of_own (by rw [List.length_set, hl]; exact hs) (fun k hk => h.regs.1 k hk),
    Kd.R_set h.outs hc (by intro q hq; rcases List.mem_cons.1 hq with rfl | hq; decide; rw [kEmit_E] at hq; cases hq) _ _,
    h.code.step ho' (fun k hk _ hx => by omega), h.inp.step ho' (fun k hk _ hx => by omega)⟩
/-- What has gone out has grown: the row may be another one. -/
theorem MRows.grown (h : MRows w B gr cr Ac Ai vo code regs inp out) {v1 : Value} {out1 : List Emit} (hR : kEmit.R 52 w1 B (fun k => B ≤ k) v1 out1) (hg : w.grownBy w1 vo.ownBlock) : MRows w1 B gr cr Ac Ai v1 code regs inp out1 := by
  have ho := Only.of_grown hg
  have hv : ∀ k, some k = vo.ownBlock → B ≤ k := fun k hk => h.outs.1 k hk.symm
  refine ⟨?_, hR, h.code.step ho (fun k hk _ hx => by have := hv k hx; omega), h.inp.step ho (fun k hk _ hx => by have := hv k hx; omega)⟩
  refine Kd.R_mono (Kd.R_grown (ok := fun k => B ≤ k ∧ some k ≠ vo.ownBlock) (Kd.R_mono (Kd.R_bound h.regs) (fun k hk => ⟨hk.1, fun he => ?_⟩)) hg (fun k hk => hk.2)) (fun k hk => hk.1)
  obtain ⟨_, _, _, q, hq, cells, hc⟩ := hk
  have : q = 3 := by
    rcases List.mem_cons.1 hq with h | h
    · exact h
    · cases h
  subst this
  exact Kd.R_ne h.outs hc (by decide) he
end
end Go.Proofs.YtifphhkkpadpoaaDoor
