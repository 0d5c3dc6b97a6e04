import Derived.Test.YtifphhkkpadpoaaDoorVmD
namespace Go.Proofs.YtifphhkkpadpoaaDoor
open Go.RowKit Go.Proofs.YtifphhkkpadpoaaDoorW.PrintWords
set_option linter.unusedVariables false
section
variable {w w1 : World} {B gm gr cr cc ci : Nat} {Ac Ai : Option Addr} {vo : Value} {code : List Ins} {m : Mach}
theorem MachAt.below (h : MachAt w B gm gr cr Ac cc Ai ci vo code m) (hb : Below w.heap.size w w1) : MachAt w1 B gm gr cr Ac cc Ai ci vo code m :=
  ⟨blk_below h.blk hb, h.low, h.capc, h.capi, h.rows.below hb⟩
/-- The field At. -/
theorem MachAt.setPc (h : MachAt w B gm gr cr Ac cc Ai ci vo code m) (p : Int) : MachAt (w.setCell ⟨gm, 0, none⟩ (.int .i64 p)) B gm gr cr Ac cc Ai ci vo code { m with vm := { m.vm with pc := p } } :=
  ⟨blk_put h.blk 0 _ rfl, h.low, h.capc, h.capi, h.rows.machine h.blk h.low 0 _⟩
theorem MachAt.setHalts (h : MachAt w B gm gr cr Ac cc Ai ci vo code m) (b : Bool) : MachAt (w.setCell ⟨gm, 2, none⟩ (.bool b)) B gm gr cr Ac cc Ai ci vo code { m with vm := { m.vm with halts := b } } :=
  ⟨blk_put h.blk 2 _ rfl, h.low, h.capc, h.capi, h.rows.machine h.blk h.low 2 _⟩
theorem MachAt.setFault (h : MachAt w B gm gr cr Ac cc Ai ci vo code m) (b : Bool) : MachAt (w.setCell ⟨gm, 3, none⟩ (.bool b)) B gm gr cr Ac cc Ai ci vo code { m with vm := { m.vm with fault := b } } :=
  ⟨blk_put h.blk 3 _ rfl, h.low, h.capc, h.capi, h.rows.machine h.blk h.low 3 _⟩
theorem MachAt.setIn (h : MachAt w B gm gr cr Ac cc Ai ci vo code m) {Aj : Option Addr} {cj : Nat} {l : List Int} (hl : l.length ≤ cj) (hk : Keeps (fun W => (Kd.int .i64).C W Aj l.length l) w (fun k => k < B)) : MachAt (w.setCell ⟨gm, 5, none⟩ (.slice Aj l.length cj)) B gm gr cr Ac cc Aj cj vo code { m with inp := l } :=
  ⟨blk_put h.blk 5 _ rfl, h.low, h.capc, hl, by
    have h2 := h.rows.machine h.blk h.low 5 (.slice Aj l.length cj)
    exact ⟨h2.regs, h2.outs, h2.code, hk.step ((Only.refl (fun k => B ≤ k) w).setCell (p := ⟨gm, 5, none⟩) (.inl h.low) _) (fun k hk _ hx => by omega)⟩⟩
theorem MachAt.ne (h : MachAt w B gm gr cr Ac cc Ai ci vo code m) : gm ≠ gr := by
  obtain ⟨cells, hc⟩ := own_typed (Kd.own_of_R h.rows.regs) gr (by simp [Value.ownBlock])
  exact blk_ne h.blk hc (by decide)
theorem MachAt.setOut (h : MachAt w B gm gr cr Ac cc Ai ci vo code m) {v1 : Value} {out1 : List Emit} (hR : kEmit.R 52 w1 B (fun k => B ≤ k) v1 out1) (hg : w.grownBy w1 vo.ownBlock) : MachAt (w1.setCell ⟨gm, 6, none⟩ v1) B gm gr cr Ac cc Ai ci v1 code { m with out := out1 } := by
  have hb := blk_grown h.blk hg (Kd.R_ne h.rows.outs h.blk (by decide))
  exact ⟨blk_put hb 6 _ rfl, h.low, h.capc, h.capi, (h.rows.grown hR hg).machine hb h.low 6 _⟩
theorem MachAt.setReg (h : MachAt w B gm gr cr Ac cc Ai ci vo code m) (i x : Int) : MachAt (w.setCell ⟨gr, i.toNat, none⟩ (.int .i64 x)) B gm gr cr Ac cc Ai ci vo code { m with vm := setReg m.vm i x } :=
  ⟨blk_far h.blk h.ne _, h.low, h.capc, h.capi, h.rows.setReg i x⟩
end
/-- What a step leaves. -/
def StepPost (B gm gr cr : Nat) (Ac : Option Addr) (cc : Nat) (code : List Ins) (m : Mach) (w : World) (e : Ending) (w' : World) : Prop :=
  (∃ Ai ci vo, match step code m with
    | none => e = .returned (.bool false) ∧ MachAt w' B gm gr cr Ac cc Ai ci vo code m
    | some m1 => e = .returned (.bool true) ∧ MachAt w' B gm gr cr Ac cc Ai ci vo code m1) ∧ Below B w w'
theorem StepPost.went {B gm gr cr cc ci : Nat} {Ac Ai : Option Addr} {vo : Value} {code : List Ins} {m m1 : Mach} {w w' : World} (hs : step code m = some m1) (h : MachAt w' B gm gr cr Ac cc Ai ci vo code m1) (hb : Below B w w') :
    StepPost B gm gr cr Ac cc code m w (.returned (.bool true)) w' := ⟨⟨Ai, ci, vo, by rw [hs]; exact ⟨rfl, h⟩⟩, hb⟩
end Go.Proofs.YtifphhkkpadpoaaDoor
