/- The kinds of this seat's plain structures: how they lie in memory. Printed by a small program of the prover's own (gen_kinds.py). -/
import Derived.Test.YtifphhkkpadpoaaDoorKinds
import Derived.Test.YtifphhkkpadpoaaDoorPpair
namespace Go.Proofs.YtifphhkkpadpoaaDoor
open Go.RowKit Go.Proofs.YtifphhkkpadpoaaDoorW.PrintWords
set_option linter.unusedVariables false
def kPAct : Kd PAct := Kd.iso (Kd.pair (Kd.int .i64) (Kd.pair (Kd.int .i64) (Kd.int .i64))) (fun x : PAct => (x.kind, x.who, x.num))
theorem kPAct_open {w : World} {x : PAct} {cs : List Value} (h : kPAct.K w x cs) : cs = [.int .i64 x.kind, .int .i64 x.who, .int .i64 x.num] := by
  obtain ⟨_, _, rfl, rfl, ⟨_, _, rfl, rfl, rfl⟩⟩ := h
  exact rfl
theorem kPAct_mk (w : World) (x : PAct)  : kPAct.K w x [.int .i64 x.kind, .int .i64 x.who, .int .i64 x.num] := by
  exact ⟨[.int .i64 x.kind], [.int .i64 x.who, .int .i64 x.num], rfl, rfl, ⟨[.int .i64 x.who], [.int .i64 x.num], rfl, rfl, rfl⟩⟩
theorem kPAct_get {w : World} {A : Option Addr} {n : Nat} {xs : List PAct} (h : kPAct.C w A n xs) (i : Nat) (hi : i < n) : ∃ ad x, A = some ad ∧ xs[i]? = some x ∧ w.cell? (ad.add (i * 3)) = some (.int .i64 x.kind) ∧ w.cell? ⟨(ad.add (i * 3)).block, (ad.add (i * 3)).off + 1, none⟩ = some (.int .i64 x.who) ∧ w.cell? ⟨(ad.add (i * 3)).block, (ad.add (i * 3)).off + 2, none⟩ = some (.int .i64 x.num) := by
  have hl : i < xs.length := by have := h.1; omega
  obtain ⟨ad, c, e, _, hK, hc0⟩ := Kd.C_get h (xs[i]'hl) (i : Int) (by omega) (by omega)
  simp only [Int.toNat_natCast] at hK hc0
  have hx : xs[i]? = some (xs[i]'hl) := List.getElem?_eq_getElem hl
  rw [List.getD_eq_getElem?_getD, hx, Option.getD_some] at hK
  have hc : ∀ j u, c[j]? = some u → w.cell? (ad.add (i * 3 + j)) = some u := hc0
  obtain rfl := kPAct_open hK
  exact ⟨ad, xs[i]'hl, e, hx, hc 0 _ rfl, by rw [← add_field _ _ 1 (by omega)]; exact hc 1 _ rfl, by rw [← add_field _ _ 2 (by omega)]; exact hc 2 _ rfl⟩
def kNod : Kd Nod := Kd.iso (Kd.pair (Kd.int .i64) (Kd.pair kVm (Kd.pair (Kd.int .i64) (Kd.pair (Kd.slice 52 kEmit) (Kd.int .i64))))) (fun x : Nod => (x.epoch, x.vm, x.read, x.outs, x.sent))
theorem kNod_open {w : World} {x : Nod} {cs : List Value} (h : kNod.K w x cs) : ∃ A2 c2 A6 c6, cs = [.int .i64 x.epoch, .int .i64 x.vm.pc, .slice A2 x.vm.regs.length c2, .bool x.vm.halts, .bool x.vm.fault, .int .i64 x.read, .slice A6 x.outs.length c6, .int .i64 x.sent] ∧ x.vm.regs.length ≤ c2 ∧ (Kd.int .i64).C w A2 x.vm.regs.length x.vm.regs ∧ x.outs.length ≤ c6 ∧ kEmit.C w A6 x.outs.length x.outs := by
  obtain ⟨_, _, rfl, rfl, ⟨_, _, rfl, ⟨_, _, rfl, rfl, ⟨_, _, rfl, ⟨A2, c2, rfl, l2, g2⟩, ⟨_, _, rfl, rfl, rfl⟩⟩⟩, ⟨_, _, rfl, rfl, ⟨_, _, rfl, ⟨A6, c6, rfl, l6, g6⟩, rfl⟩⟩⟩⟩ := h
  exact ⟨A2, c2, A6, c6, rfl, l2, g2, l6, g6⟩
theorem kNod_mk (w : World) (x : Nod) {A2 : Option Addr} {c2 : Nat} (l2 : x.vm.regs.length ≤ c2) (g2 : (Kd.int .i64).C w A2 x.vm.regs.length x.vm.regs) {A6 : Option Addr} {c6 : Nat} (l6 : x.outs.length ≤ c6) (g6 : kEmit.C w A6 x.outs.length x.outs) : kNod.K w x [.int .i64 x.epoch, .int .i64 x.vm.pc, .slice A2 x.vm.regs.length c2, .bool x.vm.halts, .bool x.vm.fault, .int .i64 x.read, .slice A6 x.outs.length c6, .int .i64 x.sent] := by
  exact ⟨[.int .i64 x.epoch], [.int .i64 x.vm.pc, .slice A2 x.vm.regs.length c2, .bool x.vm.halts, .bool x.vm.fault, .int .i64 x.read, .slice A6 x.outs.length c6, .int .i64 x.sent], rfl, rfl, ⟨[.int .i64 x.vm.pc, .slice A2 x.vm.regs.length c2, .bool x.vm.halts, .bool x.vm.fault], [.int .i64 x.read, .slice A6 x.outs.length c6, .int .i64 x.sent], rfl, ⟨[.int .i64 x.vm.pc], [.slice A2 x.vm.regs.length c2, .bool x.vm.halts, .bool x.vm.fault], rfl, rfl, ⟨[.slice A2 x.vm.regs.length c2], [.bool x.vm.halts, .bool x.vm.fault], rfl, ⟨A2, c2, rfl, l2, g2⟩, ⟨[.bool x.vm.halts], [.bool x.vm.fault], rfl, rfl, rfl⟩⟩⟩, ⟨[.int .i64 x.read], [.slice A6 x.outs.length c6, .int .i64 x.sent], rfl, rfl, ⟨[.slice A6 x.outs.length c6], [.int .i64 x.sent], rfl, ⟨A6, c6, rfl, l6, g6⟩, rfl⟩⟩⟩⟩
theorem kNod_get {w : World} {A : Option Addr} {n : Nat} {xs : List Nod} (h : kNod.C w A n xs) (i : Nat) (hi : i < n) : ∃ ad x A2 c2 A6 c6, A = some ad ∧ xs[i]? = some x ∧ w.cell? (ad.add (i * 8)) = some (.int .i64 x.epoch) ∧ w.cell? ⟨(ad.add (i * 8)).block, (ad.add (i * 8)).off + 1, none⟩ = some (.int .i64 x.vm.pc) ∧ w.cell? ⟨(ad.add (i * 8)).block, (ad.add (i * 8)).off + 2, none⟩ = some (.slice A2 x.vm.regs.length c2) ∧ w.cell? ⟨(ad.add (i * 8)).block, (ad.add (i * 8)).off + 3, none⟩ = some (.bool x.vm.halts) ∧ w.cell? ⟨(ad.add (i * 8)).block, (ad.add (i * 8)).off + 4, none⟩ = some (.bool x.vm.fault) ∧ w.cell? ⟨(ad.add (i * 8)).block, (ad.add (i * 8)).off + 5, none⟩ = some (.int .i64 x.read) ∧ w.cell? ⟨(ad.add (i * 8)).block, (ad.add (i * 8)).off + 6, none⟩ = some (.slice A6 x.outs.length c6) ∧ w.cell? ⟨(ad.add (i * 8)).block, (ad.add (i * 8)).off + 7, none⟩ = some (.int .i64 x.sent) ∧ x.vm.regs.length ≤ c2 ∧ (Kd.int .i64).C w A2 x.vm.regs.length x.vm.regs ∧ x.outs.length ≤ c6 ∧ kEmit.C w A6 x.outs.length x.outs := by
  have hl : i < xs.length := by have := h.1; omega
  obtain ⟨ad, c, e, _, hK, hc0⟩ := Kd.C_get h (xs[i]'hl) (i : Int) (by omega) (by omega)
  simp only [Int.toNat_natCast] at hK hc0
  have hx : xs[i]? = some (xs[i]'hl) := List.getElem?_eq_getElem hl
  rw [List.getD_eq_getElem?_getD, hx, Option.getD_some] at hK
  have hc : ∀ j u, c[j]? = some u → w.cell? (ad.add (i * 8 + j)) = some u := hc0
  obtain ⟨A2, c2, A6, c6, rfl, l2, g2, l6, g6⟩ := kNod_open hK
  exact ⟨ad, xs[i]'hl, A2, c2, A6, c6, e, hx, hc 0 _ rfl, by rw [← add_field _ _ 1 (by omega)]; exact hc 1 _ rfl, by rw [← add_field _ _ 2 (by omega)]; exact hc 2 _ rfl, by rw [← add_field _ _ 3 (by omega)]; exact hc 3 _ rfl, by rw [← add_field _ _ 4 (by omega)]; exact hc 4 _ rfl, by rw [← add_field _ _ 5 (by omega)]; exact hc 5 _ rfl, by rw [← add_field _ _ 6 (by omega)]; exact hc 6 _ rfl, by rw [← add_field _ _ 7 (by omega)]; exact hc 7 _ rfl, l2, g2, l6, g6⟩
end Go.Proofs.YtifphhkkpadpoaaDoor
