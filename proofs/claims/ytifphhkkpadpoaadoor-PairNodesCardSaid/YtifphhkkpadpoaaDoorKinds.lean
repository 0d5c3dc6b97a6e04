/- The kinds of this seat's plain structures: how they lie in memory. Printed by a small program of the prover's own (gen_kinds.py). -/
import Derived.Test.YtifphhkkpadpoaaDoorLib
namespace Go.Proofs.YtifphhkkpadpoaaDoor
open Go.RowKit Go.Proofs.YtifphhkkpadpoaaDoorW.PrintWords
set_option linter.unusedVariables false
def kIns : Kd Ins := Kd.iso (Kd.pair (Kd.int .i64) (Kd.pair (Kd.int .i64) (Kd.int .i64))) (fun x : Ins => (x.code, x.a, x.b))
theorem kIns_open {w : World} {x : Ins} {cs : List Value} (h : kIns.K w x cs) : cs = [.int .i64 x.code, .int .i64 x.a, .int .i64 x.b] := by
  obtain ⟨_, _, rfl, rfl, ⟨_, _, rfl, rfl, rfl⟩⟩ := h
  exact rfl
theorem kIns_mk (w : World) (x : Ins)  : kIns.K w x [.int .i64 x.code, .int .i64 x.a, .int .i64 x.b] := by
  exact ⟨[.int .i64 x.code], [.int .i64 x.a, .int .i64 x.b], rfl, rfl, ⟨[.int .i64 x.a], [.int .i64 x.b], rfl, rfl, rfl⟩⟩
theorem kIns_get {w : World} {A : Option Addr} {n : Nat} {xs : List Ins} (h : kIns.C w A n xs) (i : Nat) (hi : i < n) : ∃ ad x, A = some ad ∧ xs[i]? = some x ∧ w.cell? (ad.add (i * 3)) = some (.int .i64 x.code) ∧ w.cell? ⟨(ad.add (i * 3)).block, (ad.add (i * 3)).off + 1, none⟩ = some (.int .i64 x.a) ∧ w.cell? ⟨(ad.add (i * 3)).block, (ad.add (i * 3)).off + 2, none⟩ = some (.int .i64 x.b) := by
  have hl : i < xs.length := by have := h.1; omega
  obtain ⟨ad, c, e, _, hK, hc0⟩ := Kd.C_get h (xs[i]'hl) (i : Int) (by omega) (by omega)
  simp only [Int.toNat_natCast] at hK hc0
  have hx : xs[i]? = some (xs[i]'hl) := List.getElem?_eq_getElem hl
  rw [List.getD_eq_getElem?_getD, hx, Option.getD_some] at hK
  have hc : ∀ j u, c[j]? = some u → w.cell? (ad.add (i * 3 + j)) = some u := hc0
  obtain rfl := kIns_open hK
  exact ⟨ad, xs[i]'hl, e, hx, hc 0 _ rfl, by rw [← add_field _ _ 1 (by omega)]; exact hc 1 _ rfl, by rw [← add_field _ _ 2 (by omega)]; exact hc 2 _ rfl⟩
def kEmit : Kd Emit := Kd.iso (Kd.pair (Kd.int .i64) (Kd.int .i64)) (fun x : Emit => (x.port, x.num))
theorem kEmit_open {w : World} {x : Emit} {cs : List Value} (h : kEmit.K w x cs) : cs = [.int .i64 x.port, .int .i64 x.num] := by
  obtain ⟨_, _, rfl, rfl, rfl⟩ := h
  exact rfl
theorem kEmit_mk (w : World) (x : Emit)  : kEmit.K w x [.int .i64 x.port, .int .i64 x.num] := by
  exact ⟨[.int .i64 x.port], [.int .i64 x.num], rfl, rfl, rfl⟩
theorem kEmit_get {w : World} {A : Option Addr} {n : Nat} {xs : List Emit} (h : kEmit.C w A n xs) (i : Nat) (hi : i < n) : ∃ ad x, A = some ad ∧ xs[i]? = some x ∧ w.cell? (ad.add (i * 2)) = some (.int .i64 x.port) ∧ w.cell? ⟨(ad.add (i * 2)).block, (ad.add (i * 2)).off + 1, none⟩ = some (.int .i64 x.num) := by
  have hl : i < xs.length := by have := h.1; omega
  obtain ⟨ad, c, e, _, hK, hc0⟩ := Kd.C_get h (xs[i]'hl) (i : Int) (by omega) (by omega)
  simp only [Int.toNat_natCast] at hK hc0
  have hx : xs[i]? = some (xs[i]'hl) := List.getElem?_eq_getElem hl
  rw [List.getD_eq_getElem?_getD, hx, Option.getD_some] at hK
  have hc : ∀ j u, c[j]? = some u → w.cell? (ad.add (i * 2 + j)) = some u := hc0
  obtain rfl := kEmit_open hK
  exact ⟨ad, xs[i]'hl, e, hx, hc 0 _ rfl, by rw [← add_field _ _ 1 (by omega)]; exact hc 1 _ rfl⟩
def kVm : Kd Vm := Kd.iso (Kd.pair (Kd.int .i64) (Kd.pair (Kd.slice 3 (Kd.int .i64)) (Kd.pair Kd.bool Kd.bool))) (fun x : Vm => (x.pc, x.regs, x.halts, x.fault))
theorem kVm_open {w : World} {x : Vm} {cs : List Value} (h : kVm.K w x cs) : ∃ A1 c1, cs = [.int .i64 x.pc, .slice A1 x.regs.length c1, .bool x.halts, .bool x.fault] ∧ x.regs.length ≤ c1 ∧ (Kd.int .i64).C w A1 x.regs.length x.regs := by
  obtain ⟨_, _, rfl, rfl, ⟨_, _, rfl, ⟨A1, c1, rfl, l1, g1⟩, ⟨_, _, rfl, rfl, rfl⟩⟩⟩ := h
  exact ⟨A1, c1, rfl, l1, g1⟩
theorem kVm_mk (w : World) (x : Vm) {A1 : Option Addr} {c1 : Nat} (l1 : x.regs.length ≤ c1) (g1 : (Kd.int .i64).C w A1 x.regs.length x.regs) : kVm.K w x [.int .i64 x.pc, .slice A1 x.regs.length c1, .bool x.halts, .bool x.fault] := by
  exact ⟨[.int .i64 x.pc], [.slice A1 x.regs.length c1, .bool x.halts, .bool x.fault], rfl, rfl, ⟨[.slice A1 x.regs.length c1], [.bool x.halts, .bool x.fault], rfl, ⟨A1, c1, rfl, l1, g1⟩, ⟨[.bool x.halts], [.bool x.fault], rfl, rfl, rfl⟩⟩⟩
theorem kVm_get {w : World} {A : Option Addr} {n : Nat} {xs : List Vm} (h : kVm.C w A n xs) (i : Nat) (hi : i < n) : ∃ ad x A1 c1, A = some ad ∧ xs[i]? = some x ∧ w.cell? (ad.add (i * 4)) = some (.int .i64 x.pc) ∧ w.cell? ⟨(ad.add (i * 4)).block, (ad.add (i * 4)).off + 1, none⟩ = some (.slice A1 x.regs.length c1) ∧ w.cell? ⟨(ad.add (i * 4)).block, (ad.add (i * 4)).off + 2, none⟩ = some (.bool x.halts) ∧ w.cell? ⟨(ad.add (i * 4)).block, (ad.add (i * 4)).off + 3, none⟩ = some (.bool x.fault) ∧ x.regs.length ≤ c1 ∧ (Kd.int .i64).C w A1 x.regs.length x.regs := by
  have hl : i < xs.length := by have := h.1; omega
  obtain ⟨ad, c, e, _, hK, hc0⟩ := Kd.C_get h (xs[i]'hl) (i : Int) (by omega) (by omega)
  simp only [Int.toNat_natCast] at hK hc0
  have hx : xs[i]? = some (xs[i]'hl) := List.getElem?_eq_getElem hl
  rw [List.getD_eq_getElem?_getD, hx, Option.getD_some] at hK
  have hc : ∀ j u, c[j]? = some u → w.cell? (ad.add (i * 4 + j)) = some u := hc0
  obtain ⟨A1, c1, rfl, l1, g1⟩ := kVm_open hK
  exact ⟨ad, xs[i]'hl, A1, c1, e, hx, hc 0 _ rfl, by rw [← add_field _ _ 1 (by omega)]; exact hc 1 _ rfl, by rw [← add_field _ _ 2 (by omega)]; exact hc 2 _ rfl, by rw [← add_field _ _ 3 (by omega)]; exact hc 3 _ rfl, l1, g1⟩
end Go.Proofs.YtifphhkkpadpoaaDoor
