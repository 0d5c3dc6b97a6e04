/- General lemmas of this seat's walks: endings, frames. -/
import Derived.Test.YtifphhkkpadpoaaDoorProg
import Derived.WalkKit
import Derived.KernelRfl
import Derived.Deep.QuietTactic
import Derived.BigQuiet
import Derived.BigRegion
import Derived.Outline
import Derived.Deep.RegionHeld3
import Derived.StillTailTactics
import Derived.Deep.RegionLaw
import Derived.Deep.AppendLies
import Derived.WalkSpells
import Derived.WalkLawsBesides
import Derived.Laws.EntriesVeiled
import Derived.Test.YtifphhkkpadpoaaDoorWWords
import Derived.Test.YtifphhkkpadpoaaDoorPvm
namespace Go.Proofs.YtifphhkkpadpoaaDoor
open Go.RowKit Go.Proofs.YtifphhkkpadpoaaDoorW.PrintWords
theorem ret_bool {a b : Bool} (h : a = b) : Ending.returned (.bool a) = Ending.returned (.bool b) := by rw [h]
theorem ret_int {k : IntKind} {a b : Int} (h : a = b) : Ending.returned (.int k a) = Ending.returned (.int k b) := by rw [h]
theorem w32_is (n : Int) : wrap32 n = w32 n := by unfold wrap32 w32; rfl
theorem is32_wrap (b : Int) : (b == wrap64 (wrap32 b)) = is32 b := by
  rw [Bool.eq_iff_iff]
  unfold is32
  rw [beq_iff_eq, Bool.and_eq_true, decide_eq_true_eq, decide_eq_true_eq]
  unfold wrap64 wrap32
  omega
/-- What is below the heap's size, and none of S, is as it was; the streams too. -/
structure Only (S : Nat → Prop) (w w' : World) : Prop where
  os : w'.os = w.os
  tape : w'.tape = w.tape
  output : w'.output = w.output
  size : w.heap.size ≤ w'.heap.size
  block : ∀ k, k < w.heap.size → ¬ S k → w'.heap[k]? = w.heap[k]?
section
variable {S S' : Nat → Prop} {w w1 w2 : World}
theorem Only.refl (S : Nat → Prop) (w : World) : Only S w w := ⟨rfl, rfl, rfl, Nat.le_refl _, fun _ _ _ => rfl⟩
theorem Only.mono (h : Only S w w1) (hs : ∀ k, S k → S' k) : Only S' w w1 := ⟨h.os, h.tape, h.output, h.size, fun k hk hn => h.block k hk (fun x => hn (hs k x))⟩
theorem Only.trans (h : Only S w w1) (k : Only S w1 w2) : Only S w w2 :=
  ⟨k.os.trans h.os, k.tape.trans h.tape, k.output.trans h.output, Nat.le_trans h.size k.size, fun i hi hn => (k.block i (Nat.lt_of_lt_of_le hi h.size) hn).trans (h.block i hi hn)⟩
/-- What is written in the second step is of S, or new since the first world. -/
theorem Only.then_ (h : Only S w w1) (k : Only S' w1 w2) (hs : ∀ k, S' k → S k ∨ w.heap.size ≤ k) : Only S w w2 :=
  ⟨k.os.trans h.os, k.tape.trans h.tape, k.output.trans h.output, Nat.le_trans h.size k.size, fun i hi hn => (k.block i (Nat.lt_of_lt_of_le hi h.size) (fun x => by
    rcases hs i x with y | y
    · exact hn y
    · omega)).trans (h.block i hi hn)⟩
theorem Only.of_below (h : Below w.heap.size w w1) (S : Nat → Prop) : Only S w w1 := ⟨h.os, h.tape, h.output, h.size, fun k hk _ => h.block k hk⟩
theorem Only.below (h : Only S w w1) (hs : ∀ k, S k → w.heap.size ≤ k) : Below w.heap.size w w1 := ⟨h.os, h.tape, h.output, h.size, fun k hk => h.block k hk (fun x => by have := hs k x; omega)⟩
theorem Only.alloc (h : Only S w w1) (o : Obj) : Only S w (w1.alloc o) := h.trans (Only.of_below (below_alloc (Below.refl _ _) o) S)
theorem Only.drew (h : Only S w w1) : Only S w w1.drew := ⟨h.os, h.tape, h.output, h.size, h.block⟩
theorem Only.drewN (h : Only S w w1) (n : Nat) : Only S w (w1.drewN n) := ⟨h.os, h.tape, h.output, h.size, h.block⟩
theorem Only.setCell (h : Only S w w1) {p : Addr} (hp : S p.block ∨ w.heap.size ≤ p.block) (u : Value) : Only S w (w1.setCell p u) :=
  ⟨h.os, h.tape, h.output, by simpa [World.setCell] using h.size, fun k hk hn => (Below.heap_setCell w1 p u k (fun e => by
    subst e
    rcases hp with hp | hp
    · exact hn hp
    · omega)).trans (h.block k hk hn)⟩
theorem Only.grown (h : Only S w w1) {row : Option Nat} (hg : w1.grownBy w2 row) (hr : ∀ k, row = some k → S k ∨ w.heap.size ≤ k) : Only S w w2 :=
  ⟨hg.os.trans h.os, hg.tape.trans h.tape, hg.output.trans h.output, Nat.le_trans h.size hg.size, fun k hk hn => (hg.block k (Nat.lt_of_lt_of_le hk h.size) (fun e => by
    rcases hr k e.symm with y | y
    · exact hn y
    · omega)).trans (h.block k hk hn)⟩
theorem Only.at_ (h : Only S w w1) {g : Nat} {o : Obj} (hb : w.heap[g]? = some o) (hn : ¬ S g) : w1.heap[g]? = some o := (h.block g (blk_lt hb) hn).trans hb
theorem Only.of_grown {row : Option Nat} (hg : w.grownBy w1 row) : Only (fun k => some k = row) w w1 := ⟨hg.os, hg.tape, hg.output, hg.size, fun k hk hn => hg.block k hk hn⟩
theorem Only.cell (h : Only S w w1) {a : Addr} {v : Value} (hc : w.cell? a = some v) (hn : ¬ S a.block) : w1.cell? a = some v :=
  (World.cell?_of_block (w := w) (h.block a.block (World.block_lt_of_cell? w a hc) hn)).trans hc
end
/-- P holds in W, and in every later world in which the blocks of ok are as they are in W. -/
def Keeps (P : World → Prop) (W : World) (ok : Nat → Prop) : Prop := ∀ W', Only (fun k => ¬ ok k) W W' → P W'
section
variable {P Q : World → Prop} {W W1 : World} {ok ok' S : Nat → Prop}
theorem Keeps.now (h : Keeps P W ok) : P W := h W (Only.refl _ _)
theorem Keeps.mono (h : Keeps P W ok) (hok : ∀ k, ok k → ok' k) : Keeps P W ok' := fun W' hW => h W' (hW.mono (fun k hn hk => hn (hok k hk)))
theorem Keeps.bound (h : Keeps P W ok) : Keeps P W (fun k => ok k ∧ k < W.heap.size) := fun W' hW => h W' ⟨hW.os, hW.tape, hW.output, hW.size, fun k hk hn => hW.block k hk (fun hx => hx ⟨Classical.byContradiction hn, hk⟩)⟩
theorem Keeps.step (h : Keeps P W ok) (ho : Only S W W1) (hd : ∀ k, ok k → k < W.heap.size → ¬ S k) : Keeps P W1 ok := fun W' hW => h W' ⟨hW.os.trans ho.os, hW.tape.trans ho.tape, hW.output.trans ho.output, Nat.le_trans ho.size hW.size, fun k hk hn => by
  have hk' := Classical.byContradiction hn
  exact (hW.block k (Nat.lt_of_lt_of_le hk ho.size) (fun hx => hx hk')).trans (ho.block k hk (hd k hk' hk))⟩
theorem Keeps.below (h : Keeps P W ok) (hb : Below W.heap.size W W1) : Keeps P W1 ok := h.step (Only.of_below hb (fun _ => False)) (fun _ _ _ hx => hx)
theorem Keeps.imp (h : Keeps P W ok) (hi : ∀ W', P W' → Q W') : Keeps Q W ok := fun W' hW => hi W' (h W' hW)
/-- What came in. -/
theorem Keeps.came {α : Type} {d : Kd α} {A : Option Addr} {n : Nat} {xs : List α} (h : d.C W A n xs) : Keeps (fun W => d.C W A n xs) W (fun k => k < W.heap.size) := fun _ hW =>
  Kd.C_below h ⟨hW.os, hW.tape, hW.output, hW.size, fun k hk => hW.block k hk (fun hx => hx hk)⟩
/-- A row of the call's own. -/
theorem Keeps.row {α : Type} {d : Kd α} {E base n c : Nat} {A : Option Addr} {xs : List α} (h : d.R E W base ok (.slice A n c) xs) : Keeps (fun W => d.C W A n xs) W ok := fun W' hW => by
  obtain ⟨A', c', he, _, hC⟩ := Kd.R_reads (Kd.R_step h (fun k hk hlt => hW.block k hlt (fun hx => hx hk)))
  injection he with h1 h2 h3
  subst h1; subst h2
  exact hC
end
end Go.Proofs.YtifphhkkpadpoaaDoor
