/- The walks of slices.Clone at []int, and vm.New. -/
import Derived.Test.YtifphhkkpadpoaaDoorKinds
import Derived.Lib.SliceRun
namespace Go.Proofs.YtifphhkkpadpoaaDoor
open Go.RowKit Go.Proofs.YtifphhkkpadpoaaDoorW.PrintWords
set_option linter.unusedVariables false
/-- A new row of the call's own, of what xs says; nothing that was there has turned. -/
def Fresh {α : Type} (d : Kd α) (E : Nat) (w : World) (xs : List α) (e : Ending) (w' : World) : Prop :=
  ∃ v, e = .returned v ∧ d.R E w' w.heap.size (fun k => w.heap.size ≤ k) v xs ∧ Below w.heap.size w w'
/-- 'S([]E{})': a row of no element. -/
theorem R_empty {α : Type} (d : Kd α) (E : Nat) (w : World) (base : Nat) (ok : Nat → Prop) (hb : base ≤ w.heap.size) (hok : ok w.heap.size) : d.R E (w.alloc (.cells #[] E)) base ok (.slice (some ⟨w.heap.size, 0, none⟩) 0 0) [] := by
  refine ⟨fun k hk => ?_, [], ?_, by simp, fun j p h => by simp at h⟩
  · have : w.heap.size = k := by simpa [Value.ownBlock] using hk
    rw [← this]; exact hok
  · have h := World.ownsRow_lit (base := base) (e := E) (size := d.sz) w #[] 0 hb (by simp [maxLen]) (by simp)
    simpa using h
theorem info_int : (Tryd.prog.info? 3).map (fun i => (i.zero, i.size, i.bytes)) = some (some (.int .i64 0), 1, 8) := by kernel_rfl
set_option maxRecDepth 100000 in
set_option maxHeartbeats 4000000 in
theorem clone_int (A : Option Addr) (c : Nat) (xs : List Int) (w : World) (hC : (Kd.int .i64).C w A xs.length xs) (hb : xs.length * 8 ≤ 140737488355328) :
    Calls Tryd.prog 42 #[.slice A xs.length c] w (Fresh (Kd.int .i64) 3 w xs) := by
  have HC := Aside0.mk hC
  have HL := Aside0.mk hb
  clear hC hb
  have he := fun W => Lib.run_eql_slice_nil (P := Tryd.prog) W 24 3 A xs.length c 0 0 Tryd.underlying24
  rcases A with _ | ad <;> simp only [Option.isNone_none, Option.isNone_some] at he
  · have h0 : xs = [] := by
      rcases xs with _ | ⟨x, r⟩
      · rfl
      · obtain ⟨ad, h, _⟩ := HC.out.2.2 (by simp)
        cases h
    subst h0
    simp only [List.length_nil] at he ⊢
    go_enter Tryd.func42, Tryd.ntmps42
    go_wp2
    go_ret
    exact ⟨_, rfl, Kd.R_nil _ _ _ _ _, Below.refl _ _⟩
  · go_enter Tryd.func42, Tryd.ntmps42
    go_wp2_with (at_builtin; refine Kd.R_append_rows (Kd.int .i64) (Rr := (Kd.int .i64).K w) (w0 := w) w.heap.size rfl (.tmp 5) (.tmp 6) 24 3 (.int .i64 0) 8 rfl Tryd.underlying24 info_int rfl (by decide) (by decide) _ [] xs (some ad) xs.length c (fun k => w.heap.size ≤ k) (fun _ => False) rfl rfl (R_empty _ _ _ _ _ (Nat.le_refl _) (Nat.le_refl _)) (HC.out.imp_ (below_alloc (Below.refl _ _) _) (fun _ _ h => h)) (fun _ _ h => h) (fun _ h => h.elim) (fun k hk => by simp at hk; omega) ((Below.refl _ _).alloc (Nat.le_refl _) _) (by simp) (by simpa using HL.out) ?_; intro v1 w1 hR hB hg hat; have HR := Aside0.mk hR; have HB := Aside0.mk hB; clear hR hB hg hat)
    go_ret
    exact ⟨_, rfl, by simpa using HR.out, HB.out⟩
/-- The same row, its block's number spelled otherwise. -/
theorem R_at {α : Type} {d : Kd α} {E base n c g g' : Nat} {w : World} {ok : Nat → Prop} {xs : List α} (e : g = g') (h : d.R E w base ok (.slice (some ⟨g, 0, none⟩) n c) xs) : d.R E w base ok (.slice (some ⟨g', 0, none⟩) n c) xs := e ▸ h
def NewPost (w : World) (e : Ending) (w' : World) : Prop :=
  ∃ A c, e = .returned (.agg #[.int .i64 0, .slice A 8 c, .bool false, .bool false]) ∧ 8 ≤ c ∧ Keeps (fun W => (Kd.int .i64).C W A 8 (List.replicate 8 0)) w' (fun k => w.heap.size ≤ k) ∧ Below w.heap.size w w'
theorem zeros8 (w : World) (base : Nat) (ok : Nat → Prop) (hb : base ≤ w.heap.size) (hok : ok w.heap.size) : (Kd.int .i64).R 3 (w.alloc (.cells #[.int .i64 0, .int .i64 0, .int .i64 0, .int .i64 0, .int .i64 0, .int .i64 0, .int .i64 0, .int .i64 0] 3)) base ok (.slice (some ⟨w.heap.size, 0, none⟩) 8 8) (List.replicate 8 0) := by
  refine Kd.R_of_own (own_lit w base 3 .i64 (List.replicate 8 0) hb (by simp)) (fun k hk => ?_)
  have : w.heap.size = k := by simpa [Value.ownBlock] using hk
  rw [← this]; exact hok
set_option maxRecDepth 100000 in
set_option maxHeartbeats 4000000 in
theorem new_calls (w : World) : Calls Tryd.prog 20 #[] w (NewPost w) := by
  have hmk : ∀ W : World, (Instr.makeSlice 24 (.int .i64 8) (.int .i64 8)).run Tryd.prog W = .ok (.slice (some ⟨W.heap.size, 0, none⟩) 8 8) (W.alloc (.cells #[.int .i64 0, .int .i64 0, .int .i64 0, .int .i64 0, .int .i64 0, .int .i64 0, .int .i64 0, .int .i64 0] 3)) := fun _ => by kernel_rfl
  go_enter Tryd.func20, Tryd.ntmps20
  go_wp2
  refine bodyPost_ret (v := .agg #[.int .i64 0, .slice (some ⟨w.heap.size + 1, 0, none⟩) 8 8, .bool false, .bool false]) (by simp [results, Tryd.results20, go_sem]) rfl ?_
  refine ⟨_, 8, rfl, Nat.le_refl _, ?_, ?_⟩
  · exact Keeps.row (R_at (by simp) (zeros8 (w.alloc _) 0 (fun k => w.heap.size ≤ k) (Nat.zero_le _) (by simp)))
  · exact ((Below.refl _ _).alloc (Nat.le_refl _) _).alloc (by simp) _
end Go.Proofs.YtifphhkkpadpoaaDoor
