/- The walk of slices.Clone at []api.Emit. Printed by gen_slices.py. -/
import Derived.Test.YtifphhkkpadpoaaDoorVmB
import Derived.Test.YtifphhkkpadpoaaDoorVmC
import Derived.Test.YtifphhkkpadpoaaDoorKinds
namespace Go.Proofs.YtifphhkkpadpoaaDoor
open Go.RowKit Go.Proofs.YtifphhkkpadpoaaDoorW.PrintWords
set_option linter.unusedVariables false
set_option linter.unusedSimpArgs false
theorem info_Emit : (Tryd.prog.info? 52).map (fun i => (i.zero, i.size, i.bytes)) = some (some (.agg #[.int .i64 0, .int .i64 0]), (kEmit).sz, 16) := by kernel_rfl
set_option maxRecDepth 100000 in
set_option maxHeartbeats 4000000 in
theorem clone_Emit (A : Option Addr) (c : Nat) (xs : List _) (w : World) (hC : (kEmit).C w A xs.length xs) (hb : xs.length * 16 ≤ 140737488355328) :
    Calls Tryd.prog 90 #[.slice A xs.length c] w (Fresh (kEmit) 52 w xs) := by
  have HC := Aside0.mk hC
  have HL := Aside0.mk hb
  clear hC hb
  have he := fun W => Lib.run_eql_slice_nil (P := Tryd.prog) W 47 52 A xs.length c 0 0 Tryd.underlying47
  rcases A with _ | ad <;> simp only [Option.isNone_none, Option.isNone_some] at he
  · have h0 : xs = [] := by
      rcases xs with _ | ⟨x, r⟩
      · rfl
      · obtain ⟨ad, h, _⟩ := HC.out.2.2 (by simp)
        cases h
    subst h0
    simp only [List.length_nil] at he ⊢
    go_enter Tryd.func90, Tryd.ntmps90
    go_wp2
    go_ret
    exact ⟨_, rfl, Kd.R_nil _ _ _ _ _, Below.refl _ _⟩
  · go_enter Tryd.func90, Tryd.ntmps90
    go_wp2_with (at_builtin; refine Kd.R_append_rows (kEmit) (Rr := (kEmit).K w) (w0 := w) w.heap.size rfl (.tmp 5) (.tmp 6) 47 52 (.agg #[.int .i64 0, .int .i64 0]) 16 rfl Tryd.underlying47 info_Emit rfl (by decide) (by decide) _ [] xs (some ad) xs.length c (fun k => w.heap.size ≤ k) (fun _ => False) rfl rfl (R_empty _ _ _ _ _ (Nat.le_refl _) (Nat.le_refl _)) (HC.out.imp_ (below_alloc (Below.refl _ _) _) (fun _ _ h => h)) (fun _ _ h => h) (fun _ h => h.elim) (fun k hk => by simp at hk; omega) ((Below.refl _ _).alloc (Nat.le_refl _) _) (by simp) (by simpa using HL.out) ?_; intro v1 w1 hR hB hg hat; have HR := Aside0.mk hR; have HB := Aside0.mk hB; clear hR hB hg hat)
    go_ret
    exact ⟨_, rfl, by simpa using HR.out, HB.out⟩
end Go.Proofs.YtifphhkkpadpoaaDoor
