/- The walks of slices.IndexFunc, ContainsFunc and Clone at []string. Printed by gen_slices.py. -/
import Derived.Test.YtifphhkkpadpoaaDoorVmB
import Derived.Test.YtifphhkkpadpoaaDoorVmC
namespace Go.Proofs.YtifphhkkpadpoaaDoor
open Go.RowKit Go.Proofs.YtifphhkkpadpoaaDoorW.PrintWords
set_option linter.unusedVariables false
set_option linter.unusedSimpArgs false
/-- A function value that answers like p, whatever has been laid meanwhile. -/
structure AnswersStr (w : World) (F : Nat) (p : ByteArray → Bool) (xs : List ByteArray) : Prop where
  run : ∀ (x : ByteArray) (W : World), (callFunc F #[.string x]).run Tryd.prog W = .ok (.enter F #[.string x]) W
  calls : ∀ (x : ByteArray) (W : World), x ∈ xs → Below w.heap.size w W → Calls Tryd.prog F #[.string x] W fun e w' => e = .returned (.bool (p x)) ∧ Below W.heap.size W w'
set_option maxRecDepth 100000 in
set_option maxHeartbeats 4000000 in
theorem indexFunc_str (F : Nat) (p : ByteArray → Bool) (A : Option Addr) (c : Nat) (xs : List ByteArray) (w : World) (hp : AnswersStr w F p xs) (hC : Kd.string.C w A xs.length xs) :
    Calls Tryd.prog 75 #[.slice A xs.length c, .func (.func F) #[] #[]] w fun e w' => e = .returned (.int .i64 (idxOf p xs)) ∧ Below w.heap.size w w' := by
  have hF := hp.run
  have HP := Aside0.mk hp
  have HC := Aside0.mk hC
  have hlen := hC.2.1
  clear hp hC
  go_enter Tryd.func75, Tryd.ntmps75
  go_wp2
  go_loopw [8] (fun i wr => ∃ k : Nat, k ≤ xs.length ∧ i = .int .i64 k ∧ Aside0 (∀ j x, j < k → xs[j]? = some x → p x = false) ∧ Aside0 (Below w.heap.size w wr)) (fun i _ => xs.length - (intOf i).toNat)
  case atStart => exact ⟨0, Nat.zero_le _, rfl, ⟨fun j x hj => absurd hj (Nat.not_lt_zero _)⟩, ⟨Below.refl _ _⟩⟩
  case round =>
    obtain ⟨k, hk, rfl, HN, HB⟩ := hrel
    by_cases hlt : k < xs.length
    · obtain ⟨ad, e, hx⟩ := Kd.at_string HC.out (k : Int) (by omega) (by omega)
      cases e
      replace hx := (HB.out.cell (World.block_lt_of_cell? w _ hx)).trans hx
      obtain ⟨y, HY⟩ : ∃ y, Aside0 (xs[k]? = some y) := ⟨xs[k], ⟨List.getElem?_eq_getElem hlt⟩⟩
      rw [show rdOf ByteArray.empty xs (k : Int) = y by have := HY.out; simp [rdOf, List.getD_eq_getElem?_getD, this]] at hx
      simp only [Int.toNat_natCast] at hx
      have hmem : y ∈ xs := List.mem_of_getElem? HY.out
      go_wp2_with fail
      refine (HP.out.calls y wr hmem HB.out).mono ?_
      rintro e w' ⟨rfl, hb⟩
      have HB2 := Aside0.mk (below_then HB.out HB.out.size hb)
      clear hb
      cases hpy : p y
      · go_wp2
        go_roundw
        case rel => exact ⟨k + 1, by omega, by go_num, ⟨fun j x hj hz => by
          rcases Nat.lt_or_ge j k with h | h
          · exact HN.out j x h hz
          · obtain rfl : j = k := by omega
            rw [HY.out] at hz
            injection hz with hz
            rw [← hz]; exact hpy⟩, HB2⟩
        case measure => simp [intOf]; omega
      · go_wp2
        go_ret
        exact ⟨ret_int (idxOf_hit HY.out (fun j x hj hx => HN.out j x hj hx) hpy).symm, HB2.out⟩
    · go_wp2
      go_ret
      exact ⟨ret_int (idxOf_miss (fun j x hj hx => HN.out j x (by omega) hx)).symm, HB.out⟩
set_option maxRecDepth 100000 in
set_option maxHeartbeats 4000000 in
theorem containsFunc_str (F : Nat) (p : ByteArray → Bool) (A : Option Addr) (c : Nat) (xs : List ByteArray) (w : World) (hp : AnswersStr w F p xs) (hC : Kd.string.C w A xs.length xs) :
    Calls Tryd.prog 119 #[.slice A xs.length c, .func (.func F) #[] #[]] w fun e w' => e = .returned (.bool (xs.any p)) ∧ Below w.heap.size w w' := by
  have H := Aside0.mk (indexFunc_str F p A c xs w hp hC)
  clear hp hC
  go_enter Tryd.func119, Tryd.ntmps119
  go_wp2_with fail
  refine H.out.mono ?_
  rintro e w' ⟨rfl, hb⟩
  go_wp2
  go_ret
  exact ⟨ret_bool (idxOf_any p xs), hb⟩
theorem info_string : (Tryd.prog.info? 9).map (fun i => (i.zero, i.size, i.bytes)) = some (some (.string ⟨#[]⟩), (Kd.string).sz, 16) := by kernel_rfl
set_option maxRecDepth 100000 in
set_option maxHeartbeats 4000000 in
theorem clone_string (A : Option Addr) (c : Nat) (xs : List _) (w : World) (hC : (Kd.string).C w A xs.length xs) (hb : xs.length * 16 ≤ 140737488355328) :
    Calls Tryd.prog 108 #[.slice A xs.length c] w (Fresh (Kd.string) 9 w xs) := by
  have HC := Aside0.mk hC
  have HL := Aside0.mk hb
  clear hC hb
  have he := fun W => Lib.run_eql_slice_nil (P := Tryd.prog) W 28 9 A xs.length c 0 0 Tryd.underlying28
  rcases A with _ | ad <;> simp only [Option.isNone_none, Option.isNone_some] at he
  · have h0 : xs = [] := by
      rcases xs with _ | ⟨x, r⟩
      · rfl
      · obtain ⟨ad, h, _⟩ := HC.out.2.2 (by simp)
        cases h
    subst h0
    simp only [List.length_nil] at he ⊢
    go_enter Tryd.func108, Tryd.ntmps108
    go_wp2
    go_ret
    exact ⟨_, rfl, Kd.R_nil _ _ _ _ _, Below.refl _ _⟩
  · go_enter Tryd.func108, Tryd.ntmps108
    go_wp2_with (at_builtin; refine Kd.R_append_rows (Kd.string) (Rr := (Kd.string).K w) (w0 := w) w.heap.size rfl (.tmp 5) (.tmp 6) 28 9 (.string ⟨#[]⟩) 16 rfl Tryd.underlying28 info_string rfl (by decide) (by decide) _ [] xs (some ad) xs.length c (fun k => w.heap.size ≤ k) (fun _ => False) rfl rfl (R_empty _ _ _ _ _ (Nat.le_refl _) (Nat.le_refl _)) (HC.out.imp_ (below_alloc (Below.refl _ _) _) (fun _ _ h => h)) (fun _ _ h => h) (fun _ h => h.elim) (fun k hk => by simp at hk; omega) ((Below.refl _ _).alloc (Nat.le_refl _) _) (by simp) (by simpa using HL.out) ?_; intro v1 w1 hR hB hg hat; have HR := Aside0.mk hR; have HB := Aside0.mk hB; clear hR hB hg hat)
    go_ret
    exact ⟨_, rfl, by simpa using HR.out, HB.out⟩
end Go.Proofs.YtifphhkkpadpoaaDoor
