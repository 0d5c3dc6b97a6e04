/- The walks of slices.IndexFunc and ContainsFunc at []int, of vm.Right, vm.sum, vm.New: each returns what the plain law says. -/
import Derived.Test.YtifphhkkpadpoaaDoorKinds
namespace Go.Proofs.YtifphhkkpadpoaaDoor
open Go.RowKit Go.Proofs.YtifphhkkpadpoaaDoorW.PrintWords
set_option linter.unusedVariables false
def idxOf {α : Type} (p : α → Bool) (l : List α) : Int := match l.findIdx? p with | some i => i | none => -1
theorem idxOf_hit {α : Type} {p : α → Bool} {l : List α} {k : Nat} {y : α} (hk : l[k]? = some y) (h : ∀ j x, j < k → l[j]? = some x → p x = false) (hp : p y = true) : idxOf p l = (k : Int) := by
  obtain ⟨hl, rfl⟩ := List.getElem?_eq_some_iff.1 hk
  have : l.findIdx? p = some k := by
    rw [List.findIdx?_eq_some_iff_getElem]
    refine ⟨hl, hp, fun j hj => ?_⟩
    simpa using h j _ hj (List.getElem?_eq_getElem (Nat.lt_trans hj hl))
  simp [idxOf, this]
theorem idxOf_miss {α : Type} {p : α → Bool} {l : List α} (h : ∀ j x, j < l.length → l[j]? = some x → p x = false) : idxOf p l = -1 := by
  have : l.findIdx? p = none := by
    rw [List.findIdx?_eq_none_iff]
    intro x hx
    obtain ⟨j, hj⟩ := List.getElem?_of_mem hx
    exact h j x (List.getElem?_eq_some_iff.1 hj).1 hj
  simp [idxOf, this]
theorem idxOf_any {α : Type} (p : α → Bool) (l : List α) : decide (0 ≤ idxOf p l) = l.any p := by
  unfold idxOf
  cases h : l.findIdx? p with
  | none =>
    simp only [List.findIdx?_eq_none_iff] at h
    have : l.any p = false := by rw [List.any_eq_false]; intro x hx; simp [h x hx]
    rw [this]; rfl
  | some i =>
    rw [List.findIdx?_eq_some_iff_getElem] at h
    obtain ⟨hl, hp, _⟩ := h
    have : l.any p = true := List.any_eq_true.2 ⟨_, List.getElem_mem hl, hp⟩
    rw [this]
    exact decide_eq_true (show (0 : Int) ≤ (i : Int) by omega)
theorem idxOf_lo {α : Type} (p : α → Bool) (l : List α) : -1 ≤ idxOf p l := by
  unfold idxOf
  cases h : l.findIdx? p with
  | some i => show -1 ≤ (i : Int); omega
  | none => exact Int.le_refl _
theorem idxOf_hi {α : Type} (p : α → Bool) (l : List α) : idxOf p l < l.length ∨ idxOf p l = -1 := by
  unfold idxOf
  cases h : l.findIdx? p with
  | some i => exact .inl (by have := (List.findIdx?_eq_some_iff_getElem.1 h).1; show (i : Int) < _; omega)
  | none => exact .inr rfl
/-- A function value that answers like p, whatever has been laid meanwhile. -/
structure AnswersInt (w : World) (F : Nat) (p : Int → Bool) (xs : List Int) : Prop where
  run : ∀ (x : Int) (W : World), (callFunc F #[.int .i64 x]).run Tryd.prog W = .ok (.enter F #[.int .i64 x]) W
  calls : ∀ (x : Int) (W : World), x ∈ xs → Below w.heap.size w W → Calls Tryd.prog F #[.int .i64 x] W fun e w' => e = .returned (.bool (p x)) ∧ Below W.heap.size W w'
set_option maxRecDepth 100000 in
set_option maxHeartbeats 4000000 in
theorem indexFunc_int (F : Nat) (p : Int → Bool) (A : Option Addr) (c : Nat) (xs : List Int) (w : World) (hp : AnswersInt w F p xs) (hC : (Kd.int .i64).C w A xs.length xs) :
    Calls Tryd.prog 70 #[.slice A xs.length c, .func (.func F) #[] #[]] w fun e w' => e = .returned (.int .i64 (idxOf p xs)) ∧ Below w.heap.size w w' := by
  have hF := hp.run
  have HP := Aside0.mk hp
  have HC := Aside0.mk hC
  have hlen := hC.2.1
  clear hp hC
  go_enter Tryd.func70, Tryd.ntmps70
  go_wp2
  go_loopw [8] (fun i wr => ∃ k : Nat, k ≤ xs.length ∧ i = .int .i64 k ∧ Aside0 (∀ j x, j < k → xs[j]? = some x → p x = false) ∧ Aside0 (Below w.heap.size w wr)) (fun i _ => xs.length - (intOf i).toNat)
  case atStart => exact ⟨0, Nat.zero_le _, rfl, ⟨fun j x hj => absurd hj (Nat.not_lt_zero _)⟩, ⟨Below.refl _ _⟩⟩
  case round =>
    obtain ⟨k, hk, rfl, HN, HB⟩ := hrel
    by_cases hlt : k < xs.length
    · obtain ⟨ad, e, hx⟩ := Kd.at_int HC.out (k : Int) (by omega) (by omega)
      cases e
      replace hx := (HB.out.cell (World.block_lt_of_cell? w _ hx)).trans hx
      obtain ⟨y, HY⟩ : ∃ y, Aside0 (xs[k]? = some y) := ⟨xs[k], ⟨List.getElem?_eq_getElem hlt⟩⟩
      rw [show rd xs (k : Int) = y by have := HY.out; simp [rd, List.getD_eq_getElem?_getD, this]] at hx
      simp only [Int.toNat_natCast] at hx
      have hmem : y ∈ xs := List.mem_of_getElem? HY.out
      go_wp2_with fail
      refine (HP.out.calls y wr hmem HB.out).mono ?_
      rintro e w' ⟨rfl, hb⟩
      have HB2 := Aside0.mk (below_then HB.out HB.out.size hb)
      clear hb
      cases hpy : p y
      · go_wp2
        go_roundw
        case rel => exact ⟨k + 1, by omega, by go_num, ⟨fun j x hj hz => by
          rcases Nat.lt_or_ge j k with h | h
          · exact HN.out j x h hz
          · obtain rfl : j = k := by omega
            rw [HY.out] at hz
            injection hz with hz
            rw [← hz]; exact hpy⟩, HB2⟩
        case measure => simp [intOf]; omega
      · go_wp2
        go_ret
        exact ⟨ret_int (idxOf_hit HY.out (fun j x hj hx => HN.out j x hj hx) hpy).symm, HB2.out⟩
    · go_wp2
      go_ret
      exact ⟨ret_int (idxOf_miss (fun j x hj hx => HN.out j x (by omega) hx)).symm, HB.out⟩
set_option maxRecDepth 100000 in
set_option maxHeartbeats 4000000 in
theorem containsFunc_int (F : Nat) (p : Int → Bool) (A : Option Addr) (c : Nat) (xs : List Int) (w : World) (hp : AnswersInt w F p xs) (hC : (Kd.int .i64).C w A xs.length xs) :
    Calls Tryd.prog 38 #[.slice A xs.length c, .func (.func F) #[] #[]] w fun e w' => e = .returned (.bool (xs.any p)) ∧ Below w.heap.size w w' := by
  have H := Aside0.mk (indexFunc_int F p A c xs w hp hC)
  clear hp hC
  go_enter Tryd.func38, Tryd.ntmps38
  go_wp2_with fail
  refine H.out.mono ?_
  rintro e w' ⟨rfl, hb⟩
  go_wp2
  go_ret
  exact ⟨ret_bool (idxOf_any p xs), hb⟩
/-- The two literals 'is it no number of 32 bits?'. -/
theorem wide_right (w : World) (xs : List Int) : AnswersInt w 69 (fun x => !is32 x) xs where
  run := fun _ _ => by kernel_rfl
  calls := fun x W _ _ => by
    go_enter Tryd.func69, Tryd.ntmps69
    go_wp2
    go_ret
    exact ⟨ret_bool (by rw [is32_wrap]), Below.refl _ _⟩
theorem wide_run (w : World) (xs : List Int) : AnswersInt w 39 (fun x => !is32 x) xs where
  run := fun _ _ => by kernel_rfl
  calls := fun x W _ _ => by
    go_enter Tryd.func39, Tryd.ntmps39
    go_wp2
    go_ret
    exact ⟨ret_bool (by rw [is32_wrap]), Below.refl _ _⟩
theorem any_wide (xs : List Int) : xs.any (fun x => !is32 x) = !xs.all is32 := by
  induction xs with
  | nil => rfl
  | cons x xs ih => simp [ih, Bool.not_and]
set_option maxRecDepth 100000 in
set_option maxHeartbeats 4000000 in
theorem sum_calls (c a b : Int) (w : World) : Calls Tryd.prog 71 #[.int .i64 c, .int .i32 a, .int .i32 b] w fun e w' => e = .returned (.int .i32 (sumOf c a b)) ∧ w = w' := by

  go_enter Tryd.func71, Tryd.ntmps71
  go_wp2
  all_goals
    go_ret
    refine ⟨ret_int ?_, rfl⟩
    simp only [beq_iff_eq, beq_eq_false_iff_ne, ne_eq] at *
    simp only [sumOf, ← w32_is]
    simp [*]
set_option maxRecDepth 100000 in
set_option maxHeartbeats 4000000 in
theorem vmRight_calls (v : Vm) (A : Option Addr) (c : Nat) (w : World) (hC : (Kd.int .i64).C w A v.regs.length v.regs) :
    Calls Tryd.prog 37 #[.agg #[.int .i64 v.pc, .slice A v.regs.length c, .bool v.halts, .bool v.fault]] w fun e w' => e = .returned (.int .i64 (vmRight v)) ∧ Below w.heap.size w w' := by
  obtain ⟨pc, regs, halts, fault⟩ := v
  simp only at hC ⊢
  have HC := Aside0.mk hC
  have hlen := hC.2.1
  clear hC
  have HD := Aside0.mk (fun (W : World) (hb : Below w.heap.size w W) => containsFunc_int _ _ A c regs W (wide_right W regs) (Kd.C_below HC.out hb))
  cases halts <;> cases fault
  all_goals
    go_enter Tryd.func37, Tryd.ntmps37
    go_wp2_with (first | (go_at_call 38; refine (HD.out _ ((Below.refl _ _).alloc (Nat.le_refl _) _)).mono ?_; rintro e w' ⟨rfl, hb⟩; have HB := Aside0.mk hb; clear hb) | go_in)
  all_goals
    go_ret
    refine ⟨ret_int ?_, by first | exact below_then ((Below.refl _ _).alloc (Nat.le_refl _) _) (by simp) HB.out | exact (Below.refl _ _).alloc (Nat.le_refl _) _⟩
    simp only [any_wide, Bool.not_eq_true', Bool.not_eq_false'] at *
    unfold vmRight
    first
    | (rw [if_pos ⟨by assumption, by assumption, by simp only; omega, rfl, by assumption⟩]; done)
    | (rw [if_neg]; rintro ⟨h1, h2, h3, h4, h5⟩; simp only at h1 h2 h3 h4 h5; first | omega | (simp_all; done))
end Go.Proofs.YtifphhkkpadpoaaDoor
