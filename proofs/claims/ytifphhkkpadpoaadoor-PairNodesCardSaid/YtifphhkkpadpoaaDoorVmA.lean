/- The walks of vm.right, vm.Check, vm.Right, vm.sum and of the library's searches by a predicate: each returns what the plain law says. -/
import Derived.Test.YtifphhkkpadpoaaDoorKinds
namespace Go.Proofs.YtifphhkkpadpoaaDoor
open Go.RowKit Go.Proofs.YtifphhkkpadpoaaDoorW.PrintWords
set_option linter.unusedVariables false
set_option maxRecDepth 100000 in
set_option maxHeartbeats 4000000 in
theorem right_calls (c a b n : Int) (w : World) :
    Calls Tryd.prog 61 #[.agg #[.int .i64 c, .int .i64 a, .int .i64 b], .int .i64 n] w fun e w' => e = .returned (.bool (insRight c a b n)) ∧ Below w.heap.size w w' := by
  go_enter Tryd.func61, Tryd.ntmps61
  go_wp2
  all_goals
    go_ret
    refine ⟨ret_bool ?_, (Below.refl _ _).alloc (Nat.le_refl _) _⟩
    simp only [beq_iff_eq, beq_eq_false_iff_ne, ne_eq, is32_wrap] at *
    rw [Bool.eq_iff_iff]
    simp only [insRight, isReg, *]
    simp
    try omega
set_option maxRecDepth 100000 in
set_option maxHeartbeats 4000000 in
theorem check_calls (A : Option Addr) (c : Nat) (p : List Ins) (w : World) (hC : kIns.C w A p.length p) :
    Calls Tryd.prog 31 #[.slice A p.length c] w fun e w' => e = .returned (.int .i64 (codeCheck p)) ∧ Below w.heap.size w w' := by
  have HC := Aside0.mk hC
  have hlen := hC.2.1
  clear hC
  by_cases hbig : 100 < p.length
  · have hb : decide (100 < p.length) = true := decide_eq_true hbig
    go_enter Tryd.func31, Tryd.ntmps31
    go_wp2
    go_ret
    exact ⟨ret_int (by unfold codeCheck; rw [if_pos hbig]), Below.refl _ _⟩
  · have hb : decide (100 < p.length) = false := decide_eq_false hbig
    go_enter Tryd.func31, Tryd.ntmps31
    go_wp2
    go_loopw [10] (fun i wr => ∃ k : Nat, k ≤ p.length ∧ i = .int .i64 k ∧ Aside0 (∀ j x, j < k → p[j]? = some x → okIns p.length x = true) ∧ Aside0 (Below w.heap.size w wr)) (fun i _ => p.length - (intOf i).toNat)
    case atStart => exact ⟨0, Nat.zero_le _, rfl, ⟨fun j x hj => absurd hj (Nat.not_lt_zero _)⟩, ⟨Below.refl _ _⟩⟩
    case round =>
      obtain ⟨k, hk, rfl, HN, HB⟩ := hrel
      by_cases hlt : k < p.length
      · obtain ⟨ad, x, e, hx, h0, h1, h2⟩ := kIns_get HC.out k hlt
        cases e
        replace h0 := (HB.out.cell (World.block_lt_of_cell? w _ h0)).trans h0
        replace h1 := (HB.out.cell (World.block_lt_of_cell? w _ h1)).trans h1
        replace h2 := (HB.out.cell (World.block_lt_of_cell? w _ h2)).trans h2
        have HX := Aside0.mk hx
        clear hx
        go_wp2_with fail
        refine (right_calls _ _ _ _ _).mono ?_
        rintro e w' ⟨rfl, hb⟩
        have HB2 := Aside0.mk (below_then (HB.out.alloc HB.out.size _) (by have := HB.out.size; simp; omega) hb)
        clear hb
        cases hr : insRight x.code x.a x.b (p.length : Int)
        · go_wp2
          go_ret
          refine ⟨ret_int ?_, HB2.out⟩
          unfold codeCheck
          rw [if_neg hbig, if_neg]
          intro ha
          rw [List.all_eq_true] at ha
          have := ha x (List.mem_of_getElem? HX.out)
          rw [okIns, hr] at this
          cases this
        · go_wp2
          go_roundw
          case rel => exact ⟨k + 1, by omega, by go_num, ⟨fun j y hj hy => by
            rcases Nat.lt_or_ge j k with h | h
            · exact HN.out j y h hy
            · obtain rfl : j = k := by omega
              rw [HX.out] at hy
              injection hy with hy
              rw [← hy]; exact hr⟩, HB2⟩
          case measure => simp [intOf]; omega
      · go_wp2
        go_ret
        refine ⟨ret_int ?_, HB.out⟩
        unfold codeCheck
        rw [if_neg hbig, if_pos]
        rw [List.all_eq_true]
        intro x hx
        obtain ⟨j, hj⟩ := List.getElem?_of_mem hx
        have hjl := (List.getElem?_eq_some_iff.1 hj).1
        exact HN.out j x (by omega) hj
end Go.Proofs.YtifphhkkpadpoaaDoor
