/- The walks of gate.wrong and gate.Hand, at right gates. Printed by gen_gate2.py. -/
import Derived.Test.YtifphhkkpadpoaaDoorGate
namespace Go.Proofs.YtifphhkkpadpoaaDoor
open Go.RowKit Go.Proofs.YtifphhkkpadpoaaDoorW.PrintWords
set_option linter.unusedVariables false
set_option linter.unusedSimpArgs false
set_option maxRecDepth 100000 in
set_option maxHeartbeats 16000000 in
theorem gateWrong_calls (e o wh n num : Int) (text : ByteArray) (out : List ByteArray) (A : Option Addr) (c : Nat) (w : World) (hC : Kd.string.C w A out.length out) (hl : out.length ≤ 1000) (ht : text.size ≤ 9223372036854775807) :
    Calls Tryd.prog 109 #[.agg #[.int .i64 e, .int .i64 o, .slice A out.length c], .agg #[.int .i64 wh, .int .i64 n, .int .i64 num, .string text]] w fun r w' => r = .returned (.int .i64 (gateWrong ⟨⟨e, o⟩, out⟩ ⟨wh, n, num, text⟩)) ∧ Below w.heap.size w w' := by
  obtain ⟨ok, er, HF⟩ : ∃ ok er, Aside0 (fencePass e o wh n = (ok, er)) := ⟨_, _, ⟨rfl⟩⟩
  have hv : gateWrong ⟨⟨e, o⟩, out⟩ ⟨wh, n, num, text⟩ = if er ≠ 0 then er else if ok = false then 9 else if isLong text = true then 2 else if num < 0 then 1 else if (out.length : Int) < num then 7 else if num < out.length ∧ out[num.toNat]? ≠ some text then 8 else if num = 1000 then 6 else 0 := by
    unfold gateWrong
    simp only [HF.out]
  have hmax := hC.2.1
  by_cases h1 : er = 0
  · subst h1
    rw [if_neg (by simp)] at hv
    by_cases h2 : ok = false
    · subst h2
      rw [if_pos rfl] at hv
      rw [hv]
      clear hv
      have HC := Aside0.mk hC
      clear hC
      go_enter Tryd.func109, Tryd.ntmps109
      go_wp2_with fail
      refine (fencePass_calls _ _ _ _ _).mono ?_
      rintro r w1 ⟨rfl, hb⟩
      rw [HF.out]
      simp only
      have b0 : w1.heap[w.heap.size]? = some (.cells #[.int .i64 e, .int .i64 o, .slice A out.length c] 30 (0, 0)) := blk_below (blk_alloc (blk_new w _) _) hb
      have b1 : w1.heap[w.heap.size + 1]? = some (.cells #[.int .i64 wh, .int .i64 n, .int .i64 num, .string text] 146 (0, 0)) := blk_below (by have := blk_new (w.alloc (.cells #[.int .i64 e, .int .i64 o, .slice A out.length c] 30)) (.cells #[.int .i64 wh, .int .i64 n, .int .i64 num, .string text] 146); simpa using this) hb
      have HB1 := Aside0.mk (below_step (below_alloc (below_alloc (Below.refl _ _) _) _) hb)
      clear hb
      have x2 : w1.cell? ⟨w.heap.size, 2, none⟩ = some (.slice A out.length c) := blk_cell b0 2
      have y2 : w1.cell? ⟨w.heap.size + 1, 2, none⟩ = some (.int .i64 num) := blk_cell b1 2
      have y3 : w1.cell? ⟨w.heap.size + 1, 3, none⟩ = some (.string text) := blk_cell b1 3
      clear b0 b1
      go_wp2
      go_ret
      exact ⟨rfl, (by repeat (first | exact HB1.out | (refine Below.drew ?_) | (apply pw_below_drewN) | (refine Below.setCell ?_ (by simp) _) | (refine Below.alloc ?_ (by have := HB1.out.size; simp; omega) _)))⟩
    · have h2' : ok = true := by simpa using h2
      subst h2'
      rw [if_neg (by simp)] at hv
      by_cases h3 : isLong text = true
      · rw [if_pos h3] at hv
        have hd3 : (1000 : Int) < (text.size : Int) := by have := of_decide_eq_true h3; omega
        rw [hv]
        clear hv
        clear h3
        have HC := Aside0.mk hC
        clear hC
        go_enter Tryd.func109, Tryd.ntmps109
        go_wp2_with fail
        refine (fencePass_calls _ _ _ _ _).mono ?_
        rintro r w1 ⟨rfl, hb⟩
        rw [HF.out]
        simp only
        have b0 : w1.heap[w.heap.size]? = some (.cells #[.int .i64 e, .int .i64 o, .slice A out.length c] 30 (0, 0)) := blk_below (blk_alloc (blk_new w _) _) hb
        have b1 : w1.heap[w.heap.size + 1]? = some (.cells #[.int .i64 wh, .int .i64 n, .int .i64 num, .string text] 146 (0, 0)) := blk_below (by have := blk_new (w.alloc (.cells #[.int .i64 e, .int .i64 o, .slice A out.length c] 30)) (.cells #[.int .i64 wh, .int .i64 n, .int .i64 num, .string text] 146); simpa using this) hb
        have HB1 := Aside0.mk (below_step (below_alloc (below_alloc (Below.refl _ _) _) _) hb)
        clear hb
        have x2 : w1.cell? ⟨w.heap.size, 2, none⟩ = some (.slice A out.length c) := blk_cell b0 2
        have y2 : w1.cell? ⟨w.heap.size + 1, 2, none⟩ = some (.int .i64 num) := blk_cell b1 2
        have y3 : w1.cell? ⟨w.heap.size + 1, 3, none⟩ = some (.string text) := blk_cell b1 3
        clear b0 b1
        go_wp2
        go_ret
        exact ⟨rfl, (by repeat (first | exact HB1.out | (refine Below.drew ?_) | (apply pw_below_drewN) | (refine Below.setCell ?_ (by simp) _) | (refine Below.alloc ?_ (by have := HB1.out.size; simp; omega) _)))⟩
      · rw [if_neg h3] at hv
        have hd3 : (text.size : Int) ≤ 1000 := by
          rcases Nat.lt_or_ge 1000 text.size with h | h
          · exact absurd (decide_eq_true h : isLong text = true) h3
          · omega
        by_cases h4 : num < 0
        · rw [if_pos h4] at hv
          rw [hv]
          clear hv
          clear h3
          have HC := Aside0.mk hC
          clear hC
          go_enter Tryd.func109, Tryd.ntmps109
          go_wp2_with fail
          refine (fencePass_calls _ _ _ _ _).mono ?_
          rintro r w1 ⟨rfl, hb⟩
          rw [HF.out]
          simp only
          have b0 : w1.heap[w.heap.size]? = some (.cells #[.int .i64 e, .int .i64 o, .slice A out.length c] 30 (0, 0)) := blk_below (blk_alloc (blk_new w _) _) hb
          have b1 : w1.heap[w.heap.size + 1]? = some (.cells #[.int .i64 wh, .int .i64 n, .int .i64 num, .string text] 146 (0, 0)) := blk_below (by have := blk_new (w.alloc (.cells #[.int .i64 e, .int .i64 o, .slice A out.length c] 30)) (.cells #[.int .i64 wh, .int .i64 n, .int .i64 num, .string text] 146); simpa using this) hb
          have HB1 := Aside0.mk (below_step (below_alloc (below_alloc (Below.refl _ _) _) _) hb)
          clear hb
          have x2 : w1.cell? ⟨w.heap.size, 2, none⟩ = some (.slice A out.length c) := blk_cell b0 2
          have y2 : w1.cell? ⟨w.heap.size + 1, 2, none⟩ = some (.int .i64 num) := blk_cell b1 2
          have y3 : w1.cell? ⟨w.heap.size + 1, 3, none⟩ = some (.string text) := blk_cell b1 3
          clear b0 b1
          go_wp2
          go_ret
          exact ⟨rfl, (by repeat (first | exact HB1.out | (refine Below.drew ?_) | (apply pw_below_drewN) | (refine Below.setCell ?_ (by simp) _) | (refine Below.alloc ?_ (by have := HB1.out.size; simp; omega) _)))⟩
        · rw [if_neg h4] at hv
          obtain ⟨k, rfl⟩ := Int.eq_ofNat_of_zero_le (Int.not_lt.1 h4)
          simp only [Int.toNat_natCast] at hv
          by_cases h5 : (out.length : Int) < (k : Int)
          · rw [if_pos h5] at hv
            have hd5 : decide (out.length < k) = true := decide_eq_true (by omega)
            rw [hv]
            clear hv
            clear h3
            have HC := Aside0.mk hC
            clear hC
            go_enter Tryd.func109, Tryd.ntmps109
            go_wp2_with fail
            refine (fencePass_calls _ _ _ _ _).mono ?_
            rintro r w1 ⟨rfl, hb⟩
            rw [HF.out]
            simp only
            have b0 : w1.heap[w.heap.size]? = some (.cells #[.int .i64 e, .int .i64 o, .slice A out.length c] 30 (0, 0)) := blk_below (blk_alloc (blk_new w _) _) hb
            have b1 : w1.heap[w.heap.size + 1]? = some (.cells #[.int .i64 wh, .int .i64 n, .int .i64 (k : Int), .string text] 146 (0, 0)) := blk_below (by have := blk_new (w.alloc (.cells #[.int .i64 e, .int .i64 o, .slice A out.length c] 30)) (.cells #[.int .i64 wh, .int .i64 n, .int .i64 (k : Int), .string text] 146); simpa using this) hb
            have HB1 := Aside0.mk (below_step (below_alloc (below_alloc (Below.refl _ _) _) _) hb)
            clear hb
            have x2 : w1.cell? ⟨w.heap.size, 2, none⟩ = some (.slice A out.length c) := blk_cell b0 2
            have y2 : w1.cell? ⟨w.heap.size + 1, 2, none⟩ = some (.int .i64 (k : Int)) := blk_cell b1 2
            have y3 : w1.cell? ⟨w.heap.size + 1, 3, none⟩ = some (.string text) := blk_cell b1 3
            clear b0 b1
            go_wp2
            go_ret
            exact ⟨rfl, (by repeat (first | exact HB1.out | (refine Below.drew ?_) | (apply pw_below_drewN) | (refine Below.setCell ?_ (by simp) _) | (refine Below.alloc ?_ (by have := HB1.out.size; simp; omega) _)))⟩
          · rw [if_neg h5] at hv
            have hd5 : decide (out.length < k) = false := decide_eq_false (by omega)
            by_cases h6 : k < out.length
            · have hd6 : decide (k < out.length) = true := decide_eq_true h6
              have hy := List.getElem?_eq_getElem h6
              by_cases h7 : out[k] = text
              · rw [if_neg (by rintro ⟨_, hx⟩; exact hx (by rw [hy, h7])), if_neg (by omega)] at hv
                obtain ⟨ad, ea, hx⟩ := Kd.at_string hC (k : Int) (by omega) (by omega)
                cases ea
                rw [show rdOf ByteArray.empty out (k : Int) = text by simp [rdOf, List.getD_eq_getElem?_getD, hy, h7]] at hx
                simp only [Int.toNat_natCast] at hx
                have i0 : (0 : Int) ≤ (k : Int) := by omega
                have i1 : (k : Int) < (out.length : Int) := by omega
                have i2 : ((k : Int) == 1000) = false := by rw [beq_eq_false_iff_ne]; omega
                rw [hv]
                clear hv
                clear h3 hy h7
                have HC := Aside0.mk hC
                clear hC
                go_enter Tryd.func109, Tryd.ntmps109
                go_wp2_with fail
                refine (fencePass_calls _ _ _ _ _).mono ?_
                rintro r w1 ⟨rfl, hb⟩
                rw [HF.out]
                simp only
                have b0 : w1.heap[w.heap.size]? = some (.cells #[.int .i64 e, .int .i64 o, .slice (some ad) out.length c] 30 (0, 0)) := blk_below (blk_alloc (blk_new w _) _) hb
                have b1 : w1.heap[w.heap.size + 1]? = some (.cells #[.int .i64 wh, .int .i64 n, .int .i64 (k : Int), .string text] 146 (0, 0)) := blk_below (by have := blk_new (w.alloc (.cells #[.int .i64 e, .int .i64 o, .slice (some ad) out.length c] 30)) (.cells #[.int .i64 wh, .int .i64 n, .int .i64 (k : Int), .string text] 146); simpa using this) hb
                have HB1 := Aside0.mk (below_step (below_alloc (below_alloc (Below.refl _ _) _) _) hb)
                clear hb
                have x2 : w1.cell? ⟨w.heap.size, 2, none⟩ = some (.slice (some ad) out.length c) := blk_cell b0 2
                have y2 : w1.cell? ⟨w.heap.size + 1, 2, none⟩ = some (.int .i64 (k : Int)) := blk_cell b1 2
                have y3 : w1.cell? ⟨w.heap.size + 1, 3, none⟩ = some (.string text) := blk_cell b1 3
                clear b0 b1
                replace hx := (HB1.out.cell (World.block_lt_of_cell? w _ hx)).trans hx
                go_wp2
                go_quiet (fail)
                go_wp2
                go_ret
                exact ⟨rfl, (by repeat (first | exact HB1.out | (refine Below.drew ?_) | (apply pw_below_drewN) | (refine Below.setCell ?_ (by simp) _) | (refine Below.alloc ?_ (by have := HB1.out.size; simp; omega) _)))⟩
              · rw [if_pos ⟨by omega, by rw [hy]; intro hx; injection hx with hx; exact h7 hx⟩] at hv
                obtain ⟨ad, ea, hx⟩ := Kd.at_string hC (k : Int) (by omega) (by omega)
                cases ea
                obtain ⟨y, HY⟩ : ∃ y, Aside0 (out[k] = y) := ⟨_, ⟨rfl⟩⟩
                rw [show rdOf ByteArray.empty out (k : Int) = y by rw [← HY.out]; simp [rdOf, List.getD_eq_getElem?_getD, hy]] at hx
                simp only [Int.toNat_natCast] at hx
                have i0 : (0 : Int) ≤ (k : Int) := by omega
                have i1 : (k : Int) < (out.length : Int) := by omega
                have h7' : ¬ y = text := by rw [← HY.out]; exact h7
                have h8 : (y.toList == text.toList) = false := beq_eq_false_iff_ne.2 (fun hx => h7' (by rw [ByteArray.toList_eq, ByteArray.toList_eq] at hx; exact ByteArray.ext (Array.toList_inj.1 hx)))
                have h8' : (!y.toList == text.toList) = true := by rw [h8]; rfl
                rw [hv]
                clear hv
                clear h3 hy h7 h7'
                have HC := Aside0.mk hC
                clear hC
                go_enter Tryd.func109, Tryd.ntmps109
                go_wp2_with fail
                refine (fencePass_calls _ _ _ _ _).mono ?_
                rintro r w1 ⟨rfl, hb⟩
                rw [HF.out]
                simp only
                have b0 : w1.heap[w.heap.size]? = some (.cells #[.int .i64 e, .int .i64 o, .slice (some ad) out.length c] 30 (0, 0)) := blk_below (blk_alloc (blk_new w _) _) hb
                have b1 : w1.heap[w.heap.size + 1]? = some (.cells #[.int .i64 wh, .int .i64 n, .int .i64 (k : Int), .string text] 146 (0, 0)) := blk_below (by have := blk_new (w.alloc (.cells #[.int .i64 e, .int .i64 o, .slice (some ad) out.length c] 30)) (.cells #[.int .i64 wh, .int .i64 n, .int .i64 (k : Int), .string text] 146); simpa using this) hb
                have HB1 := Aside0.mk (below_step (below_alloc (below_alloc (Below.refl _ _) _) _) hb)
                clear hb
                have x2 : w1.cell? ⟨w.heap.size, 2, none⟩ = some (.slice (some ad) out.length c) := blk_cell b0 2
                have y2 : w1.cell? ⟨w.heap.size + 1, 2, none⟩ = some (.int .i64 (k : Int)) := blk_cell b1 2
                have y3 : w1.cell? ⟨w.heap.size + 1, 3, none⟩ = some (.string text) := blk_cell b1 3
                clear b0 b1
                replace hx := (HB1.out.cell (World.block_lt_of_cell? w _ hx)).trans hx
                go_wp2
                go_quiet (fail)
                go_wp2
                go_ret
                exact ⟨rfl, (by repeat (first | exact HB1.out | (refine Below.drew ?_) | (apply pw_below_drewN) | (refine Below.setCell ?_ (by simp) _) | (refine Below.alloc ?_ (by have := HB1.out.size; simp; omega) _)))⟩
            · have hk : k = out.length := by omega
              have hd6 : decide (k < out.length) = false := decide_eq_false h6
              rw [if_neg (by omega)] at hv
              by_cases h7 : (k : Int) = 1000
              · rw [if_pos h7] at hv
                have i2 : ((k : Int) == 1000) = true := by rw [beq_iff_eq]; exact h7
                rw [hv]
                clear hv
                clear h3 hk h7
                have HC := Aside0.mk hC
                clear hC
                go_enter Tryd.func109, Tryd.ntmps109
                go_wp2_with fail
                refine (fencePass_calls _ _ _ _ _).mono ?_
                rintro r w1 ⟨rfl, hb⟩
                rw [HF.out]
                simp only
                have b0 : w1.heap[w.heap.size]? = some (.cells #[.int .i64 e, .int .i64 o, .slice A out.length c] 30 (0, 0)) := blk_below (blk_alloc (blk_new w _) _) hb
                have b1 : w1.heap[w.heap.size + 1]? = some (.cells #[.int .i64 wh, .int .i64 n, .int .i64 (k : Int), .string text] 146 (0, 0)) := blk_below (by have := blk_new (w.alloc (.cells #[.int .i64 e, .int .i64 o, .slice A out.length c] 30)) (.cells #[.int .i64 wh, .int .i64 n, .int .i64 (k : Int), .string text] 146); simpa using this) hb
                have HB1 := Aside0.mk (below_step (below_alloc (below_alloc (Below.refl _ _) _) _) hb)
                clear hb
                have x2 : w1.cell? ⟨w.heap.size, 2, none⟩ = some (.slice A out.length c) := blk_cell b0 2
                have y2 : w1.cell? ⟨w.heap.size + 1, 2, none⟩ = some (.int .i64 (k : Int)) := blk_cell b1 2
                have y3 : w1.cell? ⟨w.heap.size + 1, 3, none⟩ = some (.string text) := blk_cell b1 3
                clear b0 b1
                go_wp2
                go_quiet (fail)
                go_wp2
                go_ret
                exact ⟨rfl, (by repeat (first | exact HB1.out | (refine Below.drew ?_) | (apply pw_below_drewN) | (refine Below.setCell ?_ (by simp) _) | (refine Below.alloc ?_ (by have := HB1.out.size; simp; omega) _)))⟩
              · rw [if_neg h7] at hv
                have i2 : ((k : Int) == 1000) = false := by rw [beq_eq_false_iff_ne]; exact h7
                rw [hv]
                clear hv
                clear h3 hk h7
                have HC := Aside0.mk hC
                clear hC
                go_enter Tryd.func109, Tryd.ntmps109
                go_wp2_with fail
                refine (fencePass_calls _ _ _ _ _).mono ?_
                rintro r w1 ⟨rfl, hb⟩
                rw [HF.out]
                simp only
                have b0 : w1.heap[w.heap.size]? = some (.cells #[.int .i64 e, .int .i64 o, .slice A out.length c] 30 (0, 0)) := blk_below (blk_alloc (blk_new w _) _) hb
                have b1 : w1.heap[w.heap.size + 1]? = some (.cells #[.int .i64 wh, .int .i64 n, .int .i64 (k : Int), .string text] 146 (0, 0)) := blk_below (by have := blk_new (w.alloc (.cells #[.int .i64 e, .int .i64 o, .slice A out.length c] 30)) (.cells #[.int .i64 wh, .int .i64 n, .int .i64 (k : Int), .string text] 146); simpa using this) hb
                have HB1 := Aside0.mk (below_step (below_alloc (below_alloc (Below.refl _ _) _) _) hb)
                clear hb
                have x2 : w1.cell? ⟨w.heap.size, 2, none⟩ = some (.slice A out.length c) := blk_cell b0 2
                have y2 : w1.cell? ⟨w.heap.size + 1, 2, none⟩ = some (.int .i64 (k : Int)) := blk_cell b1 2
                have y3 : w1.cell? ⟨w.heap.size + 1, 3, none⟩ = some (.string text) := blk_cell b1 3
                clear b0 b1
                go_wp2
                go_quiet (fail)
                go_wp2
                go_ret
                exact ⟨rfl, (by repeat (first | exact HB1.out | (refine Below.drew ?_) | (apply pw_below_drewN) | (refine Below.setCell ?_ (by simp) _) | (refine Below.alloc ?_ (by have := HB1.out.size; simp; omega) _)))⟩
  · rw [if_pos h1] at hv
    have h0 : (er == 0) = false := by simpa using h1
    have h0' : (er != 0) = true := by simpa using h1
    rw [hv]
    clear hv
    clear h1
    have HC := Aside0.mk hC
    clear hC
    go_enter Tryd.func109, Tryd.ntmps109
    go_wp2_with fail
    refine (fencePass_calls _ _ _ _ _).mono ?_
    rintro r w1 ⟨rfl, hb⟩
    rw [HF.out]
    simp only
    have b0 : w1.heap[w.heap.size]? = some (.cells #[.int .i64 e, .int .i64 o, .slice A out.length c] 30 (0, 0)) := blk_below (blk_alloc (blk_new w _) _) hb
    have b1 : w1.heap[w.heap.size + 1]? = some (.cells #[.int .i64 wh, .int .i64 n, .int .i64 num, .string text] 146 (0, 0)) := blk_below (by have := blk_new (w.alloc (.cells #[.int .i64 e, .int .i64 o, .slice A out.length c] 30)) (.cells #[.int .i64 wh, .int .i64 n, .int .i64 num, .string text] 146); simpa using this) hb
    have HB1 := Aside0.mk (below_step (below_alloc (below_alloc (Below.refl _ _) _) _) hb)
    clear hb
    have x2 : w1.cell? ⟨w.heap.size, 2, none⟩ = some (.slice A out.length c) := blk_cell b0 2
    have y2 : w1.cell? ⟨w.heap.size + 1, 2, none⟩ = some (.int .i64 num) := blk_cell b1 2
    have y3 : w1.cell? ⟨w.heap.size + 1, 3, none⟩ = some (.string text) := blk_cell b1 3
    clear b0 b1
    go_wp2
    go_ret
    exact ⟨rfl, (by repeat (first | exact HB1.out | (refine Below.drew ?_) | (apply pw_below_drewN) | (refine Below.setCell ?_ (by simp) _) | (refine Below.alloc ?_ (by have := HB1.out.size; simp; omega) _)))⟩
end Go.Proofs.YtifphhkkpadpoaaDoor
