/- The walks of package fence. -/
import Derived.Test.YtifphhkkpadpoaaDoorLib
import Derived.Test.YtifphhkkpadpoaaDoorPpair
namespace Go.Proofs.YtifphhkkpadpoaaDoor
open Go.RowKit Go.Proofs.YtifphhkkpadpoaaDoorW.PrintWords
set_option linter.unusedVariables false
set_option linter.unusedSimpArgs false
set_option maxRecDepth 100000 in
set_option maxHeartbeats 4000000 in
theorem fenceCheck_calls (e o : Int) (w : World) : Calls Tryd.prog 116 #[.agg #[.int .i64 e, .int .i64 o]] w fun x w' => x = .returned (.int .i64 (fenceCheck e o)) ∧ Below w.heap.size w w' := by
  go_enter Tryd.func116, Tryd.ntmps116
  go_wp2
  all_goals
    go_ret
    refine ⟨ret_int ?_, (Below.refl _ _).alloc (Nat.le_refl _) _⟩
    simp only [fenceCheck, isEpoch, isWho]
    simp
    try omega
set_option maxRecDepth 100000 in
set_option maxHeartbeats 4000000 in
theorem fenceMay_calls (e o wh n : Int) (w : World) : Calls Tryd.prog 106 #[.agg #[.int .i64 e, .int .i64 o], .int .i64 wh, .int .i64 n] w fun x w' => x = .returned (.int .i64 (fenceMay e o wh n)) ∧ Below w.heap.size w w' := by
  by_cases h0 : fenceCheck e o = 0
  · have H0 := Aside0.mk h0
    clear h0
    go_enter Tryd.func106, Tryd.ntmps106
    go_wp2_with fail
    refine (fenceCheck_calls _ _ _).mono ?_
    rintro x w1 ⟨rfl, hb⟩
    rw [H0.out]
    have HB := Aside0.mk hb
    clear hb
    go_wp2
    all_goals
      go_ret
      refine ⟨ret_int ?_, below_step (below_alloc (Below.refl _ _) _) HB.out⟩
      simp only [fenceMay, H0.out, isEpoch, isWho]
      simp
      try simp only [Bool.not_eq_true', Bool.not_eq_false', decide_eq_false_iff_not, decide_eq_true_eq] at *
      try omega
  · obtain ⟨r, HR⟩ : ∃ r, Aside0 (fenceCheck e o = r) := ⟨_, ⟨rfl⟩⟩
    have hz : (r == 0) = false := by rw [← HR.out]; simpa using h0
    have hz' : (r != 0) = true := by rw [← HR.out]; simpa using h0
    have H0 := Aside0.mk h0
    clear h0
    go_enter Tryd.func106, Tryd.ntmps106
    go_wp2_with fail
    refine (fenceCheck_calls _ _ _).mono ?_
    rintro x w1 ⟨rfl, hb⟩
    rw [HR.out]
    have HB := Aside0.mk hb
    clear hb
    go_wp2
    go_ret
    refine ⟨ret_int ?_, below_step (below_alloc (Below.refl _ _) _) HB.out⟩
    unfold fenceMay
    rw [if_pos H0.out, HR.out]
set_option maxRecDepth 100000 in
set_option maxHeartbeats 4000000 in
theorem fencePass_calls (e o wh n : Int) (w : World) : Calls Tryd.prog 88 #[.agg #[.int .i64 e, .int .i64 o], .int .i64 wh, .int .i64 n] w fun x w' => x = .returned (.tuple #[.bool (fencePass e o wh n).1, .int .i64 (fencePass e o wh n).2]) ∧ Below w.heap.size w w' := by
  by_cases h0 : fenceMay e o wh n = 0
  · have hp : fencePass e o wh n = (decide (e = n ∧ o = wh), 0) := by unfold fencePass; rw [if_neg (by simpa using h0)]
    rw [hp]
    have H0 := Aside0.mk h0
    clear h0 hp
    go_enter Tryd.func88, Tryd.ntmps88
    go_wp2_with fail
    refine (fenceMay_calls _ _ _ _ _).mono ?_
    rintro x w1 ⟨rfl, hb⟩
    rw [H0.out]
    have x0 : w1.cell? ⟨w.heap.size, 0, none⟩ = some (.int .i64 e) := (hb.cell (p := ⟨w.heap.size, 0, none⟩) (by simp)).trans (by simp)
    have x1 : w1.cell? ⟨w.heap.size, 1, none⟩ = some (.int .i64 o) := (hb.cell (p := ⟨w.heap.size, 1, none⟩) (by simp)).trans (by simp)
    have HB := Aside0.mk hb
    clear hb
    go_wp2
    all_goals
      go_ret2
      refine ⟨?_, below_step (below_alloc (Below.refl _ _) _) HB.out⟩
      simp [*]
  · obtain ⟨r, HR⟩ : ∃ r, Aside0 (fenceMay e o wh n = r) := ⟨_, ⟨rfl⟩⟩
    have hz : (r == 0) = false := by rw [← HR.out]; simpa using h0
    have hz' : (r != 0) = true := by rw [← HR.out]; simpa using h0
    have hp : fencePass e o wh n = (false, r) := by unfold fencePass; rw [if_pos h0, HR.out]
    rw [hp]
    clear h0 hp
    go_enter Tryd.func88, Tryd.ntmps88
    go_wp2_with fail
    refine (fenceMay_calls _ _ _ _ _).mono ?_
    rintro x w1 ⟨rfl, hb⟩
    rw [HR.out]
    have HB := Aside0.mk hb
    clear hb
    go_wp2
    go_ret2
    exact ⟨rfl, below_step (below_alloc (Below.refl _ _) _) HB.out⟩
set_option maxRecDepth 100000 in
set_option maxHeartbeats 4000000 in
theorem fenceClaim_calls (e o wh n : Int) (w : World) : Calls Tryd.prog 86 #[.agg #[.int .i64 e, .int .i64 o], .int .i64 wh, .int .i64 n] w fun x w' => x = .returned (.tuple #[.agg #[.int .i64 (fenceClaim e o wh n).1, .int .i64 (fenceClaim e o wh n).2.1], .bool (fenceClaim e o wh n).2.2.1, .int .i64 (fenceClaim e o wh n).2.2.2]) ∧ Below w.heap.size w w' := by
  have hB0 : Below w.heap.size w ((w.alloc (.cells #[.int .i64 e, .int .i64 o] 26)).alloc (.cells #[.int .i64 0, .int .i64 0] 26)) := below_alloc (below_alloc (Below.refl _ _) _) _
  by_cases h0 : fenceMay e o wh n = 0
  · have hp : fenceClaim e o wh n = ((claimed e o wh n).epoch, (claimed e o wh n).owner, decide (claimed e o wh n = ⟨n, wh⟩), 0) := by unfold fenceClaim; rw [if_neg (by simpa using h0)]
    rw [hp]
    have H0 := Aside0.mk h0
    have HB0 := Aside0.mk hB0
    clear h0 hp hB0
    by_cases hlt : e < n
    · have hcl : claimed e o wh n = ⟨n, wh⟩ := by unfold claimed; rw [if_pos hlt]
      rw [hcl]
      simp only [decide_true]
      clear hcl
      go_enter Tryd.func86, Tryd.ntmps86
      go_wp2_with fail
      refine (fenceMay_calls _ _ _ _ _).mono ?_
      rintro x w1 ⟨rfl, hb⟩
      rw [H0.out]
      have b0 : w1.heap[w.heap.size]? = some (.cells #[.int .i64 e, .int .i64 o] 26 (0, 0)) := blk_below (blk_alloc (blk_new w _) _) hb
      have b1 : w1.heap[w.heap.size + 1]? = some (.cells #[.int .i64 0, .int .i64 0] 26 (0, 0)) := blk_below (by have := blk_new (w.alloc (.cells #[.int .i64 e, .int .i64 o] 26)) (.cells #[.int .i64 0, .int .i64 0] 26); simpa using this) hb
      have HB := Aside0.mk (below_step HB0.out hb)
      clear hb
      have x0 := blk_cell b0 0
      have x1 := blk_cell b0 1
      have y0 := blk_cell b1 0
      have y1 := blk_cell b1 1
      have f0 := blk_frozen b0 0
      have f1 := blk_frozen b0 1
      have k0 := blk_frozen b1 0
      have k1 := blk_frozen b1 1
      have hz := blk_lt b1
      have hz0 := blk_lt b0
      simp at x0 x1 y0 y1
      clear b0 b1
      go_wp2
      go_region
      go_wp2
      refine bodyPost_ret (v := .tuple #[.agg #[.int .i64 n, .int .i64 wh], .bool true, .int .i64 0]) (by simp [results, Tryd.results86, go_sem, World.cell?_alloc_past, x0, x1, y0, y1, hz, hz0]) rfl ⟨rfl, ?_⟩
      exact (by repeat (first | exact HB.out | (refine Below.drew ?_) | (refine Below.setCell ?_ (by simp) _) | (refine Below.alloc ?_ (by have := HB.out.size; simp; omega) _)))
    · have hcl : claimed e o wh n = ⟨e, o⟩ := by unfold claimed; rw [if_neg hlt]
      rw [hcl]
      clear hcl
      by_cases he : e = n ∧ o = wh
      · obtain ⟨rfl, rfl⟩ := he
        simp only [decide_true]
        go_enter Tryd.func86, Tryd.ntmps86
        go_wp2_with fail
        refine (fenceMay_calls _ _ _ _ _).mono ?_
        rintro x w1 ⟨rfl, hb⟩
        rw [H0.out]
        have b0 : w1.heap[w.heap.size]? = some (.cells #[.int .i64 e, .int .i64 o] 26 (0, 0)) := blk_below (blk_alloc (blk_new w _) _) hb
        have b1 : w1.heap[w.heap.size + 1]? = some (.cells #[.int .i64 0, .int .i64 0] 26 (0, 0)) := blk_below (by have := blk_new (w.alloc (.cells #[.int .i64 e, .int .i64 o] 26)) (.cells #[.int .i64 0, .int .i64 0] 26); simpa using this) hb
        have HB := Aside0.mk (below_step HB0.out hb)
        clear hb
        have x0 := blk_cell b0 0
        have x1 := blk_cell b0 1
        have y0 := blk_cell b1 0
        have y1 := blk_cell b1 1
        have f0 := blk_frozen b0 0
        have f1 := blk_frozen b0 1
        have k0 := blk_frozen b1 0
        have k1 := blk_frozen b1 1
        have hz := blk_lt b1
        have hz0 := blk_lt b0
        simp at x0 x1 y0 y1
        clear b0 b1
        go_wp2
        go_region
        go_wp2
        refine bodyPost_ret (v := .tuple #[.agg #[.int .i64 e, .int .i64 o], .bool true, .int .i64 0]) (by simp [results, Tryd.results86, go_sem, World.cell?_alloc_past, x0, x1, y0, y1, hz, hz0]) rfl ⟨rfl, ?_⟩
        exact (by repeat (first | exact HB.out | (refine Below.drew ?_) | (refine Below.setCell ?_ (by simp) _) | (refine Below.alloc ?_ (by have := HB.out.size; simp; omega) _)))
      · have hd : decide ((⟨e, o⟩ : Fen) = ⟨n, wh⟩) = false := decide_eq_false (by intro h; injection h with h1 h2; exact he ⟨h1, h2⟩)
        rw [hd]
        clear hd
        by_cases h1 : e = n
        · have h2 : ¬ o = wh := fun h => he ⟨h1, h⟩
          clear he
          subst h1
          go_enter Tryd.func86, Tryd.ntmps86
          go_wp2_with fail
          refine (fenceMay_calls _ _ _ _ _).mono ?_
          rintro x w1 ⟨rfl, hb⟩
          rw [H0.out]
          have b0 : w1.heap[w.heap.size]? = some (.cells #[.int .i64 e, .int .i64 o] 26 (0, 0)) := blk_below (blk_alloc (blk_new w _) _) hb
          have b1 : w1.heap[w.heap.size + 1]? = some (.cells #[.int .i64 0, .int .i64 0] 26 (0, 0)) := blk_below (by have := blk_new (w.alloc (.cells #[.int .i64 e, .int .i64 o] 26)) (.cells #[.int .i64 0, .int .i64 0] 26); simpa using this) hb
          have HB := Aside0.mk (below_step HB0.out hb)
          clear hb
          have x0 := blk_cell b0 0
          have x1 := blk_cell b0 1
          have y0 := blk_cell b1 0
          have y1 := blk_cell b1 1
          have f0 := blk_frozen b0 0
          have f1 := blk_frozen b0 1
          have k0 := blk_frozen b1 0
          have k1 := blk_frozen b1 1
          have hz := blk_lt b1
          have hz0 := blk_lt b0
          simp at x0 x1 y0 y1
          clear b0 b1
          go_wp2
          go_region
          go_wp2
          refine bodyPost_ret (v := .tuple #[.agg #[.int .i64 e, .int .i64 o], .bool false, .int .i64 0]) (by simp [results, Tryd.results86, go_sem, World.cell?_alloc_past, x0, x1, y0, y1, hz, hz0]) rfl ⟨rfl, ?_⟩
          exact (by repeat (first | exact HB.out | (refine Below.drew ?_) | (refine Below.setCell ?_ (by simp) _) | (refine Below.alloc ?_ (by have := HB.out.size; simp; omega) _)))
        · clear he
          go_enter Tryd.func86, Tryd.ntmps86
          go_wp2_with fail
          refine (fenceMay_calls _ _ _ _ _).mono ?_
          rintro x w1 ⟨rfl, hb⟩
          rw [H0.out]
          have b0 : w1.heap[w.heap.size]? = some (.cells #[.int .i64 e, .int .i64 o] 26 (0, 0)) := blk_below (blk_alloc (blk_new w _) _) hb
          have b1 : w1.heap[w.heap.size + 1]? = some (.cells #[.int .i64 0, .int .i64 0] 26 (0, 0)) := blk_below (by have := blk_new (w.alloc (.cells #[.int .i64 e, .int .i64 o] 26)) (.cells #[.int .i64 0, .int .i64 0] 26); simpa using this) hb
          have HB := Aside0.mk (below_step HB0.out hb)
          clear hb
          have x0 := blk_cell b0 0
          have x1 := blk_cell b0 1
          have y0 := blk_cell b1 0
          have y1 := blk_cell b1 1
          have f0 := blk_frozen b0 0
          have f1 := blk_frozen b0 1
          have k0 := blk_frozen b1 0
          have k1 := blk_frozen b1 1
          have hz := blk_lt b1
          have hz0 := blk_lt b0
          simp at x0 x1 y0 y1
          clear b0 b1
          go_wp2
          go_region
          go_wp2
          refine bodyPost_ret (v := .tuple #[.agg #[.int .i64 e, .int .i64 o], .bool false, .int .i64 0]) (by simp [results, Tryd.results86, go_sem, World.cell?_alloc_past, x0, x1, y0, y1, hz, hz0]) rfl ⟨rfl, ?_⟩
          exact (by repeat (first | exact HB.out | (refine Below.drew ?_) | (refine Below.setCell ?_ (by simp) _) | (refine Below.alloc ?_ (by have := HB.out.size; simp; omega) _)))
  · obtain ⟨r, HR⟩ : ∃ r, Aside0 (fenceMay e o wh n = r) := ⟨_, ⟨rfl⟩⟩
    have hz1 : (r == 0) = false := by rw [← HR.out]; simpa using h0
    have hz1' : (r != 0) = true := by rw [← HR.out]; simpa using h0
    have hp : fenceClaim e o wh n = (0, 0, false, r) := by unfold fenceClaim; rw [if_pos h0, HR.out]
    rw [hp]
    have HB0 := Aside0.mk hB0
    clear h0 hp hB0
    go_enter Tryd.func86, Tryd.ntmps86
    go_wp2_with fail
    refine (fenceMay_calls _ _ _ _ _).mono ?_
    rintro x w1 ⟨rfl, hb⟩
    rw [HR.out]
    have b0 : w1.heap[w.heap.size]? = some (.cells #[.int .i64 e, .int .i64 o] 26 (0, 0)) := blk_below (blk_alloc (blk_new w _) _) hb
    have b1 : w1.heap[w.heap.size + 1]? = some (.cells #[.int .i64 0, .int .i64 0] 26 (0, 0)) := blk_below (by have := blk_new (w.alloc (.cells #[.int .i64 e, .int .i64 o] 26)) (.cells #[.int .i64 0, .int .i64 0] 26); simpa using this) hb
    have HB := Aside0.mk (below_step HB0.out hb)
    clear hb
    have x0 := blk_cell b0 0
    have x1 := blk_cell b0 1
    have y0 := blk_cell b1 0
    have y1 := blk_cell b1 1
    have f0 := blk_frozen b0 0
    have f1 := blk_frozen b0 1
    have k0 := blk_frozen b1 0
    have k1 := blk_frozen b1 1
    have hz := blk_lt b1
    have hz0 := blk_lt b0
    simp at x0 x1 y0 y1
    clear b0 b1
    go_wp2
    refine bodyPost_ret (v := .tuple #[.agg #[.int .i64 0, .int .i64 0], .bool false, .int .i64 r]) (by simp [results, Tryd.results86, go_sem, World.cell?_alloc_past, x0, x1, y0, y1, hz, hz0]) rfl ⟨rfl, ?_⟩
    exact (by repeat (first | exact HB.out | (refine Below.drew ?_) | (refine Below.setCell ?_ (by simp) _) | (refine Below.alloc ?_ (by have := HB.out.size; simp; omega) _)))
end Go.Proofs.YtifphhkkpadpoaaDoor
