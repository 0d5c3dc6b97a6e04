/- The walk of gate.Hand, at right gates. Printed by gen_gate3.py. -/
import Derived.Test.YtifphhkkpadpoaaDoorGate2
namespace Go.Proofs.YtifphhkkpadpoaaDoor
open Go.RowKit Go.Proofs.YtifphhkkpadpoaaDoorW.PrintWords
set_option linter.unusedVariables false
set_option linter.unusedSimpArgs false
theorem gateWrong_ok {g : Gat} {x : Give} (h : gateWrong g x = 0) : 0 ≤ x.num ∧ x.num ≤ g.out.length ∧ x.num ≠ 1000 ∨ 0 ≤ x.num ∧ x.num < g.out.length := by
  unfold gateWrong at h
  repeat' (split at h)
  all_goals first | (exact absurd h (by decide)) | contradiction | skip
  all_goals omega
set_option maxRecDepth 100000 in
set_option maxHeartbeats 8000000 in
theorem gateHand_calls (e o wh n num : Int) (text : ByteArray) (out : List ByteArray) (A : Option Addr) (c : Nat) (w : World) (hC : Kd.string.C w A out.length out) (hs : ∀ s, s ∈ out → s.size ≤ 9223372036854775807) (hg : gateCheck ⟨⟨e, o⟩, out⟩ = 0) (ht : text.size ≤ 9223372036854775807) :
    Calls Tryd.prog 89 #[.agg #[.int .i64 e, .int .i64 o, .slice A out.length c], .agg #[.int .i64 wh, .int .i64 n, .int .i64 num, .string text]] w (GatePost w (gateHand ⟨⟨e, o⟩, out⟩ ⟨wh, n, num, text⟩)) := by
  obtain ⟨h0, h1, h2⟩ := gateCheck_ok hg
  simp only at h0 h1 h2
  have HC := Aside0.mk hC
  have HS := Aside0.mk hs
  have HG := Aside0.mk hg
  have H1 := Aside0.mk h1
  have HT := Aside0.mk ht
  have hmax := hC.2.1
  have hB0 : Below w.heap.size w (((w.alloc (.cells #[.int .i64 e, .int .i64 o, .slice A out.length c] 30)).alloc (.cells #[.int .i64 wh, .int .i64 n, .int .i64 num, .string text] 146)).alloc (.cells #[.int .i64 0, .int .i64 0, .slice none 0 0] 30)) := below_alloc (below_alloc (below_alloc (Below.refl _ _) _) _) _
  have HB0 := Aside0.mk hB0
  obtain ⟨er, HW⟩ : ∃ er, Aside0 (gateWrong ⟨⟨e, o⟩, out⟩ ⟨wh, n, num, text⟩ = er) := ⟨_, ⟨rfl⟩⟩
  have hgh : gateHand ⟨⟨e, o⟩, out⟩ ⟨wh, n, num, text⟩ = if er ≠ 0 then (noGate, false, er) else if num < out.length then (⟨⟨e, o⟩, out⟩, false, 0) else (⟨⟨e, o⟩, out ++ [text]⟩, true, 0) := by
    unfold gateHand
    simp only [HW.out]
  rw [hgh]
  clear hC hs hg h0 h1 h2 hB0 hgh ht
  by_cases her : er = 0
  · subst her
    rw [if_neg (by simp)]
    have hn0 : 0 ≤ num := by rcases gateWrong_ok HW.out with h | h <;> exact h.1
    have hn1 : num ≤ (out.length : Int) := by rcases gateWrong_ok HW.out with h | h <;> (simp only at h; omega)
    have hn2 : ¬ num < (out.length : Int) → out.length < 1000 := by
      have := H1.out
      rcases gateWrong_ok HW.out with h | h <;> (simp only at h; omega)
    have HN2 := Aside0.mk hn2
    clear hn2
    generalize hrv : (if num < (out.length : Int) then ((⟨⟨e, o⟩, out⟩, false, 0) : Gat × Bool × Int) else (⟨⟨e, o⟩, out ++ [text]⟩, true, 0)) = rv
    have HRV := Aside0.mk hrv
    clear hrv
    go_enter Tryd.func89, Tryd.ntmps89
    go_wp2_with fail
    refine (gateCheck_calls ⟨⟨e, o⟩, out⟩ _ _ _ (Kd.C_below HC.out HB0.out) HS.out HG.out).mono ?_
    rintro x w1 ⟨rfl, hb⟩
    have b0 : w1.heap[w.heap.size]? = some (.cells #[.int .i64 e, .int .i64 o, .slice A out.length c] 30 (0, 0)) := blk_below (blk_alloc (blk_alloc (blk_new w _) _) _) hb
    have b1 : w1.heap[w.heap.size + 1]? = some (.cells #[.int .i64 wh, .int .i64 n, .int .i64 num, .string text] 146 (0, 0)) := blk_below (blk_alloc (by have := blk_new (w.alloc (.cells #[.int .i64 e, .int .i64 o, .slice A out.length c] 30)) (.cells #[.int .i64 wh, .int .i64 n, .int .i64 num, .string text] 146); simpa using this) _) hb
    have b2 : w1.heap[w.heap.size + 1 + 1]? = some (.cells #[.int .i64 0, .int .i64 0, .slice none 0 0] 30 (0, 0)) := blk_below (by have := blk_new ((w.alloc (.cells #[.int .i64 e, .int .i64 o, .slice A out.length c] 30)).alloc (.cells #[.int .i64 wh, .int .i64 n, .int .i64 num, .string text] 146)) (.cells #[.int .i64 0, .int .i64 0, .slice none 0 0] 30); simpa using this) hb
    have HB1 := Aside0.mk (below_step HB0.out hb)
    clear hb
    have x0 : w1.cell? ⟨w.heap.size, 0, none⟩ = some (.int .i64 e) := blk_cell b0 0
    have x1 : w1.cell? ⟨w.heap.size, 1, none⟩ = some (.int .i64 o) := blk_cell b0 1
    have x2 : w1.cell? ⟨w.heap.size, 2, none⟩ = some (.slice A out.length c) := blk_cell b0 2
    have x3 : w1.cell? ⟨w.heap.size + 1, 0, none⟩ = some (.int .i64 wh) := blk_cell b1 0
    have x4 : w1.cell? ⟨w.heap.size + 1, 1, none⟩ = some (.int .i64 n) := blk_cell b1 1
    have x5 : w1.cell? ⟨w.heap.size + 1, 2, none⟩ = some (.int .i64 num) := blk_cell b1 2
    have x6 : w1.cell? ⟨w.heap.size + 1, 3, none⟩ = some (.string text) := blk_cell b1 3
    go_wp2_with fail
    clear x0 x1 x2 x3 x4 x5 x6
    refine (gateWrong_calls e o wh n num text out A c _ (Kd.C_below HC.out HB1.out) H1.out HT.out).mono ?_
    rintro x w2 ⟨rfl, hb⟩
    rw [HW.out]
    have c0 := blk_below b0 hb
    have c1 := blk_below b1 hb
    have c2 := blk_below b2 hb
    have HB2 := Aside0.mk (below_step HB1.out hb)
    clear hb b0 b1 b2
    have hz := blk_lt c0
    have hz1 := blk_lt c1
    have hz2 := blk_lt c2
    have y2 : w2.cell? ⟨w.heap.size, 2, none⟩ = some (.slice A out.length c) := blk_cell c0 2
    have k2 := blk_frozen c0 2
    have C0 := Aside0.mk c0
    have C1 := Aside0.mk c1
    have C2 := Aside0.mk c2
    clear c0 c1 c2
    have hlen16 : out.length * 16 ≤ 140737488355328 := by have := H1.out; omega
    have HCL := Aside0.mk (fun (W : World) (hW : Below w.heap.size w W) => clone_string A c out W (Kd.C_below HC.out hW) hlen16)
    clear hlen16
    go_wp2_with fail
    refine (HCL.out _ HB2.out).mono ?_
    rintro e4 w4 ⟨v, rfl, hR, hb⟩
    obtain ⟨Av, cv, rfl⟩ := Kd.R_slice hR
    have d0 := blk_below C0.out hb
    have d1 := blk_below C1.out hb
    have d2 := blk_below C2.out hb
    have HB4 := Aside0.mk (below_step HB2.out hb)
    have HBS := Aside0.mk hb
    clear hb C0 C1 C2 y2 k2
    have q2 := blk_frozen d0 2
    have s2 : w4.cell? ⟨w.heap.size, 2, none⟩ = some (.slice A out.length c) := blk_cell d0 2
    have D0 := Aside0.mk d0
    have D1 := Aside0.mk d1
    have D2 := Aside0.mk d2
    have HR := Aside0.mk hR
    clear d0 d1 d2 hR
    have hz4 := blk_lt D0.out
    have e0 : (w4.setCell ⟨w.heap.size, 2, none⟩ (.slice Av out.length cv)).heap[w.heap.size]? = some (.cells #[.int .i64 e, .int .i64 o, .slice Av out.length cv] 30 (0, 0)) := blk_put D0.out 2 _ rfl
    have e1 : (w4.setCell ⟨w.heap.size, 2, none⟩ (.slice Av out.length cv)).heap[w.heap.size + 1]? = some (.cells #[.int .i64 wh, .int .i64 n, .int .i64 num, .string text] 146 (0, 0)) := blk_far D1.out (by simp) _
    have e2 : (w4.setCell ⟨w.heap.size, 2, none⟩ (.slice Av out.length cv)).heap[w.heap.size + 1 + 1]? = some (.cells #[.int .i64 0, .int .i64 0, .slice none 0 0] 30 (0, 0)) := blk_far D2.out (by simp; omega) _
    have x0 := blk_cell e0 0
    have x1 := blk_cell e0 1
    have x2 := blk_cell e0 2
    have x5 := blk_cell e1 2
    have x6 := blk_cell e1 3
    have y0 := blk_cell e2 0
    have y1 := blk_cell e2 1
    have y2 := blk_cell e2 2
    have k0 := blk_frozen e2 0
    have k1 := blk_frozen e2 1
    have k2 := blk_frozen e2 2
    have E0 := Aside0.mk e0
    have E1 := Aside0.mk e1
    have E2 := Aside0.mk e2
    clear e0 e1 e2
    by_cases hlt : num < (out.length : Int)
    · have hd : decide (num < (out.length : Int)) = true := decide_eq_true hlt
      have HRV1 : Aside0 (rv = (⟨⟨e, o⟩, out⟩, false, 0)) := ⟨by rw [← HRV.out, if_pos hlt]⟩
      replace hlt := Aside0.mk hlt
      go_wp2_with fail
      rw [HRV1.out]
      refine bodyPost_ret (v := .tuple #[.agg #[.int .i64 e, .int .i64 o, .slice Av out.length cv], .bool false, .int .i64 0]) (by simp [results, Tryd.results89, go_sem, y0, y1, y2, k0, k1, k2]) rfl ⟨Av, cv, rfl, R_cap HR.out, ?_, ?_⟩
      · refine Keeps.mono (Keeps.step (Keeps.row HR.out) (S := fun j => j = w.heap.size ∨ j = w.heap.size + 1 + 1) ?_ (fun j hj _ hx => ?_)) (fun j hj => ?_)
        · exact ((((Only.refl (fun j => j = w.heap.size ∨ j = w.heap.size + 1 + 1) w4).setCell (p := ⟨w.heap.size, 2, none⟩) (.inl (.inl rfl)) _).setCell (p := ⟨w.heap.size + 1 + 1, 0, none⟩) (.inl (.inr rfl)) _).setCell (p := ⟨w.heap.size + 1 + 1, 1, none⟩) (.inl (.inr rfl)) _).setCell (p := ⟨w.heap.size + 1 + 1, 2, none⟩) (.inl (.inr rfl)) _
        · have hj' : w2.heap.size ≤ j := hj
          rcases hx with hx | hx <;> omega
        · have hj' : w2.heap.size ≤ j := hj
          show w.heap.size ≤ j
          omega
      · exact (by repeat (first | exact HB4.out | (refine Below.drew ?_) | (apply pw_below_drewN) | (refine Below.setCell ?_ (by first | (simp; done) | (simp; omega)) _) | (refine Below.alloc ?_ (by have := HB4.out.size; simp; omega) _)))
    · have hd : decide (num < (out.length : Int)) = false := decide_eq_false hlt
      have HRV1 : Aside0 (rv = (⟨⟨e, o⟩, out ++ [text]⟩, true, 0)) := ⟨by rw [← HRV.out, if_neg hlt]⟩
      have hl16 : (out.length + 1) * 16 ≤ 140737488355328 := by have := HN2.out (by omega); omega
      have HL16 := Aside0.mk hl16
      replace hlt := Aside0.mk hlt
      have HR5 := Aside0.mk (Kd.R_far HR.out (p := ⟨w.heap.size, 2, none⟩) (fun k hk => by have hk' : w2.heap.size ≤ k := hk; show k ≠ w.heap.size; omega) (.slice Av out.length cv))
      have hs5 : w2.heap.size ≤ (w4.setCell ⟨w.heap.size, 2, none⟩ (.slice Av out.length cv)).heap.size := by have := HBS.out.size; simpa using this
      have HS5 := Aside0.mk hs5
      have HSZ : Aside0 (w4.heap.size = (w4.setCell ⟨w.heap.size, 2, none⟩ (.slice Av out.length cv)).heap.size) := ⟨by simp⟩
      have HB5 : Aside0 (Below w.heap.size w (w4.setCell ⟨w.heap.size, 2, none⟩ (.slice Av out.length cv))) := ⟨(by repeat (first | exact HB4.out | (refine Below.drew ?_) | (apply pw_below_drewN) | (refine Below.setCell ?_ (by first | (simp; done) | (simp; omega)) _) | (refine Below.alloc ?_ (by have := HB4.out.size; simp; omega) _)))⟩
      have HG5 : Aside0 (some w.heap.size ≠ (Value.slice Av out.length cv).ownBlock) := ⟨fun hx => by obtain ⟨inner, hown⟩ := Kd.R_own HR5.out; have := own_base hown _ hx.symm; omega⟩
      have HG6 : Aside0 (some (w.heap.size + 1 + 1) ≠ (Value.slice Av out.length cv).ownBlock) := ⟨fun hx => by obtain ⟨inner, hown⟩ := Kd.R_own HR5.out; have := own_base hown _ hx.symm; omega⟩
      have HF5 : Aside0 (∀ k, (w4.setCell ⟨w.heap.size, 2, none⟩ (.slice Av out.length cv)).heap.size ≤ k → w2.heap.size ≤ k) := ⟨fun k hk => by have := HS5.out; omega⟩
      clear hl16 hs5
      go_wp2_with (at_builtin; refine Kd.R_append Kd.string (W := (w4.setCell ⟨w.heap.size, 2, none⟩ (.slice Av out.length cv))) (w0 := (w4.setCell ⟨w.heap.size, 2, none⟩ (.slice Av out.length cv))) w2.heap.size rfl (.tmp 31) (.tmp 34) 28 9 (.string ⟨#[]⟩) 16 rfl Tryd.underlying28 info_string rfl (by decide) (by decide) (.slice Av out.length cv) out text [.string text] (fun k => w2.heap.size ≤ k) (fun _ => False) rfl (congrArg (fun h => Value.slice (some ⟨h, 0, none⟩) 1 1) HSZ.out) rfl (fun _ h => h.elim) HF5.out HR5.out (Below.refl _ _) HS5.out HL16.out ?_; intro v1 w6 hR hB6 hg hat; obtain ⟨A1, c1, rfl⟩ := Kd.R_slice hR; have E06 := Aside0.mk (blk_grown E0.out hg HG5.out); have E26 := Aside0.mk (blk_grown E2.out hg HG6.out); have HR6 := Aside0.mk hR; have HB6 := Aside0.mk hB6; clear hR hB6 hg hat; have x02 := blk_cell E06.out 2; have f02 := blk_frozen E06.out 2; have x00 := blk_cell E06.out 0; have x01 := blk_cell E06.out 1; have y60 := blk_cell E26.out 0; have y61 := blk_cell E26.out 1; have y62 := blk_cell E26.out 2; have k60 := blk_frozen E26.out 0; have k61 := blk_frozen E26.out 1; have k62 := blk_frozen E26.out 2)
      rw [HRV1.out]
      refine bodyPost_ret (v := .tuple #[.agg #[.int .i64 e, .int .i64 o, .slice A1 (out ++ [text]).length c1], .bool true, .int .i64 0]) (by simp [results, Tryd.results89, go_sem, y60, y61, y62, k60, k61, k62]) rfl ⟨A1, c1, rfl, R_cap HR6.out, ?_, ?_⟩
      · refine Keeps.mono (Keeps.step (Keeps.row HR6.out) (S := fun j => j = w.heap.size ∨ j = w.heap.size + 1 + 1) ?_ (fun j hj _ hx => ?_)) (fun j hj => ?_)
        · exact ((((Only.refl (fun j => j = w.heap.size ∨ j = w.heap.size + 1 + 1) w6).setCell (p := ⟨w.heap.size, 2, none⟩) (.inl (.inl rfl)) _).setCell (p := ⟨w.heap.size + 1 + 1, 0, none⟩) (.inl (.inr rfl)) _).setCell (p := ⟨w.heap.size + 1 + 1, 1, none⟩) (.inl (.inr rfl)) _).setCell (p := ⟨w.heap.size + 1 + 1, 2, none⟩) (.inl (.inr rfl)) _
        · have hj' : w2.heap.size ≤ j := hj
          rcases hx with hx | hx <;> omega
        · have hj' : w2.heap.size ≤ j := hj
          show w.heap.size ≤ j
          omega
      · have HB7 : Aside0 (Below w.heap.size w w6) := ⟨HB5.out.trans (HB6.out.mono (by omega))⟩
        exact (by repeat (first | exact HB7.out | (refine Below.drew ?_) | (apply pw_below_drewN) | (refine Below.setCell ?_ (by first | (simp; done) | (simp; omega)) _) | (refine Below.alloc ?_ (by have := HB7.out.size; simp; omega) _)))
  · rw [if_pos her]
    have hz1 : (er == 0) = false := by simpa using her
    have hz1' : (er != 0) = true := by simpa using her
    go_enter Tryd.func89, Tryd.ntmps89
    go_wp2_with fail
    refine (gateCheck_calls ⟨⟨e, o⟩, out⟩ _ _ _ (Kd.C_below HC.out HB0.out) HS.out HG.out).mono ?_
    rintro x w1 ⟨rfl, hb⟩
    have b0 : w1.heap[w.heap.size]? = some (.cells #[.int .i64 e, .int .i64 o, .slice A out.length c] 30 (0, 0)) := blk_below (blk_alloc (blk_alloc (blk_new w _) _) _) hb
    have b1 : w1.heap[w.heap.size + 1]? = some (.cells #[.int .i64 wh, .int .i64 n, .int .i64 num, .string text] 146 (0, 0)) := blk_below (blk_alloc (by have := blk_new (w.alloc (.cells #[.int .i64 e, .int .i64 o, .slice A out.length c] 30)) (.cells #[.int .i64 wh, .int .i64 n, .int .i64 num, .string text] 146); simpa using this) _) hb
    have b2 : w1.heap[w.heap.size + 1 + 1]? = some (.cells #[.int .i64 0, .int .i64 0, .slice none 0 0] 30 (0, 0)) := blk_below (by have := blk_new ((w.alloc (.cells #[.int .i64 e, .int .i64 o, .slice A out.length c] 30)).alloc (.cells #[.int .i64 wh, .int .i64 n, .int .i64 num, .string text] 146)) (.cells #[.int .i64 0, .int .i64 0, .slice none 0 0] 30); simpa using this) hb
    have HB1 := Aside0.mk (below_step HB0.out hb)
    clear hb
    have x0 : w1.cell? ⟨w.heap.size, 0, none⟩ = some (.int .i64 e) := blk_cell b0 0
    have x1 : w1.cell? ⟨w.heap.size, 1, none⟩ = some (.int .i64 o) := blk_cell b0 1
    have x2 : w1.cell? ⟨w.heap.size, 2, none⟩ = some (.slice A out.length c) := blk_cell b0 2
    have x3 : w1.cell? ⟨w.heap.size + 1, 0, none⟩ = some (.int .i64 wh) := blk_cell b1 0
    have x4 : w1.cell? ⟨w.heap.size + 1, 1, none⟩ = some (.int .i64 n) := blk_cell b1 1
    have x5 : w1.cell? ⟨w.heap.size + 1, 2, none⟩ = some (.int .i64 num) := blk_cell b1 2
    have x6 : w1.cell? ⟨w.heap.size + 1, 3, none⟩ = some (.string text) := blk_cell b1 3
    go_wp2_with fail
    clear x0 x1 x2 x3 x4 x5 x6
    refine (gateWrong_calls e o wh n num text out A c _ (Kd.C_below HC.out HB1.out) H1.out HT.out).mono ?_
    rintro x w2 ⟨rfl, hb⟩
    rw [HW.out]
    have c0 := blk_below b0 hb
    have c1 := blk_below b1 hb
    have c2 := blk_below b2 hb
    have HB2 := Aside0.mk (below_step HB1.out hb)
    clear hb b0 b1 b2
    have hz := blk_lt c0
    have hz2 := blk_lt c2
    have y0 : w2.cell? ⟨w.heap.size + 1 + 1, 0, none⟩ = some (.int .i64 0) := blk_cell c2 0
    have y1 : w2.cell? ⟨w.heap.size + 1 + 1, 1, none⟩ = some (.int .i64 0) := blk_cell c2 1
    have y2 : w2.cell? ⟨w.heap.size + 1 + 1, 2, none⟩ = some (.slice none 0 0) := blk_cell c2 2
    have k0 := blk_frozen c2 0
    have k1 := blk_frozen c2 1
    have k2 := blk_frozen c2 2
    clear c0 c1 c2
    go_wp2
    refine bodyPost_ret (v := .tuple #[.agg #[.int .i64 0, .int .i64 0, .slice none 0 0], .bool false, .int .i64 er]) (by simp [results, Tryd.results89, go_sem, y0, y1, y2, k0, k1, k2]) rfl ⟨none, 0, rfl, Nat.le_refl _, fun W' _ => Kd.C_nil _ _, ?_⟩
    exact (by repeat (first | exact HB2.out | (refine Below.drew ?_) | (apply pw_below_drewN) | (refine Below.setCell ?_ (by first | (simp; done) | (simp; omega)) _) | (refine Below.alloc ?_ (by have := HB2.out.size; simp; omega) _)))
end Go.Proofs.YtifphhkkpadpoaaDoor
