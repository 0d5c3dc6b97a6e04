/- The walks of package gate, at right gates. -/
import Derived.Test.YtifphhkkpadpoaaDoorFen
import Derived.Test.YtifphhkkpadpoaaDoorSlStr
namespace Go.Proofs.YtifphhkkpadpoaaDoor
open Go.RowKit Go.Proofs.YtifphhkkpadpoaaDoorW.PrintWords
set_option linter.unusedVariables false
set_option linter.unusedSimpArgs false
theorem R_cap {α : Type} {d : Kd α} {E base n c : Nat} {w : World} {ok : Nat → Prop} {A : Option Addr} {xs : List α} (h : d.R E w base ok (.slice A n c) xs) : xs.length ≤ c := by
  obtain ⟨A', c', he, hl, _⟩ := Kd.R_reads h
  injection he with _ _ h2
  rw [h2]; exact hl
theorem long_calls (s : ByteArray) (w : World) (hs : s.size ≤ 9223372036854775807) : Calls Tryd.prog 120 #[.string s] w fun e w' => e = .returned (.bool (isLong s)) ∧ Below w.heap.size w w' := by
  go_enter Tryd.func120, Tryd.ntmps120
  go_wp2
  go_ret
  refine ⟨ret_bool ?_, Below.refl _ _⟩
  unfold isLong
  rw [Bool.eq_iff_iff]
  simp
  omega
theorem answers_long (w : World) (xs : List ByteArray) (hs : ∀ s, s ∈ xs → s.size ≤ 9223372036854775807) : AnswersStr w 120 isLong xs where
  run := fun _ _ => by kernel_rfl
  calls := fun x W hx _ => long_calls x W (hs x hx)
set_option maxRecDepth 100000 in
set_option maxHeartbeats 4000000 in
theorem gateCheck_calls (g : Gat) (A : Option Addr) (c : Nat) (w : World) (hC : Kd.string.C w A g.out.length g.out) (hs : ∀ s, s ∈ g.out → s.size ≤ 9223372036854775807) (hg : gateCheck g = 0) :
    Calls Tryd.prog 107 #[.agg #[.int .i64 g.fence.epoch, .int .i64 g.fence.owner, .slice A g.out.length c]] w fun e w' => e = .returned (.int .i64 0) ∧ Below w.heap.size w w' := by
  obtain ⟨⟨e, o⟩, out⟩ := g
  obtain ⟨h0, h1, h2⟩ := gateCheck_ok hg
  simp only at hC hs h0 h1 h2 ⊢
  have hl : (out.length : Int) ≤ 1000 := by omega
  have HC := Aside0.mk hC
  have HS := Aside0.mk hs
  have H0 := Aside0.mk h0
  have H2 := Aside0.mk h2
  have hmax := hC.2.1
  clear hC hs hg h0 h2 h1
  go_enter Tryd.func107, Tryd.ntmps107
  go_wp2_with fail
  refine (fenceCheck_calls _ _ _).mono ?_
  rintro x w1 ⟨rfl, hb⟩
  rw [H0.out]
  have b0 : w1.heap[w.heap.size]? = some (.cells #[.int .i64 e, .int .i64 o, .slice A out.length c] 30 (0, 0)) := blk_below (blk_new w _) hb
  have x2 : w1.cell? ⟨w.heap.size, 2, none⟩ = some (.slice A out.length c) := blk_cell b0 2
  have HB := Aside0.mk (below_step (below_alloc (Below.refl _ _) _) hb)
  clear hb b0
  go_wp2_with fail
  clear x2
  refine (containsFunc_str _ isLong _ _ _ _ (answers_long _ _ HS.out) (Kd.C_below HC.out HB.out)).mono ?_
  rintro x w2 ⟨rfl, hb⟩
  rw [H2.out]
  have HB2 := Aside0.mk (below_step HB.out hb)
  clear hb
  go_wp2
  go_ret
  exact ⟨rfl, HB2.out⟩
def GatePost (w : World) (r : Gat × Bool × Int) (e : Ending) (w' : World) : Prop :=
  ∃ A c, e = .returned (.tuple #[.agg #[.int .i64 r.1.fence.epoch, .int .i64 r.1.fence.owner, .slice A r.1.out.length c], .bool r.2.1, .int .i64 r.2.2]) ∧ r.1.out.length ≤ c ∧
    Keeps (fun W => Kd.string.C W A r.1.out.length r.1.out) w' (fun k => w.heap.size ≤ k) ∧ Below w.heap.size w w'
set_option maxRecDepth 100000 in
set_option maxHeartbeats 4000000 in
theorem gateClaim_calls (g : Gat) (wh n : Int) (A : Option Addr) (c : Nat) (w : World) (hC : Kd.string.C w A g.out.length g.out) (hs : ∀ s, s ∈ g.out → s.size ≤ 9223372036854775807) (hg : gateCheck g = 0) :
    Calls Tryd.prog 87 #[.agg #[.int .i64 g.fence.epoch, .int .i64 g.fence.owner, .slice A g.out.length c], .int .i64 wh, .int .i64 n] w (GatePost w (gateClaim g wh n)) := by
  obtain ⟨⟨e, o⟩, out⟩ := g
  obtain ⟨h0, h1, h2⟩ := gateCheck_ok hg
  simp only at hC hs h0 h1 h2 ⊢
  have HC := Aside0.mk hC
  have HS := Aside0.mk hs
  have HG := Aside0.mk hg
  have H1 := Aside0.mk h1
  have hmax := hC.2.1
  have hB0 : Below w.heap.size w ((w.alloc (.cells #[.int .i64 e, .int .i64 o, .slice A out.length c] 30)).alloc (.cells #[.int .i64 0, .int .i64 0, .slice none 0 0] 30)) := below_alloc (below_alloc (Below.refl _ _) _) _
  have HB0 := Aside0.mk hB0
  obtain ⟨e1, o1, ok, er, HF⟩ : ∃ e1 o1 ok er, Aside0 (fenceClaim e o wh n = (e1, o1, ok, er)) := ⟨_, _, _, _, ⟨rfl⟩⟩
  have hgc : gateClaim ⟨⟨e, o⟩, out⟩ wh n = if er ≠ 0 then (noGate, false, er) else (⟨⟨e1, o1⟩, out⟩, ok, 0) := by
    unfold gateClaim
    simp only [HF.out]
  rw [hgc]
  clear hC hs hg h0 h1 h2 hB0 hgc
  by_cases her : er = 0
  · subst her
    rw [if_neg (by simp)]
    go_enter Tryd.func87, Tryd.ntmps87
    go_wp2_with fail
    refine (gateCheck_calls ⟨⟨e, o⟩, out⟩ _ _ _ (Kd.C_below HC.out HB0.out) HS.out HG.out).mono ?_
    rintro x w1 ⟨rfl, hb⟩
    have b0 : w1.heap[w.heap.size]? = some (.cells #[.int .i64 e, .int .i64 o, .slice A out.length c] 30 (0, 0)) := blk_below (blk_alloc (blk_new w _) _) hb
    have b1 : w1.heap[w.heap.size + 1]? = some (.cells #[.int .i64 0, .int .i64 0, .slice none 0 0] 30 (0, 0)) := blk_below (by have := blk_new (w.alloc (.cells #[.int .i64 e, .int .i64 o, .slice A out.length c] 30)) (.cells #[.int .i64 0, .int .i64 0, .slice none 0 0] 30); simpa using this) hb
    have HB1 := Aside0.mk (below_step HB0.out hb)
    clear hb
    have x0 : w1.cell? ⟨w.heap.size, 0, none⟩ = some (.int .i64 e) := blk_cell b0 0
    have x1 : w1.cell? ⟨w.heap.size, 1, none⟩ = some (.int .i64 o) := blk_cell b0 1
    go_wp2_with fail
    clear x0 x1
    refine (fenceClaim_calls _ _ _ _ _).mono ?_
    rintro x w2 ⟨rfl, hb⟩
    rw [HF.out]
    simp only
    have c0 := blk_below b0 hb
    have c1 := blk_below b1 hb
    have HB2 := Aside0.mk (below_step HB1.out hb)
    clear hb b0 b1
    have y0 : w2.cell? ⟨w.heap.size + 1, 0, none⟩ = some (.int .i64 0) := blk_cell c1 0
    have y1 : w2.cell? ⟨w.heap.size + 1, 1, none⟩ = some (.int .i64 0) := blk_cell c1 1
    have y2 : w2.cell? ⟨w.heap.size + 1, 2, none⟩ = some (.slice none 0 0) := blk_cell c1 2
    have k0 := blk_frozen c1 0
    have k1 := blk_frozen c1 1
    have k2 := blk_frozen c1 2
    have hz := blk_lt c1
    have hz0 := blk_lt c0
    have x2 : w2.cell? ⟨w.heap.size, 2, none⟩ = some (.slice A out.length c) := blk_cell c0 2
    have C0 := Aside0.mk c0
    have C1 := Aside0.mk c1
    clear c0 c1
    go_wp2
    have HB3 := Aside0.mk (below_alloc HB2.out (.cells #[.int .i64 e1, .int .i64 o1] 26))
    have d0 := blk_alloc C0.out (.cells #[.int .i64 e1, .int .i64 o1] 26)
    have d1 := blk_alloc C1.out (.cells #[.int .i64 e1, .int .i64 o1] 26)
    have d2 := blk_new w2 (.cells #[.int .i64 e1, .int .i64 o1] 26)
    clear x2 y0 y1 y2 k0 k1 k2 hz0 C0 C1
    generalize w2.alloc (.cells #[.int .i64 e1, .int .i64 o1] 26) = w3 at *
    generalize w2.heap.size = hf at *
    have hne1 : hf ≠ w.heap.size + 1 := by omega
    have hne2 : w.heap.size + 1 ≠ hf := by omega
    have z2 : w3.cell? ⟨w.heap.size, 2, none⟩ = some (.slice A out.length c) := blk_cell d0 2
    have z0 : w3.cell? ⟨hf, 0, none⟩ = some (.int .i64 e1) := blk_cell d2 0
    have z1 : w3.cell? ⟨hf, 1, none⟩ = some (.int .i64 o1) := blk_cell d2 1
    have y0 : w3.cell? ⟨w.heap.size + 1, 0, none⟩ = some (.int .i64 0) := blk_cell d1 0
    have y1 : w3.cell? ⟨w.heap.size + 1, 1, none⟩ = some (.int .i64 0) := blk_cell d1 1
    have y2 : w3.cell? ⟨w.heap.size + 1, 2, none⟩ = some (.slice none 0 0) := blk_cell d1 2
    have k0 := blk_frozen d1 0
    have k1 := blk_frozen d1 1
    have k2 := blk_frozen d1 2
    have D1 := Aside0.mk d1
    have D0 := Aside0.mk d0
    have D2 := Aside0.mk d2
    clear d0 d1 d2
    have hlen16 : out.length * 16 ≤ 140737488355328 := by have := H1.out; omega
    have HCL := Aside0.mk (fun (W : World) (hW : Below w.heap.size w W) => clone_string A c out W (Kd.C_below HC.out hW) hlen16)
    clear hlen16
    go_region_held3 (fun w' => w'.cell? ⟨w.heap.size, 2, none⟩ = some (.slice A out.length c) ∧ w'.cell? ⟨hf, 0, none⟩ = some (.int .i64 e1) ∧ w'.cell? ⟨hf, 1, none⟩ = some (.int .i64 o1)) (first | go_keep | (dsimp only; (repeat' apply And.intro) <;> go_keep) | ((repeat' apply And.intro) <;> go_keep))
      ((go_at_call 108; refine (HCL.out _ (below_drew HB3.out)).mono ?_; rintro e w4 ⟨v, rfl, hR, hb⟩; obtain ⟨Av, cv, rfl⟩ := Kd.R_slice hR; have E0 := Aside0.mk (blk_below (w := w3.drew) D0.out hb); have E1 := Aside0.mk (blk_below (w := w3.drew) D1.out hb); have E2 := Aside0.mk (blk_below (w := w3.drew) D2.out hb); have HB4 := Aside0.mk (below_step (below_drew HB3.out) hb); have HR := Aside0.mk hR; clear hR hb; have q0 : w4.cell? ⟨w.heap.size + 1, 0, none⟩ = some (.int .i64 0) := blk_cell E1.out 0; have q1 : w4.cell? ⟨w.heap.size + 1, 1, none⟩ = some (.int .i64 0) := blk_cell E1.out 1; have q2 : w4.cell? ⟨w.heap.size + 1, 2, none⟩ = some (.slice none 0 0) := blk_cell E1.out 2; have s2 : w4.cell? ⟨w.heap.size, 2, none⟩ = some (.slice A out.length c) := blk_cell E0.out 2; have s0 : w4.cell? ⟨hf, 0, none⟩ = some (.int .i64 e1) := blk_cell E2.out 0; have s1 : w4.cell? ⟨hf, 1, none⟩ = some (.int .i64 o1) := blk_cell E2.out 1; have j0 := blk_frozen E1.out 0; have j1 := blk_frozen E1.out 1; have j2 := blk_frozen E1.out 2))
    have hs3 := blk_lt D2.out
    go_wp2
    refine bodyPost_ret (v := .tuple #[.agg #[.int .i64 e1, .int .i64 o1, .slice Av out.length cv], .bool ok, .int .i64 0]) (by simp [results, Tryd.results87, go_sem, q0, q1, q2]) rfl ⟨Av, cv, rfl, R_cap HR.out, ?_, ?_⟩
    · refine Keeps.mono (Keeps.step (Keeps.row HR.out) (S := fun j => j = w.heap.size + 1) ?_ (fun j hj _ hx => ?_)) (fun j hj => ?_)
      · exact (((Only.refl (fun j => j = w.heap.size + 1) w4).setCell (p := ⟨w.heap.size + 1, 0, none⟩) (.inl rfl) _).setCell (p := ⟨w.heap.size + 1, 1, none⟩) (.inl rfl) _).setCell (p := ⟨w.heap.size + 1, 2, none⟩) (.inl rfl) _
      · have hj' : w3.heap.size ≤ j := hj
        omega
      · have hj' : w3.heap.size ≤ j := hj
        show w.heap.size ≤ j
        omega
    · exact (by repeat (first | exact HB4.out | (refine Below.drew ?_) | (refine Below.setCell ?_ (by simp) _) | (refine Below.alloc ?_ (by have := HB4.out.size; simp; omega) _)))
  · rw [if_pos her]
    have hz1 : (er == 0) = false := by simpa using her
    have hz1' : (er != 0) = true := by simpa using her
    go_enter Tryd.func87, Tryd.ntmps87
    go_wp2_with fail
    refine (gateCheck_calls ⟨⟨e, o⟩, out⟩ _ _ _ (Kd.C_below HC.out HB0.out) HS.out HG.out).mono ?_
    rintro x w1 ⟨rfl, hb⟩
    have b0 : w1.heap[w.heap.size]? = some (.cells #[.int .i64 e, .int .i64 o, .slice A out.length c] 30 (0, 0)) := blk_below (blk_alloc (blk_new w _) _) hb
    have b1 : w1.heap[w.heap.size + 1]? = some (.cells #[.int .i64 0, .int .i64 0, .slice none 0 0] 30 (0, 0)) := blk_below (by have := blk_new (w.alloc (.cells #[.int .i64 e, .int .i64 o, .slice A out.length c] 30)) (.cells #[.int .i64 0, .int .i64 0, .slice none 0 0] 30); simpa using this) hb
    have HB1 := Aside0.mk (below_step HB0.out hb)
    clear hb
    have x0 : w1.cell? ⟨w.heap.size, 0, none⟩ = some (.int .i64 e) := blk_cell b0 0
    have x1 : w1.cell? ⟨w.heap.size, 1, none⟩ = some (.int .i64 o) := blk_cell b0 1
    go_wp2_with fail
    clear x0 x1
    refine (fenceClaim_calls _ _ _ _ _).mono ?_
    rintro x w2 ⟨rfl, hb⟩
    rw [HF.out]
    simp only
    have c0 := blk_below b0 hb
    have c1 := blk_below b1 hb
    have HB2 := Aside0.mk (below_step HB1.out hb)
    clear hb b0 b1
    have y0 : w2.cell? ⟨w.heap.size + 1, 0, none⟩ = some (.int .i64 0) := blk_cell c1 0
    have y1 : w2.cell? ⟨w.heap.size + 1, 1, none⟩ = some (.int .i64 0) := blk_cell c1 1
    have y2 : w2.cell? ⟨w.heap.size + 1, 2, none⟩ = some (.slice none 0 0) := blk_cell c1 2
    have k0 := blk_frozen c1 0
    have k1 := blk_frozen c1 1
    have k2 := blk_frozen c1 2
    have hz := blk_lt c1
    have hz0 := blk_lt c0
    clear c0 c1
    go_wp2
    refine bodyPost_ret (v := .tuple #[.agg #[.int .i64 0, .int .i64 0, .slice none 0 0], .bool false, .int .i64 er]) (by simp [results, Tryd.results87, go_sem, World.cell?_alloc_past, y0, y1, y2, hz, hz0]) rfl ⟨none, 0, rfl, Nat.le_refl _, fun W' _ => Kd.C_nil _ _, ?_⟩
    exact (by repeat (first | exact HB2.out | (refine Below.drew ?_) | (refine Below.setCell ?_ (by simp) _) | (refine Below.alloc ?_ (by have := HB2.out.size; simp; omega) _)))
end Go.Proofs.YtifphhkkpadpoaaDoor
