/- The walk of (*pair.play).claim. Printed by gen_claim.py. -/
import Derived.Test.YtifphhkkpadpoaaDoorPInput
namespace Go.Proofs.YtifphhkkpadpoaaDoor
open Go.RowKit Go.Proofs.YtifphhkkpadpoaaDoorW.PrintWords
set_option linter.unusedVariables false
set_option linter.unusedSimpArgs false
theorem setNod_set (s : Pai) (j : Nat) (a b : Nod) : setNod (setNod s j a) j b = setNod s j b := by
  unfold setNod
  simp only [List.set_set]
theorem held_step {w1 W w2 : World} {R : Prop} (hb : Below W.heap.size W w2) (h : Below w1.heap.size w1 W ∧ R) : Below w1.heap.size w1 w2 := below_step h.1 hb
theorem below_two {w1 W : World} {b c : Nat} {u v : Value} (h : Below w1.heap.size w1 W) : Below w1.heap.size w1 ((W.setCell ⟨w1.heap.size, b, none⟩ u).setCell ⟨w1.heap.size, c, none⟩ v) := Below.setCell (Below.setCell h (p := ⟨w1.heap.size, b, none⟩) (Nat.le_refl _) u) (p := ⟨w1.heap.size, c, none⟩) (Nat.le_refl _) v
theorem held_two {w1 W : World} {R : Prop} {b c : Nat} {u v : Value} (h : Below w1.heap.size w1 W ∧ R) : Below w1.heap.size w1 ((W.setCell ⟨w1.heap.size, b, none⟩ u).setCell ⟨w1.heap.size, c, none⟩ v) := below_two h.1
theorem held_alloc {w1 W : World} {R : Prop} {o : Obj} (h : Below w1.heap.size w1 W ∧ R) : Below w1.heap.size w1 (W.alloc o) := below_alloc h.1 _
theorem held_set {w1 W : World} {R : Prop} {p : Addr} {u : Value} (h : Below w1.heap.size w1 W ∧ R) (hp : w1.heap.size ≤ p.block) : Below w1.heap.size w1 (W.setCell p u) := Below.setCell h.1 hp _
set_option maxRecDepth 100000 in
set_option maxHeartbeats 8000000 in
theorem claim_calls (B hp : Nat) (cv : Ext) (s : Pai) (y : Lay) (j : Nat) (x : Nod) (k wh num : Int) (w : World) (hP : PlayAt w B hp cv s y) (hx : s.nodes[j]? = some x) (hg : gateCheck s.gate = 0) (hB : B ≤ w.heap.size) :
    Calls Tryd.prog 63 #[.pointer (some ⟨hp, 0, none⟩), .pointer (some ⟨y.bn, j * 8, none⟩), .agg #[.int .i64 k, .int .i64 wh, .int .i64 num]] w (ActPost w B hp cv (claimAct s j x ⟨k, wh, num⟩)) := by
  have HP := Aside0.mk hP
  have HB := Aside0.mk hB
  have HG := Aside0.mk hg
  have HX := Aside0.mk hx
  have hlt := hP.lt
  clear hP hB hg hx
  obtain ⟨e1, o1, ok, er, HF⟩ : ∃ e1 o1 ok er, Aside0 (fenceClaim s.fence.epoch s.fence.owner wh num = (e1, o1, ok, er)) := ⟨_, _, _, _, ⟨rfl⟩⟩
  obtain ⟨g2, ok2, er2, HG2⟩ : ∃ g2 ok2 er2, Aside0 (gateClaim s.gate wh num = (g2, ok2, er2)) := ⟨_, _, _, ⟨rfl⟩⟩
  have hcl : claimAct s j x ⟨k, wh, num⟩ = if er ≠ 0 then (s, er) else if ok = false then ({ s with fence := ⟨e1, o1⟩ }, 9) else if ok2 = false then ({ s with fence := ⟨e1, o1⟩, gate := g2 }, 9) else (setNod { s with fence := ⟨e1, o1⟩, gate := g2 } j { x with epoch := num, sent := 0 }, 0) := by
    unfold claimAct
    simp only [HF.out, HG2.out]
  rw [hcl]
  have HFC : Aside0 (∀ W : World, Calls Tryd.prog 86 #[.agg #[.int .i64 s.fence.epoch, .int .i64 s.fence.owner], .int .i64 wh, .int .i64 num] W fun r W' => r = .returned (.tuple #[.agg #[.int .i64 e1, .int .i64 o1], .bool ok, .int .i64 er]) ∧ Below W.heap.size W W') := ⟨fun W => (fenceClaim_calls s.fence.epoch s.fence.owner wh num W).mono (by rintro r W' ⟨rfl, hb⟩; rw [HF.out]; exact ⟨rfl, hb⟩)⟩
  clear hcl
  by_cases her : er = 0
  · subst her
    rw [if_neg (by simp)]
    by_cases hok : ok = false
    · subst hok
      rw [if_pos rfl]
      go_enter Tryd.func63, Tryd.ntmps63
      go_wp2_with fail
      have hb := HP.out.far (below_alloc (Below.refl w.heap.size w) (.cells #[.int .i64 k, .int .i64 wh, .int .i64 num] 41))
      have b1 := blk_new w (.cells #[.int .i64 k, .int .i64 wh, .int .i64 num] 41)
      have HB1 := Aside0.mk ((below_alloc (Below.refl w.heap.size w) (.cells #[.int .i64 k, .int .i64 wh, .int .i64 num] 41)).mono HB.out)
      have HS1 := Aside0.mk (Nat.le_trans HB.out (below_alloc (Below.refl w.heap.size w) (.cells #[.int .i64 k, .int .i64 wh, .int .i64 num] 41)).size)
      have HX1 := Aside0.mk HX.out
      generalize w.alloc (.cells #[.int .i64 k, .int .i64 wh, .int .i64 num] 41) = w1 at *
      have hgh : w.heap.size ≠ hp := by omega
      generalize w.heap.size = ga at *
      have v1 : w1.cell? ⟨ga, 1, none⟩ = some (.int .i64 wh) := blk_cell b1 1
      have v2 : w1.cell? ⟨ga, 2, none⟩ = some (.int .i64 num) := blk_cell b1 2
      have p1 : w1.cell? ⟨hp, 1, none⟩ = some (.int .i64 s.fence.epoch) := blk_cell hb.blk 1
      have p2 : w1.cell? ⟨hp, 2, none⟩ = some (.int .i64 s.fence.owner) := blk_cell hb.blk 2
      have HP1 := Aside0.mk hb
      have HA1 := Aside0.mk b1
      clear hb b1
      have HB0 := Aside0.mk (Below.refl w1.heap.size w1)
      have lga := blk_lt HA1.out
      have lhp := HP1.out.lt
      have n1 : ga ≠ w1.heap.size := by omega
      have n2 : w1.heap.size ≠ ga := by omega
      have n3 : hp ≠ w1.heap.size := by omega
      have n4 : w1.heap.size ≠ hp := by omega
      go_region_held3 (fun w' => Below w1.heap.size w1 w' ∧ w'.cell? ⟨ga, 1, none⟩ = some (.int .i64 wh) ∧ w'.cell? ⟨ga, 2, none⟩ = some (.int .i64 num) ∧ w'.cell? ⟨hp, 1, none⟩ = some (.int .i64 s.fence.epoch) ∧ w'.cell? ⟨hp, 2, none⟩ = some (.int .i64 s.fence.owner)) ((repeat' apply And.intro) <;> first | exact below_drew HB0.out | exact below_drew (below_alloc HB0.out _) | exact below_alloc (below_drew HB0.out) _ | exact held_alloc (by assumption) | (refine held_set (by assumption) ?_; simp; omega) | exact below_alloc (by assumption) _ | exact below_two HB2 | exact held_two (by assumption) | exact below_drew (by assumption) | assumption | go_keep)
        (first | (go_at_call 86; refine (HFC.out _).mono ?_; rintro e2 w2 ⟨rfl, hb⟩; have hD := blk_below (w := (w1.alloc (.cells #[.int .i64 0, .int .i64 0] 26)).drew) (blk_new w1 _) hb; have z0 := blk_cell hD 0; have z1 := blk_cell hD 1; have zf0 := blk_frozen hD 0; have zf1 := blk_frozen hD 1; have zl := blk_lt hD; have HB2 : Below w1.heap.size w1 w2 := held_step hb (by assumption); clear hb; have x1 := (HB2.cell (World.block_lt_of_cell? w1 _ v1)).trans v1; have x2 := (HB2.cell (World.block_lt_of_cell? w1 _ v2)).trans v2; have x3 := (HB2.cell (World.block_lt_of_cell? w1 _ p1)).trans p1; have x4 := (HB2.cell (World.block_lt_of_cell? w1 _ p2)).trans p2) | (go_at_call 86; refine (HFC.out _).mono ?_; rintro e2 w2 ⟨rfl, hb⟩; have HB2 : Below w1.heap.size w1 w2 := held_step hb (by assumption); clear hb; have x1 := (HB2.cell (World.block_lt_of_cell? w1 _ v1)).trans v1; have x2 := (HB2.cell (World.block_lt_of_cell? w1 _ v2)).trans v2; have x3 := (HB2.cell (World.block_lt_of_cell? w1 _ p1)).trans p1; have x4 := (HB2.cell (World.block_lt_of_cell? w1 _ p2)).trans p2))
      all_goals
        first
        | (have E4 := Aside0.mk (blk_put (blk_put hD 0 (.int .i64 e1) rfl) 1 (.int .i64 o1) rfl)
           have hbb := below_two HB2 (b := 0) (c := 1) (u := .int .i64 e1) (v := .int .i64 o1)
           have HP4 := Aside0.mk (HP1.out.far hbb)
           have HA4 := Aside0.mk (blk_below HA1.out hbb)
           have HB4 := Aside0.mk (HB1.out.trans (hbb.mono HS1.out))
           have hf1 : w1.heap.size ≠ hp := by omega
           have hga : ga ≠ hp := hgh
           have hf2 : w1.heap.size ≠ ga := by omega
           have hf3 : ga ≠ w1.heap.size := by omega
           have hf4 : hp ≠ w1.heap.size := by omega
           clear hbb hD z0 z1 zf0 zf1 zl HB2 x1 x2 x3 x4
           generalize ((w2.setCell ⟨w1.heap.size, 0, none⟩ (.int .i64 e1)).setCell ⟨w1.heap.size, 1, none⟩ (.int .i64 o1)) = w4 at *
           generalize w1.heap.size = fb at *)
        | (have E4 := Aside0.mk (blk_new w2 (.cells #[.int .i64 e1, .int .i64 o1] 26))
           have hbb := below_alloc HB2 (.cells #[.int .i64 e1, .int .i64 o1] 26)
           have lf : w1.heap.size ≤ w2.heap.size := HB2.size
           have HP4 := Aside0.mk (HP1.out.far hbb)
           have HA4 := Aside0.mk (blk_below HA1.out hbb)
           have HB4 := Aside0.mk (HB1.out.trans (hbb.mono HS1.out))
           have hf1 : w2.heap.size ≠ hp := by omega
           have hga : ga ≠ hp := hgh
           have hf2 : w2.heap.size ≠ ga := by omega
           have hf3 : ga ≠ w2.heap.size := by omega
           have hf4 : hp ≠ w2.heap.size := by omega
           clear hbb HB2 lf x1 x2 x3 x4
           generalize w2.alloc (.cells #[.int .i64 e1, .int .i64 o1] 26) = w4 at *
           generalize w2.heap.size = fb at *)
      all_goals
        have ltf := blk_lt E4.out
        have lth := HP4.out.lt
        have lta := blk_lt HA4.out
        have q0 : w4.cell? ⟨fb, 0, none⟩ = some (.int .i64 e1) := blk_cell E4.out 0
        have q1 : w4.cell? ⟨fb, 1, none⟩ = some (.int .i64 o1) := blk_cell E4.out 1
      all_goals
        have p41 : w4.cell? ⟨hp, 1, none⟩ = some (.int .i64 s.fence.epoch) := blk_cell HP4.out.blk 1
        have p42 : w4.cell? ⟨hp, 2, none⟩ = some (.int .i64 s.fence.owner) := blk_cell HP4.out.blk 2
        have f41 := blk_frozen HP4.out.blk 1
        have f42 := blk_frozen HP4.out.blk 2
        go_wp2
        go_ret
        exact ⟨rfl, ⟨y, HP4.out.setFence ⟨e1, o1⟩⟩, Below.setCell (Below.setCell HB4.out (p := ⟨hp, 1, none⟩) HP.out.low _) (p := ⟨hp, 2, none⟩) HP.out.low _⟩
    · have hok' : ok = true := by simpa using hok
      subst hok'
      rw [if_neg (by simp)]
      have hsz : ∀ t, t ∈ s.gate.out → t.size ≤ 9223372036854775807 := fun t ht => by
        have h3 := (gateCheck_ok HG.out).2.2
        rw [List.any_eq_false] at h3
        have h4 := h3 t ht
        unfold isLong at h4
        have h5 : ¬ 1000 < t.size := fun hx => h4 (decide_eq_true hx)
        omega
      have HGC : Aside0 (∀ V : World, Kd.string.C V y.AG s.gate.out.length s.gate.out → Calls Tryd.prog 87 #[.agg #[.int .i64 s.gate.fence.epoch, .int .i64 s.gate.fence.owner, .slice y.AG s.gate.out.length y.cG], .int .i64 wh, .int .i64 num] V (GatePost V (g2, ok2, er2))) := ⟨fun V hV => by have h := gateClaim_calls s.gate wh num y.AG y.cG V hV hsz HG.out; rw [HG2.out] at h; exact h⟩
      clear hsz
      generalize hrv : (if ok2 = false then (({ s with fence := ⟨e1, o1⟩, gate := g2 }, 9) : Pai × Int) else (setNod { s with fence := ⟨e1, o1⟩, gate := g2 } j { x with epoch := num, sent := 0 }, 0)) = rv
      have HRV := Aside0.mk hrv
      clear hrv
      go_enter Tryd.func63, Tryd.ntmps63
      go_wp2_with fail
      have hb := HP.out.far (below_alloc (Below.refl w.heap.size w) (.cells #[.int .i64 k, .int .i64 wh, .int .i64 num] 41))
      have b1 := blk_new w (.cells #[.int .i64 k, .int .i64 wh, .int .i64 num] 41)
      have HB1 := Aside0.mk ((below_alloc (Below.refl w.heap.size w) (.cells #[.int .i64 k, .int .i64 wh, .int .i64 num] 41)).mono HB.out)
      have HS1 := Aside0.mk (Nat.le_trans HB.out (below_alloc (Below.refl w.heap.size w) (.cells #[.int .i64 k, .int .i64 wh, .int .i64 num] 41)).size)
      have HX1 := Aside0.mk HX.out
      generalize w.alloc (.cells #[.int .i64 k, .int .i64 wh, .int .i64 num] 41) = w1 at *
      have hgh : w.heap.size ≠ hp := by omega
      generalize w.heap.size = ga at *
      have v1 : w1.cell? ⟨ga, 1, none⟩ = some (.int .i64 wh) := blk_cell b1 1
      have v2 : w1.cell? ⟨ga, 2, none⟩ = some (.int .i64 num) := blk_cell b1 2
      have p1 : w1.cell? ⟨hp, 1, none⟩ = some (.int .i64 s.fence.epoch) := blk_cell hb.blk 1
      have p2 : w1.cell? ⟨hp, 2, none⟩ = some (.int .i64 s.fence.owner) := blk_cell hb.blk 2
      have HP1 := Aside0.mk hb
      have HA1 := Aside0.mk b1
      clear hb b1
      have HB0 := Aside0.mk (Below.refl w1.heap.size w1)
      have lga := blk_lt HA1.out
      have lhp := HP1.out.lt
      have n1 : ga ≠ w1.heap.size := by omega
      have n2 : w1.heap.size ≠ ga := by omega
      have n3 : hp ≠ w1.heap.size := by omega
      have n4 : w1.heap.size ≠ hp := by omega
      go_region_held3 (fun w' => Below w1.heap.size w1 w' ∧ w'.cell? ⟨ga, 1, none⟩ = some (.int .i64 wh) ∧ w'.cell? ⟨ga, 2, none⟩ = some (.int .i64 num) ∧ w'.cell? ⟨hp, 1, none⟩ = some (.int .i64 s.fence.epoch) ∧ w'.cell? ⟨hp, 2, none⟩ = some (.int .i64 s.fence.owner)) ((repeat' apply And.intro) <;> first | exact below_drew HB0.out | exact below_drew (below_alloc HB0.out _) | exact below_alloc (below_drew HB0.out) _ | exact held_alloc (by assumption) | (refine held_set (by assumption) ?_; simp; omega) | exact below_alloc (by assumption) _ | exact below_two HB2 | exact held_two (by assumption) | exact below_drew (by assumption) | assumption | go_keep)
        (first | (go_at_call 86; refine (HFC.out _).mono ?_; rintro e2 w2 ⟨rfl, hb⟩; have hD := blk_below (w := (w1.alloc (.cells #[.int .i64 0, .int .i64 0] 26)).drew) (blk_new w1 _) hb; have z0 := blk_cell hD 0; have z1 := blk_cell hD 1; have zf0 := blk_frozen hD 0; have zf1 := blk_frozen hD 1; have zl := blk_lt hD; have HB2 : Below w1.heap.size w1 w2 := held_step hb (by assumption); clear hb; have x1 := (HB2.cell (World.block_lt_of_cell? w1 _ v1)).trans v1; have x2 := (HB2.cell (World.block_lt_of_cell? w1 _ v2)).trans v2; have x3 := (HB2.cell (World.block_lt_of_cell? w1 _ p1)).trans p1; have x4 := (HB2.cell (World.block_lt_of_cell? w1 _ p2)).trans p2) | (go_at_call 86; refine (HFC.out _).mono ?_; rintro e2 w2 ⟨rfl, hb⟩; have HB2 : Below w1.heap.size w1 w2 := held_step hb (by assumption); clear hb; have x1 := (HB2.cell (World.block_lt_of_cell? w1 _ v1)).trans v1; have x2 := (HB2.cell (World.block_lt_of_cell? w1 _ v2)).trans v2; have x3 := (HB2.cell (World.block_lt_of_cell? w1 _ p1)).trans p1; have x4 := (HB2.cell (World.block_lt_of_cell? w1 _ p2)).trans p2))
      all_goals
        first
        | (have E4 := Aside0.mk (blk_put (blk_put hD 0 (.int .i64 e1) rfl) 1 (.int .i64 o1) rfl)
           have hbb := below_two HB2 (b := 0) (c := 1) (u := .int .i64 e1) (v := .int .i64 o1)
           have HP4 := Aside0.mk (HP1.out.far hbb)
           have HA4 := Aside0.mk (blk_below HA1.out hbb)
           have HB4 := Aside0.mk (HB1.out.trans (hbb.mono HS1.out))
           have hf1 : w1.heap.size ≠ hp := by omega
           have hga : ga ≠ hp := hgh
           have hf2 : w1.heap.size ≠ ga := by omega
           have hf3 : ga ≠ w1.heap.size := by omega
           have hf4 : hp ≠ w1.heap.size := by omega
           clear hbb hD z0 z1 zf0 zf1 zl HB2 x1 x2 x3 x4
           generalize ((w2.setCell ⟨w1.heap.size, 0, none⟩ (.int .i64 e1)).setCell ⟨w1.heap.size, 1, none⟩ (.int .i64 o1)) = w4 at *
           generalize w1.heap.size = fb at *)
        | (have E4 := Aside0.mk (blk_new w2 (.cells #[.int .i64 e1, .int .i64 o1] 26))
           have hbb := below_alloc HB2 (.cells #[.int .i64 e1, .int .i64 o1] 26)
           have lf : w1.heap.size ≤ w2.heap.size := HB2.size
           have HP4 := Aside0.mk (HP1.out.far hbb)
           have HA4 := Aside0.mk (blk_below HA1.out hbb)
           have HB4 := Aside0.mk (HB1.out.trans (hbb.mono HS1.out))
           have hf1 : w2.heap.size ≠ hp := by omega
           have hga : ga ≠ hp := hgh
           have hf2 : w2.heap.size ≠ ga := by omega
           have hf3 : ga ≠ w2.heap.size := by omega
           have hf4 : hp ≠ w2.heap.size := by omega
           clear hbb HB2 lf x1 x2 x3 x4
           generalize w2.alloc (.cells #[.int .i64 e1, .int .i64 o1] 26) = w4 at *
           generalize w2.heap.size = fb at *)
      all_goals
        have ltf := blk_lt E4.out
        have lth := HP4.out.lt
        have lta := blk_lt HA4.out
        have q0 : w4.cell? ⟨fb, 0, none⟩ = some (.int .i64 e1) := blk_cell E4.out 0
        have q1 : w4.cell? ⟨fb, 1, none⟩ = some (.int .i64 o1) := blk_cell E4.out 1
      all_goals
        have p41 : w4.cell? ⟨hp, 1, none⟩ = some (.int .i64 s.fence.epoch) := blk_cell HP4.out.blk 1
        have p42 : w4.cell? ⟨hp, 2, none⟩ = some (.int .i64 s.fence.owner) := blk_cell HP4.out.blk 2
        have f41 := blk_frozen HP4.out.blk 1
        have f42 := blk_frozen HP4.out.blk 2
        go_wp2_with fail
        have hp5 := HP4.out.setFence ⟨e1, o1⟩
        have ha5 := blk_far (blk_far HA4.out (p := ⟨hp, 1, none⟩) (by simpa using hga) (.int .i64 e1)) (p := ⟨hp, 2, none⟩) (by simpa using hga) (.int .i64 o1)
        have hb5 := Below.setCell (Below.setCell HB4.out (p := ⟨hp, 1, none⟩) HP.out.low (.int .i64 e1)) (p := ⟨hp, 2, none⟩) HP.out.low (.int .i64 o1)
        clear p41 p42 f41 f42 q0 q1
        simp only at hp5
        generalize (w4.setCell ⟨hp, 1, none⟩ (.int .i64 e1)).setCell ⟨hp, 2, none⟩ (.int .i64 o1) = w5 at *
        have p51 : w5.cell? ⟨hp, 5, none⟩ = some (.int .i64 s.gate.fence.epoch) := blk_cell hp5.blk 5
        have p52 : w5.cell? ⟨hp, 6, none⟩ = some (.int .i64 s.gate.fence.owner) := blk_cell hp5.blk 6
        have p53 : w5.cell? ⟨hp, 7, none⟩ = some (.slice y.AG s.gate.out.length y.cG) := blk_cell hp5.blk 7
        have v51 : w5.cell? ⟨ga, 1, none⟩ = some (.int .i64 wh) := blk_cell ha5 1
        have v52 : w5.cell? ⟨ga, 2, none⟩ = some (.int .i64 num) := blk_cell ha5 2
        have HP5 := Aside0.mk (hp5.far (below_drew (Below.refl _ _)))
        have HA5 := Aside0.mk ha5
        have HB5 := Aside0.mk hb5
        clear hp5 ha5 hb5
        have hga' : hp ≠ ga := fun e => hga e.symm
        go_region_law
          ((go_simp; go_at_call 87; refine (HGC.out _ HP5.out.gate.now).mono ?_; rintro e6 w6 ⟨A6, c6, rfl, hl6, hK6, hb6⟩; have HP6 := Aside0.mk (HP5.out.far hb6); have v61 : w6.cell? ⟨ga, 1, none⟩ = some (.int .i64 wh) := blk_cell (blk_below (w := w5.drew) HA5.out hb6) 1; have v62 : w6.cell? ⟨ga, 2, none⟩ = some (.int .i64 num) := blk_cell (blk_below (w := w5.drew) HA5.out hb6) 2; have p61 : w6.cell? ⟨hp, 5, none⟩ = some (.int .i64 s.gate.fence.epoch) := blk_cell HP6.out.blk 5; have p62 : w6.cell? ⟨hp, 6, none⟩ = some (.int .i64 s.gate.fence.owner) := blk_cell HP6.out.blk 6; have p63 : w6.cell? ⟨hp, 7, none⟩ = some (.slice y.AG s.gate.out.length y.cG) := blk_cell HP6.out.blk 7; have f61 := blk_frozen HP6.out.blk 5; have f62 := blk_frozen HP6.out.blk 6; have f63 := blk_frozen HP6.out.blk 7; go_wp2_with fail))
        all_goals
          have HP7 := HP5.out.setGate hb6 g2 hl6 hK6
          have HA7 := blk_far (blk_far (blk_far (blk_below (w := w5.drew) HA5.out hb6) (p := ⟨hp, 5, none⟩) (by simpa using hga) (.int .i64 g2.fence.epoch)) (p := ⟨hp, 6, none⟩) (by simpa using hga) (.int .i64 g2.fence.owner)) (p := ⟨hp, 7, none⟩) (by simpa using hga) (.slice A6 g2.out.length c6)
          have HB7 := Below.setCell (Below.setCell (Below.setCell ((below_drew HB5.out).trans (hb6.mono (Nat.le_trans HP.out.low (Nat.le_of_lt HP5.out.lt)))) (p := ⟨hp, 5, none⟩) HP.out.low (.int .i64 g2.fence.epoch)) (p := ⟨hp, 6, none⟩) HP.out.low (.int .i64 g2.fence.owner)) (p := ⟨hp, 7, none⟩) HP.out.low (.slice A6 g2.out.length c6)
          simp only at HP7
          clear v61 v62 p61 p62 p63 f61 f62 f63 p51 p52 p53 v51 v52
          generalize ((w6.setCell ⟨hp, 5, none⟩ (.int .i64 g2.fence.epoch)).setCell ⟨hp, 6, none⟩ (.int .i64 g2.fence.owner)).setCell ⟨hp, 7, none⟩ (.slice A6 g2.out.length c6) = w7 at *
          cases ok2
          · have HRV1 : Aside0 (rv = ({ s with fence := ⟨e1, o1⟩, gate := g2 }, 9)) := ⟨HRV.out.symm.trans (if_pos rfl)⟩
            go_wp2
            go_ret
            rw [HRV1.out]
            exact ⟨rfl, ⟨_, HP7⟩, HB7⟩
          · have HRV1 : Aside0 (rv = (setNod { s with fence := ⟨e1, o1⟩, gate := g2 } j { x with epoch := num, sent := 0 }, 0)) := ⟨HRV.out.symm.trans (if_neg (by simp))⟩
            have hx7 : ({ s with fence := ⟨e1, o1⟩, gate := g2 } : Pai).nodes[j]? = some x := HX.out
            obtain ⟨cs, hcs, h8, _, hN, hc, hf⟩ := HP7.cells hx7
            obtain ⟨Ar, cr, vo, rfl, hN1, hN2, hN3⟩ := hN.out
            have v71 : w7.cell? ⟨ga, 2, none⟩ = some (.int .i64 num) := blk_cell HA7 2
            have n70 : w7.cell? ⟨y.bn, j * 8, none⟩ = some (.int .i64 x.epoch) := hc 0 _ rfl
            have n77 : w7.cell? ⟨y.bn, j * 8 + 7, none⟩ = some (.int .i64 x.sent) := hc 7 _ rfl
            have f70 : w7.frozen? ⟨y.bn, j * 8, none⟩ = false := hf 0
            have f77 := hf 7
            have HQ := Aside0.mk (HP7.poke hx7 hcs (i := 0) (by omega) (u := .int .i64 num) rfl { x with epoch := num } ⟨⟨Ar, cr, vo, rfl, hN1, hN2, hN3⟩⟩)
            have HBn := Aside0.mk HP7.bn_low
            replace HP7 := Aside0.mk HP7
            replace HB7 := Aside0.mk HB7
            clear hc hf hN hN1 hN2 hN3 HA7 hx7
            go_wp2
            go_ret
            rw [HRV1.out]
            have hj : j < s.nodes.length := (List.getElem?_eq_some_iff.1 HX.out).1
            obtain ⟨cs8, hcs8, h88, _, hN8, _, _⟩ := HQ.out.cells (j := j) (List.getElem?_set_self hj)
            obtain ⟨Ar8, cr8, vo8, rfl, hN81, hN82, hN83⟩ := hN8.out
            have HQ2 := HQ.out.poke (j := j) (List.getElem?_set_self hj) hcs8 (i := 7) (by omega) (u := .int .i64 0) rfl { x with epoch := num, sent := 0 } ⟨⟨Ar8, cr8, vo8, rfl, hN81, hN82, hN83⟩⟩
            rw [setNod_set] at HQ2
            exact ⟨rfl, ⟨_, HQ2⟩, Below.setCell (Below.setCell HB7.out (p := ⟨y.bn, j * 8 + 0, none⟩) HBn.out _) (p := ⟨y.bn, j * 8 + 7, none⟩) HBn.out _⟩
  · rw [if_pos her]
    have hz1 : (er == 0) = false := by simpa using her
    have hz1' : (er != 0) = true := by simpa using her
    go_enter Tryd.func63, Tryd.ntmps63
    go_wp2_with fail
    have hb := HP.out.far (below_alloc (Below.refl w.heap.size w) (.cells #[.int .i64 k, .int .i64 wh, .int .i64 num] 41))
    have b1 := blk_new w (.cells #[.int .i64 k, .int .i64 wh, .int .i64 num] 41)
    have HB1 := Aside0.mk ((below_alloc (Below.refl w.heap.size w) (.cells #[.int .i64 k, .int .i64 wh, .int .i64 num] 41)).mono HB.out)
    have HS1 := Aside0.mk (Nat.le_trans HB.out (below_alloc (Below.refl w.heap.size w) (.cells #[.int .i64 k, .int .i64 wh, .int .i64 num] 41)).size)
    have HX1 := Aside0.mk HX.out
    generalize w.alloc (.cells #[.int .i64 k, .int .i64 wh, .int .i64 num] 41) = w1 at *
    have hgh : w.heap.size ≠ hp := by omega
    generalize w.heap.size = ga at *
    have v1 : w1.cell? ⟨ga, 1, none⟩ = some (.int .i64 wh) := blk_cell b1 1
    have v2 : w1.cell? ⟨ga, 2, none⟩ = some (.int .i64 num) := blk_cell b1 2
    have p1 : w1.cell? ⟨hp, 1, none⟩ = some (.int .i64 s.fence.epoch) := blk_cell hb.blk 1
    have p2 : w1.cell? ⟨hp, 2, none⟩ = some (.int .i64 s.fence.owner) := blk_cell hb.blk 2
    have HP1 := Aside0.mk hb
    have HA1 := Aside0.mk b1
    clear hb b1
    have HB0 := Aside0.mk (Below.refl w1.heap.size w1)
    have lga := blk_lt HA1.out
    have lhp := HP1.out.lt
    have n1 : ga ≠ w1.heap.size := by omega
    have n2 : w1.heap.size ≠ ga := by omega
    have n3 : hp ≠ w1.heap.size := by omega
    have n4 : w1.heap.size ≠ hp := by omega
    go_region_held3 (fun w' => Below w1.heap.size w1 w' ∧ w'.cell? ⟨ga, 1, none⟩ = some (.int .i64 wh) ∧ w'.cell? ⟨ga, 2, none⟩ = some (.int .i64 num) ∧ w'.cell? ⟨hp, 1, none⟩ = some (.int .i64 s.fence.epoch) ∧ w'.cell? ⟨hp, 2, none⟩ = some (.int .i64 s.fence.owner)) ((repeat' apply And.intro) <;> first | exact below_drew HB0.out | exact below_drew (below_alloc HB0.out _) | exact below_alloc (below_drew HB0.out) _ | exact held_alloc (by assumption) | (refine held_set (by assumption) ?_; simp; omega) | exact below_alloc (by assumption) _ | exact below_two HB2 | exact held_two (by assumption) | exact below_drew (by assumption) | assumption | go_keep)
      (first | (go_at_call 86; refine (HFC.out _).mono ?_; rintro e2 w2 ⟨rfl, hb⟩; have hD := blk_below (w := (w1.alloc (.cells #[.int .i64 0, .int .i64 0] 26)).drew) (blk_new w1 _) hb; have z0 := blk_cell hD 0; have z1 := blk_cell hD 1; have zf0 := blk_frozen hD 0; have zf1 := blk_frozen hD 1; have zl := blk_lt hD; have HB2 : Below w1.heap.size w1 w2 := held_step hb (by assumption); clear hb; have x1 := (HB2.cell (World.block_lt_of_cell? w1 _ v1)).trans v1; have x2 := (HB2.cell (World.block_lt_of_cell? w1 _ v2)).trans v2; have x3 := (HB2.cell (World.block_lt_of_cell? w1 _ p1)).trans p1; have x4 := (HB2.cell (World.block_lt_of_cell? w1 _ p2)).trans p2) | (go_at_call 86; refine (HFC.out _).mono ?_; rintro e2 w2 ⟨rfl, hb⟩; have HB2 : Below w1.heap.size w1 w2 := held_step hb (by assumption); clear hb; have x1 := (HB2.cell (World.block_lt_of_cell? w1 _ v1)).trans v1; have x2 := (HB2.cell (World.block_lt_of_cell? w1 _ v2)).trans v2; have x3 := (HB2.cell (World.block_lt_of_cell? w1 _ p1)).trans p1; have x4 := (HB2.cell (World.block_lt_of_cell? w1 _ p2)).trans p2))
    all_goals
      first
      | (have E4 := Aside0.mk (blk_put (blk_put hD 0 (.int .i64 e1) rfl) 1 (.int .i64 o1) rfl)
         have hbb := below_two HB2 (b := 0) (c := 1) (u := .int .i64 e1) (v := .int .i64 o1)
         have HP4 := Aside0.mk (HP1.out.far hbb)
         have HA4 := Aside0.mk (blk_below HA1.out hbb)
         have HB4 := Aside0.mk (HB1.out.trans (hbb.mono HS1.out))
         have hf1 : w1.heap.size ≠ hp := by omega
         have hga : ga ≠ hp := hgh
         have hf2 : w1.heap.size ≠ ga := by omega
         have hf3 : ga ≠ w1.heap.size := by omega
         have hf4 : hp ≠ w1.heap.size := by omega
         clear hbb hD z0 z1 zf0 zf1 zl HB2 x1 x2 x3 x4
         generalize ((w2.setCell ⟨w1.heap.size, 0, none⟩ (.int .i64 e1)).setCell ⟨w1.heap.size, 1, none⟩ (.int .i64 o1)) = w4 at *
         generalize w1.heap.size = fb at *)
      | (have E4 := Aside0.mk (blk_new w2 (.cells #[.int .i64 e1, .int .i64 o1] 26))
         have hbb := below_alloc HB2 (.cells #[.int .i64 e1, .int .i64 o1] 26)
         have lf : w1.heap.size ≤ w2.heap.size := HB2.size
         have HP4 := Aside0.mk (HP1.out.far hbb)
         have HA4 := Aside0.mk (blk_below HA1.out hbb)
         have HB4 := Aside0.mk (HB1.out.trans (hbb.mono HS1.out))
         have hf1 : w2.heap.size ≠ hp := by omega
         have hga : ga ≠ hp := hgh
         have hf2 : w2.heap.size ≠ ga := by omega
         have hf3 : ga ≠ w2.heap.size := by omega
         have hf4 : hp ≠ w2.heap.size := by omega
         clear hbb HB2 lf x1 x2 x3 x4
         generalize w2.alloc (.cells #[.int .i64 e1, .int .i64 o1] 26) = w4 at *
         generalize w2.heap.size = fb at *)
    all_goals
      have ltf := blk_lt E4.out
      have lth := HP4.out.lt
      have lta := blk_lt HA4.out
      have q0 : w4.cell? ⟨fb, 0, none⟩ = some (.int .i64 e1) := blk_cell E4.out 0
      have q1 : w4.cell? ⟨fb, 1, none⟩ = some (.int .i64 o1) := blk_cell E4.out 1
    all_goals
      go_wp2
      go_ret
      exact ⟨rfl, ⟨y, HP4.out⟩, HB4.out⟩
end Go.Proofs.YtifphhkkpadpoaaDoor
