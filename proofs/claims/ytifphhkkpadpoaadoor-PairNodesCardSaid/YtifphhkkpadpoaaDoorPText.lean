/- The table of powers of ten in later worlds; the walk of pair.Text. -/
import Derived.Test.YtifphhkkpadpoaaDoorPInput
import Derived.Test.YtifphhkkpadpoaaDoorShelfItoa
import Derived.Lib.ItoaLen
namespace Go.Proofs.YtifphhkkpadpoaaDoor
open Go.RowKit Go.Proofs.YtifphhkkpadpoaaDoorW.PrintWords
set_option linter.unusedVariables false
set_option linter.unusedSimpArgs false
def Tab (w : World) : Prop := Lib.TabIs Tryd.prog w "internal/strconv.uint64pow10" .u64 Lib.pow10Tab
theorem var_only {P : Program} {w w' : World} {S : Nat → Prop} {name : String} {cs : Array Value} (h : w.var? P name = some cs) (ho : Only S w w') (hS : ∀ g, P.globalNamed name = some g → ¬ S g) : w'.var? P name = some cs := by
  unfold World.var? at h ⊢
  cases hg : P.globalNamed name with
  | none => rw [hg] at h; exact h
  | some g =>
    rw [hg] at h
    simp only [Option.bind_some] at h ⊢
    cases hb : w.heap[g]? with
    | none => rw [hb] at h; exact absurd h (by simp)
    | some o => rw [ho.at_ hb (hS g hg), ← hb]; exact h
theorem Tab.below {w w' : World} (h : Tab w) (hb : Below w.heap.size w w') : Tab w' := var_only h (Only.of_below hb (fun _ => False)) (fun _ _ hx => hx)
theorem below_of_heap {w w' : World} {os : Array Obj} (h1 : w'.os = w.os) (h2 : w'.tape = w.tape) (h3 : w'.output = w.output) (h4 : w'.heap = w.heap ++ os) : Below w.heap.size w w' :=
  ⟨h1, h2, h3, by rw [h4]; simp, fun k hk => by rw [h4]; exact Array.getElem?_append_left hk⟩
theorem itoa_calls (n : Int) (h0 : -9223372036854775808 ≤ n) (h1 : n ≤ 9223372036854775807) (w : World) (ht : Tab w) :
    Calls Tryd.prog 68 #[.int .i64 n] w fun e w' => e = .returned (.string ⟨(Lib.itoa n).toArray⟩) ∧ Below w.heap.size w w' :=
  (Tryd.strconv_Itoa n h0 h1 w ht).mono (by
    rintro e w' ⟨rfl, k, os, rfl⟩
    exact ⟨rfl, below_of_heap (os := os) rfl rfl rfl rfl⟩)
set_option maxRecDepth 100000 in
set_option maxHeartbeats 8000000 in
theorem text_calls (b n : Int) (h0 : -9223372036854775808 ≤ b) (h1 : b ≤ 9223372036854775807) (h2 : -9223372036854775808 ≤ n) (h3 : n ≤ 9223372036854775807) (w : World) (ht : Tab w) :
    Calls Tryd.prog 36 #[.agg #[.int .i64 b, .int .i64 n]] w fun e w' => e = .returned (.string (textOf ⟨b, n⟩)) ∧ Below w.heap.size w w' := by
  have hb0 := below_alloc (Below.refl w.heap.size w) (.cells #[.int .i64 b, .int .i64 n] 52)
  have b0 := blk_new w (.cells #[.int .i64 b, .int .i64 n] 52)
  have HI1 : Aside0 (∀ W, Below w.heap.size w W → Calls Tryd.prog 68 #[.int .i64 b] W fun e w' => e = .returned (.string ⟨(Lib.itoa b).toArray⟩) ∧ Below W.heap.size W w') := ⟨fun W hW => itoa_calls b h0 h1 W (ht.below hW)⟩
  have HI2 : Aside0 (∀ W, Below w.heap.size w W → Calls Tryd.prog 68 #[.int .i64 n] W fun e w' => e = .returned (.string ⟨(Lib.itoa n).toArray⟩) ∧ Below W.heap.size W w') := ⟨fun W hW => itoa_calls n h2 h3 W (ht.below hW)⟩
  obtain ⟨tb, htb⟩ : ∃ tb : ByteArray, tb = ⟨(Lib.itoa b).toArray⟩ := ⟨_, rfl⟩
  obtain ⟨tn, htn⟩ : ∃ tn : ByteArray, tn = ⟨(Lib.itoa n).toArray⟩ := ⟨_, rfl⟩
  have hsb : tb.size ≤ 21 := by rw [htb]; exact Lib.itoa_length_le b h0 h1
  have hsn : tn.size ≤ 21 := by rw [htn]; exact Lib.itoa_length_le n h2 h3
  rw [← htb] at HI1
  rw [← htn] at HI2
  have hT : tb ++ ⟨#[32]⟩ ++ tn = textOf ⟨b, n⟩ := by
    rw [htb, htn]
    unfold textOf
    apply ByteArray.ext
    simp
  have HTX := Aside0.mk hT
  clear hT
  clear h0 h1 h2 h3 ht htb htn
  go_enter Tryd.func36, Tryd.ntmps36
  go_wp2_with fail
  have x0 := blk_cell b0 0
  have x1 := blk_cell b0 1
  have HB0 := Aside0.mk hb0
  have HX := Aside0.mk b0
  clear hb0 b0
  generalize w.alloc (.cells #[.int .i64 b, .int .i64 n] 52) = w1 at *
  generalize hga : w.heap.size = ga at x0 x1 ⊢
  have y0 : w1.cell? ⟨ga, 0, none⟩ = some (.int .i64 b) := x0
  have y1 : w1.cell? ⟨ga, 1, none⟩ = some (.int .i64 n) := x1
  clear x0 x1
  have hz1 : ¬ (9223372036854775807 < tb.size + 1) := by omega
  have hz2 : ¬ (9223372036854775807 < tb.size + 1 + tn.size) := by omega
  go_region_law
    (first
      | (go_simp; go_at_call 68; refine (HI1.out _ (below_drew HB0.out)).mono ?_; rintro e2 w2 ⟨rfl, hb⟩; have HB2 := Aside0.mk (below_step (below_drew HB0.out) hb); have z0 := ((Below.cell (below_step (below_drew (Below.refl _ _)) hb) (World.block_lt_of_cell? w1 _ y0))).trans y0; have z1 := ((Below.cell (below_step (below_drew (Below.refl _ _)) hb) (World.block_lt_of_cell? w1 _ y1))).trans y1; clear hb; go_wp2_with fail)
      | (go_simp; go_at_call 68; refine (HI2.out _ HB2.out).mono ?_; rintro e3 w3 ⟨rfl, hb⟩; have HB3 := Aside0.mk (below_step HB2.out hb); have q0 := (Below.cell hb (World.block_lt_of_cell? w2 _ z0)).trans z0; have q1 := (Below.cell hb (World.block_lt_of_cell? w2 _ z1)).trans z1; clear hb; go_wp2_with fail)
      | (go_simp; (rw [if_neg]; rotate_left; omega); go_wp2_with fail))
  all_goals
    go_wp2
    go_ret
    refine ⟨?_, HB3.out⟩
    show Ending.returned (Value.string (tb ++ ⟨#[32]⟩ ++ tn)) = _
    rw [HTX.out]
end Go.Proofs.YtifphhkkpadpoaaDoor
