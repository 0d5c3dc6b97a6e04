/- The walk of (*pair.play).act where a node is named: what is done stands in a map of bound functions. Printed by gen_act.py. -/
import Derived.Test.YtifphhkkpadpoaaDoorPInput
import Derived.Test.YtifphhkkpadpoaaDoorMap
import Derived.Test.YtifphhkkpadpoaaDoorPStill2
namespace Go.Proofs.YtifphhkkpadpoaaDoor
open Go.RowKit Go.Proofs.YtifphhkkpadpoaaDoorW.PrintWords
set_option linter.unusedVariables false
set_option linter.unusedSimpArgs false
set_option maxRecDepth 100000 in
set_option maxHeartbeats 8000000 in
theorem act_claims (B hp : Nat) (cv : Ext) (s : Pai) (y : Lay) (j : Nat) (num : Int) (w : World) (hP : PlayAt w B hp cv s y) (hB : B ≤ w.heap.size) (hj : j < s.nodes.length) (hm : s.nodes.length ≤ 1000) (r : Pai × Int)
    (hc : ∀ W, PlayAt W B hp cv s y → Below B w W → B ≤ W.heap.size → Calls Tryd.prog 63 #[.pointer (some ⟨hp, 0, none⟩), .pointer (some ⟨y.bn, j * 8, none⟩), .agg #[.int .i64 2, .int .i64 (j : Int), .int .i64 num]] W (ActPost W B hp cv r)) :
    Calls Tryd.prog 33 #[.pointer (some ⟨hp, 0, none⟩), .agg #[.int .i64 2, .int .i64 (j : Int), .int .i64 num]] w (ActPost w B hp cv r) := by
  have HC := Aside0.mk hc
  clear hc
  have HP := Aside0.mk hP
  have HB := Aside0.mk hB
  have hlt := hP.lt
  have hP1 := hP.far (below_alloc (Below.refl w.heap.size w) (.cells #[.int .i64 2, .int .i64 (j : Int), .int .i64 num] 41))
  have b1 := blk_new w (.cells #[.int .i64 2, .int .i64 (j : Int), .int .i64 num] 41)
  have HB1 := Aside0.mk ((below_alloc (Below.refl w.heap.size w) (.cells #[.int .i64 2, .int .i64 (j : Int), .int .i64 num] 41)).mono HB.out)
  have HS1 := Aside0.mk (Nat.le_trans HB.out (below_alloc (Below.refl w.heap.size w) (.cells #[.int .i64 2, .int .i64 (j : Int), .int .i64 num] 41)).size)
  have i0 : (0 : Int) ≤ (j : Int) := by omega
  have i1 : (j : Int) < (s.nodes.length : Int) := by omega
  have d3 : decide ((j : Int) < 0) = false := decide_eq_false (by omega)
  have d4 : decide ((s.nodes.length : Int) ≤ (j : Int)) = false := decide_eq_false (by omega)
  have d5 : decide (s.nodes.length ≤ j) = false := decide_eq_false (by omega)
  clear hP hB
  go_enter Tryd.func33, Tryd.ntmps33
  go_wp2_with fail
  generalize (w.alloc (.cells #[.int .i64 2, .int .i64 (j : Int), .int .i64 num] 41)) = w1 at *
  generalize w.heap.size = ga at *
  have a0 : w1.cell? ⟨ga, 0, none⟩ = some (.int .i64 2) := blk_cell b1 0
  have a1 : w1.cell? ⟨ga, 1, none⟩ = some (.int .i64 (j : Int)) := blk_cell b1 1
  have a2 : w1.cell? ⟨ga, 2, none⟩ = some (.int .i64 num) := blk_cell b1 2
  have p3 : w1.cell? ⟨hp, 3, none⟩ = some (.slice (some ⟨y.bn, 0, none⟩) s.nodes.length y.cap) := blk_cell hP1.blk 3
  clear b1
  go_quiet (fail)
  replace hP1 := hP1.far (w' := w1.drewN nq) (by apply pw_below_drewN; exact Below.refl _ _)
  replace HB1 : Aside0 (Below B w (w1.drewN nq)) := ⟨HB1.out.trans (by apply pw_below_drewN; exact Below.refl _ _)⟩
  replace HS1 : Aside0 (B ≤ (w1.drewN nq).heap.size) := ⟨HS1.out⟩
  replace a0 : (w1.drewN nq).cell? ⟨ga, 0, none⟩ = some (.int .i64 2) := a0
  replace a1 : (w1.drewN nq).cell? ⟨ga, 1, none⟩ = some (.int .i64 (j : Int)) := a1
  replace a2 : (w1.drewN nq).cell? ⟨ga, 2, none⟩ = some (.int .i64 num) := a2
  replace p3 : (w1.drewN nq).cell? ⟨hp, 3, none⟩ = some (.slice (some ⟨y.bn, 0, none⟩) s.nodes.length y.cap) := p3
  go_wp2_with fail
  generalize w1.drewN nq = w2 at *
  go_quiet (fail)
  replace hP1 := hP1.far (w' := w2.drewN nq) (by apply pw_below_drewN; exact Below.refl _ _)
  replace HB1 : Aside0 (Below B w (w2.drewN nq)) := ⟨HB1.out.trans (by apply pw_below_drewN; exact Below.refl _ _)⟩
  replace HS1 : Aside0 (B ≤ (w2.drewN nq).heap.size) := ⟨HS1.out⟩
  replace a0 : (w2.drewN nq).cell? ⟨ga, 0, none⟩ = some (.int .i64 2) := a0
  replace a1 : (w2.drewN nq).cell? ⟨ga, 1, none⟩ = some (.int .i64 (j : Int)) := a1
  replace a2 : (w2.drewN nq).cell? ⟨ga, 2, none⟩ = some (.int .i64 num) := a2
  replace p3 : (w2.drewN nq).cell? ⟨hp, 3, none⟩ = some (.slice (some ⟨y.bn, 0, none⟩) s.nodes.length y.cap) := p3
  generalize w2.drewN nq = w3 at *
  have HP1 := Aside0.mk hP1
  clear hP1
  have HB2 := Below.refl w3.heap.size w3
  have La0 := below_lay a0
  have La1 := below_lay a1
  have La2 := below_lay a2
  go_wp2_with (first
    | (refine ev_makeMap rfl rfl rfl HB2 (Nat.le_refl _) ?_; intro gm w4 hgm hmb hmB)
    | (refine ev_insert rfl rfl rfl Tryd.underlying121 Tryd.underlying3 hmb rfl rfl rfl rfl hmB hgm ?_; clear hmb hmB; intro w5 hmb hmB)
    | (refine ev_lookup rfl rfl rfl rfl rfl (run_find Tryd.underlying121 Tryd.underlying3 hmb 2 rfl) ?_; have a0x := La0 _ hmB; have a1x := La1 _ hmB; have a2x := La2 _ hmB)
    | (go_at_call 63; refine (HC.out _ (HP1.out.far hmB) (HB1.out.trans (hmB.mono HS1.out)) (Nat.le_trans HS1.out hmB.size)).mono ?_; rintro e6 w6 ⟨rfl, hy6, hb6⟩; have HY6 := Aside0.mk hy6; have HB6 := Aside0.mk hb6; clear hy6 hb6))
  go_ret
  exact ⟨rfl, HY6.out, (HB1.out.trans (hmB.mono HS1.out)).trans HB6.out⟩
set_option maxRecDepth 100000 in
set_option maxHeartbeats 8000000 in
theorem act_works (B hp : Nat) (cv : Ext) (s : Pai) (y : Lay) (j : Nat) (num : Int) (w : World) (hP : PlayAt w B hp cv s y) (hB : B ≤ w.heap.size) (hj : j < s.nodes.length) (hm : s.nodes.length ≤ 1000) (r : Pai × Int)
    (hc : ∀ W, PlayAt W B hp cv s y → Below B w W → B ≤ W.heap.size → Calls Tryd.prog 64 #[.pointer (some ⟨hp, 0, none⟩), .pointer (some ⟨y.bn, j * 8, none⟩), .agg #[.int .i64 3, .int .i64 (j : Int), .int .i64 num]] W (ActPost W B hp cv r)) :
    Calls Tryd.prog 33 #[.pointer (some ⟨hp, 0, none⟩), .agg #[.int .i64 3, .int .i64 (j : Int), .int .i64 num]] w (ActPost w B hp cv r) := by
  have HC := Aside0.mk hc
  clear hc
  have HP := Aside0.mk hP
  have HB := Aside0.mk hB
  have hlt := hP.lt
  have hP1 := hP.far (below_alloc (Below.refl w.heap.size w) (.cells #[.int .i64 3, .int .i64 (j : Int), .int .i64 num] 41))
  have b1 := blk_new w (.cells #[.int .i64 3, .int .i64 (j : Int), .int .i64 num] 41)
  have HB1 := Aside0.mk ((below_alloc (Below.refl w.heap.size w) (.cells #[.int .i64 3, .int .i64 (j : Int), .int .i64 num] 41)).mono HB.out)
  have HS1 := Aside0.mk (Nat.le_trans HB.out (below_alloc (Below.refl w.heap.size w) (.cells #[.int .i64 3, .int .i64 (j : Int), .int .i64 num] 41)).size)
  have i0 : (0 : Int) ≤ (j : Int) := by omega
  have i1 : (j : Int) < (s.nodes.length : Int) := by omega
  have d3 : decide ((j : Int) < 0) = false := decide_eq_false (by omega)
  have d4 : decide ((s.nodes.length : Int) ≤ (j : Int)) = false := decide_eq_false (by omega)
  have d5 : decide (s.nodes.length ≤ j) = false := decide_eq_false (by omega)
  clear hP hB
  go_enter Tryd.func33, Tryd.ntmps33
  go_wp2_with fail
  generalize (w.alloc (.cells #[.int .i64 3, .int .i64 (j : Int), .int .i64 num] 41)) = w1 at *
  generalize w.heap.size = ga at *
  have a0 : w1.cell? ⟨ga, 0, none⟩ = some (.int .i64 3) := blk_cell b1 0
  have a1 : w1.cell? ⟨ga, 1, none⟩ = some (.int .i64 (j : Int)) := blk_cell b1 1
  have a2 : w1.cell? ⟨ga, 2, none⟩ = some (.int .i64 num) := blk_cell b1 2
  have p3 : w1.cell? ⟨hp, 3, none⟩ = some (.slice (some ⟨y.bn, 0, none⟩) s.nodes.length y.cap) := blk_cell hP1.blk 3
  clear b1
  go_quiet (fail)
  replace hP1 := hP1.far (w' := w1.drewN nq) (by apply pw_below_drewN; exact Below.refl _ _)
  replace HB1 : Aside0 (Below B w (w1.drewN nq)) := ⟨HB1.out.trans (by apply pw_below_drewN; exact Below.refl _ _)⟩
  replace HS1 : Aside0 (B ≤ (w1.drewN nq).heap.size) := ⟨HS1.out⟩
  replace a0 : (w1.drewN nq).cell? ⟨ga, 0, none⟩ = some (.int .i64 3) := a0
  replace a1 : (w1.drewN nq).cell? ⟨ga, 1, none⟩ = some (.int .i64 (j : Int)) := a1
  replace a2 : (w1.drewN nq).cell? ⟨ga, 2, none⟩ = some (.int .i64 num) := a2
  replace p3 : (w1.drewN nq).cell? ⟨hp, 3, none⟩ = some (.slice (some ⟨y.bn, 0, none⟩) s.nodes.length y.cap) := p3
  go_wp2_with fail
  generalize w1.drewN nq = w2 at *
  go_quiet (fail)
  replace hP1 := hP1.far (w' := w2.drewN nq) (by apply pw_below_drewN; exact Below.refl _ _)
  replace HB1 : Aside0 (Below B w (w2.drewN nq)) := ⟨HB1.out.trans (by apply pw_below_drewN; exact Below.refl _ _)⟩
  replace HS1 : Aside0 (B ≤ (w2.drewN nq).heap.size) := ⟨HS1.out⟩
  replace a0 : (w2.drewN nq).cell? ⟨ga, 0, none⟩ = some (.int .i64 3) := a0
  replace a1 : (w2.drewN nq).cell? ⟨ga, 1, none⟩ = some (.int .i64 (j : Int)) := a1
  replace a2 : (w2.drewN nq).cell? ⟨ga, 2, none⟩ = some (.int .i64 num) := a2
  replace p3 : (w2.drewN nq).cell? ⟨hp, 3, none⟩ = some (.slice (some ⟨y.bn, 0, none⟩) s.nodes.length y.cap) := p3
  generalize w2.drewN nq = w3 at *
  have HP1 := Aside0.mk hP1
  clear hP1
  have HB2 := Below.refl w3.heap.size w3
  have La0 := below_lay a0
  have La1 := below_lay a1
  have La2 := below_lay a2
  go_wp2_with (first
    | (refine ev_makeMap rfl rfl rfl HB2 (Nat.le_refl _) ?_; intro gm w4 hgm hmb hmB)
    | (refine ev_insert rfl rfl rfl Tryd.underlying121 Tryd.underlying3 hmb rfl rfl rfl rfl hmB hgm ?_; clear hmb hmB; intro w5 hmb hmB)
    | (refine ev_lookup rfl rfl rfl rfl rfl (run_find Tryd.underlying121 Tryd.underlying3 hmb 3 rfl) ?_; have a0x := La0 _ hmB; have a1x := La1 _ hmB; have a2x := La2 _ hmB)
    | (go_at_call 64; refine (HC.out _ (HP1.out.far hmB) (HB1.out.trans (hmB.mono HS1.out)) (Nat.le_trans HS1.out hmB.size)).mono ?_; rintro e6 w6 ⟨rfl, hy6, hb6⟩; have HY6 := Aside0.mk hy6; have HB6 := Aside0.mk hb6; clear hy6 hb6))
  go_ret
  exact ⟨rfl, HY6.out, (HB1.out.trans (hmB.mono HS1.out)).trans HB6.out⟩
set_option maxRecDepth 100000 in
set_option maxHeartbeats 8000000 in
theorem act_sends (B hp : Nat) (cv : Ext) (s : Pai) (y : Lay) (j : Nat) (num : Int) (w : World) (hP : PlayAt w B hp cv s y) (hB : B ≤ w.heap.size) (hj : j < s.nodes.length) (hm : s.nodes.length ≤ 1000) (r : Pai × Int)
    (hc : ∀ W, PlayAt W B hp cv s y → Below B w W → B ≤ W.heap.size → Calls Tryd.prog 65 #[.pointer (some ⟨hp, 0, none⟩), .pointer (some ⟨y.bn, j * 8, none⟩), .agg #[.int .i64 4, .int .i64 (j : Int), .int .i64 num]] W (ActPost W B hp cv r)) :
    Calls Tryd.prog 33 #[.pointer (some ⟨hp, 0, none⟩), .agg #[.int .i64 4, .int .i64 (j : Int), .int .i64 num]] w (ActPost w B hp cv r) := by
  have HC := Aside0.mk hc
  clear hc
  have HP := Aside0.mk hP
  have HB := Aside0.mk hB
  have hlt := hP.lt
  have hP1 := hP.far (below_alloc (Below.refl w.heap.size w) (.cells #[.int .i64 4, .int .i64 (j : Int), .int .i64 num] 41))
  have b1 := blk_new w (.cells #[.int .i64 4, .int .i64 (j : Int), .int .i64 num] 41)
  have HB1 := Aside0.mk ((below_alloc (Below.refl w.heap.size w) (.cells #[.int .i64 4, .int .i64 (j : Int), .int .i64 num] 41)).mono HB.out)
  have HS1 := Aside0.mk (Nat.le_trans HB.out (below_alloc (Below.refl w.heap.size w) (.cells #[.int .i64 4, .int .i64 (j : Int), .int .i64 num] 41)).size)
  have i0 : (0 : Int) ≤ (j : Int) := by omega
  have i1 : (j : Int) < (s.nodes.length : Int) := by omega
  have d3 : decide ((j : Int) < 0) = false := decide_eq_false (by omega)
  have d4 : decide ((s.nodes.length : Int) ≤ (j : Int)) = false := decide_eq_false (by omega)
  have d5 : decide (s.nodes.length ≤ j) = false := decide_eq_false (by omega)
  clear hP hB
  go_enter Tryd.func33, Tryd.ntmps33
  go_wp2_with fail
  generalize (w.alloc (.cells #[.int .i64 4, .int .i64 (j : Int), .int .i64 num] 41)) = w1 at *
  generalize w.heap.size = ga at *
  have a0 : w1.cell? ⟨ga, 0, none⟩ = some (.int .i64 4) := blk_cell b1 0
  have a1 : w1.cell? ⟨ga, 1, none⟩ = some (.int .i64 (j : Int)) := blk_cell b1 1
  have a2 : w1.cell? ⟨ga, 2, none⟩ = some (.int .i64 num) := blk_cell b1 2
  have p3 : w1.cell? ⟨hp, 3, none⟩ = some (.slice (some ⟨y.bn, 0, none⟩) s.nodes.length y.cap) := blk_cell hP1.blk 3
  clear b1
  go_quiet (fail)
  replace hP1 := hP1.far (w' := w1.drewN nq) (by apply pw_below_drewN; exact Below.refl _ _)
  replace HB1 : Aside0 (Below B w (w1.drewN nq)) := ⟨HB1.out.trans (by apply pw_below_drewN; exact Below.refl _ _)⟩
  replace HS1 : Aside0 (B ≤ (w1.drewN nq).heap.size) := ⟨HS1.out⟩
  replace a0 : (w1.drewN nq).cell? ⟨ga, 0, none⟩ = some (.int .i64 4) := a0
  replace a1 : (w1.drewN nq).cell? ⟨ga, 1, none⟩ = some (.int .i64 (j : Int)) := a1
  replace a2 : (w1.drewN nq).cell? ⟨ga, 2, none⟩ = some (.int .i64 num) := a2
  replace p3 : (w1.drewN nq).cell? ⟨hp, 3, none⟩ = some (.slice (some ⟨y.bn, 0, none⟩) s.nodes.length y.cap) := p3
  go_wp2_with fail
  generalize w1.drewN nq = w2 at *
  go_quiet (fail)
  replace hP1 := hP1.far (w' := w2.drewN nq) (by apply pw_below_drewN; exact Below.refl _ _)
  replace HB1 : Aside0 (Below B w (w2.drewN nq)) := ⟨HB1.out.trans (by apply pw_below_drewN; exact Below.refl _ _)⟩
  replace HS1 : Aside0 (B ≤ (w2.drewN nq).heap.size) := ⟨HS1.out⟩
  replace a0 : (w2.drewN nq).cell? ⟨ga, 0, none⟩ = some (.int .i64 4) := a0
  replace a1 : (w2.drewN nq).cell? ⟨ga, 1, none⟩ = some (.int .i64 (j : Int)) := a1
  replace a2 : (w2.drewN nq).cell? ⟨ga, 2, none⟩ = some (.int .i64 num) := a2
  replace p3 : (w2.drewN nq).cell? ⟨hp, 3, none⟩ = some (.slice (some ⟨y.bn, 0, none⟩) s.nodes.length y.cap) := p3
  generalize w2.drewN nq = w3 at *
  have HP1 := Aside0.mk hP1
  clear hP1
  have HB2 := Below.refl w3.heap.size w3
  have La0 := below_lay a0
  have La1 := below_lay a1
  have La2 := below_lay a2
  go_wp2_with (first
    | (refine ev_makeMap rfl rfl rfl HB2 (Nat.le_refl _) ?_; intro gm w4 hgm hmb hmB)
    | (refine ev_insert rfl rfl rfl Tryd.underlying121 Tryd.underlying3 hmb rfl rfl rfl rfl hmB hgm ?_; clear hmb hmB; intro w5 hmb hmB)
    | (refine ev_lookup rfl rfl rfl rfl rfl (run_find Tryd.underlying121 Tryd.underlying3 hmb 4 rfl) ?_; have a0x := La0 _ hmB; have a1x := La1 _ hmB; have a2x := La2 _ hmB)
    | (go_at_call 65; refine (HC.out _ (HP1.out.far hmB) (HB1.out.trans (hmB.mono HS1.out)) (Nat.le_trans HS1.out hmB.size)).mono ?_; rintro e6 w6 ⟨rfl, hy6, hb6⟩; have HY6 := Aside0.mk hy6; have HB6 := Aside0.mk hb6; clear hy6 hb6))
  go_ret
  exact ⟨rfl, HY6.out, (HB1.out.trans (hmB.mono HS1.out)).trans HB6.out⟩
set_option maxRecDepth 100000 in
set_option maxHeartbeats 8000000 in
theorem act_loads (B hp : Nat) (cv : Ext) (s : Pai) (y : Lay) (j : Nat) (num : Int) (w : World) (hP : PlayAt w B hp cv s y) (hB : B ≤ w.heap.size) (hj : j < s.nodes.length) (hm : s.nodes.length ≤ 1000) (r : Pai × Int)
    (hc : ∀ W, PlayAt W B hp cv s y → Below B w W → B ≤ W.heap.size → Calls Tryd.prog 66 #[.pointer (some ⟨hp, 0, none⟩), .pointer (some ⟨y.bn, j * 8, none⟩), .agg #[.int .i64 6, .int .i64 (j : Int), .int .i64 num]] W (ActPost W B hp cv r)) :
    Calls Tryd.prog 33 #[.pointer (some ⟨hp, 0, none⟩), .agg #[.int .i64 6, .int .i64 (j : Int), .int .i64 num]] w (ActPost w B hp cv r) := by
  have HC := Aside0.mk hc
  clear hc
  have HP := Aside0.mk hP
  have HB := Aside0.mk hB
  have hlt := hP.lt
  have hP1 := hP.far (below_alloc (Below.refl w.heap.size w) (.cells #[.int .i64 6, .int .i64 (j : Int), .int .i64 num] 41))
  have b1 := blk_new w (.cells #[.int .i64 6, .int .i64 (j : Int), .int .i64 num] 41)
  have HB1 := Aside0.mk ((below_alloc (Below.refl w.heap.size w) (.cells #[.int .i64 6, .int .i64 (j : Int), .int .i64 num] 41)).mono HB.out)
  have HS1 := Aside0.mk (Nat.le_trans HB.out (below_alloc (Below.refl w.heap.size w) (.cells #[.int .i64 6, .int .i64 (j : Int), .int .i64 num] 41)).size)
  have i0 : (0 : Int) ≤ (j : Int) := by omega
  have i1 : (j : Int) < (s.nodes.length : Int) := by omega
  have d3 : decide ((j : Int) < 0) = false := decide_eq_false (by omega)
  have d4 : decide ((s.nodes.length : Int) ≤ (j : Int)) = false := decide_eq_false (by omega)
  have d5 : decide (s.nodes.length ≤ j) = false := decide_eq_false (by omega)
  clear hP hB
  go_enter Tryd.func33, Tryd.ntmps33
  go_wp2_with fail
  generalize (w.alloc (.cells #[.int .i64 6, .int .i64 (j : Int), .int .i64 num] 41)) = w1 at *
  generalize w.heap.size = ga at *
  have a0 : w1.cell? ⟨ga, 0, none⟩ = some (.int .i64 6) := blk_cell b1 0
  have a1 : w1.cell? ⟨ga, 1, none⟩ = some (.int .i64 (j : Int)) := blk_cell b1 1
  have a2 : w1.cell? ⟨ga, 2, none⟩ = some (.int .i64 num) := blk_cell b1 2
  have p3 : w1.cell? ⟨hp, 3, none⟩ = some (.slice (some ⟨y.bn, 0, none⟩) s.nodes.length y.cap) := blk_cell hP1.blk 3
  clear b1
  go_quiet (fail)
  replace hP1 := hP1.far (w' := w1.drewN nq) (by apply pw_below_drewN; exact Below.refl _ _)
  replace HB1 : Aside0 (Below B w (w1.drewN nq)) := ⟨HB1.out.trans (by apply pw_below_drewN; exact Below.refl _ _)⟩
  replace HS1 : Aside0 (B ≤ (w1.drewN nq).heap.size) := ⟨HS1.out⟩
  replace a0 : (w1.drewN nq).cell? ⟨ga, 0, none⟩ = some (.int .i64 6) := a0
  replace a1 : (w1.drewN nq).cell? ⟨ga, 1, none⟩ = some (.int .i64 (j : Int)) := a1
  replace a2 : (w1.drewN nq).cell? ⟨ga, 2, none⟩ = some (.int .i64 num) := a2
  replace p3 : (w1.drewN nq).cell? ⟨hp, 3, none⟩ = some (.slice (some ⟨y.bn, 0, none⟩) s.nodes.length y.cap) := p3
  go_wp2_with fail
  generalize w1.drewN nq = w2 at *
  go_quiet (fail)
  replace hP1 := hP1.far (w' := w2.drewN nq) (by apply pw_below_drewN; exact Below.refl _ _)
  replace HB1 : Aside0 (Below B w (w2.drewN nq)) := ⟨HB1.out.trans (by apply pw_below_drewN; exact Below.refl _ _)⟩
  replace HS1 : Aside0 (B ≤ (w2.drewN nq).heap.size) := ⟨HS1.out⟩
  replace a0 : (w2.drewN nq).cell? ⟨ga, 0, none⟩ = some (.int .i64 6) := a0
  replace a1 : (w2.drewN nq).cell? ⟨ga, 1, none⟩ = some (.int .i64 (j : Int)) := a1
  replace a2 : (w2.drewN nq).cell? ⟨ga, 2, none⟩ = some (.int .i64 num) := a2
  replace p3 : (w2.drewN nq).cell? ⟨hp, 3, none⟩ = some (.slice (some ⟨y.bn, 0, none⟩) s.nodes.length y.cap) := p3
  generalize w2.drewN nq = w3 at *
  have HP1 := Aside0.mk hP1
  clear hP1
  have HB2 := Below.refl w3.heap.size w3
  have La0 := below_lay a0
  have La1 := below_lay a1
  have La2 := below_lay a2
  go_wp2_with (first
    | (refine ev_makeMap rfl rfl rfl HB2 (Nat.le_refl _) ?_; intro gm w4 hgm hmb hmB)
    | (refine ev_insert rfl rfl rfl Tryd.underlying121 Tryd.underlying3 hmb rfl rfl rfl rfl hmB hgm ?_; clear hmb hmB; intro w5 hmb hmB)
    | (refine ev_lookup rfl rfl rfl rfl rfl (run_find Tryd.underlying121 Tryd.underlying3 hmb 6 rfl) ?_; have a0x := La0 _ hmB; have a1x := La1 _ hmB; have a2x := La2 _ hmB)
    | (go_at_call 66; refine (HC.out _ (HP1.out.far hmB) (HB1.out.trans (hmB.mono HS1.out)) (Nat.le_trans HS1.out hmB.size)).mono ?_; rintro e6 w6 ⟨rfl, hy6, hb6⟩; have HY6 := Aside0.mk hy6; have HB6 := Aside0.mk hb6; clear hy6 hb6))
  go_ret
  exact ⟨rfl, HY6.out, (HB1.out.trans (hmB.mono HS1.out)).trans HB6.out⟩
end Go.Proofs.YtifphhkkpadpoaaDoor
