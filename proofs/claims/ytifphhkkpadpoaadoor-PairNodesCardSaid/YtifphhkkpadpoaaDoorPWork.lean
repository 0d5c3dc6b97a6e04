/- The walk of (*pair.play).work. Printed by gen_work.py. -/
import Derived.Test.YtifphhkkpadpoaaDoorPStill2
namespace Go.Proofs.YtifphhkkpadpoaaDoor
open Go.RowKit Go.Proofs.YtifphhkkpadpoaaDoorW.PrintWords
set_option linter.unusedVariables false
set_option linter.unusedSimpArgs false
set_option maxRecDepth 100000 in
set_option maxHeartbeats 8000000 in
theorem work_stopped (B hp : Nat) (cv : Ext) (s : Pai) (y : Lay) (j : Nat) (x : Nod) (code : List Ins) (k wh num : Int) (w : World) (hP : PlayAt w B hp cv s y) (hx : s.nodes[j]? = some x) (hB : B ≤ w.heap.size) (hn : x.epoch = 0 ∨ (fencePass s.fence.epoch s.fence.owner wh x.epoch).1 = false) :
    Calls Tryd.prog 64 #[.pointer (some ⟨hp, 0, none⟩), .pointer (some ⟨y.bn, j * 8, none⟩), .agg #[.int .i64 k, .int .i64 wh, .int .i64 num]] w (ActPost w B hp cv (workAct code s j x ⟨k, wh, num⟩)) := by
  have HP := Aside0.mk hP
  have HB := Aside0.mk hB
  have HX := Aside0.mk hx
  have hlt := hP.lt
  clear hP hB hx
  by_cases h1 : x.epoch = 0
  · have hv : workAct code s j x ⟨k, wh, num⟩ = (s, 9) := by unfold workAct; rw [if_pos h1]
    rw [hv]
    have e0 : (x.epoch == 0) = true := by simpa using h1
    clear hv hn
    go_enter Tryd.func64, Tryd.ntmps64
    have hb := HP.out.far (below_alloc (Below.refl w.heap.size w) (.cells #[.int .i64 k, .int .i64 wh, .int .i64 num] 41))
    have b1 := blk_new w (.cells #[.int .i64 k, .int .i64 wh, .int .i64 num] 41)
    have HB1 := Aside0.mk ((below_alloc (Below.refl w.heap.size w) (.cells #[.int .i64 k, .int .i64 wh, .int .i64 num] 41)).mono HB.out)
    have HS1 := Aside0.mk (Nat.le_trans HB.out (below_alloc (Below.refl w.heap.size w) (.cells #[.int .i64 k, .int .i64 wh, .int .i64 num] 41)).size)
    have hgh : w.heap.size ≠ hp := by omega
    obtain ⟨cs, hcs, h8, _, hN, hc, hf⟩ := hb.cells HX.out
    obtain ⟨Ar, cr, vo, rfl, hN1, hN2, hN3⟩ := hN.out
    have n0 : (w.alloc (.cells #[.int .i64 k, .int .i64 wh, .int .i64 num] 41)).cell? ⟨y.bn, j * 8, none⟩ = some (.int .i64 x.epoch) := hc 0 _ rfl
    have v1 : (w.alloc (.cells #[.int .i64 k, .int .i64 wh, .int .i64 num] 41)).cell? ⟨w.heap.size, 1, none⟩ = some (.int .i64 wh) := blk_cell b1 1
    have p1 : (w.alloc (.cells #[.int .i64 k, .int .i64 wh, .int .i64 num] 41)).cell? ⟨hp, 1, none⟩ = some (.int .i64 s.fence.epoch) := blk_cell hb.blk 1
    have p2 : (w.alloc (.cells #[.int .i64 k, .int .i64 wh, .int .i64 num] 41)).cell? ⟨hp, 2, none⟩ = some (.int .i64 s.fence.owner) := blk_cell hb.blk 2
    have HP1 := Aside0.mk hb
    clear hb b1 hc hf hN hN1 hN2 hN3 hcs h8
    go_wp2
    go_ret
    exact ⟨rfl, ⟨y, HP1.out⟩, HB1.out⟩
  · have hn' : (fencePass s.fence.epoch s.fence.owner wh x.epoch).1 = false := hn.resolve_left h1
    have hv : workAct code s j x ⟨k, wh, num⟩ = (setNod s j { x with epoch := 0 }, 9) := by unfold workAct; rw [if_neg h1, if_pos hn']
    rw [hv]
    have e0 : (x.epoch == 0) = false := by simpa using h1
    obtain ⟨er, HF⟩ : ∃ er, Aside0 (fencePass s.fence.epoch s.fence.owner wh x.epoch = (false, er)) := ⟨(fencePass s.fence.epoch s.fence.owner wh x.epoch).2, ⟨by rw [← hn']⟩⟩
    have HFP : Aside0 (∀ W : World, Calls Tryd.prog 88 #[.agg #[.int .i64 s.fence.epoch, .int .i64 s.fence.owner], .int .i64 wh, .int .i64 x.epoch] W fun r W' => r = .returned (.tuple #[.bool false, .int .i64 er]) ∧ Below W.heap.size W W') := ⟨fun W => (fencePass_calls s.fence.epoch s.fence.owner wh x.epoch W).mono (by rintro r W' ⟨rfl, hb⟩; rw [HF.out]; exact ⟨rfl, hb⟩)⟩
    clear hv hn hn'
    go_enter Tryd.func64, Tryd.ntmps64
    have hb := HP.out.far (below_alloc (Below.refl w.heap.size w) (.cells #[.int .i64 k, .int .i64 wh, .int .i64 num] 41))
    have b1 := blk_new w (.cells #[.int .i64 k, .int .i64 wh, .int .i64 num] 41)
    have HB1 := Aside0.mk ((below_alloc (Below.refl w.heap.size w) (.cells #[.int .i64 k, .int .i64 wh, .int .i64 num] 41)).mono HB.out)
    have HS1 := Aside0.mk (Nat.le_trans HB.out (below_alloc (Below.refl w.heap.size w) (.cells #[.int .i64 k, .int .i64 wh, .int .i64 num] 41)).size)
    have hgh : w.heap.size ≠ hp := by omega
    obtain ⟨cs, hcs, h8, _, hN, hc, hf⟩ := hb.cells HX.out
    obtain ⟨Ar, cr, vo, rfl, hN1, hN2, hN3⟩ := hN.out
    have n0 : (w.alloc (.cells #[.int .i64 k, .int .i64 wh, .int .i64 num] 41)).cell? ⟨y.bn, j * 8, none⟩ = some (.int .i64 x.epoch) := hc 0 _ rfl
    have v1 : (w.alloc (.cells #[.int .i64 k, .int .i64 wh, .int .i64 num] 41)).cell? ⟨w.heap.size, 1, none⟩ = some (.int .i64 wh) := blk_cell b1 1
    have p1 : (w.alloc (.cells #[.int .i64 k, .int .i64 wh, .int .i64 num] 41)).cell? ⟨hp, 1, none⟩ = some (.int .i64 s.fence.epoch) := blk_cell hb.blk 1
    have p2 : (w.alloc (.cells #[.int .i64 k, .int .i64 wh, .int .i64 num] 41)).cell? ⟨hp, 2, none⟩ = some (.int .i64 s.fence.owner) := blk_cell hb.blk 2
    have HP1 := Aside0.mk hb
    clear hb b1 hc hf hN hN1 hN2 hN3 hcs h8
    go_wp2_with fail
    generalize w.alloc (.cells #[.int .i64 k, .int .i64 wh, .int .i64 num] 41) = w1 at *
    generalize w.heap.size = ga at *
    go_region_held3 (fun w' => w'.cell? ⟨ga, 1, none⟩ = some (.int .i64 wh) ∧ w'.cell? ⟨y.bn, j * 8, none⟩ = some (.int .i64 x.epoch) ∧ w'.cell? ⟨hp, 1, none⟩ = some (.int .i64 s.fence.epoch) ∧ w'.cell? ⟨hp, 2, none⟩ = some (.int .i64 s.fence.owner)) (first | go_keep | (dsimp only; (repeat' apply And.intro) <;> go_keep))
      ((go_at_call 88; refine (HFP.out _).mono ?_; rintro e2 w2 ⟨rfl, hb⟩; have HB2 := Aside0.mk (below_step (below_drew (Below.refl w1.heap.size w1)) hb); clear hb; have x1 := (HB2.out.cell (World.block_lt_of_cell? w1 _ v1)).trans v1; have x2 := (HB2.out.cell (World.block_lt_of_cell? w1 _ n0)).trans n0; have x3 := (HB2.out.cell (World.block_lt_of_cell? w1 _ p1)).trans p1; have x4 := (HB2.out.cell (World.block_lt_of_cell? w1 _ p2)).trans p2))
    have hp2 := HP1.out.far HB2.out
    obtain ⟨cs, hcs, h8, _, hN, hc, hf⟩ := hp2.cells HX.out
    obtain ⟨Ar, cr, vo, rfl, hN1, hN2, hN3⟩ := hN.out
    have f0 : w2.frozen? ⟨y.bn, j * 8, none⟩ = false := hf 0
    have HQ := Aside0.mk (hp2.poke HX.out hcs (i := 0) (by omega) (u := .int .i64 0) rfl { x with epoch := 0 } ⟨⟨Ar, cr, vo, rfl, hN1, hN2, hN3⟩⟩)
    have HQB := Aside0.mk (Below.setCell (HB1.out.trans (HB2.out.mono HS1.out)) (p := ⟨y.bn, j * 8 + 0, none⟩) hp2.bn_low (.int .i64 0))
    clear hp2 hc hf hN hN1 hN2 hN3 hcs h8
    go_wp2
    go_ret
    exact ⟨rfl, ⟨_, HQ.out⟩, HQB.out⟩
end Go.Proofs.YtifphhkkpadpoaaDoor
