/- The walk of (*pair.play).send where nothing is handed. Printed by gen_send.py. -/
import Derived.Test.YtifphhkkpadpoaaDoorPStill2
import Derived.Test.YtifphhkkpadpoaaDoorPText
namespace Go.Proofs.YtifphhkkpadpoaaDoor
open Go.RowKit Go.Proofs.YtifphhkkpadpoaaDoorW.PrintWords
set_option linter.unusedVariables false
set_option linter.unusedSimpArgs false
set_option maxRecDepth 100000 in
set_option maxHeartbeats 8000000 in
theorem send_stopped (B hp : Nat) (cv : Ext) (s : Pai) (y : Lay) (j : Nat) (x : Nod) (k wh num : Int) (w : World) (hP : PlayAt w B hp cv s y) (hx : s.nodes[j]? = some x) (hB : B ≤ w.heap.size) (hn : x.epoch = 0 ∨ x.sent = x.outs.length) :
    Calls Tryd.prog 65 #[.pointer (some ⟨hp, 0, none⟩), .pointer (some ⟨y.bn, j * 8, none⟩), .agg #[.int .i64 k, .int .i64 wh, .int .i64 num]] w (ActPost w B hp cv (sendAct s j x ⟨k, wh, num⟩)) := by
  have HP := Aside0.mk hP
  have HB := Aside0.mk hB
  have HX := Aside0.mk hx
  have hlt := hP.lt
  clear hP hB hx
  by_cases h1 : x.epoch = 0
  · have hv : sendAct s j x ⟨k, wh, num⟩ = (s, 9) := by unfold sendAct; rw [if_pos h1]
    rw [hv]
    have e0 : (x.epoch == 0) = true := by simpa using h1
    clear hv hn
    go_enter Tryd.func65, Tryd.ntmps65
    have hb := HP.out.far (below_alloc (Below.refl w.heap.size w) (.cells #[.int .i64 k, .int .i64 wh, .int .i64 num] 41))
    have b1 := blk_new w (.cells #[.int .i64 k, .int .i64 wh, .int .i64 num] 41)
    have HB1 := Aside0.mk ((below_alloc (Below.refl w.heap.size w) (.cells #[.int .i64 k, .int .i64 wh, .int .i64 num] 41)).mono HB.out)
    have HS1 := Aside0.mk (Nat.le_trans HB.out (below_alloc (Below.refl w.heap.size w) (.cells #[.int .i64 k, .int .i64 wh, .int .i64 num] 41)).size)
    obtain ⟨cs, hcs, h8, _, hN, hc, hf⟩ := hb.cells HX.out
    obtain ⟨Ar, cr, vo, rfl, hN1, hN2, hN3⟩ := hN.out
    obtain ⟨Ao, co, rfl⟩ := Kd.R_slice hN3
    have n0 : (w.alloc (.cells #[.int .i64 k, .int .i64 wh, .int .i64 num] 41)).cell? ⟨y.bn, j * 8, none⟩ = some (.int .i64 x.epoch) := hc 0 _ rfl
    have n6 : (w.alloc (.cells #[.int .i64 k, .int .i64 wh, .int .i64 num] 41)).cell? ⟨y.bn, j * 8 + 6, none⟩ = some (.slice Ao x.outs.length co) := hc 6 _ rfl
    have n7 : (w.alloc (.cells #[.int .i64 k, .int .i64 wh, .int .i64 num] 41)).cell? ⟨y.bn, j * 8 + 7, none⟩ = some (.int .i64 x.sent) := hc 7 _ rfl
    have HP1 := Aside0.mk hb
    clear hb b1 hc hf hN hN1 hN2 hN3 hcs h8
    go_wp2
    go_ret
    exact ⟨rfl, ⟨y, HP1.out⟩, HB1.out⟩
  · have h2 : x.sent = x.outs.length := hn.resolve_left h1
    have hv : sendAct s j x ⟨k, wh, num⟩ = (s, 7) := by unfold sendAct; rw [if_neg h1, if_pos h2]
    rw [hv]
    have e0 : (x.epoch == 0) = false := by simpa using h1
    have e1 : (x.sent == (x.outs.length : Int)) = true := by simpa using h2
    clear hv hn h2
    go_enter Tryd.func65, Tryd.ntmps65
    have hb := HP.out.far (below_alloc (Below.refl w.heap.size w) (.cells #[.int .i64 k, .int .i64 wh, .int .i64 num] 41))
    have b1 := blk_new w (.cells #[.int .i64 k, .int .i64 wh, .int .i64 num] 41)
    have HB1 := Aside0.mk ((below_alloc (Below.refl w.heap.size w) (.cells #[.int .i64 k, .int .i64 wh, .int .i64 num] 41)).mono HB.out)
    have HS1 := Aside0.mk (Nat.le_trans HB.out (below_alloc (Below.refl w.heap.size w) (.cells #[.int .i64 k, .int .i64 wh, .int .i64 num] 41)).size)
    obtain ⟨cs, hcs, h8, _, hN, hc, hf⟩ := hb.cells HX.out
    obtain ⟨Ar, cr, vo, rfl, hN1, hN2, hN3⟩ := hN.out
    obtain ⟨Ao, co, rfl⟩ := Kd.R_slice hN3
    have n0 : (w.alloc (.cells #[.int .i64 k, .int .i64 wh, .int .i64 num] 41)).cell? ⟨y.bn, j * 8, none⟩ = some (.int .i64 x.epoch) := hc 0 _ rfl
    have n6 : (w.alloc (.cells #[.int .i64 k, .int .i64 wh, .int .i64 num] 41)).cell? ⟨y.bn, j * 8 + 6, none⟩ = some (.slice Ao x.outs.length co) := hc 6 _ rfl
    have n7 : (w.alloc (.cells #[.int .i64 k, .int .i64 wh, .int .i64 num] 41)).cell? ⟨y.bn, j * 8 + 7, none⟩ = some (.int .i64 x.sent) := hc 7 _ rfl
    have HP1 := Aside0.mk hb
    clear hb b1 hc hf hN hN1 hN2 hN3 hcs h8
    go_wp2
    go_quiet (fail)
    go_wp2
    go_ret
    exact ⟨rfl, ⟨y, HP1.out.far (by first | exact Below.refl _ _ | (apply pw_below_drewN; exact Below.refl _ _))⟩, (by first | exact HB1.out | (apply pw_below_drewN; exact HB1.out))⟩
end Go.Proofs.YtifphhkkpadpoaaDoor
