/- The walk of (*pair.play).input. -/
import Derived.Test.YtifphhkkpadpoaaDoorPlayAt
namespace Go.Proofs.YtifphhkkpadpoaaDoor
open Go.RowKit Go.Proofs.YtifphhkkpadpoaaDoorW.PrintWords
set_option linter.unusedVariables false
set_option linter.unusedSimpArgs false
def ActPost (w : World) (B hp : Nat) (cv : Ext) (r : Pai × Int) (e : Ending) (w' : World) : Prop :=
  e = .returned (.int .i64 r.2) ∧ (∃ y', PlayAt w' B hp cv r.1 y') ∧ Below B w w'
set_option maxRecDepth 100000 in
set_option maxHeartbeats 8000000 in
theorem input_calls (B hp : Nat) (cv : Ext) (s : Pai) (y : Lay) (k wh num : Int) (w : World) (hP : PlayAt w B hp cv s y) (hl : s.log.length ≤ 1000) (hB : B ≤ w.heap.size) :
    Calls Tryd.prog 62 #[.pointer (some ⟨hp, 0, none⟩), .agg #[.int .i64 k, .int .i64 wh, .int .i64 num]] w (ActPost w B hp cv (inputAct s ⟨k, wh, num⟩)) := by
  have HP := Aside0.mk hP
  have HB := Aside0.mk hB
  have HL := Aside0.mk hl
  have hlt := hP.lt
  clear hP hB hl
  cases h32 : is32 num with
  | false =>
    have hin : inputAct s ⟨k, wh, num⟩ = (s, 4) := by unfold inputAct; simp [h32]
    rw [hin]
    have hc : (num == wrap64 (wrap32 num)) = false := by rw [is32_wrap, h32]
    clear h32 hin
    go_enter Tryd.func62, Tryd.ntmps62
    go_wp2
    go_ret
    have hb : Below w.heap.size w (w.alloc (.cells #[.int .i64 k, .int .i64 wh, .int .i64 num] 41)) := below_alloc (Below.refl _ _) _
    exact ⟨rfl, ⟨y, HP.out.far hb⟩, hb.mono HB.out⟩
  | true =>
    have hin : inputAct s ⟨k, wh, num⟩ = ({ s with log := s.log ++ [num] }, 0) := by unfold inputAct; simp [h32]
    rw [hin]
    have hc : (num == wrap64 (wrap32 num)) = true := by rw [is32_wrap, h32]
    clear h32 hin
    go_enter Tryd.func62, Tryd.ntmps62
    go_wp2
    have hb : Below w.heap.size w (w.alloc (.cells #[.int .i64 k, .int .i64 wh, .int .i64 num] 41)) := below_alloc (Below.refl _ _) _
    have hP1 := HP.out.far hb
    have b1 := blk_new w (.cells #[.int .i64 k, .int .i64 wh, .int .i64 num] 41)
    have hB1 := hb.mono HB.out
    have hBs1 : B ≤ (w.alloc (.cells #[.int .i64 k, .int .i64 wh, .int .i64 num] 41)).heap.size := Nat.le_trans HB.out hb.size
    clear hb
    generalize w.alloc (.cells #[.int .i64 k, .int .i64 wh, .int .i64 num] 41) = w1 at *
    generalize w.heap.size = ga at *
    have v2 : w1.cell? ⟨ga, 2, none⟩ = some (.int .i64 num) := blk_cell b1 2
    have p0 : w1.cell? ⟨hp, 0, none⟩ = some y.vL := blk_cell hP1.blk 0
    have f0 := blk_frozen hP1.blk 0
    have lt1 := hP1.lt
    have HP1 := Aside0.mk hP1
    have HB1 := Aside0.mk hB1
    have HPd := Aside0.mk (hP1.far (below_drew (Below.refl _ _)))
    have HR0 : Aside0 ((Kd.int .i64).R 3 w1.drew B (fun k => recol y.col w1.heap.size 2 k = 2) y.vL s.log) := ⟨R_col hP1.log (Only.of_below (below_drew (Below.refl _ _)) (fun _ => False)) (fun _ _ hx => hx.elim) (fun k hk => recol_old hk)⟩
    have HF : Aside0 (∀ k, w1.drew.heap.size ≤ k → recol y.col w1.heap.size 2 k = 2) := ⟨fun k hk => recol_new hk⟩
    have HBs : Aside0 (B ≤ w1.drew.heap.size) := ⟨hBs1⟩
    have HLl : Aside0 ((s.log.length + 1) * 8 ≤ 140737488355328) := ⟨by have := HL.out; omega⟩
    have HGV : Aside0 (some hp ≠ y.vL.ownBlock) := ⟨fun e => by have h1 : y.col hp = 2 := hP1.log.1 hp e.symm; have h2 := hP1.hcol; omega⟩
    clear hP1 hB1 b1 hBs1
    go_region_law ((refine Kd.R_append_step (Kd.int .i64) (W := w1.drew) (w0 := w1.drew) B rfl (.tmp 17) (.tmp 20) 24 3 (.int .i64 0) 8 rfl Tryd.underlying24 info_int rfl (by decide) (by decide) y.vL s.log num [.int .i64 num] (fun k => recol y.col w1.heap.size 2 k = 2) (fun _ => False) rfl rfl rfl (fun _ h => h.elim) HF.out HR0.out (Below.refl B _) HBs.out HLl.out ?_; intro v1 w3 hR hB3 hg hat; obtain ⟨A1, c1, rfl⟩ := Kd.R_slice hR; have hb3 := blk_grown (w := w1.drew) HPd.out.blk hg HGV.out; have g0 : w3.cell? ⟨hp, 0, none⟩ = some y.vL := blk_cell hb3 0; have g1 := blk_frozen hb3 0; have HR3 := Aside0.mk hR; have HB3 := Aside0.mk hB3; have HG3 := Aside0.mk hg; clear hR hB3 hg hat hb3))
    all_goals
      go_wp2
      go_ret
      have hs := HPd.out.setLog (v1 := .slice A1 (s.log ++ [num]).length c1) HG3.out HR3.out
      simp only [List.length_append, List.length_singleton] at hs
      refine ⟨rfl, ⟨_, hs⟩, ?_⟩
      exact Below.setCell (HB1.out.trans ((Below.refl B w1).drew.trans HB3.out)) (p := ⟨hp, 0, none⟩) HP.out.low _
end Go.Proofs.YtifphhkkpadpoaaDoor
