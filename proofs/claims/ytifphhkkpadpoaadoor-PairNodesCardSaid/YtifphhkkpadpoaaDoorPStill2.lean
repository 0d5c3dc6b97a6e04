/- The walk of pair.still. Printed by gen_still.py. -/
import Derived.Test.YtifphhkkpadpoaaDoorPStill
namespace Go.Proofs.YtifphhkkpadpoaaDoor
open Go.RowKit Go.Proofs.YtifphhkkpadpoaaDoorW.PrintWords
set_option linter.unusedVariables false
set_option linter.unusedSimpArgs false
set_option maxRecDepth 100000 in
set_option maxHeartbeats 8000000 in
theorem still_calls (ep pc rd st : Int) (h f : Bool) (regs : List Int) (outs : List Emit) (Ar Ao : Option Addr) (cr co : Nat) (w : World) (hr : (Kd.int .i64).C w Ar regs.length regs) (ho : kEmit.C w Ao outs.length outs) (hl1 : regs.length ≤ 1000) (hl2 : outs.length ≤ 1000000) :
    Calls Tryd.prog 67 #[.agg #[.int .i64 ep, .int .i64 pc, .slice Ar regs.length cr, .bool h, .bool f, .int .i64 rd, .slice Ao outs.length co, .int .i64 st]] w (StillPost w (still ⟨ep, ⟨pc, regs, h, f⟩, rd, outs, st⟩)) := by
  have HR := Aside0.mk hr
  have HO := Aside0.mk ho
  have hb1 : regs.length * 8 ≤ 140737488355328 := by omega
  have hb2 : outs.length * 16 ≤ 140737488355328 := by omega
  have HCR := Aside0.mk (fun (W : World) (hW : Below w.heap.size w W) => clone_int Ar cr regs W (Kd.C_below HR.out hW) hb1)
  have HCO := Aside0.mk (fun (W : World) (hW : Below w.heap.size w W) => clone_Emit Ao co outs W (Kd.C_below HO.out hW) hb2)
  clear hr ho hl1 hl2 hb1 hb2
  go_enter Tryd.func67, Tryd.ntmps67
  have hb0 := below_alloc (below_alloc (Below.refl w.heap.size w) (.cells #[.int .i64 0, .int .i64 pc, .slice Ar regs.length cr, .bool h, .bool f, .int .i64 rd, .slice Ao outs.length co, .int .i64 0] 49)) (.cells #[.int .i64 0, .int .i64 0, .slice none 0 0, .bool false, .bool false, .int .i64 0, .slice none 0 0, .int .i64 0] 49)
  have b0 := blk_alloc (blk_new w (.cells #[.int .i64 0, .int .i64 pc, .slice Ar regs.length cr, .bool h, .bool f, .int .i64 rd, .slice Ao outs.length co, .int .i64 0] 49)) (.cells #[.int .i64 0, .int .i64 0, .slice none 0 0, .bool false, .bool false, .int .i64 0, .slice none 0 0, .int .i64 0] 49)
  have c0 : ((w.alloc (.cells #[.int .i64 0, .int .i64 pc, .slice Ar regs.length cr, .bool h, .bool f, .int .i64 rd, .slice Ao outs.length co, .int .i64 0] 49)).alloc (.cells #[.int .i64 0, .int .i64 0, .slice none 0 0, .bool false, .bool false, .int .i64 0, .slice none 0 0, .int .i64 0] 49)).heap[w.heap.size + 1]? = some (.cells #[.int .i64 0, .int .i64 0, .slice none 0 0, .bool false, .bool false, .int .i64 0, .slice none 0 0, .int .i64 0] 49 (0, 0)) := by have := blk_new (w.alloc (.cells #[.int .i64 0, .int .i64 pc, .slice Ar regs.length cr, .bool h, .bool f, .int .i64 rd, .slice Ao outs.length co, .int .i64 0] 49)) (.cells #[.int .i64 0, .int .i64 0, .slice none 0 0, .bool false, .bool false, .int .i64 0, .slice none 0 0, .int .i64 0] 49); simpa using this
  have HSA := Aside0.mk b0
  have HCA := Aside0.mk c0
  have HBA := Aside0.mk hb0
  clear hb0 b0 c0
  go_wp2_with fail
  have hz0 : ∀ k, w.heap.size ≤ k → w.heap.size ≤ k := fun _ h => h
  generalize ((w.alloc (.cells #[.int .i64 0, .int .i64 pc, .slice Ar regs.length cr, .bool h, .bool f, .int .i64 rd, .slice Ao outs.length co, .int .i64 0] 49)).alloc (.cells #[.int .i64 0, .int .i64 0, .slice none 0 0, .bool false, .bool false, .int .i64 0, .slice none 0 0, .int .i64 0] 49)) = w2 at *
  obtain ⟨ga, hga⟩ : ∃ ga, w.heap.size = ga := ⟨_, rfl⟩
  rw [hga] at HSA HCA ⊢
  have x2 : w2.cell? ⟨ga, 2, none⟩ = some (.slice Ar regs.length cr) := blk_cell HSA.out 2
  have x6 : w2.cell? ⟨ga, 6, none⟩ = some (.slice Ao outs.length co) := blk_cell HSA.out 6
  have f2 := blk_frozen HSA.out 2
  have f6 := blk_frozen HSA.out 6
  have hlt := blk_lt HSA.out
  have hlt1 := blk_lt HCA.out
  have HSZ : Aside0 (ga < w2.heap.size ∧ ga + 1 < w2.heap.size ∧ w2.drew.heap.size = w2.heap.size) := ⟨hlt, hlt1, rfl⟩
  go_region_law
    (first
      | (go_simp; go_at_call 42; refine (HCR.out _ (below_drew HBA.out)).mono ?_; rintro e3 w3 ⟨v3, rfl, hR, hb⟩; obtain ⟨A3, c3, rfl⟩ := Kd.R_slice hR; have HS3 := Aside0.mk (blk_below (w := w2.drew) HSA.out hb); have HC3 := Aside0.mk (blk_below (w := w2.drew) HCA.out hb); have HB3 := Aside0.mk (below_step (below_drew HBA.out) hb); have HR3 := Aside0.mk hR; have HT3 := Aside0.mk hb.size; have x32 : w3.cell? ⟨ga, 2, none⟩ = some (.slice Ar regs.length cr) := blk_cell HS3.out 2; have x36 : w3.cell? ⟨ga, 6, none⟩ = some (.slice Ao outs.length co) := blk_cell HS3.out 6; have f32 := blk_frozen HS3.out 2; have f36 := blk_frozen HS3.out 6; go_wp2_with fail)
      | (go_simp; go_at_call 90; refine (HCO.out _ HB3.out).mono ?_; rintro e4 w4 ⟨v4, rfl, hR4, hb4⟩; obtain ⟨A4, c4, rfl⟩ := Kd.R_slice hR4; have HS4 := Aside0.mk (blk_below HS3.out hb4); have HC4 := Aside0.mk (blk_below HC3.out hb4); have HB4 := Aside0.mk (below_step HB3.out hb4); have HR4 := Aside0.mk hR4; have HQ4 := Aside0.mk (Kd.R_below HR3.out hb4); have HT4 := Aside0.mk hb4.size; have x42 : w4.cell? ⟨ga, 2, none⟩ = some (.slice Ar regs.length cr) := blk_cell HS4.out 2; have x46 : w4.cell? ⟨ga, 6, none⟩ = some (.slice Ao outs.length co) := blk_cell HS4.out 6; have f42 := blk_frozen HS4.out 2; have f46 := blk_frozen HS4.out 6; go_wp2_with fail))
  all_goals
    have hB5 := Below.setCell (Below.setCell HB4.out (p := ⟨ga, 2, none⟩) (Nat.le_of_eq hga) (.slice A3 regs.length c3)) (p := ⟨ga, 6, none⟩) (Nat.le_of_eq hga) (.slice A4 outs.length c4)
    have b5 := blk_put (blk_put HS4.out 2 (.slice A3 regs.length c3) rfl) 6 (.slice A4 outs.length c4) rfl
    have d5 := blk_far (blk_far HC4.out (p := ⟨ga, 2, none⟩) (by simp) (.slice A3 regs.length c3)) (p := ⟨ga, 6, none⟩) (by simp) (.slice A4 outs.length c4)
    have hsz := HSZ.out
    have r3 := Kd.R_far (Kd.R_far HQ4.out (p := ⟨ga, 2, none⟩) (fun k hk => by have hk' : w2.heap.size ≤ k := hk; show k ≠ ga; omega) (.slice A3 regs.length c3)) (p := ⟨ga, 6, none⟩) (fun k hk => by have hk' : w2.heap.size ≤ k := hk; show k ≠ ga; omega) (.slice A4 outs.length c4)
    have r4 := Kd.R_far (Kd.R_far HR4.out (p := ⟨ga, 2, none⟩) (fun k hk => by have hk' : w3.heap.size ≤ k := hk; have := HT3.out; show k ≠ ga; omega) (.slice A3 regs.length c3)) (p := ⟨ga, 6, none⟩) (fun k hk => by have hk' : w3.heap.size ≤ k := hk; have := HT3.out; show k ≠ ga; omega) (.slice A4 outs.length c4)
    clear x42 x46 f42 f46 x32 x36 f32 f36 x2 x6 f2 f6
    generalize ((w4.setCell ⟨ga, 2, none⟩ (.slice A3 regs.length c3)).setCell ⟨ga, 6, none⟩ (.slice A4 outs.length c4)) = w5 at *
    have B5 := Aside0.mk b5
    have D5 := Aside0.mk d5
    have HB5 := Aside0.mk hB5
    have HR5 := Aside0.mk r3
    have HQ5 := Aside0.mk r4
    have HU := Aside0.mk (one8 0 pc rd 0 0 0 h f A3 A4 regs.length outs.length c3 c4)
    clear b5 d5 hB5 r3 r4
    go_wp2_with (first | (refine ev_load rfl rfl rfl B5.out rfl Tryd.underlying49 rfl info_nod ?_) | (refine ev_store rfl rfl rfl D5.out rfl rfl rfl info_nod (Nat.le_refl 8) HU.out (cs' := #[.int .i64 0, .int .i64 pc, .slice A3 regs.length c3, .bool h, .bool f, .int .i64 rd, .slice A4 outs.length c4, .int .i64 0]) rfl ?_; intro w6 b6 hO hs6; have B6 := Aside0.mk b6; have HO := Aside0.mk hO; clear b6 hO))
    refine bodyPost_ret (v := .agg #[.int .i64 0, .int .i64 pc, .slice A3 regs.length c3, .bool h, .bool f, .int .i64 rd, .slice A4 outs.length c4, .int .i64 0]) (results_single rfl (.cell _ _ _ (0, 0) _ rfl B6.out Tryd.underlying49 rfl info_nod .nil)) rfl ⟨.slice A3 regs.length c3, .slice A4 outs.length c4, rfl, ?_, ?_, ?_⟩
    · refine Kd.R_mono (Kd.R_lower (Kd.R_step HR5.out (fun k hk hlt => HO.out.block k hlt (fun e => ?_))) (by omega)) (fun k hk => ?_)
      · have hk' : w2.heap.size ≤ k := hk
        have e' : k = ga + 1 := e
        omega
      · have hk' : w2.heap.size ≤ k := hk
        show w.heap.size ≤ k
        omega
    · refine Kd.R_mono (Kd.R_lower (Kd.R_step HQ5.out (fun k hk hlt => HO.out.block k hlt (fun e => ?_))) (by have h1 := HT3.out; omega)) (fun k hk => ?_)
      · have hk' : w3.heap.size ≤ k := hk
        have e' : k = ga + 1 := e
        have h1 := HT3.out
        omega
      · have hk' : w3.heap.size ≤ k := hk
        have h1 := HT3.out
        show w.heap.size ≤ k
        omega
    · exact HB5.out.trans ⟨HO.out.os, HO.out.tape, HO.out.output, HO.out.size, fun k hk => HO.out.block k (Nat.lt_of_lt_of_le hk HB5.out.size) (fun e => by have e' : k = ga + 1 := e; omega)⟩
end Go.Proofs.YtifphhkkpadpoaaDoor
