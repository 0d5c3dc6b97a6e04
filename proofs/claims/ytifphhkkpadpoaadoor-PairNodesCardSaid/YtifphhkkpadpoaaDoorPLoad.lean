/- The walk of (*pair.play).load. Printed by gen_load.py. -/
import Derived.Test.YtifphhkkpadpoaaDoorPStill2
namespace Go.Proofs.YtifphhkkpadpoaaDoor
open Go.RowKit Go.Proofs.YtifphhkkpadpoaaDoorW.PrintWords
set_option linter.unusedVariables false
set_option linter.unusedSimpArgs false
set_option maxRecDepth 100000 in
set_option maxHeartbeats 8000000 in
theorem load_calls (B hp : Nat) (cv : Ext) (s : Pai) (y : Lay) (j : Nat) (x : Nod) (k wh num : Int) (w : World) (hP : PlayAt w B hp cv s y) (hx : s.nodes[j]? = some x) (hB : B ≤ w.heap.size) (hsm : ∀ z, z ∈ s.saved → z.vm.regs.length ≤ 1000 ∧ z.outs.length ≤ 1000000) :
    Calls Tryd.prog 66 #[.pointer (some ⟨hp, 0, none⟩), .pointer (some ⟨y.bn, j * 8, none⟩), .agg #[.int .i64 k, .int .i64 wh, .int .i64 num]] w (ActPost w B hp cv (loadAct s j x ⟨k, wh, num⟩)) := by
  obtain ⟨AS, cS, hvS, hlS, hCS⟩ := Kd.R_reads hP.saved
  have HP := Aside0.mk hP
  have HB := Aside0.mk hB
  have HX := Aside0.mk hx
  have HC := Aside0.mk hCS
  have HM := Aside0.mk hsm
  have hlt := hP.lt
  have hmax := hCS.2.1
  clear hP hB hx hCS hsm
  by_cases h1 : x.epoch = 0
  · by_cases h2 : num < 0 ∨ (s.saved.length : Int) ≤ num
    · have hv : loadAct s j x ⟨k, wh, num⟩ = (s, 7) := by unfold loadAct; rw [if_neg (by simpa using h1), if_pos h2]
      rw [hv]
      clear hv
      have e0 : (x.epoch == 0) = true := by simpa using h1
      by_cases h3 : num < 0
      · go_enter Tryd.func66, Tryd.ntmps66
        have hb := HP.out.far (below_alloc (Below.refl w.heap.size w) (.cells #[.int .i64 k, .int .i64 wh, .int .i64 num] 41))
        have b1 := blk_new w (.cells #[.int .i64 k, .int .i64 wh, .int .i64 num] 41)
        have HB1 := Aside0.mk ((below_alloc (Below.refl w.heap.size w) (.cells #[.int .i64 k, .int .i64 wh, .int .i64 num] 41)).mono HB.out)
        have HS1 := Aside0.mk (Nat.le_trans HB.out (below_alloc (Below.refl w.heap.size w) (.cells #[.int .i64 k, .int .i64 wh, .int .i64 num] 41)).size)
        have hgh : w.heap.size ≠ hp := by omega
        obtain ⟨cs, hcs, h8, _, hN, hc, hf⟩ := hb.cells HX.out
        obtain ⟨Ar, cr, vo, rfl, hN1, hN2, hN3⟩ := hN.out
        have n0 : (w.alloc (.cells #[.int .i64 k, .int .i64 wh, .int .i64 num] 41)).cell? ⟨y.bn, j * 8, none⟩ = some (.int .i64 x.epoch) := hc 0 _ rfl
        have v2 : (w.alloc (.cells #[.int .i64 k, .int .i64 wh, .int .i64 num] 41)).cell? ⟨w.heap.size, 2, none⟩ = some (.int .i64 num) := blk_cell b1 2
        have p4 : (w.alloc (.cells #[.int .i64 k, .int .i64 wh, .int .i64 num] 41)).cell? ⟨hp, 4, none⟩ = some y.vS := blk_cell hb.blk 4
        have HP1 := Aside0.mk hb
        clear hb b1 hc hf hN hN1 hN2 hN3 hcs h8
        go_wp2
        go_quiet (fail)
        go_wp2
        go_ret
        exact ⟨rfl, ⟨y, HP1.out.far (by first | exact Below.refl _ _ | (apply pw_below_drewN; exact Below.refl _ _))⟩, (by first | exact HB1.out | (apply pw_below_drewN; exact HB1.out))⟩
      · have h4 : (s.saved.length : Int) ≤ num := by omega
        have d3 : decide (num < 0) = false := decide_eq_false h3
        have d4 : decide ((s.saved.length : Int) ≤ num) = true := decide_eq_true h4
        go_enter Tryd.func66, Tryd.ntmps66
        have hb := HP.out.far (below_alloc (Below.refl w.heap.size w) (.cells #[.int .i64 k, .int .i64 wh, .int .i64 num] 41))
        have b1 := blk_new w (.cells #[.int .i64 k, .int .i64 wh, .int .i64 num] 41)
        have HB1 := Aside0.mk ((below_alloc (Below.refl w.heap.size w) (.cells #[.int .i64 k, .int .i64 wh, .int .i64 num] 41)).mono HB.out)
        have HS1 := Aside0.mk (Nat.le_trans HB.out (below_alloc (Below.refl w.heap.size w) (.cells #[.int .i64 k, .int .i64 wh, .int .i64 num] 41)).size)
        have hgh : w.heap.size ≠ hp := by omega
        obtain ⟨cs, hcs, h8, _, hN, hc, hf⟩ := hb.cells HX.out
        obtain ⟨Ar, cr, vo, rfl, hN1, hN2, hN3⟩ := hN.out
        have n0 : (w.alloc (.cells #[.int .i64 k, .int .i64 wh, .int .i64 num] 41)).cell? ⟨y.bn, j * 8, none⟩ = some (.int .i64 x.epoch) := hc 0 _ rfl
        have v2 : (w.alloc (.cells #[.int .i64 k, .int .i64 wh, .int .i64 num] 41)).cell? ⟨w.heap.size, 2, none⟩ = some (.int .i64 num) := blk_cell b1 2
        have p4 : (w.alloc (.cells #[.int .i64 k, .int .i64 wh, .int .i64 num] 41)).cell? ⟨hp, 4, none⟩ = some y.vS := blk_cell hb.blk 4
        have HP1 := Aside0.mk hb
        clear hb b1 hc hf hN hN1 hN2 hN3 hcs h8
        rw [hvS] at p4
        go_wp2
        go_quiet (fail)
        go_wp2
        go_ret
        exact ⟨rfl, ⟨y, HP1.out.far (by first | exact Below.refl _ _ | (apply pw_below_drewN; exact Below.refl _ _))⟩, (by first | exact HB1.out | (apply pw_below_drewN; exact HB1.out))⟩
    · obtain ⟨nn, rfl⟩ := Int.eq_ofNat_of_zero_le (show 0 ≤ num by omega)
      have hnl : nn < s.saved.length := by omega
      obtain ⟨z, hz⟩ : ∃ z, s.saved[nn]? = some z := ⟨_, List.getElem?_eq_getElem hnl⟩
      have hv : loadAct s j x ⟨k, wh, (nn : Int)⟩ = (setNod s j (still z), 0) := by
        unfold loadAct
        rw [if_neg (by simpa using h1), if_neg h2]
        simp only [Int.toNat_natCast, List.getD_eq_getElem?_getD, hz, Option.getD_some]
      rw [hv]
      clear hv h2
      have e0 : (x.epoch == 0) = true := by simpa using h1
      have i0 : (0 : Int) ≤ (nn : Int) := by omega
      have i1 : (nn : Int) < (s.saved.length : Int) := by omega
      have d3 : decide ((nn : Int) < 0) = false := decide_eq_false (by omega)
      have d4 : decide ((s.saved.length : Int) ≤ (nn : Int)) = false := decide_eq_false (by omega)
      have hzm := HM.out z (List.mem_of_getElem? hz)
      go_enter Tryd.func66, Tryd.ntmps66
      have hb := HP.out.far (below_alloc (Below.refl w.heap.size w) (.cells #[.int .i64 k, .int .i64 wh, .int .i64 (nn : Int)] 41))
      have b1 := blk_new w (.cells #[.int .i64 k, .int .i64 wh, .int .i64 (nn : Int)] 41)
      have HB1 := Aside0.mk ((below_alloc (Below.refl w.heap.size w) (.cells #[.int .i64 k, .int .i64 wh, .int .i64 (nn : Int)] 41)).mono HB.out)
      have HS1 := Aside0.mk (Nat.le_trans HB.out (below_alloc (Below.refl w.heap.size w) (.cells #[.int .i64 k, .int .i64 wh, .int .i64 (nn : Int)] 41)).size)
      have hgh : w.heap.size ≠ hp := by omega
      obtain ⟨cs, hcs, h8, _, hN, hc, hf⟩ := hb.cells HX.out
      obtain ⟨Ar, cr, vo, rfl, hN1, hN2, hN3⟩ := hN.out
      have n0 : (w.alloc (.cells #[.int .i64 k, .int .i64 wh, .int .i64 (nn : Int)] 41)).cell? ⟨y.bn, j * 8, none⟩ = some (.int .i64 x.epoch) := hc 0 _ rfl
      have v2 : (w.alloc (.cells #[.int .i64 k, .int .i64 wh, .int .i64 (nn : Int)] 41)).cell? ⟨w.heap.size, 2, none⟩ = some (.int .i64 (nn : Int)) := blk_cell b1 2
      have p4 : (w.alloc (.cells #[.int .i64 k, .int .i64 wh, .int .i64 (nn : Int)] 41)).cell? ⟨hp, 4, none⟩ = some y.vS := blk_cell hb.blk 4
      have HP1 := Aside0.mk hb
      clear hb b1 hc hf hN hN1 hN2 hN3 hcs h8
      rw [hvS] at p4
      have hC1 := Kd.C_below HC.out (below_alloc (Below.refl w.heap.size w) (.cells #[.int .i64 k, .int .i64 wh, .int .i64 (nn : Int)] 41))
      obtain ⟨ad, z', A2, c2, A6, c6, hAS, hz', z0, z1, z2, z3, z4, z5, z6, z7, l2, g2, l6, g6⟩ := kNod_get hC1 nn hnl
      rw [hz] at hz'
      injection hz' with hz'
      subst hz'
      subst hAS
      have HCALL : Aside0 (∀ W : World, Below (w.alloc (.cells #[.int .i64 k, .int .i64 wh, .int .i64 (nn : Int)] 41)).heap.size (w.alloc (.cells #[.int .i64 k, .int .i64 wh, .int .i64 (nn : Int)] 41)) W → Calls Tryd.prog 67 #[.agg #[.int .i64 z.epoch, .int .i64 z.vm.pc, .slice A2 z.vm.regs.length c2, .bool z.vm.halts, .bool z.vm.fault, .int .i64 z.read, .slice A6 z.outs.length c6, .int .i64 z.sent]] W (StillPost W (still z))) := ⟨fun W hW => still_calls z.epoch z.vm.pc z.read z.sent z.vm.halts z.vm.fault z.vm.regs z.outs A2 A6 c2 c6 W (Kd.C_below g2 hW) (Kd.C_below g6 hW) hzm.1 hzm.2⟩
      clear g2 g6 l2 l6 hC1
      go_wp2_with fail
      generalize w.alloc (.cells #[.int .i64 k, .int .i64 wh, .int .i64 (nn : Int)] 41) = w1 at *
      generalize w.heap.size = ga at *
      go_quiet (fail)
      have hp2 := HP1.out.far (w' := w1.drewN nq) (by apply pw_below_drewN; exact Below.refl _ _)
      have hb2 : Below w1.heap.size w1 (w1.drewN nq) := by apply pw_below_drewN; exact Below.refl _ _
      have z0' : (w1.drewN nq).cell? (ad.add (nn * 8)) = some (.int .i64 z.epoch) := z0
      have z1' : (w1.drewN nq).cell? ⟨(ad.add (nn * 8)).block, (ad.add (nn * 8)).off + 1, none⟩ = some (.int .i64 z.vm.pc) := z1
      have z2' : (w1.drewN nq).cell? ⟨(ad.add (nn * 8)).block, (ad.add (nn * 8)).off + 2, none⟩ = some (.slice A2 z.vm.regs.length c2) := z2
      have z3' : (w1.drewN nq).cell? ⟨(ad.add (nn * 8)).block, (ad.add (nn * 8)).off + 3, none⟩ = some (.bool z.vm.halts) := z3
      have z4' : (w1.drewN nq).cell? ⟨(ad.add (nn * 8)).block, (ad.add (nn * 8)).off + 4, none⟩ = some (.bool z.vm.fault) := z4
      have z5' : (w1.drewN nq).cell? ⟨(ad.add (nn * 8)).block, (ad.add (nn * 8)).off + 5, none⟩ = some (.int .i64 z.read) := z5
      have z6' : (w1.drewN nq).cell? ⟨(ad.add (nn * 8)).block, (ad.add (nn * 8)).off + 6, none⟩ = some (.slice A6 z.outs.length c6) := z6
      have z7' : (w1.drewN nq).cell? ⟨(ad.add (nn * 8)).block, (ad.add (nn * 8)).off + 7, none⟩ = some (.int .i64 z.sent) := z7
      have v2' : (w1.drewN nq).cell? ⟨ga, 2, none⟩ = some (.int .i64 (nn : Int)) := v2
      have p4' : (w1.drewN nq).cell? ⟨hp, 4, none⟩ = some (.slice (some ad) s.saved.length cS) := p4
      clear z0 z1 z2 z3 z4 z5 z6 z7 v2 p4 n0
      go_wp2_with fail
      generalize w1.drewN nq = w2 at *
      have HB2 := Aside0.mk hb2
      have HP2 := Aside0.mk (hp2.far (below_drew (Below.refl _ _)))
      clear hp2 hb2
      go_region_law
        ((go_simp; go_at_call 67; refine (HCALL.out _ (below_drew HB2.out)).mono ?_; rintro e3 w3 ⟨v3, vo3, rfl, hR, hO, hb⟩; obtain ⟨A3, c3, rfl⟩ := Kd.R_slice hR; obtain ⟨A4, c4, rfl⟩ := Kd.R_slice hO; have HP3 := Aside0.mk (HP2.out.far hb); have HP3' := Aside0.mk (HP2.out.grow hb (5 + j)); have HR3 := Aside0.mk hR; have HO3 := Aside0.mk hO; have HB3 := Aside0.mk hb; obtain ⟨cs3, hcs3, h83, _, hN, hc, hf⟩ := HP3.out.cells HX.out; obtain ⟨Ar, cr, vo, rfl, hN1, hN2, hN3⟩ := hN.out; clear hR hO hb; have n30 : w3.cell? ⟨y.bn, j * 8, none⟩ = some (.int .i64 x.epoch) := hc 0 _ rfl; have f30 : w3.frozen? ⟨y.bn, j * 8, none⟩ = false := hf 0; have n31 : w3.cell? ⟨y.bn, j * 8 + 1, none⟩ = some (.int .i64 x.vm.pc) := hc 1 _ rfl; have f31 : w3.frozen? ⟨y.bn, j * 8 + 1, none⟩ = false := hf 1; have n32 : w3.cell? ⟨y.bn, j * 8 + 2, none⟩ = some (.slice Ar x.vm.regs.length cr) := hc 2 _ rfl; have f32 : w3.frozen? ⟨y.bn, j * 8 + 2, none⟩ = false := hf 2; have n33 : w3.cell? ⟨y.bn, j * 8 + 3, none⟩ = some (.bool x.vm.halts) := hc 3 _ rfl; have f33 : w3.frozen? ⟨y.bn, j * 8 + 3, none⟩ = false := hf 3; have n34 : w3.cell? ⟨y.bn, j * 8 + 4, none⟩ = some (.bool x.vm.fault) := hc 4 _ rfl; have f34 : w3.frozen? ⟨y.bn, j * 8 + 4, none⟩ = false := hf 4; have n35 : w3.cell? ⟨y.bn, j * 8 + 5, none⟩ = some (.int .i64 x.read) := hc 5 _ rfl; have f35 : w3.frozen? ⟨y.bn, j * 8 + 5, none⟩ = false := hf 5; have n36 : w3.cell? ⟨y.bn, j * 8 + 6, none⟩ = some (vo) := hc 6 _ rfl; have f36 : w3.frozen? ⟨y.bn, j * 8 + 6, none⟩ = false := hf 6; have n37 : w3.cell? ⟨y.bn, j * 8 + 7, none⟩ = some (.int .i64 x.sent) := hc 7 _ rfl; have f37 : w3.frozen? ⟨y.bn, j * 8 + 7, none⟩ = false := hf 7;  clear hc hf hN hN1 hN2 hN3 hcs3 h83; go_wp2_with fail))
      all_goals
        go_wp2
        go_ret
        have hBle : B ≤ w2.drew.heap.size := Nat.le_trans HS1.out HB2.out.size
        have hBB : Below B w w3 := (HB1.out.trans (HB2.out.mono HS1.out)).trans ((below_drew (Below.refl B w2)).trans (HB3.out.mono hBle))
        exact ⟨rfl, ⟨_, HP3'.out.put8 HX.out (still z) (R_cap HR3.out) (Keeps.row (R_fresh HR3.out hBle)) (R_fresh HO3.out hBle)⟩, (Below.setCell (Below.setCell (Below.setCell (Below.setCell (Below.setCell (Below.setCell (Below.setCell (Below.setCell hBB (p := ⟨y.bn, j * 8 + 0, none⟩) HP.out.bn_low (.int .i64 (still z).epoch)) (p := ⟨y.bn, j * 8 + 1, none⟩) HP.out.bn_low (.int .i64 (still z).vm.pc)) (p := ⟨y.bn, j * 8 + 2, none⟩) HP.out.bn_low (.slice A3 (still z).vm.regs.length c3)) (p := ⟨y.bn, j * 8 + 3, none⟩) HP.out.bn_low (.bool (still z).vm.halts)) (p := ⟨y.bn, j * 8 + 4, none⟩) HP.out.bn_low (.bool (still z).vm.fault)) (p := ⟨y.bn, j * 8 + 5, none⟩) HP.out.bn_low (.int .i64 (still z).read)) (p := ⟨y.bn, j * 8 + 6, none⟩) HP.out.bn_low (.slice A4 (still z).outs.length c4)) (p := ⟨y.bn, j * 8 + 7, none⟩) HP.out.bn_low (.int .i64 (still z).sent))⟩
  · have hv : loadAct s j x ⟨k, wh, num⟩ = (s, 9) := by unfold loadAct; rw [if_pos h1]
    rw [hv]
    have e0 : (x.epoch == 0) = false := by simpa using h1
    clear hv h1
    go_enter Tryd.func66, Tryd.ntmps66
    have hb := HP.out.far (below_alloc (Below.refl w.heap.size w) (.cells #[.int .i64 k, .int .i64 wh, .int .i64 num] 41))
    have b1 := blk_new w (.cells #[.int .i64 k, .int .i64 wh, .int .i64 num] 41)
    have HB1 := Aside0.mk ((below_alloc (Below.refl w.heap.size w) (.cells #[.int .i64 k, .int .i64 wh, .int .i64 num] 41)).mono HB.out)
    have HS1 := Aside0.mk (Nat.le_trans HB.out (below_alloc (Below.refl w.heap.size w) (.cells #[.int .i64 k, .int .i64 wh, .int .i64 num] 41)).size)
    have hgh : w.heap.size ≠ hp := by omega
    obtain ⟨cs, hcs, h8, _, hN, hc, hf⟩ := hb.cells HX.out
    obtain ⟨Ar, cr, vo, rfl, hN1, hN2, hN3⟩ := hN.out
    have n0 : (w.alloc (.cells #[.int .i64 k, .int .i64 wh, .int .i64 num] 41)).cell? ⟨y.bn, j * 8, none⟩ = some (.int .i64 x.epoch) := hc 0 _ rfl
    have v2 : (w.alloc (.cells #[.int .i64 k, .int .i64 wh, .int .i64 num] 41)).cell? ⟨w.heap.size, 2, none⟩ = some (.int .i64 num) := blk_cell b1 2
    have p4 : (w.alloc (.cells #[.int .i64 k, .int .i64 wh, .int .i64 num] 41)).cell? ⟨hp, 4, none⟩ = some y.vS := blk_cell hb.blk 4
    have HP1 := Aside0.mk hb
    clear hb b1 hc hf hN hN1 hN2 hN3 hcs h8
    go_wp2
    go_ret
    exact ⟨rfl, ⟨y, HP1.out⟩, HB1.out⟩
end Go.Proofs.YtifphhkkpadpoaaDoor
