/- The walk of (*pair.play).send where something is handed. Printed by gen_send2.py. -/
import Derived.Test.YtifphhkkpadpoaaDoorPSend
import Derived.Test.YtifphhkkpadpoaaDoorPClaim
import Derived.Test.YtifphhkkpadpoaaDoorLay
namespace Go.Proofs.YtifphhkkpadpoaaDoor
open Go.RowKit Go.Proofs.YtifphhkkpadpoaaDoorW.PrintWords
set_option linter.unusedVariables false
set_option linter.unusedSimpArgs false
theorem held_now {w1 W : World} {R : Prop} (h : Below w1.heap.size w1 W ∧ R) : Below w1.heap.size w1 W := h.1
set_option maxRecDepth 100000 in
set_option maxHeartbeats 8000000 in
theorem send_hands (B hp : Nat) (cv : Ext) (s : Pai) (y : Lay) (j : Nat) (x : Nod) (sn : Nat) (b n : Int) (k wh num : Int) (w : World) (hP : PlayAt w B hp cv s y) (hx : s.nodes[j]? = some x) (hB : B ≤ w.heap.size) (hn : x.epoch ≠ 0) (hs : x.sent = (sn : Int)) (hE : x.outs[sn]? = some ⟨b, n⟩)
    (h0 : -9223372036854775808 ≤ b) (h1 : b ≤ 9223372036854775807) (h2 : -9223372036854775808 ≤ n) (h3 : n ≤ 9223372036854775807) (hT : Tab w) (hg : gateCheck s.gate = 0) :
    Calls Tryd.prog 65 #[.pointer (some ⟨hp, 0, none⟩), .pointer (some ⟨y.bn, j * 8, none⟩), .agg #[.int .i64 k, .int .i64 wh, .int .i64 num]] w (ActPost w B hp cv (sendAct s j x ⟨k, wh, num⟩)) := by
  have HP := Aside0.mk hP
  have HB := Aside0.mk hB
  have HX := Aside0.mk hx
  have HE := Aside0.mk hE
  have hlt := hP.lt
  have hsn : sn < x.outs.length := (List.getElem?_eq_some_iff.1 hE).1
  obtain ⟨g2, ok2, er, HH⟩ : ∃ g2 ok2 er, Aside0 (gateHand s.gate ⟨wh, x.epoch, (sn : Int), textOf ⟨b, n⟩⟩ = (g2, ok2, er)) := ⟨_, _, _, ⟨rfl⟩⟩
  have HV : Aside0 (sendAct s j x ⟨k, wh, num⟩ = if er ≠ 0 then (if er = 9 then setNod s j { x with epoch := 0 } else s, er) else (setNod { s with gate := g2 } j { x with sent := x.sent + 1 }, 0)) := by
    have hd : handed x ⟨k, wh, num⟩ = ⟨wh, x.epoch, (sn : Int), textOf ⟨b, n⟩⟩ := by
      unfold handed
      rw [hs, Int.toNat_natCast, List.getD_eq_getElem?_getD, hE]
      rfl
    constructor
    unfold sendAct
    rw [if_neg hn, if_neg (by omega), hd, HH.out]
  generalize sendAct s j x ⟨k, wh, num⟩ = rv at *
  have e0 : (x.epoch == 0) = false := by simpa using hn
  have e1 : ((sn : Int) == (x.outs.length : Int)) = false := by rw [beq_eq_false_iff_ne]; omega
  have i0 : (0 : Int) ≤ (sn : Int) := by omega
  have i1 : (sn : Int) < (x.outs.length : Int) := by omega
  go_enter Tryd.func65, Tryd.ntmps65
  have hb := HP.out.far (below_alloc (Below.refl w.heap.size w) (.cells #[.int .i64 k, .int .i64 wh, .int .i64 num] 41))
  have b1 := blk_new w (.cells #[.int .i64 k, .int .i64 wh, .int .i64 num] 41)
  have HB1 := Aside0.mk ((below_alloc (Below.refl w.heap.size w) (.cells #[.int .i64 k, .int .i64 wh, .int .i64 num] 41)).mono HB.out)
  have HS1 := Aside0.mk (Nat.le_trans HB.out (below_alloc (Below.refl w.heap.size w) (.cells #[.int .i64 k, .int .i64 wh, .int .i64 num] 41)).size)
  obtain ⟨cs, hcs, h8, _, hN, hc, hf⟩ := hb.cells HX.out
  obtain ⟨Ar, cr, vo, rfl, hN1, hN2, hN3⟩ := hN.out
  obtain ⟨Ao, co, hvo, hlo, hCo⟩ := Kd.R_reads hN3
  subst hvo
  obtain ⟨ad, em', hAo, hem, z0, z1⟩ := kEmit_get hCo sn hsn
  rw [HE.out] at hem
  injection hem with hem
  subst hem
  subst hAo
  have n0 : (w.alloc (.cells #[.int .i64 k, .int .i64 wh, .int .i64 num] 41)).cell? ⟨y.bn, j * 8, none⟩ = some (.int .i64 x.epoch) := hc 0 _ rfl
  have n6 : (w.alloc (.cells #[.int .i64 k, .int .i64 wh, .int .i64 num] 41)).cell? ⟨y.bn, j * 8 + 6, none⟩ = some (.slice (some ad) x.outs.length co) := hc 6 _ rfl
  have n7 : (w.alloc (.cells #[.int .i64 k, .int .i64 wh, .int .i64 num] 41)).cell? ⟨y.bn, j * 8 + 7, none⟩ = some (.int .i64 (sn : Int)) := hs ▸ hc 7 _ rfl
  have v1 : (w.alloc (.cells #[.int .i64 k, .int .i64 wh, .int .i64 num] 41)).cell? ⟨w.heap.size, 1, none⟩ = some (.int .i64 wh) := blk_cell b1 1
  have p5 : (w.alloc (.cells #[.int .i64 k, .int .i64 wh, .int .i64 num] 41)).cell? ⟨hp, 5, none⟩ = some (.int .i64 s.gate.fence.epoch) := blk_cell hb.blk 5
  have p6 : (w.alloc (.cells #[.int .i64 k, .int .i64 wh, .int .i64 num] 41)).cell? ⟨hp, 6, none⟩ = some (.int .i64 s.gate.fence.owner) := blk_cell hb.blk 6
  have p7 : (w.alloc (.cells #[.int .i64 k, .int .i64 wh, .int .i64 num] 41)).cell? ⟨hp, 7, none⟩ = some (.slice y.AG s.gate.out.length y.cG) := blk_cell hb.blk 7
  have HP1 := Aside0.mk hb
  have hlen : x.outs.length ≤ 9223372036854775807 := hCo.2.1
  clear hb b1 hc hf hN hN1 hN2 hN3 hcs h8 hCo hlo
  have HT1 : Tab (w.alloc (.cells #[.int .i64 k, .int .i64 wh, .int .i64 num] 41)) := hT.below (below_alloc (Below.refl w.heap.size w) (.cells #[.int .i64 k, .int .i64 wh, .int .i64 num] 41))
  go_wp2_with fail
  generalize (w.alloc (.cells #[.int .i64 k, .int .i64 wh, .int .i64 num] 41)) = w1 at *
  generalize w.heap.size = ga at *
  go_quiet (fail)
  have hp2 := HP1.out.far (w' := w1.drewN nq) (by apply pw_below_drewN; exact Below.refl _ _)
  have hb2 : Below w1.heap.size w1 (w1.drewN nq) := by apply pw_below_drewN; exact Below.refl _ _
  have ht2 : Tab (w1.drewN nq) := HT1.below hb2
  replace p5 : (w1.drewN nq).cell? ⟨hp, 5, none⟩ = some (.int .i64 s.gate.fence.epoch) := p5
  replace p6 : (w1.drewN nq).cell? ⟨hp, 6, none⟩ = some (.int .i64 s.gate.fence.owner) := p6
  replace p7 : (w1.drewN nq).cell? ⟨hp, 7, none⟩ = some (.slice y.AG s.gate.out.length y.cG) := p7
  replace v1 : (w1.drewN nq).cell? ⟨ga, 1, none⟩ = some (.int .i64 wh) := v1
  replace n0 : (w1.drewN nq).cell? ⟨y.bn, j * 8, none⟩ = some (.int .i64 x.epoch) := n0
  replace n6 : (w1.drewN nq).cell? ⟨y.bn, j * 8 + 6, none⟩ = some (.slice (some ad) x.outs.length co) := n6
  replace n7 : (w1.drewN nq).cell? ⟨y.bn, j * 8 + 7, none⟩ = some (.int .i64 (sn : Int)) := n7
  replace z0 : (w1.drewN nq).cell? (ad.add (sn * 2)) = some (.int .i64 b) := z0
  replace z1 : (w1.drewN nq).cell? ⟨(ad.add (sn * 2)).block, (ad.add (sn * 2)).off + 1, none⟩ = some (.int .i64 n) := z1
  go_wp2_with fail
  generalize w1.drewN nq = w2 at *
  have HB2 := Aside0.mk hb2
  have HP2 := Aside0.mk hp2
  have HB0 := Aside0.mk (Below.refl w2.heap.size w2)
  have hts : (textOf ⟨b, n⟩).size ≤ 9223372036854775807 := by
    have h4 := Lib.itoa_length_le b h0 h1
    have h5 := Lib.itoa_length_le n h2 h3
    show (Lib.itoa b ++ 32 :: Lib.itoa n).toArray.size ≤ _
    simp
    omega
  have hsz : ∀ t, t ∈ s.gate.out → t.size ≤ 9223372036854775807 := fun t ht => by
    have h3 := (gateCheck_ok hg).2.2
    rw [List.any_eq_false] at h3
    have h4 := h3 t ht
    unfold isLong at h4
    have h5 : ¬ 1000 < t.size := fun hx => h4 (decide_eq_true hx)
    omega
  have HTX : Aside0 (∀ W, Below w2.heap.size w2 W → Calls Tryd.prog 36 #[.agg #[.int .i64 b, .int .i64 n]] W fun e w' => e = .returned (.string (textOf ⟨b, n⟩)) ∧ Below W.heap.size W w') := ⟨fun W hW => text_calls b n h0 h1 h2 h3 W (ht2.below hW)⟩
  have HGH : Aside0 (∀ W, Below w2.heap.size w2 W → Calls Tryd.prog 89 #[.agg #[.int .i64 s.gate.fence.epoch, .int .i64 s.gate.fence.owner, .slice y.AG s.gate.out.length y.cG], .agg #[.int .i64 wh, .int .i64 x.epoch, .int .i64 (sn : Int), .string (textOf ⟨b, n⟩)]] W (GatePost W (g2, ok2, er))) := ⟨fun W hW => by have h := gateHand_calls s.gate.fence.epoch s.gate.fence.owner wh x.epoch (sn : Int) (textOf ⟨b, n⟩) s.gate.out y.AG y.cG W (Kd.C_below HP2.out.gate.now hW) hsz hg hts; rw [HH.out] at h; exact h⟩
  clear hp2 hb2 ht2 hts hsz HT1 hT h0 h1 h2 h3 hP hx hE
  have Lp5 : ∀ W : World, Below w2.heap.size w2 W → W.cell? ⟨hp, 5, none⟩ = some (.int .i64 s.gate.fence.epoch) := below_lay p5
  have Lp6 : ∀ W : World, Below w2.heap.size w2 W → W.cell? ⟨hp, 6, none⟩ = some (.int .i64 s.gate.fence.owner) := below_lay p6
  have Lp7 : ∀ W : World, Below w2.heap.size w2 W → W.cell? ⟨hp, 7, none⟩ = some (.slice y.AG s.gate.out.length y.cG) := below_lay p7
  have Lv1 : ∀ W : World, Below w2.heap.size w2 W → W.cell? ⟨ga, 1, none⟩ = some (.int .i64 wh) := below_lay v1
  have Ln0 : ∀ W : World, Below w2.heap.size w2 W → W.cell? ⟨y.bn, j * 8, none⟩ = some (.int .i64 x.epoch) := below_lay n0
  have Ln6 : ∀ W : World, Below w2.heap.size w2 W → W.cell? ⟨y.bn, j * 8 + 6, none⟩ = some (.slice (some ad) x.outs.length co) := below_lay n6
  have Ln7 : ∀ W : World, Below w2.heap.size w2 W → W.cell? ⟨y.bn, j * 8 + 7, none⟩ = some (.int .i64 (sn : Int)) := below_lay n7
  have Lz0 : ∀ W : World, Below w2.heap.size w2 W → W.cell? (ad.add (sn * 2)) = some (.int .i64 b) := below_lay z0
  have Lz1 : ∀ W : World, Below w2.heap.size w2 W → W.cell? ⟨(ad.add (sn * 2)).block, (ad.add (sn * 2)).off + 1, none⟩ = some (.int .i64 n) := below_lay z1
  go_region_held3 (fun w' => Below w2.heap.size w2 w') (first | assumption | exact below_drew HB0.out | exact below_alloc (by assumption) _ | exact below_three (by assumption) (Nat.le_refl _) | exact below_three (by assumption) (Below.size HB3) | exact below_three (by assumption) (Below.size HB4))
    (first
      | (go_at_call 36; refine (HTX.out _ (by assumption)).mono ?_; rintro e3 w3 ⟨rfl, hb⟩; have hD := blk_below (w := (w2.alloc (.cells #[.int .i64 0, .int .i64 0, .slice none 0 0] 30)).drew) (blk_new w2 _) hb; have t0 := blk_cell hD 0; have t1 := blk_cell hD 1; have t2 := blk_cell hD 2; have tf0 := blk_frozen hD 0; have tf1 := blk_frozen hD 1; have tf2 := blk_frozen hD 2; have tl := blk_lt hD; have HB3 : Below w2.heap.size w2 w3 := below_step (by assumption) hb; clear hb; )
      | (go_at_call 36; refine (HTX.out _ (by assumption)).mono ?_; rintro e3 w3 ⟨rfl, hb⟩; have HB3 : Below w2.heap.size w2 w3 := below_step (by assumption) hb; clear hb; )
      | (go_at_call 89; refine (HGH.out _ (by assumption)).mono ?_; rintro e4 w4 ⟨A4, c4, rfl, hl4, hK4, hb⟩; have hD4 := blk_below hD hb; have u0 := blk_cell hD4 0; have u1 := blk_cell hD4 1; have u2 := blk_cell hD4 2; have uf0 := blk_frozen hD4 0; have uf1 := blk_frozen hD4 1; have uf2 := blk_frozen hD4 2; have ul := blk_lt hD4; have HB4 : Below w2.heap.size w2 w4 := below_step (by assumption) hb; have HS4 := hb.size; clear hb; )
      | (go_at_call 89; refine (HGH.out _ (by assumption)).mono ?_; rintro e4 w4 ⟨A4, c4, rfl, hl4, hK4, hb⟩; have hE4 := blk_below (w := w3.alloc (.cells #[.int .i64 0, .int .i64 0, .slice none 0 0] 30)) (blk_new w3 _) hb; have u0 := blk_cell hE4 0; have u1 := blk_cell hE4 1; have u2 := blk_cell hE4 2; have uf0 := blk_frozen hE4 0; have uf1 := blk_frozen hE4 1; have uf2 := blk_frozen hE4 2; have ul := blk_lt hE4; have HB4 : Below w2.heap.size w2 w4 := below_step (by assumption) hb; have HS4 := hb.size; clear hb; )
      | (go_at_call 89; refine (HGH.out _ (by assumption)).mono ?_; rintro e4 w4 ⟨A4, c4, rfl, hl4, hK4, hb⟩; have HB4 : Below w2.heap.size w2 w4 := below_step (by assumption) hb; have HS4 := hb.size; clear hb; ))
  all_goals
    have hpl := HP2.out.lt
    have hbl : y.bn < w2.heap.size := Kd.R_lt HP2.out.nod y.bn (by simp [Value.ownBlock])
    first
      | (have hbk := blk_put (blk_put (blk_put hD4 0 (.int .i64 g2.fence.epoch) rfl) 1 (.int .i64 g2.fence.owner) rfl) 2 (.slice A4 g2.out.length c4) rfl; have HB5 : Below w2.heap.size w2 (((w4.setCell ⟨w2.heap.size, 0, none⟩ (.int .i64 g2.fence.epoch)).setCell ⟨w2.heap.size, 1, none⟩ (.int .i64 g2.fence.owner)).setCell ⟨w2.heap.size, 2, none⟩ (.slice A4 g2.out.length c4)) := below_three HB4 (by first | exact Nat.le_refl _ | exact HB3.size); have HK5 : Keeps (fun W => Kd.string.C W A4 g2.out.length g2.out) (((w4.setCell ⟨w2.heap.size, 0, none⟩ (.int .i64 g2.fence.epoch)).setCell ⟨w2.heap.size, 1, none⟩ (.int .i64 g2.fence.owner)).setCell ⟨w2.heap.size, 2, none⟩ (.slice A4 g2.out.length c4)) (fun k => w2.heap.size ≤ k) := Keeps.mono (Keeps.step hK4 ((((Only.refl (fun k => k = w2.heap.size) w4).setCell (p := ⟨w2.heap.size, 0, none⟩) (.inl rfl) (.int .i64 g2.fence.epoch)).setCell (p := ⟨w2.heap.size, 1, none⟩) (.inl rfl) (.int .i64 g2.fence.owner)).setCell (p := ⟨w2.heap.size, 2, none⟩) (.inl rfl) (.slice A4 g2.out.length c4)) (fun k hk _ hx => by have hk' : w3.heap.size ≤ k := hk; have hx' : k = w2.heap.size := hx; omega)) (fun k hk => by have hk' : w3.heap.size ≤ k := hk; have := HB3.size; show w2.heap.size ≤ k; omega); have hgp : hp < w2.heap.size := (by have := HB3.size; omega); have hgn : y.bn < w2.heap.size := (by have := HB3.size; omega); clear hK4; generalize ((w4.setCell ⟨w2.heap.size, 0, none⟩ (.int .i64 g2.fence.epoch)).setCell ⟨w2.heap.size, 1, none⟩ (.int .i64 g2.fence.owner)).setCell ⟨w2.heap.size, 2, none⟩ (.slice A4 g2.out.length c4) = w5 at *; generalize w2.heap.size = gb at hbk hgp hgn ⊢)
      | (have hbk := blk_put (blk_put (blk_put hE4 0 (.int .i64 g2.fence.epoch) rfl) 1 (.int .i64 g2.fence.owner) rfl) 2 (.slice A4 g2.out.length c4) rfl; have HB5 : Below w2.heap.size w2 (((w4.setCell ⟨w3.heap.size, 0, none⟩ (.int .i64 g2.fence.epoch)).setCell ⟨w3.heap.size, 1, none⟩ (.int .i64 g2.fence.owner)).setCell ⟨w3.heap.size, 2, none⟩ (.slice A4 g2.out.length c4)) := below_three HB4 (by first | exact Nat.le_refl _ | exact HB3.size); have HK5 : Keeps (fun W => Kd.string.C W A4 g2.out.length g2.out) (((w4.setCell ⟨w3.heap.size, 0, none⟩ (.int .i64 g2.fence.epoch)).setCell ⟨w3.heap.size, 1, none⟩ (.int .i64 g2.fence.owner)).setCell ⟨w3.heap.size, 2, none⟩ (.slice A4 g2.out.length c4)) (fun k => w2.heap.size ≤ k) := Keeps.mono (Keeps.step hK4 ((((Only.refl (fun k => k = w3.heap.size) w4).setCell (p := ⟨w3.heap.size, 0, none⟩) (.inl rfl) (.int .i64 g2.fence.epoch)).setCell (p := ⟨w3.heap.size, 1, none⟩) (.inl rfl) (.int .i64 g2.fence.owner)).setCell (p := ⟨w3.heap.size, 2, none⟩) (.inl rfl) (.slice A4 g2.out.length c4)) (fun k hk _ hx => by have hk' : (w3.alloc (.cells #[.int .i64 0, .int .i64 0, .slice none 0 0] 30)).heap.size ≤ k := hk; have hx' : k = w3.heap.size := hx; simp at hk'; omega)) (fun k hk => by have hk' : (w3.alloc (.cells #[.int .i64 0, .int .i64 0, .slice none 0 0] 30)).heap.size ≤ k := hk; have := HB3.size; simp at hk'; show w2.heap.size ≤ k; omega); have hgp : hp < w3.heap.size := (by have := HB3.size; omega); have hgn : y.bn < w3.heap.size := (by have := HB3.size; omega); clear hK4; generalize ((w4.setCell ⟨w3.heap.size, 0, none⟩ (.int .i64 g2.fence.epoch)).setCell ⟨w3.heap.size, 1, none⟩ (.int .i64 g2.fence.owner)).setCell ⟨w3.heap.size, 2, none⟩ (.slice A4 g2.out.length c4) = w5 at *; generalize w3.heap.size = gb at hbk hgp hgn ⊢)
      | (have hbk := blk_new w4 (.cells #[.int .i64 g2.fence.epoch, .int .i64 g2.fence.owner, .slice A4 g2.out.length c4] 30); have HB5 : Below w2.heap.size w2 (w4.alloc (.cells #[.int .i64 g2.fence.epoch, .int .i64 g2.fence.owner, .slice A4 g2.out.length c4] 30)) := below_alloc HB4 _; have HK5 : Keeps (fun W => Kd.string.C W A4 g2.out.length g2.out) (w4.alloc (.cells #[.int .i64 g2.fence.epoch, .int .i64 g2.fence.owner, .slice A4 g2.out.length c4] 30)) (fun k => w2.heap.size ≤ k) := Keeps.mono (Keeps.step hK4 ((Only.refl (fun _ => False) w4).alloc _) (fun k hk _ hx => hx)) (fun k hk => by have hk' : w3.heap.size ≤ k := hk; have := HB3.size; show w2.heap.size ≤ k; omega); have hgp : hp < w4.heap.size := (by have := HB4.size; omega); have hgn : y.bn < w4.heap.size := (by have := HB4.size; omega); clear hK4; generalize (w4.alloc (.cells #[.int .i64 g2.fence.epoch, .int .i64 g2.fence.owner, .slice A4 g2.out.length c4] 30)) = w5 at *; generalize w4.heap.size = gb at hbk hgp hgn ⊢)
    have HG5 := Aside0.mk (HP2.out.setGate HB5 g2 hl4 HK5)
    have HP5 := Aside0.mk (HP2.out.far HB5)
    have HB6 := Aside0.mk ((HB1.out.trans (HB2.out.mono HS1.out)).trans (HB5.mono (Nat.le_trans HS1.out HB2.out.size)))
    have q0 : w5.cell? ⟨gb, 0, none⟩ = some (.int .i64 g2.fence.epoch) := blk_cell hbk 0
    have q1 : w5.cell? ⟨gb, 1, none⟩ = some (.int .i64 g2.fence.owner) := blk_cell hbk 1
    have q2 : w5.cell? ⟨gb, 2, none⟩ = some (.slice A4 g2.out.length c4) := blk_cell hbk 2
    have hgbl := blk_lt hbk
    clear HK5 HB5 hbk HB2 HB1 HTX HGH HB0 HP2 HP1 HS1 HB4 HB3 hl4 hpl hbl
    clear Lp5 Lp6 Lp7 Lv1 Ln0 Ln6 Ln7 Lz0 Lz1 p5 p6 p7 v1 n0 n6 n7 z0 z1
    try clear HS4
    try clear hE4
    try clear hD4 hD
    try clear u0 u1 u2 uf0 uf1 uf2 ul
    try clear t0 t1 t2 tf0 tf1 tf2 tl
    obtain ⟨cs, hcs, h8, _, hN, hc, hf⟩ := HP5.out.cells HX.out
    obtain ⟨Ar5, cr5, vo5, rfl, hN1, hN2, hN3⟩ := hN.out
    have n0 : w5.cell? ⟨y.bn, j * 8, none⟩ = some (.int .i64 x.epoch) := hc 0 _ rfl
    have n7 : w5.cell? ⟨y.bn, j * 8 + 7, none⟩ = some (.int .i64 (sn : Int)) := hs ▸ hc 7 _ rfl
    have f0 : w5.frozen? ⟨y.bn, j * 8, none⟩ = false := hf 0
    have f7 : w5.frozen? ⟨y.bn, j * 8 + 7, none⟩ = false := hf 7
    have HCS := Aside0.mk hcs
    have HNN : Aside0 (_ ∧ _ ∧ _) := ⟨⟨hN1, hN2, hN3⟩⟩
    clear hc hf hN hN1 hN2 hN3 hcs h8
    by_cases her : er = 0
    · subst her
      have HV1 : Aside0 (rv = (setNod { s with gate := g2 } j { x with sent := x.sent + 1 }, 0)) := ⟨HV.out.trans (if_neg (fun h => h rfl))⟩
      clear HV
      have hwr : IntKind.i64.wrap ((sn : Int) + 1) = (sn : Int) + 1 := IntWalk.i64_in _ (by omega)
      have ob := HP5.out.blk
      have p5 : w5.cell? ⟨hp, 5, none⟩ = some (.int .i64 s.gate.fence.epoch) := blk_cell ob 5
      have p6 : w5.cell? ⟨hp, 6, none⟩ = some (.int .i64 s.gate.fence.owner) := blk_cell ob 6
      have p7 : w5.cell? ⟨hp, 7, none⟩ = some (.slice y.AG s.gate.out.length y.cG) := blk_cell ob 7
      have pf5 := blk_frozen ob 5
      have pf6 := blk_frozen ob 6
      have pf7 := blk_frozen ob 7
      have hnh : y.bn ≠ hp := HP5.out.bn_ne
      have hhn : hp ≠ y.bn := fun e => hnh e.symm
      have hgh1 : gb ≠ hp := by omega
      have hgn1 : gb ≠ y.bn := by omega
      have HO := Aside0.mk (Only.refl (OneOf hp y.bn) w5)
      have Lq0 : ∀ W : World, Only (OneOf hp y.bn) w5 W → W.cell? ⟨gb, 0, none⟩ = some (.int .i64 g2.fence.epoch) := fun W hW => hW.cell q0 (oneOf_not hgh1 hgn1)
      have Lq1 : ∀ W : World, Only (OneOf hp y.bn) w5 W → W.cell? ⟨gb, 1, none⟩ = some (.int .i64 g2.fence.owner) := fun W hW => hW.cell q1 (oneOf_not hgh1 hgn1)
      have Lq2 : ∀ W : World, Only (OneOf hp y.bn) w5 W → W.cell? ⟨gb, 2, none⟩ = some (.slice A4 g2.out.length c4) := fun W hW => hW.cell q2 (oneOf_not hgh1 hgn1)
      clear ob hgbl Lq0 Lq1 Lq2
      go_wp2_with fail
      go_region_law (fail)
      all_goals
        go_wp2
        go_ret
        rw [HV1.out]
        obtain ⟨cs8, hcs8, h88, _, hN8, _, _⟩ := HG5.out.cells (j := j) HX.out
        obtain ⟨Ar8, cr8, vo8, rfl, hN81, hN82, hN83⟩ := hN8.out
        have HQ2 := HG5.out.poke (j := j) HX.out hcs8 (i := 7) (by omega) (u := .int .i64 ((sn : Int) + 1)) rfl { x with sent := x.sent + 1 } ⟨⟨Ar8, cr8, vo8, by rw [hs]; rfl, hN81, hN82, hN83⟩⟩
        refine ⟨rfl, ⟨_, HQ2.far (below_drew (Below.refl _ _))⟩, ?_⟩
        exact below_drew (Below.setCell (Below.setCell (Below.setCell (Below.setCell HB6.out (p := ⟨hp, 5, none⟩) HP5.out.low _) (p := ⟨hp, 6, none⟩) HP5.out.low _) (p := ⟨hp, 7, none⟩) HP5.out.low _) (p := ⟨y.bn, j * 8 + 7, none⟩) HP5.out.bn_low _)
    · have hz1 : (er == 0) = false := by simpa using her
      have hz2 : (er != 0) = true := by simpa using her
      have hbn := HP5.out.bn_low
      by_cases h9 : er = 9
      · subst h9
        have HV1 : Aside0 (rv = (setNod s j { x with epoch := 0 }, 9)) := ⟨HV.out.trans ((if_pos (by decide)).trans (by rw [if_pos rfl]))⟩
        clear HV
        go_wp2
        go_ret
        rw [HV1.out]
        exact ⟨rfl, ⟨_, HP5.out.poke HX.out HCS.out (i := 0) (by omega) (u := .int .i64 0) rfl { x with epoch := 0 } ⟨⟨Ar5, cr5, vo5, rfl, HNN.out⟩⟩⟩, Below.setCell HB6.out (p := ⟨y.bn, j * 8 + 0, none⟩) hbn (.int .i64 0)⟩
      · have HV1 : Aside0 (rv = (s, er)) := ⟨HV.out.trans ((if_pos her).trans (by rw [if_neg h9]))⟩
        have hz9 : (er == 9) = false := by simpa using h9
        clear HV h9 her
        go_wp2
        go_ret
        rw [HV1.out]
        exact ⟨rfl, ⟨y, HP5.out⟩, HB6.out⟩
end Go.Proofs.YtifphhkkpadpoaaDoor
