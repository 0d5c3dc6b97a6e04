/- The walk of dutykeep.PairOne. Printed by gen_laws.py. -/
import Derived.Test.YtifphhkkpadpoaaDoorLawA
namespace Go.Proofs.YtifphhkkpadpoaaDoor
open Go.RowKit Go.Proofs.YtifphhkkpadpoaaDoorW.PrintWords
set_option linter.unusedVariables false
set_option linter.unusedSimpArgs false
set_option maxRecDepth 100000 in
set_option maxHeartbeats 8000000 in
theorem pairOne_calls (code : List Ins) (A : Option Addr) (c : Nat) (n : Int) (l : List PAct) (Al : Option Addr) (cl : Nat) (w : World) (hC : kIns.C w A code.length code) (hcc : code.length ≤ c) (hL : kPAct.C w Al l.length l) (hcap : l.length ≤ cl) (hT : Tab w) :
    Calls Tryd.prog 5 #[.slice A code.length c, .int .i64 n, .slice Al l.length cl] w fun e w' => e = .returned (.bool true) ∧ Below w.heap.size w w' := by
  rcases play_cases code n l with ⟨h1, h2, h3⟩ | hok
  · have hr : ∃ er, pairPlay code n l = (noPai, [], er) ∧ er ≠ 0 := ⟨(pairPlay code n l).2.2, by rw [← h2, ← h3], h1⟩
    obtain ⟨er, hr, hne⟩ := hr
    have HPLAY := Aside0.mk (play_err code A c n l Al cl w hC hcc hL h1)
    rw [hr] at HPLAY
    have hz1 : (er == 0) = false := by simpa using hne
    have hz2 : (er != 0) = true := by simpa using hne
    clear h1 h2 h3 hr hne
    generalize hnp : noPai = s at *
    have HNP := Aside0.mk hnp
    clear hnp
    have HT := Aside0.mk hT
    have HC := Aside0.mk hC
    have HL := Aside0.mk hL
    have hlen := hL.2.1
    clear hT hC hL
    go_enter Tryd.func5, Tryd.ntmps5
    go_wp2_with fail
    refine HPLAY.out.mono ?_
    rintro e1 w1 ⟨z, AO, cO, rfl, hz, hO, hcO, hb1⟩
    clear HPLAY
    simp only at hz hO hcO
    unfold pairCells
    simp only
    have hbp := blk_new w1 (.cells #[.slice z.AL s.log.length z.cL, .int .i64 s.fence.epoch, .int .i64 s.fence.owner, .slice z.AN s.nodes.length z.cN, .slice z.AS s.saved.length z.cS, .int .i64 s.gate.fence.epoch, .int .i64 s.gate.fence.owner, .slice z.AG s.gate.out.length z.cG] 32)
    have HB2 := Aside0.mk (below_alloc hb1 (.cells #[.slice z.AL s.log.length z.cL, .int .i64 s.fence.epoch, .int .i64 s.fence.owner, .slice z.AN s.nodes.length z.cN, .slice z.AS s.saved.length z.cS, .int .i64 s.gate.fence.epoch, .int .i64 s.gate.fence.owner, .slice z.AG s.gate.out.length z.cG] 32))
    have HZ2 := Aside0.mk (hz.below (below_alloc (Below.refl w1.heap.size w1) (.cells #[.slice z.AL s.log.length z.cL, .int .i64 s.fence.epoch, .int .i64 s.fence.owner, .slice z.AN s.nodes.length z.cN, .slice z.AS s.saved.length z.cS, .int .i64 s.gate.fence.epoch, .int .i64 s.gate.fence.owner, .slice z.AG s.gate.out.length z.cG] 32)))
    have HO2 := Aside0.mk (Kd.C_alloc hO (.cells #[.slice z.AL s.log.length z.cL, .int .i64 s.fence.epoch, .int .i64 s.fence.owner, .slice z.AN s.nodes.length z.cN, .slice z.AS s.saved.length z.cS, .int .i64 s.gate.fence.epoch, .int .i64 s.gate.fence.owner, .slice z.AG s.gate.out.length z.cG] 32))
    clear hb1 hz hO
    go_wp2_with fail
    generalize w1.alloc (.cells #[.slice z.AL s.log.length z.cL, .int .i64 s.fence.epoch, .int .i64 s.fence.owner, .slice z.AN s.nodes.length z.cN, .slice z.AS s.saved.length z.cS, .int .i64 s.gate.fence.epoch, .int .i64 s.gate.fence.owner, .slice z.AG s.gate.out.length z.cG] 32) = w2 at *
    generalize w1.heap.size = g1 at *
    refine (pairLives_calls w2 (HT.out.below HB2.out)).mono ?_
    rintro e3 w3 ⟨rfl, hb3⟩
    have hbp := blk_below hbp hb3
    have HB3 := Aside0.mk (below_step HB2.out hb3)
    have HZ3 := Aside0.mk (HZ2.out.below hb3)
    have HO3 := Aside0.mk (Kd.C_below HO2.out hb3)
    clear hb3 HB2 HZ2 HO2
    go_wp2_with fail
    refine (pairLives_calls w3 (HT.out.below HB3.out)).mono ?_
    rintro e4 w4 ⟨rfl, hb4⟩
    have hbp := blk_below hbp hb4
    have HB4 := Aside0.mk (below_step HB3.out hb4)
    have HZ4 := Aside0.mk (HZ3.out.below hb4)
    have HO4 := Aside0.mk (Kd.C_below HO3.out hb4)
    clear hb4 HB3 HZ3 HO3
    go_wp2
    go_ret
    exact ⟨rfl, HB4.out⟩
    
  · obtain ⟨N, rfl, hN1, hN4, hc, hl, hr, hI⟩ := hok
    have HPLAY := Aside0.mk (play_ok code A c N l Al cl w hC hcc hL hcap hc hN1 hN4 hl hT)
    generalize hrr : pairActs code (pairStart N) l = rr at *
    obtain ⟨s, errs⟩ := rr
    simp only at hI HPLAY
    have hel : errs.length = l.length := by
      have h := acts_len code l (pairStart N)
      rw [hrr] at h
      exact h
    have hlast : ∀ (k : Nat) (a : PAct), l.length = k + 1 → l[k]? = some a → (a.kind = 3 ∨ a.kind = 4) → errs[k]? = some 0 → ∃ (j : Nat) (x : Nod), a.who = (j : Int) ∧ s.nodes[j]? = some x ∧ s.fence = ⟨x.epoch, a.who⟩ ∧ s.gate.fence = ⟨x.epoch, a.who⟩ := by
      intro k a hl1 ha hk h0
      have h := (inv_start code N).last hN4 (l := l) hl1 ha hk
      rw [hrr] at h
      exact h h0
    have HLAST := Aside0.mk hlast
    have HONE := Aside0.mk hI.one
    have HEL := Aside0.mk hel
    have hn4 : s.nodes.length ≤ 4 := by rw [hI.nn]; exact hN4
    clear hr hrr hlast hel hI hc
    have HT := Aside0.mk hT
    have HC := Aside0.mk hC
    have HL := Aside0.mk hL
    have hlen := hL.2.1
    clear hT hC hL
    go_enter Tryd.func5, Tryd.ntmps5
    go_wp2_with fail
    refine HPLAY.out.mono ?_
    rintro e1 w1 ⟨z, AO, cO, rfl, hz, hO, hcO, hb1⟩
    clear HPLAY
    obtain ⟨AL, cL, AN, cN, AS, cS, AG, cG⟩ := z
    simp only at hz hO hcO
    unfold pairCells
    simp only
    rw [HEL.out] at hcO hO ⊢
    have hbp := blk_new w1 (.cells #[.slice AL s.log.length cL, .int .i64 s.fence.epoch, .int .i64 s.fence.owner, .slice AN s.nodes.length cN, .slice AS s.saved.length cS, .int .i64 s.gate.fence.epoch, .int .i64 s.gate.fence.owner, .slice AG s.gate.out.length cG] 32)
    have HB2 := Aside0.mk (below_alloc hb1 (.cells #[.slice AL s.log.length cL, .int .i64 s.fence.epoch, .int .i64 s.fence.owner, .slice AN s.nodes.length cN, .slice AS s.saved.length cS, .int .i64 s.gate.fence.epoch, .int .i64 s.gate.fence.owner, .slice AG s.gate.out.length cG] 32))
    have HZ2 := Aside0.mk (hz.below (below_alloc (Below.refl w1.heap.size w1) (.cells #[.slice AL s.log.length cL, .int .i64 s.fence.epoch, .int .i64 s.fence.owner, .slice AN s.nodes.length cN, .slice AS s.saved.length cS, .int .i64 s.gate.fence.epoch, .int .i64 s.gate.fence.owner, .slice AG s.gate.out.length cG] 32)))
    have HO2 := Aside0.mk (Kd.C_alloc hO (.cells #[.slice AL s.log.length cL, .int .i64 s.fence.epoch, .int .i64 s.fence.owner, .slice AN s.nodes.length cN, .slice AS s.saved.length cS, .int .i64 s.gate.fence.epoch, .int .i64 s.gate.fence.owner, .slice AG s.gate.out.length cG] 32))
    clear hb1 hz hO
    go_wp2_with fail
    generalize w1.alloc (.cells #[.slice AL s.log.length cL, .int .i64 s.fence.epoch, .int .i64 s.fence.owner, .slice AN s.nodes.length cN, .slice AS s.saved.length cS, .int .i64 s.gate.fence.epoch, .int .i64 s.gate.fence.owner, .slice AG s.gate.out.length cG] 32) = w2 at *
    generalize w1.heap.size = g1 at *
    refine (pairLives_calls w2 (HT.out.below HB2.out)).mono ?_
    rintro e3 w3 ⟨rfl, hb3⟩
    have hbp := blk_below hbp hb3
    have HB3 := Aside0.mk (below_step HB2.out hb3)
    have HZ3 := Aside0.mk (HZ2.out.below hb3)
    have HO3 := Aside0.mk (Kd.C_below HO2.out hb3)
    clear hb3 HB2 HZ2 HO2
    have d1 : ((l.length : Int) == (l.length : Int)) = true := by simp
    have d2 : ((l.length : Int) != (l.length : Int)) = false := by simp
    have x3 : w3.cell? ⟨g1, 3, none⟩ = some (.slice AN s.nodes.length cN) := blk_cell hbp 3
    have hnc : s.nodes.length ≤ cN := HZ3.out.nodesc
    go_wp2_with fail
    clear x3
    have HP3 := Aside0.mk hbp
    clear hbp
    go_loopw [45] (fun u wr => ∃ k : Nat, u = .int .i64 k ∧ k ≤ s.nodes.length ∧ Aside0 (Below w3.heap.size w3 wr)) (fun u _ => s.nodes.length - (intOf u).toNat)
    case atStart => exact ⟨0, rfl, Nat.zero_le _, ⟨Below.refl _ _⟩⟩
    case round =>
      obtain ⟨k, rfl, hk, HBr⟩ := hrel
      by_cases hlt : k < s.nodes.length
      · have hd : decide (k < s.nodes.length) = true := decide_eq_true hlt
        have hbr := blk_below HP3.out HBr.out
        obtain ⟨ad, x, A2, c2, A6, c6, hAN, hx, z0, z1, z2, z3, z4, z5, z6, z7, l2, g2, l6, g6⟩ := kNod_get (Kd.C_below HZ3.out.nodes HBr.out) k hlt
        have hAN' : AN = some ad := hAN
        subst hAN'
        have hal := below_alloc (Below.refl wr.heap.size wr) (.cells #[.int .i64 x.epoch, .int .i64 x.vm.pc, .slice A2 x.vm.regs.length c2, .bool x.vm.halts, .bool x.vm.fault, .int .i64 x.read, .slice A6 x.outs.length c6, .int .i64 x.sent] 49)
        have hba := blk_new wr (.cells #[.int .i64 x.epoch, .int .i64 x.vm.pc, .slice A2 x.vm.regs.length c2, .bool x.vm.halts, .bool x.vm.fault, .int .i64 x.read, .slice A6 x.outs.length c6, .int .i64 x.sent] 49)
        have hbg := blk_below hbr hal
        have HB6 : Aside0 (Below w3.heap.size w3 (wr.alloc (.cells #[.int .i64 x.epoch, .int .i64 x.vm.pc, .slice A2 x.vm.regs.length c2, .bool x.vm.halts, .bool x.vm.fault, .int .i64 x.read, .slice A6 x.outs.length c6, .int .i64 x.sent] 49))) := ⟨HBr.out.trans (hal.mono HBr.out.size)⟩
        have x3 : (wr.alloc (.cells #[.int .i64 x.epoch, .int .i64 x.vm.pc, .slice A2 x.vm.regs.length c2, .bool x.vm.halts, .bool x.vm.fault, .int .i64 x.read, .slice A6 x.outs.length c6, .int .i64 x.sent] 49)).cell? ⟨g1, 3, none⟩ = some (.slice (some ad) s.nodes.length cN) := blk_cell hbg 3
        have d5 : decide ((k : Int) < 0) = false := decide_eq_false (by omega)
        have d6 : decide ((cN : Int) < (k : Int)) = false := decide_eq_false (by omega)
        have d6' : decide (cN < k) = false := decide_eq_false (by omega)
        have HX := Aside0.mk hx
        have HBG := Aside0.mk hbg
        have HBA := Aside0.mk hba
        clear hAN l2 g2 l6 g6 hx hbg hba hal hbr
        go_wp2_with fail
        generalize wr.alloc (.cells #[.int .i64 x.epoch, .int .i64 x.vm.pc, .slice A2 x.vm.regs.length c2, .bool x.vm.halts, .bool x.vm.fault, .int .i64 x.read, .slice A6 x.outs.length c6, .int .i64 x.sent] 49) = w6 at *
        generalize wr.heap.size = ga at *
        clear x3 z0 z1 z2 z3 z4 z5 z6 z7
        go_loopw [55] (fun u wi => ∃ m : Nat, u = .int .i64 m ∧ m ≤ k ∧ Aside0 (Below w6.heap.size w6 wi)) (fun u _ => k - (intOf u).toNat)
        case atStart => exact ⟨0, rfl, Nat.zero_le _, ⟨Below.refl _ _⟩⟩
        case round =>
          obtain ⟨m, rfl, hm, HBi⟩ := hrel
          by_cases hmk : m < k
          · have hd2 : decide (m < k) = true := decide_eq_true hmk
            obtain ⟨ad2, y, B2, e2, B6, e6, hAN2, hy, y0, y1, y2, y3, y4, y5, y6, y7, _, _, _, _⟩ := kNod_get (Kd.C_below HZ3.out.nodes (HB6.out.trans (HBi.out.mono HB6.out.size))) m (by omega)
            obtain rfl : ad = ad2 := Option.some.inj hAN2
            have hal := below_alloc (Below.refl wr.heap.size wr) (.cells #[.int .i64 y.epoch, .int .i64 y.vm.pc, .slice B2 y.vm.regs.length e2, .bool y.vm.halts, .bool y.vm.fault, .int .i64 y.read, .slice B6 y.outs.length e6, .int .i64 y.sent] 49)
            have HB7 : Aside0 (Below w6.heap.size w6 (wr.alloc (.cells #[.int .i64 y.epoch, .int .i64 y.vm.pc, .slice B2 y.vm.regs.length e2, .bool y.vm.halts, .bool y.vm.fault, .int .i64 y.read, .slice B6 y.outs.length e6, .int .i64 y.sent] 49))) := ⟨HBi.out.trans (hal.mono HBi.out.size)⟩
            have a0 : (wr.alloc (.cells #[.int .i64 y.epoch, .int .i64 y.vm.pc, .slice B2 y.vm.regs.length e2, .bool y.vm.halts, .bool y.vm.fault, .int .i64 y.read, .slice B6 y.outs.length e6, .int .i64 y.sent] 49)).cell? ⟨ga, 0, none⟩ = some (.int .i64 x.epoch) := blk_cell (blk_below HBA.out HB7.out) 0
            have b0 : (wr.alloc (.cells #[.int .i64 y.epoch, .int .i64 y.vm.pc, .slice B2 y.vm.regs.length e2, .bool y.vm.halts, .bool y.vm.fault, .int .i64 y.read, .slice B6 y.outs.length e6, .int .i64 y.sent] 49)).cell? ⟨wr.heap.size, 0, none⟩ = some (.int .i64 y.epoch) := blk_cell (blk_new wr _) 0
            have hne : x.epoch ≠ 0 → x.epoch ≠ y.epoch := fun h0 he => by
              have h := HONE.out k m x y HX.out hy h0 he
              omega
            clear hal hAN2 hy
            by_cases hpos : 0 < x.epoch
            · have hp : decide (0 < x.epoch) = true := decide_eq_true hpos
              have hq : (x.epoch == y.epoch) = false := by simpa using hne (by omega)
              clear hpos hne
              go_wp2
              go_roundw
              case rel => exact ⟨m + 1, by go_num, by omega, HB7⟩
              case measure => simp [intOf]; omega
            · have hp : decide (0 < x.epoch) = false := decide_eq_false hpos
              clear hpos hne
              go_wp2
              go_roundw
              case rel => exact ⟨m + 1, by go_num, by omega, HB7⟩
              case measure => simp [intOf]; omega
          · obtain rfl : m = k := by omega
            have hd2 : decide (m < m) = false := decide_eq_false (by omega)
            go_wp2
            go_roundw
            case rel => exact ⟨m + 1, by go_num, by omega, ⟨HB6.out.trans (HBi.out.mono HB6.out.size)⟩⟩
            case measure => simp [intOf]; omega
      · obtain rfl : k = s.nodes.length := by omega
        have hd : decide (s.nodes.length < s.nodes.length) = false := decide_eq_false (by omega)
        have HB4 : Aside0 (Below w.heap.size w wr) := ⟨below_step HB3.out HBr.out⟩
        have HO4 := Aside0.mk (Kd.C_below HO3.out HBr.out)
        have HL4 := Aside0.mk (Kd.C_below HL.out HB4.out)
        rcases Nat.eq_zero_or_pos l.length with h0 | h0
        · have hw : IntKind.i64.wrap ((l.length : Int) - 1) = -1 := by rw [h0]; rfl
          go_wp2
          go_ret
          exact ⟨rfl, HB4.out⟩
        · obtain ⟨K, hK⟩ : ∃ K, l.length = K + 1 := ⟨l.length - 1, by omega⟩
          have hw : IntKind.i64.wrap ((l.length : Int) - 1) = (K : Int) := by rw [hK, show (((K + 1 : Nat) : Int) - 1) = (K : Int) by omega]; exact IntWalk.i64_in _ (by omega)
          have i0 : (0 : Int) ≤ (K : Int) := by omega
          have i1 : (K : Int) < (l.length : Int) := by omega
          have i2 : decide ((K : Int) < 0) = false := decide_eq_false (by omega)
          obtain ⟨od, eo, o0⟩ := Kd.at_int HO4.out (K : Int) i0 i1
          rw [Int.toNat_natCast] at o0
          subst eo
          have hre : errs[K]? = some (rd errs (K : Int)) := by
            have hk' : K < errs.length := by rw [HEL.out]; omega
            rw [List.getElem?_eq_getElem hk']
            simp [rd, List.getD_eq_getElem?_getD, List.getElem?_eq_getElem hk']
          generalize rd errs (K : Int) = r at *
          by_cases hr0 : r = 0
          · subst hr0
            obtain ⟨ad, a, ea, ha, c0, c1, c2⟩ := kPAct_get HL4.out K (by omega)
            subst ea
            have hlst := HLAST.out K a hK ha
            clear ha
            obtain ⟨ak, aw, an⟩ := a
            simp only at hlst c0 c1 c2
            have hal := below_alloc (Below.refl wr.heap.size wr) (.cells #[.int .i64 ak, .int .i64 aw, .int .i64 an] 41)
            have HB8 : Aside0 (Below w3.heap.size w3 (wr.alloc (.cells #[.int .i64 ak, .int .i64 aw, .int .i64 an] 41))) := ⟨HBr.out.trans (hal.mono HBr.out.size)⟩
            have hba := blk_new wr (.cells #[.int .i64 ak, .int .i64 aw, .int .i64 an] 41)
            have a0 : (wr.alloc (.cells #[.int .i64 ak, .int .i64 aw, .int .i64 an] 41)).cell? ⟨wr.heap.size, 0, none⟩ = some (.int .i64 ak) := blk_cell hba 0
            have a1 : (wr.alloc (.cells #[.int .i64 ak, .int .i64 aw, .int .i64 an] 41)).cell? ⟨wr.heap.size, 1, none⟩ = some (.int .i64 aw) := blk_cell hba 1
            have HBE : Aside0 (Below w.heap.size w (wr.alloc (.cells #[.int .i64 ak, .int .i64 aw, .int .i64 an] 41))) := ⟨below_step HB4.out hal⟩
            have hbg := blk_below HP3.out HB8.out
            clear hal hba
            by_cases hk34 : ak = 3 ∨ ak = 4
            · obtain ⟨j, x, hwj, hxj, hfe, hge⟩ := hlst hk34 hre
              have hjl : j < s.nodes.length := (List.getElem?_eq_some_iff.1 hxj).1
              obtain ⟨ad2, x', A2, cc2, A6, cc6, hAN, hx', z0, _, _, _, _, _, _, _, _, _, _, _⟩ := kNod_get (Kd.C_below HZ3.out.nodes HB8.out) j hjl
              rw [hxj] at hx'
              obtain rfl := Option.some.inj hx'
              have hAN' : AN = some ad2 := hAN
              subst hAN'
              have x3 : (wr.alloc (.cells #[.int .i64 ak, .int .i64 aw, .int .i64 an] 41)).cell? ⟨g1, 3, none⟩ = some (.slice (some ad2) s.nodes.length cN) := blk_cell hbg 3
              have x1 : (wr.alloc (.cells #[.int .i64 ak, .int .i64 aw, .int .i64 an] 41)).cell? ⟨g1, 1, none⟩ = some (.int .i64 s.fence.epoch) := blk_cell hbg 1
              have x2 : (wr.alloc (.cells #[.int .i64 ak, .int .i64 aw, .int .i64 an] 41)).cell? ⟨g1, 2, none⟩ = some (.int .i64 s.fence.owner) := blk_cell hbg 2
              have x5 : (wr.alloc (.cells #[.int .i64 ak, .int .i64 aw, .int .i64 an] 41)).cell? ⟨g1, 5, none⟩ = some (.int .i64 s.gate.fence.epoch) := blk_cell hbg 5
              have x6 : (wr.alloc (.cells #[.int .i64 ak, .int .i64 aw, .int .i64 an] 41)).cell? ⟨g1, 6, none⟩ = some (.int .i64 s.gate.fence.owner) := blk_cell hbg 6
              rw [hfe] at x1 x2
              rw [hge] at x5 x6
              subst hwj
              simp only at x1 x2 x5 x6
              have j0 : decide ((j : Int) < 0) = false := decide_eq_false (by omega)
              have j1 : decide ((s.nodes.length : Int) ≤ (j : Int)) = false := decide_eq_false (by omega)
              have j2 : decide (s.nodes.length ≤ j) = false := decide_eq_false (by omega)
              clear hfe hge hAN hlst hxj hbg hre
              by_cases h3 : ak = 3
              · subst h3
                go_wp2_with fail
                generalize (wr.alloc (.cells #[.int .i64 3, .int .i64 (j : Int), .int .i64 an] 41)) = w8 at *
                generalize wr.heap.size = gb at *
                go_quiet (fail)
                go_wp2
                go_ret
                exact ⟨by simp, HBE.out.trans (by apply pw_below_drewN; exact Below.refl _ _)⟩
              · have h4 : ak = 4 := by omega
                subst h4
                go_wp2_with fail
                generalize (wr.alloc (.cells #[.int .i64 4, .int .i64 (j : Int), .int .i64 an] 41)) = w8 at *
                generalize wr.heap.size = gb at *
                go_quiet (fail)
                go_wp2
                go_ret
                exact ⟨by simp, HBE.out.trans (by apply pw_below_drewN; exact Below.refl _ _)⟩
            · have e3 : (ak == 3) = false := by simp; omega
              have e4 : (ak == 4) = false := by simp; omega
              clear hlst
              go_wp2
              go_ret
              exact ⟨rfl, HBE.out⟩
          · have er0 : (r != 0) = true := by simpa using hr0
            have er1 : (r == 0) = false := by simpa using hr0
            go_wp2
            go_ret
            exact ⟨rfl, HB4.out⟩
    
end Go.Proofs.YtifphhkkpadpoaaDoor
