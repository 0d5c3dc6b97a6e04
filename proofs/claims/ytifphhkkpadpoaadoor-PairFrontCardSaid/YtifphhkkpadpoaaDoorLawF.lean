/- The walk of dutykeep.PairFront. Printed by gen_laws.py. -/
import Derived.Test.YtifphhkkpadpoaaDoorLawA
namespace Go.Proofs.YtifphhkkpadpoaaDoor
open Go.RowKit Go.Proofs.YtifphhkkpadpoaaDoorW.PrintWords
set_option linter.unusedVariables false
set_option linter.unusedSimpArgs false
set_option maxRecDepth 100000 in
set_option maxHeartbeats 8000000 in
theorem pairFront_calls (code : List Ins) (A : Option Addr) (c : Nat) (n : Int) (l : List PAct) (Al : Option Addr) (cl : Nat) (w : World) (hC : kIns.C w A code.length code) (hcc : code.length ≤ c) (hL : kPAct.C w Al l.length l) (hcap : l.length ≤ cl) (hT : Tab w) :
    Calls Tryd.prog 3 #[.slice A code.length c, .int .i64 n, .slice Al l.length cl] w fun e w' => e = .returned (.bool true) ∧ Below w.heap.size w w' := by
  rcases play_cases code n l with ⟨h1, h2, h3⟩ | hok
  · have hr : ∃ er, pairPlay code n l = (noPai, [], er) ∧ er ≠ 0 := ⟨(pairPlay code n l).2.2, by rw [← h2, ← h3], h1⟩
    obtain ⟨er, hr, hne⟩ := hr
    have HPLAY := Aside0.mk (play_err code A c n l Al cl w hC hcc hL h1)
    rw [hr] at HPLAY
    have hz1 : (er == 0) = false := by simpa using hne
    have hz2 : (er != 0) = true := by simpa using hne
    clear h1 h2 h3 hr hne
    generalize hnp : noPai = s at *
    have HNP := Aside0.mk hnp
    clear hnp
    have HT := Aside0.mk hT
    have HC := Aside0.mk hC
    have HL := Aside0.mk hL
    have hlen := hL.2.1
    clear hT hC hL
    go_enter Tryd.func3, Tryd.ntmps3
    go_wp2_with fail
    refine HPLAY.out.mono ?_
    rintro e1 w1 ⟨z, AO, cO, rfl, hz, hO, hcO, hb1⟩
    clear HPLAY
    simp only at hz hO hcO
    unfold pairCells
    simp only
    have hbp := blk_new w1 (.cells #[.slice z.AL s.log.length z.cL, .int .i64 s.fence.epoch, .int .i64 s.fence.owner, .slice z.AN s.nodes.length z.cN, .slice z.AS s.saved.length z.cS, .int .i64 s.gate.fence.epoch, .int .i64 s.gate.fence.owner, .slice z.AG s.gate.out.length z.cG] 32)
    have HB2 := Aside0.mk (below_alloc hb1 (.cells #[.slice z.AL s.log.length z.cL, .int .i64 s.fence.epoch, .int .i64 s.fence.owner, .slice z.AN s.nodes.length z.cN, .slice z.AS s.saved.length z.cS, .int .i64 s.gate.fence.epoch, .int .i64 s.gate.fence.owner, .slice z.AG s.gate.out.length z.cG] 32))
    have HZ2 := Aside0.mk (hz.below (below_alloc (Below.refl w1.heap.size w1) (.cells #[.slice z.AL s.log.length z.cL, .int .i64 s.fence.epoch, .int .i64 s.fence.owner, .slice z.AN s.nodes.length z.cN, .slice z.AS s.saved.length z.cS, .int .i64 s.gate.fence.epoch, .int .i64 s.gate.fence.owner, .slice z.AG s.gate.out.length z.cG] 32)))
    have HO2 := Aside0.mk (Kd.C_alloc hO (.cells #[.slice z.AL s.log.length z.cL, .int .i64 s.fence.epoch, .int .i64 s.fence.owner, .slice z.AN s.nodes.length z.cN, .slice z.AS s.saved.length z.cS, .int .i64 s.gate.fence.epoch, .int .i64 s.gate.fence.owner, .slice z.AG s.gate.out.length z.cG] 32))
    clear hb1 hz hO
    go_wp2_with fail
    generalize w1.alloc (.cells #[.slice z.AL s.log.length z.cL, .int .i64 s.fence.epoch, .int .i64 s.fence.owner, .slice z.AN s.nodes.length z.cN, .slice z.AS s.saved.length z.cS, .int .i64 s.gate.fence.epoch, .int .i64 s.gate.fence.owner, .slice z.AG s.gate.out.length z.cG] 32) = w2 at *
    generalize w1.heap.size = g1 at *
    refine (pairLives_calls w2 (HT.out.below HB2.out)).mono ?_
    rintro e3 w3 ⟨rfl, hb3⟩
    have hbp := blk_below hbp hb3
    have HB3 := Aside0.mk (below_step HB2.out hb3)
    have HZ3 := Aside0.mk (HZ2.out.below hb3)
    have HO3 := Aside0.mk (Kd.C_below HO2.out hb3)
    clear hb3 HB2 HZ2 HO2
    go_wp2_with fail
    refine (pairLives_calls w3 (HT.out.below HB3.out)).mono ?_
    rintro e4 w4 ⟨rfl, hb4⟩
    have hbp := blk_below hbp hb4
    have HB4 := Aside0.mk (below_step HB3.out hb4)
    have HZ4 := Aside0.mk (HZ3.out.below hb4)
    have HO4 := Aside0.mk (Kd.C_below HO3.out hb4)
    clear hb4 HB3 HZ3 HO3
    go_wp2
    go_ret
    exact ⟨rfl, HB4.out⟩
    
  · obtain ⟨N, rfl, hN1, hN4, hc, hl, hr, hI⟩ := hok
    have HPLAY := Aside0.mk (play_ok code A c N l Al cl w hC hcc hL hcap hc hN1 hN4 hl hT)
    generalize hrr : pairActs code (pairStart N) l = rr at *
    obtain ⟨s, errs⟩ := rr
    simp only at hI HPLAY
    have hel : errs.length = l.length := by
      have h := acts_len code l (pairStart N)
      rw [hrr] at h
      exact h
    have hfr := hI.front (by omega)
    have hans : ∀ (i : Nat) (a : PAct) (r : Int), l[i]? = some a → errs[i]? = some r → a.kind = 4 → r ≠ 8 ∧ r ≠ 1 := by
      have h := acts_ans hN4 l 0 (pairStart N) (inv_start code N)
      rw [hrr] at h
      exact h
    have HFR : Aside0 (decide (s.gate.out <+: toldText code s.log) = true) := ⟨decide_eq_true hfr⟩
    have HANS := Aside0.mk hans
    have HEL := Aside0.mk hel
    have HI := Aside0.mk hI
    have HCC := Aside0.mk hc
    clear hr hrr hfr hans hel hI hc
    have HT := Aside0.mk hT
    have HC := Aside0.mk hC
    have HL := Aside0.mk hL
    have hlen := hL.2.1
    clear hT hC hL
    go_enter Tryd.func3, Tryd.ntmps3
    go_wp2_with fail
    refine HPLAY.out.mono ?_
    rintro e1 w1 ⟨z, AO, cO, rfl, hz, hO, hcO, hb1⟩
    clear HPLAY
    simp only at hz hO hcO
    unfold pairCells
    simp only
    rw [HEL.out] at hcO hO ⊢
    have hbp := blk_new w1 (.cells #[.slice z.AL s.log.length z.cL, .int .i64 s.fence.epoch, .int .i64 s.fence.owner, .slice z.AN s.nodes.length z.cN, .slice z.AS s.saved.length z.cS, .int .i64 s.gate.fence.epoch, .int .i64 s.gate.fence.owner, .slice z.AG s.gate.out.length z.cG] 32)
    have HB2 := Aside0.mk (below_alloc hb1 (.cells #[.slice z.AL s.log.length z.cL, .int .i64 s.fence.epoch, .int .i64 s.fence.owner, .slice z.AN s.nodes.length z.cN, .slice z.AS s.saved.length z.cS, .int .i64 s.gate.fence.epoch, .int .i64 s.gate.fence.owner, .slice z.AG s.gate.out.length z.cG] 32))
    have HZ2 := Aside0.mk (hz.below (below_alloc (Below.refl w1.heap.size w1) (.cells #[.slice z.AL s.log.length z.cL, .int .i64 s.fence.epoch, .int .i64 s.fence.owner, .slice z.AN s.nodes.length z.cN, .slice z.AS s.saved.length z.cS, .int .i64 s.gate.fence.epoch, .int .i64 s.gate.fence.owner, .slice z.AG s.gate.out.length z.cG] 32)))
    have HO2 := Aside0.mk (Kd.C_alloc hO (.cells #[.slice z.AL s.log.length z.cL, .int .i64 s.fence.epoch, .int .i64 s.fence.owner, .slice z.AN s.nodes.length z.cN, .slice z.AS s.saved.length z.cS, .int .i64 s.gate.fence.epoch, .int .i64 s.gate.fence.owner, .slice z.AG s.gate.out.length z.cG] 32))
    clear hb1 hz hO
    go_wp2_with fail
    generalize w1.alloc (.cells #[.slice z.AL s.log.length z.cL, .int .i64 s.fence.epoch, .int .i64 s.fence.owner, .slice z.AN s.nodes.length z.cN, .slice z.AS s.saved.length z.cS, .int .i64 s.gate.fence.epoch, .int .i64 s.gate.fence.owner, .slice z.AG s.gate.out.length z.cG] 32) = w2 at *
    generalize w1.heap.size = g1 at *
    refine (pairLives_calls w2 (HT.out.below HB2.out)).mono ?_
    rintro e3 w3 ⟨rfl, hb3⟩
    have hbp := blk_below hbp hb3
    have HB3 := Aside0.mk (below_step HB2.out hb3)
    have HZ3 := Aside0.mk (HZ2.out.below hb3)
    have HO3 := Aside0.mk (Kd.C_below HO2.out hb3)
    clear hb3 HB2 HZ2 HO2
    have d1 : ((l.length : Int) == (l.length : Int)) = true := by simp
    have d2 : ((l.length : Int) != (l.length : Int)) = false := by simp
    have x0 : w3.cell? ⟨g1, 0, none⟩ = some (.slice z.AL s.log.length z.cL) := blk_cell hbp 0
    go_wp2_with fail
    clear x0
    refine (told_calls code s.log A z.AL c z.cL w3 (Kd.C_below HC.out HB3.out) hcc HZ3.out.log HZ3.out.logc HCC.out HI.out.lg (by have := HI.out.loglen; omega) (HT.out.below HB3.out)).mono ?_
    rintro e5 w5 ⟨AT, cT, rfl, hcT, hCT, hb5⟩
    have hbp := blk_below hbp hb5
    have HB5 := Aside0.mk (below_step HB3.out hb5)
    have HZ5 := Aside0.mk (HZ3.out.below hb5)
    have HO5 := Aside0.mk (Kd.C_below HO3.out hb5)
    have HCT := Aside0.mk hCT
    have HL5 := Aside0.mk (Kd.C_below HL.out HB5.out)
    clear hb5 HB3 HZ3 HO3 hCT
    generalize decide ((ran code newVm s.log 5000).2 < 5000) = ends at *
    go_wp2
    go_loop [48] (fun u => ∃ k : Nat, u = .int .i64 k ∧ k ≤ l.length) (fun u => l.length - (intOf u).toNat)
    case atStart => exact ⟨0, rfl, Nat.zero_le _⟩
    case round =>
      obtain ⟨k, rfl, hk⟩ := hrel
      by_cases hlt : k < l.length
      · have hd : decide (k < l.length) = true := decide_eq_true hlt
        have i0 : (0 : Int) ≤ (k : Int) := by omega
        have i1 : (k : Int) < (l.length : Int) := by omega
        obtain ⟨ad, a, ea, ha, c0, _, _⟩ := kPAct_get HL5.out k hlt
        obtain ⟨od, eo, o0⟩ := Kd.at_int HO5.out (k : Int) i0 i1
        rw [Int.toNat_natCast] at o0
        subst ea; subst eo
        have hre : errs[k]? = some (rd errs (k : Int)) := by
          have hk' : k < errs.length := by rw [HEL.out]; exact hlt
          rw [List.getElem?_eq_getElem hk']
          simp [rd, List.getD_eq_getElem?_getD, List.getElem?_eq_getElem hk']
        have hans2 := HANS.out k a _ ha hre
        generalize rd errs (k : Int) = r at *
        clear hre ha
        by_cases h4 : a.kind = 4
        · obtain ⟨h8, h1⟩ := hans2 h4
          have e4 : (a.kind == 4) = true := by simpa using h4
          have e8 : (r == 8) = false := by simpa using h8
          have e1 : (r == 1) = false := by simpa using h1
          clear hans2 h4 h8 h1
          go_wp2
          go_round
          case rel => exact ⟨k + 1, by go_num, by omega⟩
          case measure => simp [intOf]; omega
        · have e4 : (a.kind == 4) = false := by simpa using h4
          clear hans2 h4
          go_wp2
          go_round
          case rel => exact ⟨k + 1, by go_num, by omega⟩
          case measure => simp [intOf]; omega
      · obtain rfl : k = l.length := by omega
        have hd : decide (l.length < l.length) = false := decide_eq_false (by omega)
        have x7 : w5.cell? ⟨g1, 7, none⟩ = some (.slice z.AG s.gate.out.length z.cG) := blk_cell hbp 7
        go_wp2_with (go_at_call 14; refine (front_calls z.AG AT z.cG cT s.gate.out (toldText code s.log) w5 HZ5.out.out HCT.out hcT).mono ?_; rintro e6 w6 ⟨rfl, hb6⟩; rw [HFR.out]; have HB6 := Aside0.mk (below_step HB5.out hb6); clear hb6)
        go_ret
        exact ⟨rfl, HB6.out⟩
    
end Go.Proofs.YtifphhkkpadpoaaDoor
