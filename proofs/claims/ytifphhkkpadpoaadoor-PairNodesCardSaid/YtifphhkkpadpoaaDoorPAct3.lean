/- The walk of (*pair.play).act, whole: what it does is what the plain law says. Printed by gen_act3.py. -/
import Derived.Test.YtifphhkkpadpoaaDoorPAct2
import Derived.Test.YtifphhkkpadpoaaDoorPSend2
import Derived.Test.YtifphhkkpadpoaaDoorPWork2
import Derived.Test.YtifphhkkpadpoaaDoorPlaw4
namespace Go.Proofs.YtifphhkkpadpoaaDoor
open Go.RowKit Go.Proofs.YtifphhkkpadpoaaDoorW.PrintWords
set_option linter.unusedVariables false
set_option linter.unusedSimpArgs false
set_option maxRecDepth 100000 in
set_option maxHeartbeats 8000000 in
theorem act_input (B hp : Nat) (cv : Ext) (s : Pai) (y : Lay) (wh num : Int) (w : World) (hP : PlayAt w B hp cv s y) (hB : B ≤ w.heap.size) (hl : s.log.length ≤ 1000) :
    Calls Tryd.prog 33 #[.pointer (some ⟨hp, 0, none⟩), .agg #[.int .i64 1, .int .i64 wh, .int .i64 num]] w (ActPost w B hp cv (inputAct s ⟨1, wh, num⟩)) := by
  have HP := Aside0.mk hP
  have HB := Aside0.mk hB
  have hlt := hP.lt
  have hP1 := hP.far (below_alloc (Below.refl w.heap.size w) (.cells #[.int .i64 1, .int .i64 wh, .int .i64 num] 41))
  have b1 := blk_new w (.cells #[.int .i64 1, .int .i64 wh, .int .i64 num] 41)
  have HB1 := Aside0.mk ((below_alloc (Below.refl w.heap.size w) (.cells #[.int .i64 1, .int .i64 wh, .int .i64 num] 41)).mono HB.out)
  have HS1 := Aside0.mk (Nat.le_trans HB.out (below_alloc (Below.refl w.heap.size w) (.cells #[.int .i64 1, .int .i64 wh, .int .i64 num] 41)).size)
  have a0 : (w.alloc (.cells #[.int .i64 1, .int .i64 wh, .int .i64 num] 41)).cell? ⟨w.heap.size, 0, none⟩ = some (.int .i64 1) := blk_cell b1 0
  have a1 : (w.alloc (.cells #[.int .i64 1, .int .i64 wh, .int .i64 num] 41)).cell? ⟨w.heap.size, 1, none⟩ = some (.int .i64 wh) := blk_cell b1 1
  have a2 : (w.alloc (.cells #[.int .i64 1, .int .i64 wh, .int .i64 num] 41)).cell? ⟨w.heap.size, 2, none⟩ = some (.int .i64 num) := blk_cell b1 2
  have p3 : (w.alloc (.cells #[.int .i64 1, .int .i64 wh, .int .i64 num] 41)).cell? ⟨hp, 3, none⟩ = some (.slice (some ⟨y.bn, 0, none⟩) s.nodes.length y.cap) := blk_cell hP1.blk 3
  have HP1 := Aside0.mk hP1
  clear b1 hP1
  clear hP hB
  go_enter Tryd.func33, Tryd.ntmps33
  go_wp2_with fail
  go_wp2_with (go_at_call 62; refine (input_calls B hp cv s y 1 wh num _ HP1.out hl HS1.out).mono ?_; rintro e6 w6 ⟨rfl, hy6, hb6⟩; have HY6 := Aside0.mk hy6; have HB6 := Aside0.mk hb6; clear hy6 hb6)
  go_ret
  exact ⟨rfl, HY6.out, HB1.out.trans HB6.out⟩
set_option maxRecDepth 100000 in
set_option maxHeartbeats 8000000 in
theorem act_arg (B hp : Nat) (cv : Ext) (s : Pai) (y : Lay) (k wh num : Int) (w : World) (hP : PlayAt w B hp cv s y) (hB : B ≤ w.heap.size) (hk : k < 1 ∨ 7 < k) :
    Calls Tryd.prog 33 #[.pointer (some ⟨hp, 0, none⟩), .agg #[.int .i64 k, .int .i64 wh, .int .i64 num]] w (ActPost w B hp cv (s, 1)) := by
  have e1 : (k == 1) = false := by rw [beq_eq_false_iff_ne]; omega
  by_cases h1 : k < 1
  all_goals
    have HP := Aside0.mk hP
    have HB := Aside0.mk hB
    have hlt := hP.lt
    have hP1 := hP.far (below_alloc (Below.refl w.heap.size w) (.cells #[.int .i64 k, .int .i64 wh, .int .i64 num] 41))
    have b1 := blk_new w (.cells #[.int .i64 k, .int .i64 wh, .int .i64 num] 41)
    have HB1 := Aside0.mk ((below_alloc (Below.refl w.heap.size w) (.cells #[.int .i64 k, .int .i64 wh, .int .i64 num] 41)).mono HB.out)
    have HS1 := Aside0.mk (Nat.le_trans HB.out (below_alloc (Below.refl w.heap.size w) (.cells #[.int .i64 k, .int .i64 wh, .int .i64 num] 41)).size)
    have a0 : (w.alloc (.cells #[.int .i64 k, .int .i64 wh, .int .i64 num] 41)).cell? ⟨w.heap.size, 0, none⟩ = some (.int .i64 k) := blk_cell b1 0
    have a1 : (w.alloc (.cells #[.int .i64 k, .int .i64 wh, .int .i64 num] 41)).cell? ⟨w.heap.size, 1, none⟩ = some (.int .i64 wh) := blk_cell b1 1
    have a2 : (w.alloc (.cells #[.int .i64 k, .int .i64 wh, .int .i64 num] 41)).cell? ⟨w.heap.size, 2, none⟩ = some (.int .i64 num) := blk_cell b1 2
    have p3 : (w.alloc (.cells #[.int .i64 k, .int .i64 wh, .int .i64 num] 41)).cell? ⟨hp, 3, none⟩ = some (.slice (some ⟨y.bn, 0, none⟩) s.nodes.length y.cap) := blk_cell hP1.blk 3
    have HP1 := Aside0.mk hP1
    clear b1 hP1
    clear hP hB
    go_enter Tryd.func33, Tryd.ntmps33
    go_wp2_with fail
    go_wp2
    go_ret
    exact ⟨rfl, ⟨y, HP1.out.far (by first | exact Below.refl _ _ | (apply pw_below_drewN; exact Below.refl _ _))⟩, (by first | exact HB1.out | (apply pw_below_drewN; exact HB1.out))⟩
set_option maxRecDepth 100000 in
set_option maxHeartbeats 8000000 in
theorem act_none (B hp : Nat) (cv : Ext) (s : Pai) (y : Lay) (k wh num : Int) (w : World) (hP : PlayAt w B hp cv s y) (hB : B ≤ w.heap.size) (h1 : 1 < k) (h7 : k ≤ 7) (hm : s.nodes.length ≤ 1000) (hw : wh < 0 ∨ (s.nodes.length : Int) ≤ wh) :
    Calls Tryd.prog 33 #[.pointer (some ⟨hp, 0, none⟩), .agg #[.int .i64 k, .int .i64 wh, .int .i64 num]] w (ActPost w B hp cv (s, 7)) := by
  have e1 : (k == 1) = false := by rw [beq_eq_false_iff_ne]; omega
  have e2 : decide (k < 1) = false := decide_eq_false (by omega)
  have e3 : decide (7 < k) = false := decide_eq_false (by omega)
  by_cases h3 : wh < 0
  · have d3 : decide (wh < 0) = true := decide_eq_true h3
    have HP := Aside0.mk hP
    have HB := Aside0.mk hB
    have hlt := hP.lt
    have hP1 := hP.far (below_alloc (Below.refl w.heap.size w) (.cells #[.int .i64 k, .int .i64 wh, .int .i64 num] 41))
    have b1 := blk_new w (.cells #[.int .i64 k, .int .i64 wh, .int .i64 num] 41)
    have HB1 := Aside0.mk ((below_alloc (Below.refl w.heap.size w) (.cells #[.int .i64 k, .int .i64 wh, .int .i64 num] 41)).mono HB.out)
    have HS1 := Aside0.mk (Nat.le_trans HB.out (below_alloc (Below.refl w.heap.size w) (.cells #[.int .i64 k, .int .i64 wh, .int .i64 num] 41)).size)
    have a0 : (w.alloc (.cells #[.int .i64 k, .int .i64 wh, .int .i64 num] 41)).cell? ⟨w.heap.size, 0, none⟩ = some (.int .i64 k) := blk_cell b1 0
    have a1 : (w.alloc (.cells #[.int .i64 k, .int .i64 wh, .int .i64 num] 41)).cell? ⟨w.heap.size, 1, none⟩ = some (.int .i64 wh) := blk_cell b1 1
    have a2 : (w.alloc (.cells #[.int .i64 k, .int .i64 wh, .int .i64 num] 41)).cell? ⟨w.heap.size, 2, none⟩ = some (.int .i64 num) := blk_cell b1 2
    have p3 : (w.alloc (.cells #[.int .i64 k, .int .i64 wh, .int .i64 num] 41)).cell? ⟨hp, 3, none⟩ = some (.slice (some ⟨y.bn, 0, none⟩) s.nodes.length y.cap) := blk_cell hP1.blk 3
    have HP1 := Aside0.mk hP1
    clear b1 hP1
    clear hP hB
    go_enter Tryd.func33, Tryd.ntmps33
    go_wp2_with fail
    go_quiet (fail)
    go_wp2
    go_ret
    exact ⟨rfl, ⟨y, HP1.out.far (by first | exact Below.refl _ _ | (apply pw_below_drewN; exact Below.refl _ _))⟩, (by first | exact HB1.out | (apply pw_below_drewN; exact HB1.out))⟩
  · have d3 : decide (wh < 0) = false := decide_eq_false h3
    have d4 : decide ((s.nodes.length : Int) ≤ wh) = true := decide_eq_true (by omega)
    have HP := Aside0.mk hP
    have HB := Aside0.mk hB
    have hlt := hP.lt
    have hP1 := hP.far (below_alloc (Below.refl w.heap.size w) (.cells #[.int .i64 k, .int .i64 wh, .int .i64 num] 41))
    have b1 := blk_new w (.cells #[.int .i64 k, .int .i64 wh, .int .i64 num] 41)
    have HB1 := Aside0.mk ((below_alloc (Below.refl w.heap.size w) (.cells #[.int .i64 k, .int .i64 wh, .int .i64 num] 41)).mono HB.out)
    have HS1 := Aside0.mk (Nat.le_trans HB.out (below_alloc (Below.refl w.heap.size w) (.cells #[.int .i64 k, .int .i64 wh, .int .i64 num] 41)).size)
    have a0 : (w.alloc (.cells #[.int .i64 k, .int .i64 wh, .int .i64 num] 41)).cell? ⟨w.heap.size, 0, none⟩ = some (.int .i64 k) := blk_cell b1 0
    have a1 : (w.alloc (.cells #[.int .i64 k, .int .i64 wh, .int .i64 num] 41)).cell? ⟨w.heap.size, 1, none⟩ = some (.int .i64 wh) := blk_cell b1 1
    have a2 : (w.alloc (.cells #[.int .i64 k, .int .i64 wh, .int .i64 num] 41)).cell? ⟨w.heap.size, 2, none⟩ = some (.int .i64 num) := blk_cell b1 2
    have p3 : (w.alloc (.cells #[.int .i64 k, .int .i64 wh, .int .i64 num] 41)).cell? ⟨hp, 3, none⟩ = some (.slice (some ⟨y.bn, 0, none⟩) s.nodes.length y.cap) := blk_cell hP1.blk 3
    have HP1 := Aside0.mk hP1
    clear b1 hP1
    clear hP hB
    go_enter Tryd.func33, Tryd.ntmps33
    go_wp2_with fail
    go_quiet (fail)
    go_wp2
    go_ret
    exact ⟨rfl, ⟨y, HP1.out.far (by first | exact Below.refl _ _ | (apply pw_below_drewN; exact Below.refl _ _))⟩, (by first | exact HB1.out | (apply pw_below_drewN; exact HB1.out))⟩
theorem saved_small {code : List Ins} {n t : Nat} {s : Pai} (hI : PInv code n t s) (ht : t ≤ 100) (hc : codeCheck code = 0) {z : Nod} (hz : NodInv code s.log (50 * t) z) : z.vm.regs.length ≤ 1000 ∧ z.outs.length ≤ 1000000 := by
  have h1 := (hz.good hc hI.lg).len
  have h2 := hz.outs_le
  simp only at h1
  omega
theorem act_calls (cv : Ext) (code : List Ins) (Ac : Option Addr) (cc n t B hp : Nat) (s : Pai) (y : Lay) (a : PAct) (w : World) (hI : PInv code n t s) (hn : n ≤ 4) (ht : t ≤ 100) (hc : codeCheck code = 0) (hcv : cv.val = .slice Ac code.length cc) (hP : PlayAt w B hp cv s y) (hB : B ≤ w.heap.size) (hcc : code.length ≤ cc)
    (hcode : ∀ W, Below B w W → kIns.C W Ac code.length code) (hT : ∀ W, Below B w W → Tab W) :
    Calls Tryd.prog 33 #[.pointer (some ⟨hp, 0, none⟩), .agg #[.int .i64 a.kind, .int .i64 a.who, .int .i64 a.num]] w (ActPost w B hp cv (pairAct code s a)) := by
  have hl := hI.loglen
  have hsv := hI.savlen
  have hnn := hI.nn
  obtain ⟨k, wh, num⟩ := a
  simp only
  by_cases h1 : k = 1
  · subst h1
    have e : pairAct code s ⟨1, wh, num⟩ = inputAct s ⟨1, wh, num⟩ := by unfold pairAct; rw [if_pos rfl]
    rw [e]
    exact act_input B hp _ s y wh num w hP hB (by omega)
  by_cases h2 : k < 1 ∨ 7 < k
  · have e : pairAct code s ⟨k, wh, num⟩ = (s, 1) := by unfold pairAct; rw [if_neg h1, if_pos h2]
    rw [e]
    exact act_arg B hp _ s y k wh num w hP hB h2
  by_cases h3 : wh < 0 ∨ (s.nodes.length : Int) ≤ wh
  · have e : pairAct code s ⟨k, wh, num⟩ = (s, 7) := by unfold pairAct; rw [if_neg h1, if_neg h2, if_pos h3]
    rw [e]
    exact act_none B hp _ s y k wh num w hP hB (by omega) (by omega) (by omega) h3
  obtain ⟨j, x, h4, h5, h6, h7, h8⟩ := nodAt (a := ⟨k, wh, num⟩) hI h3
  simp only at h4 h5
  subst h4
  have hj : j < s.nodes.length := (List.getElem?_eq_some_iff.1 h7).1
  have hX := hI.nod j x h7
  have e0 : pairAct code s ⟨k, (j : Int), num⟩ = (if k = 2 then claimAct s j x ⟨k, (j : Int), num⟩ else if k = 3 then workAct code s j x ⟨k, (j : Int), num⟩ else if k = 4 then sendAct s j x ⟨k, (j : Int), num⟩ else if k = 6 then loadAct s j x ⟨k, (j : Int), num⟩ else if k = 5 then ({ s with saved := s.saved ++ [still x] }, 0) else (setNod s j freshNod, 0)) := by
    unfold pairAct
    rw [if_neg h1, if_neg h2, if_neg h3]
    simp only [Int.toNat_natCast]
    rw [h8]
  rw [e0]
  clear e0
  have hg := hI.gateCheck (by omega) hc
  by_cases k2 : k = 2
  · subst k2
    rw [if_pos rfl]
    exact act_claims B hp _ s y j num w hP hB hj (by omega) _ (fun W hPW _ hBW => claim_calls B hp _ s y j x 2 (j : Int) num W hPW h7 hg hBW)
  rw [if_neg k2]
  by_cases k3 : k = 3
  · subst k3
    rw [if_pos rfl]
    refine act_works B hp _ s y j num w hP hB hj (by omega) _ (fun W hPW hWW hBW => ?_)
    by_cases hst : x.epoch = 0 ∨ (fencePass s.fence.epoch s.fence.owner (j : Int) x.epoch).1 = false
    · exact work_stopped B hp _ s y j x code 3 (j : Int) num W hPW h7 hBW hst
    · have h9 := hX.outs_le
      exact work_goes B hp _ s y j x code Ac cc 3 (j : Int) num W hPW h7 hBW hcv hcc (fun W' hW' => hcode W' (hWW.trans hW')) (fun e => hst (.inl e)) (by cases hf : (fencePass s.fence.epoch s.fence.owner (j : Int) x.epoch).1 with | true => rfl | false => exact absurd (.inr hf) hst) (hX.runErr hc hI.lg) hX.rd0 hX.rd1 (by omega) (by omega)
  rw [if_neg k3]
  by_cases k4 : k = 4
  · subst k4
    rw [if_pos rfl]
    refine act_sends B hp _ s y j num w hP hB hj (by omega) _ (fun W hPW hWW hBW => ?_)
    by_cases hst : x.epoch = 0 ∨ x.sent = x.outs.length
    · exact send_stopped B hp _ s y j x 4 (j : Int) num W hPW h7 hBW hst
    · obtain ⟨sn, e, h9, h10, _⟩ := hI.sentAt h7 (fun e => hst (.inr e))
      have h11 := hX.small hc hI.lg e (List.mem_of_getElem? h10)
      obtain ⟨b, m⟩ := e
      simp [is32] at h11
      exact send_hands B hp _ s y j x sn b m 4 (j : Int) num W hPW h7 hBW (fun e => hst (.inl e)) h9 h10 (by omega) (by omega) (by omega) (by omega) (hT W hWW) hg
  rw [if_neg k4]
  by_cases k6 : k = 6
  · subst k6
    rw [if_pos rfl]
    exact act_loads B hp _ s y j num w hP hB hj (by omega) _ (fun W hPW _ hBW => load_calls B hp _ s y j x 6 (j : Int) num W hPW h7 hBW (fun z hz => saved_small hI ht hc (hI.sav z hz)))
  rw [if_neg k6]
  by_cases k5 : k = 5
  · subst k5
    rw [if_pos rfl]
    exact act_save B hp _ s y j num w hP hB x h7 (by omega) (saved_small hI ht hc hX) (by omega)
  rw [if_neg k5]
  obtain rfl : k = 7 := by omega
  exact act_crash B hp _ s y j num w hP hB x h7 (by omega)
end Go.Proofs.YtifphhkkpadpoaaDoor
