/- The plain law of pairs: each act keeps what stands; what is answered. -/
import Derived.Test.YtifphhkkpadpoaaDoorPlaw2
namespace Go.Proofs.YtifphhkkpadpoaaDoor
set_option linter.unusedVariables false
section
variable {code : List Ins} {n t : Nat} {s : Pai}
theorem fenceMay_ok {e o w n : Int} (h : fenceMay e o w n = 0) : fenceCheck e o = 0 ∧ 0 ≤ w ∧ w ≤ 255 ∧ 1 ≤ n ∧ n ≤ 2147483647 := by
  unfold fenceMay at h
  split at h
  · rename_i h1; exact absurd h h1
  · rename_i h1
    split at h
    · rename_i h2
      simp [isWho, isEpoch] at h2
      exact ⟨by simpa using h1, by omega, by omega, by omega, by omega⟩
    · cases h
theorem fenceMay_mk {e o w n : Int} (h0 : fenceCheck e o = 0) (h1 : 0 ≤ w) (h2 : w ≤ 255) (h3 : 1 ≤ n) (h4 : n ≤ 2147483647) : fenceMay e o w n = 0 := by
  unfold fenceMay
  rw [if_neg (by simpa using h0), if_pos (by simp [isWho, isEpoch]; omega)]
theorem fenceCheck_mk {w n : Int} (h1 : 0 ≤ w) (h2 : w ≤ 255) (h3 : 1 ≤ n) (h4 : n ≤ 2147483647) : fenceCheck n w = 0 := by
  unfold fenceCheck
  rw [if_pos (.inr (by simp [isWho, isEpoch]; omega))]
/-- What is claimed, in short. -/
theorem fenceClaim_cases (e o w n : Int) : (fenceMay e o w n ≠ 0 ∧ fenceClaim e o w n = (0, 0, false, fenceMay e o w n)) ∨ (fenceMay e o w n = 0 ∧ fenceClaim e o w n = (n, w, true, 0) ∧ (e < n ∨ (e = n ∧ o = w))) ∨ (fenceMay e o w n = 0 ∧ fenceClaim e o w n = (e, o, false, 0)) := by
  unfold fenceClaim
  by_cases h : fenceMay e o w n = 0
  · rw [if_neg (by simpa using h)]
    by_cases h1 : e < n
    · have hc : claimed e o w n = ⟨n, w⟩ := by unfold claimed; rw [if_pos h1]
      rw [hc]
      exact .inr (.inl ⟨h, by simp, .inl h1⟩)
    · have hc : claimed e o w n = ⟨e, o⟩ := by unfold claimed; rw [if_neg h1]
      rw [hc]
      by_cases h2 : e = n ∧ o = w
      · obtain ⟨rfl, rfl⟩ := h2
        exact .inr (.inl ⟨h, by simp, .inr ⟨rfl, rfl⟩⟩)
      · have hd : decide ((⟨e, o⟩ : Fen) = ⟨n, w⟩) = false := decide_eq_false (by intro h3; injection h3 with h3 h4; exact h2 ⟨h3, h4⟩)
        rw [hd]
        exact .inr (.inr ⟨h, rfl⟩)
  · rw [if_pos h]
    exact .inl ⟨h, rfl⟩
/-- What becomes of a claim. -/
theorem claimAct_cases (h : PInv code n t s) (j : Nat) (x : Nod) (a : PAct) : (claimAct s j x a).1 = s ∨ ((claimAct s j x a) = (setNod { s with fence := ⟨a.num, a.who⟩, gate := ⟨⟨a.num, a.who⟩, s.gate.out⟩ } j { x with epoch := a.num, sent := 0 }, 0) ∧ 0 ≤ a.who ∧ a.who ≤ 255 ∧ 1 ≤ a.num ∧ a.num ≤ 2147483647 ∧ (s.fence.epoch < a.num ∨ (s.fence.epoch = a.num ∧ s.fence.owner = a.who))) := by
  unfold claimAct gateClaim
  rw [h.gfen]
  rcases fenceClaim_cases s.fence.epoch s.fence.owner a.who a.num with ⟨h1, h2⟩ | ⟨h1, h2, h3⟩ | ⟨h1, h2⟩
  · rw [h2]; simp [h1]
  · rw [h2]
    obtain ⟨_, h4, h5, h6, h7⟩ := fenceMay_ok h1
    right
    simp [h4, h5, h6, h7, h3]
  · rw [h2]; simp
theorem fencePass_ok {e o w n : Int} (h : (fencePass e o w n).1 = true) : e = n ∧ o = w := by
  unfold fencePass at h
  split at h
  · cases h
  · simpa using h
theorem wrongNone {g : Gat} {x : Give} (h : gateWrong g x = 0) : (g.fence.epoch = x.epoch ∧ g.fence.owner = x.who) ∧ 0 ≤ x.num ∧ x.num ≤ g.out.length ∧ (x.num < g.out.length → g.out[x.num.toNat]? = some x.text) := by
  unfold gateWrong at h
  split at h
  · rename_i h1; exact absurd h h1
  split at h
  · cases h
  rename_i h2
  split at h
  · cases h
  split at h
  · cases h
  split at h
  · cases h
  split at h
  · cases h
  rename_i h3 h4 h5 h6
  exact ⟨fencePass_ok (by simpa using h2), by omega, by omega, fun h7 => Classical.byContradiction fun h8 => h6 ⟨h7, h8⟩⟩
/-- Two places on the one run: one has let out a begin of what the other one has. -/
theorem one_run {log : List Int} {k1 k2 K : Nat} {m1 m2 : Mach} (h1 : iter code k1 (st log) = some m1) (h2 : iter code k2 (st log) = some m2) (hk1 : k1 ≤ K) (hk2 : k2 ≤ K) :
    ∃ k m, k ≤ K ∧ iter code k (st log) = some m ∧ m1.out <+: m.out ∧ m2.out <+: m.out := by
  have key : ∀ {a b : Nat} {p q : Mach}, iter code a (st log) = some p → iter code b (st log) = some q → a ≤ b → p.out <+: q.out := by
    intro a b p q ha hb hab
    obtain ⟨c, rfl⟩ := Nat.le.dest hab
    rw [iter_add a c _ _ ha] at hb
    obtain ⟨_, o, h3, _⟩ := iter_ext c _ _ hb
    exact ⟨o, h3.symm⟩
  rcases Nat.le_total k1 k2 with h | h
  · exact ⟨k2, m2, hk2, h2, key h1 h2 h, List.prefix_refl _⟩
  · exact ⟨k1, m1, hk1, h1, List.prefix_refl _, key h2 h1 h⟩
theorem PInv.two (h : PInv code n t s) {j : Nat} {x : Nod} (hx : s.nodes[j]? = some x) : ∃ k m, k ≤ 50 * t ∧ iter code k (st s.log) = some m ∧ s.gate.out <+: m.out.map textOf ∧ x.outs <+: m.out := by
  obtain ⟨k1, m1, h1, h2, h3⟩ := h.gate
  obtain ⟨k2, h4, h5⟩ := (h.nod j x hx).run
  obtain ⟨k, m, h6, h7, h8, h9⟩ := one_run h2 h5 h1 h4
  exact ⟨k, m, h6, h7, h3.trans (h8.map textOf), h9⟩
theorem prefix_get {α : Type} {l m : List α} (h : l <+: m) {i : Nat} {a : α} (hi : l[i]? = some a) : m[i]? = some a := by
  obtain ⟨r, rfl⟩ := h
  have := (List.getElem?_eq_some_iff.1 hi).1
  rw [List.getElem?_append_left this]; exact hi
theorem prefix_snoc {α : Type} {l m : List α} (h : l <+: m) {a : α} (ha : m[l.length]? = some a) : l ++ [a] <+: m := by
  obtain ⟨r, rfl⟩ := h
  rw [List.getElem?_append_right (Nat.le_refl _), Nat.sub_self] at ha
  cases r with
  | nil => cases ha
  | cons b r =>
    injection ha with ha
    subst ha
    exact ⟨r, by simp⟩
/-- What is handed stands in the gate at its place, or is what comes next. -/
theorem PInv.hand (h : PInv code n t s) {j : Nat} {x : Nod} (hx : s.nodes[j]? = some x) {sn : Nat} {e : Emit} (he : x.outs[sn]? = some e) : (∀ u, s.gate.out[sn]? = some u → u = textOf e) ∧ (sn = s.gate.out.length → ∃ k m, k ≤ 50 * t ∧ iter code k (st s.log) = some m ∧ s.gate.out ++ [textOf e] <+: m.out.map textOf) := by
  obtain ⟨k, m, h1, h2, h3, h4⟩ := h.two hx
  have h5 : (m.out.map textOf)[sn]? = some (textOf e) := by rw [List.getElem?_map, prefix_get h4 he]; rfl
  refine ⟨fun u hu => ?_, fun hs => ⟨k, m, h1, h2, prefix_snoc h3 (by rw [← hs]; exact h5)⟩⟩
  have h6 := prefix_get h3 hu
  rw [h5] at h6
  injection h6 with h6
  exact h6.symm
theorem PInv.sentAt (h : PInv code n t s) {j : Nat} {x : Nod} (hx : s.nodes[j]? = some x) (hs : x.sent ≠ x.outs.length) : ∃ (sn : Nat) (e : Emit), x.sent = (sn : Int) ∧ x.outs[sn]? = some e ∧ x.outs.getD x.sent.toNat ⟨0, 0⟩ = e := by
  have h0 := (h.nod j x hx).sn0
  have h1 := (h.nod j x hx).sn1
  have h2 : x.sent.toNat < x.outs.length := by omega
  exact ⟨x.sent.toNat, x.outs[x.sent.toNat], by omega, List.getElem?_eq_getElem h2, by rw [List.getD_eq_getElem?_getD, List.getElem?_eq_getElem h2]; rfl⟩
theorem PInv.claim (h : PInv code n t s) {j : Nat} {x : Nod} (hx : s.nodes[j]? = some x) (a : PAct) (hw : a.who = (j : Int)) : PInv code n (t + 1) (claimAct s j x a).1 := by
  rcases claimAct_cases h j x a with h1 | ⟨h1, h2, h3, h4, h5, h6⟩
  · rw [h1]; exact h.tick
  · rw [h1]
    have hj : j < s.nodes.length := (List.getElem?_eq_some_iff.1 hx).1
    have hT := h.tick
    refine ⟨hT.lg, hT.loglen, by show (s.nodes.set j _).length = n; rw [List.length_set]; exact h.nn, fun i y hy => ?_, hT.sav, hT.savlen, rfl, fenceCheck_mk h2 h3 h4 h5, fun i y hy => ?_, fun i i' y y' hy hy' hne hee => ?_, hT.gate, hT.gatelen⟩
    · rcases getNod hj hy with ⟨_, rfl⟩ | ⟨_, hy⟩
      · exact ((h.nod j x hx).claim h4 h5).more (by omega)
      · exact hT.nod i y hy
    · show y.epoch ≤ a.num ∧ (y.epoch ≠ 0 → y.epoch = a.num → a.who = (i : Int))
      rcases getNod hj hy with ⟨rfl, rfl⟩ | ⟨hne, hy⟩
      · exact ⟨Int.le_refl _, fun _ _ => hw⟩
      · obtain ⟨h7, h8⟩ := h.top i y hy
        refine ⟨by omega, fun h9 h10 => ?_⟩
        have h11 := h8 h9 (by omega)
        omega
    · rcases getNod hj hy with ⟨e1, e2⟩ | ⟨n1, hz⟩
      · rcases getNod hj hy' with ⟨e3, e4⟩ | ⟨n2, hz'⟩
        · rw [e1, e3]
        · exfalso
          obtain ⟨h7, h8⟩ := h.top i' y' hz'
          have h9 : y.epoch = a.num := by rw [e2]
          have h11 := h8 (by omega) (by omega)
          omega
      · rcases getNod hj hy' with ⟨e3, e4⟩ | ⟨n2, hz'⟩
        · exfalso
          obtain ⟨h7, h8⟩ := h.top i y hz
          have h9 : y'.epoch = a.num := by rw [e4]
          have h11 := h8 (by omega) (by omega)
          omega
        · exact h.one i i' y y' hz hz' hne hee
theorem PInv.inputs (h : PInv code n t s) (a : PAct) : PInv code n (t + 1) (inputAct s a).1 := by
  unfold inputAct
  split
  · rename_i h1
    have hT := h.tick
    refine ⟨fun z hz => ?_, ?_, h.nn, fun j x hx => (hT.nod j x hx).logs _, fun x hx => (hT.sav x hx).logs _, hT.savlen, h.gfen, h.fen, h.top, h.one, ?_, hT.gatelen⟩
    · rcases List.mem_append.1 hz with hz | hz
      · exact h.lg z hz
      · rw [List.mem_singleton] at hz; rw [hz]; exact h1
    · show (s.log ++ [a.num]).length ≤ _
      rw [List.length_append]
      have := h.loglen
      simp
      omega
    · obtain ⟨k, m, h2, h3, h4⟩ := hT.gate
      exact ⟨k, feed m [a.num], h2, iter_feed k _ _ h3 [a.num], h4⟩
  · exact h.tick
theorem workAct_is (code : List Ins) (s : Pai) (j : Nat) (x : Nod) (a : PAct) : workAct code s j x a = (s, 9) ∨ workAct code s j x a = (setNod s j { x with epoch := 0 }, 9) ∨ (workAct code s j x a = (setNod s j (worked code s.log x), 0) ∧ s.fence = ⟨x.epoch, a.who⟩) := by
  unfold workAct
  split
  · exact .inl rfl
  split
  · exact .inr (.inl rfl)
  · rename_i h1
    have h2 := fencePass_ok (by simpa using h1)
    refine .inr (.inr ⟨rfl, ?_⟩)
    cases hf : s.fence
    rw [hf] at h2
    simp only at h2
    rw [h2.1, h2.2]
theorem PInv.workd (h : PInv code n t s) {j : Nat} {x : Nod} (hx : s.nodes[j]? = some x) (a : PAct) : PInv code n (t + 1) (workAct code s j x a).1 := by
  rcases workAct_is code s j x a with h1 | h1 | ⟨h1, _⟩
  · rw [h1]; exact h.tick
  · rw [h1]; exact h.put hx ((h.nod j x hx).drop.more (by omega)) (.inr rfl)
  · rw [h1]; exact h.put hx ((h.nod j x hx).work.more (by omega)) (.inl rfl)
/-- What becomes of a sending. -/
theorem sendAct_cases (h : PInv code n t s) {j : Nat} {x : Nod} (hx : s.nodes[j]? = some x) (a : PAct) (hw0 : 0 ≤ a.who) (hw : a.who ≤ 255) :
    (∃ r, sendAct s j x a = (s, r) ∧ r ≠ 0 ∧ r ≠ 1 ∧ r ≠ 8) ∨ sendAct s j x a = (setNod s j { x with epoch := 0 }, 9) ∨
    (∃ (sn : Nat) (e : Emit), x.sent = (sn : Int) ∧ x.sent ≠ x.outs.length ∧ x.outs[sn]? = some e ∧ s.gate.fence = ⟨x.epoch, a.who⟩ ∧ ((sn < s.gate.out.length ∧ sendAct s j x a = (setNod s j { x with sent := x.sent + 1 }, 0)) ∨ (sn = s.gate.out.length ∧ sendAct s j x a = (setNod { s with gate := ⟨s.gate.fence, s.gate.out ++ [textOf e]⟩ } j { x with sent := x.sent + 1 }, 0)))) := by
  by_cases he : x.epoch = 0
  · left; exact ⟨9, by unfold sendAct; rw [if_pos he], by decide, by decide, by decide⟩
  by_cases hs : x.sent = x.outs.length
  · left; exact ⟨7, by unfold sendAct; rw [if_neg he, if_pos hs], by decide, by decide, by decide⟩
  obtain ⟨sn, e, h1, h2, h3⟩ := h.sentAt hx hs
  have hv : sendAct s j x a = if (gateHand s.gate (handed x a)).2.2 ≠ 0 then (if (gateHand s.gate (handed x a)).2.2 = 9 then setNod s j { x with epoch := 0 } else s, (gateHand s.gate (handed x a)).2.2)
  else (setNod { s with gate := (gateHand s.gate (handed x a)).1 } j { x with sent := x.sent + 1 }, 0) := by unfold sendAct; rw [if_neg he, if_neg hs]
  have hh : handed x a = ⟨a.who, x.epoch, (sn : Int), textOf e⟩ := by unfold handed; rw [h3, h1]
  rw [hv, hh]
  clear hv
  by_cases hg : gateWrong s.gate ⟨a.who, x.epoch, (sn : Int), textOf e⟩ = 0
  · obtain ⟨⟨h4, h5⟩, h6, h7, h8⟩ := wrongNone hg
    simp only at h4 h5 h6 h7 h8
    refine .inr (.inr ⟨sn, e, h1, hs, h2, ?_, ?_⟩)
    · cases hf : s.gate.fence
      rw [hf] at h4 h5
      simp only at h4 h5
      rw [h4, h5]
    · have hgh : gateHand s.gate ⟨a.who, x.epoch, (sn : Int), textOf e⟩ = if (sn : Int) < s.gate.out.length then (s.gate, false, 0) else (⟨s.gate.fence, s.gate.out ++ [textOf e]⟩, true, 0) := by unfold gateHand; rw [if_neg (fun hx => hx hg)]
      rw [hgh]
      by_cases hlt : sn < s.gate.out.length
      · left
        refine ⟨hlt, ?_⟩
        rw [if_pos (show ((sn : Int) < s.gate.out.length) by omega)]
        rfl
      · right
        refine ⟨by omega, ?_⟩
        rw [if_neg (show ¬ ((sn : Int) < s.gate.out.length) by omega)]
        rfl
  · have hgh : gateHand s.gate ⟨a.who, x.epoch, (sn : Int), textOf e⟩ = (noGate, false, gateWrong s.gate ⟨a.who, x.epoch, (sn : Int), textOf e⟩) := by unfold gateHand; rw [if_pos hg]
    rw [hgh]
    simp only
    rw [if_pos hg]
    by_cases h9 : gateWrong s.gate ⟨a.who, x.epoch, (sn : Int), textOf e⟩ = 9
    · right; left
      rw [if_pos h9, h9]
    · left
      refine ⟨_, by rw [if_neg h9], hg, fun h10 => ?_, fun h10 => ?_⟩
      · have hf : fenceCheck s.gate.fence.epoch s.gate.fence.owner = 0 := by rw [h.gfen]; exact h.fen
        have hep := (h.nod j x hx).ep
        have hm := fenceMay_mk (w := a.who) (n := x.epoch) hf hw0 hw (by omega) (by omega)
        have hp : (fencePass s.gate.fence.epoch s.gate.fence.owner a.who x.epoch).2 = 0 := by unfold fencePass; rw [if_neg (by simpa using hm)]
        unfold gateWrong at h10
        rw [if_neg (by simpa using hp)] at h10
        repeat' split at h10
        all_goals first | (cases h10; done) | skip
        rename_i h11
        simp only at h11
        omega
      · have hl := (h.hand hx h2).1
        unfold gateWrong at h10
        split at h10
        · rename_i h11
          unfold fencePass at h10
          split at h10
          · rename_i h12
            have hf : fenceCheck s.gate.fence.epoch s.gate.fence.owner = 0 := by rw [h.gfen]; exact h.fen
            unfold fenceMay at h10
            rw [if_neg (by simpa using hf)] at h10
            simp only at h10
            split at h10 <;> cases h10
          · cases h10
        repeat' split at h10
        all_goals first | (cases h10; done) | skip
        rename_i h11
        simp only [Int.toNat_natCast] at h11
        have h12 : sn < s.gate.out.length := by omega
        have h13 := hl _ (List.getElem?_eq_getElem h12)
        exact h11.2 (by rw [List.getElem?_eq_getElem h12, h13])
theorem PInv.sendd (h : PInv code n t s) {j : Nat} {x : Nod} (hx : s.nodes[j]? = some x) (a : PAct) (hw0 : 0 ≤ a.who) (hw : a.who ≤ 255) : PInv code n (t + 1) (sendAct s j x a).1 := by
  rcases sendAct_cases h hx a hw0 hw with ⟨r, h1, _⟩ | h1 | ⟨sn, e, h1, h2, h3, h4, ⟨h5, h6⟩ | ⟨h5, h6⟩⟩
  · rw [h1]; exact h.tick
  · rw [h1]; exact h.put hx ((h.nod j x hx).drop.more (by omega)) (.inr rfl)
  · rw [h6]; exact h.put hx (((h.nod j x hx).send h2).more (by omega)) (.inl rfl)
  · rw [h6]
    have hp := h.put hx (((h.nod j x hx).send h2).more (by omega)) (.inl rfl)
    refine ⟨hp.lg, hp.loglen, hp.nn, hp.nod, hp.sav, hp.savlen, hp.gfen, hp.fen, hp.top, hp.one, ?_, ?_⟩
    · obtain ⟨k, m, h7, h8, h9⟩ := (h.hand hx h3).2 h5
      exact ⟨k, m, by omega, h8, h9⟩
    · show (s.gate.out ++ [textOf e]).length ≤ t + 1
      rw [List.length_append]
      have := h.gatelen
      simp
      omega
theorem PInv.loadd (h : PInv code n t s) {j : Nat} {x : Nod} (hx : s.nodes[j]? = some x) (a : PAct) : PInv code n (t + 1) (loadAct s j x a).1 := by
  unfold loadAct
  split
  · exact h.tick
  split
  · exact h.tick
  · rename_i h1 h2
    have h3 : a.num.toNat < s.saved.length := by omega
    refine h.put hx ?_ (.inr rfl)
    rw [List.getD_eq_getElem?_getD, List.getElem?_eq_getElem h3]
    exact ((h.sav _ (List.getElem_mem h3)).still).more (by omega)
theorem PInv.save (h : PInv code n t s) {j : Nat} {x : Nod} (hx : s.nodes[j]? = some x) : PInv code n (t + 1) { s with saved := s.saved ++ [still x] } := by
  have hT := h.tick
  refine ⟨hT.lg, hT.loglen, hT.nn, hT.nod, fun y hy => ?_, ?_, hT.gfen, hT.fen, hT.top, hT.one, hT.gate, hT.gatelen⟩
  · rcases List.mem_append.1 hy with hy | hy
    · exact hT.sav y hy
    · rw [List.mem_singleton] at hy
      rw [hy]
      exact (hT.nod j x hx).still
  · show (s.saved ++ [still x]).length ≤ _
    rw [List.length_append]
    have := h.savlen
    simp
    omega
theorem nodAt (h : PInv code n t s) {a : PAct} (h1 : ¬ (a.who < 0 ∨ (s.nodes.length : Int) ≤ a.who)) : ∃ (j : Nat) (x : Nod), a.who = (j : Int) ∧ a.who.toNat = j ∧ j < n ∧ s.nodes[j]? = some x ∧ s.nodes.getD j freshNod = x := by
  have h2 : a.who.toNat < s.nodes.length := by omega
  exact ⟨a.who.toNat, s.nodes[a.who.toNat], by omega, rfl, by have := h.nn; omega, List.getElem?_eq_getElem h2, by rw [List.getD_eq_getElem?_getD, List.getElem?_eq_getElem h2]; rfl⟩
theorem PInv.act (h : PInv code n t s) (hn : n ≤ 4) (a : PAct) : PInv code n (t + 1) (pairAct code s a).1 := by
  unfold pairAct
  split
  · exact h.inputs a
  split
  · exact h.tick
  split
  · exact h.tick
  rename_i h1 h2 h3
  obtain ⟨j, x, h4, h5, h6, h7, h8⟩ := nodAt h h3
  rw [h5, h8]
  split
  · exact h.claim h7 a h4
  split
  · exact h.workd h7 a
  split
  · exact h.sendd h7 a (by omega) (by omega)
  split
  · exact h.loadd h7 a
  split
  · exact h.save h7
  · exact h.put h7 (NodInv.fresh _ _ _) (.inr rfl)
/-- A sending is never told that it is out of bounds, or there already as another one. -/
theorem PInv.ans (h : PInv code n t s) (hn : n ≤ 4) (a : PAct) (hk : a.kind = 4) : (pairAct code s a).2 ≠ 8 ∧ (pairAct code s a).2 ≠ 1 := by
  unfold pairAct
  rw [hk]
  rw [if_neg (by decide), if_neg (by decide)]
  split
  · exact (by decide : (7 : Int) ≠ 8 ∧ (7 : Int) ≠ 1)
  rename_i h3
  obtain ⟨j, x, h4, h5, h6, h7, h8⟩ := nodAt h h3
  rw [h5, h8]
  rw [if_neg (by decide), if_neg (by decide), if_pos rfl]
  rcases sendAct_cases h h7 a (by omega) (by omega) with ⟨r, h1, _, h2, h3⟩ | h1 | ⟨sn, e, _, _, _, _, ⟨_, h1⟩ | ⟨_, h1⟩⟩
  · rw [h1]; exact ⟨h3, h2⟩
  · rw [h1]; exact (by decide : (9 : Int) ≠ 8 ∧ (9 : Int) ≠ 1)
  · rw [h1]; exact (by decide : (0 : Int) ≠ 8 ∧ (0 : Int) ≠ 1)
  · rw [h1]; exact (by decide : (0 : Int) ≠ 8 ∧ (0 : Int) ≠ 1)
/-- Whoever's work, or sending, is let has the fence. -/
theorem PInv.has (h : PInv code n t s) (hn : n ≤ 4) (a : PAct) (hk : a.kind = 3 ∨ a.kind = 4) (h0 : (pairAct code s a).2 = 0) : ∃ (j : Nat) (x : Nod), a.who = (j : Int) ∧ (pairAct code s a).1.nodes[j]? = some x ∧ (pairAct code s a).1.fence = ⟨x.epoch, a.who⟩ ∧ (pairAct code s a).1.gate.fence = ⟨x.epoch, a.who⟩ := by
  have hg := (h.act hn a).gfen
  suffices hs : ∃ (j : Nat) (x : Nod), a.who = (j : Int) ∧ (pairAct code s a).1.nodes[j]? = some x ∧ (pairAct code s a).1.fence = ⟨x.epoch, a.who⟩ by
    obtain ⟨j, x, h1, h2, h3⟩ := hs
    exact ⟨j, x, h1, h2, h3, hg.trans h3⟩
  clear hg
  unfold pairAct at h0 ⊢
  rw [if_neg (by omega), if_neg (by omega)] at h0 ⊢
  by_cases h3 : a.who < 0 ∨ (s.nodes.length : Int) ≤ a.who
  · rw [if_pos h3] at h0; exact absurd (show (7 : Int) = 0 from h0) (by decide)
  rw [if_neg h3] at h0 ⊢
  obtain ⟨j, x, h4, h5, h6, h7, h8⟩ := nodAt h h3
  have hj : j < s.nodes.length := (List.getElem?_eq_some_iff.1 h7).1
  rw [h5, h8] at h0 ⊢
  rw [if_neg (by omega)] at h0 ⊢
  rcases hk with hk | hk
  · rw [if_pos hk] at h0 ⊢
    rcases workAct_is code s j x a with h1 | h1 | ⟨h1, h2⟩
    · rw [h1] at h0; exact absurd (show (9 : Int) = 0 from h0) (by decide)
    · rw [h1] at h0; exact absurd (show (9 : Int) = 0 from h0) (by decide)
    · rw [h1]
      exact ⟨j, _, h4, List.getElem?_set_self hj, h2⟩
  · rw [if_neg (by omega), if_pos hk] at h0 ⊢
    rcases sendAct_cases h h7 a (by omega) (by omega) with ⟨r, h1, h2, _⟩ | h1 | ⟨sn, e, _, _, _, h2, ⟨_, h1⟩ | ⟨_, h1⟩⟩
    · rw [h1] at h0; exact absurd h0 h2
    · rw [h1] at h0; exact absurd (show (9 : Int) = 0 from h0) (by decide)
    · rw [h1]; exact ⟨j, _, h4, List.getElem?_set_self hj, h.gfen.symm.trans h2⟩
    · rw [h1]; exact ⟨j, _, h4, List.getElem?_set_self hj, h.gfen.symm.trans h2⟩
/-- What came in, and what is out, stays; epochs rise. -/
structure Stays (s s' : Pai) : Prop where
  log : s.log <+: s'.log
  out : s.gate.out <+: s'.gate.out
  epoch : s.fence.epoch ≤ s'.fence.epoch
theorem Stays.refl (s : Pai) : Stays s s := ⟨List.prefix_refl _, List.prefix_refl _, Int.le_refl _⟩
theorem Stays.of {s s' : Pai} (h1 : s.log = s'.log) (h2 : s.gate.out = s'.gate.out) (h3 : s.fence = s'.fence) : Stays s s' := ⟨by rw [h1]; exact List.prefix_refl _, by rw [h2]; exact List.prefix_refl _, by rw [h3]; exact Int.le_refl _⟩
theorem Stays.trans {s s' s'' : Pai} (h : Stays s s') (k : Stays s' s'') : Stays s s'' := ⟨h.log.trans k.log, h.out.trans k.out, Int.le_trans h.epoch k.epoch⟩
theorem PInv.stays (h : PInv code n t s) (hn : n ≤ 4) (a : PAct) : Stays s (pairAct code s a).1 := by
  unfold pairAct
  split
  · unfold inputAct
    split
    · exact ⟨List.prefix_append _ _, List.prefix_refl _, Int.le_refl _⟩
    · exact Stays.of rfl rfl rfl
  split
  · exact Stays.of rfl rfl rfl
  split
  · exact Stays.of rfl rfl rfl
  rename_i h1 h2 h3
  obtain ⟨j, x, h4, h5, h6, h7, h8⟩ := nodAt h h3
  rw [h5, h8]
  split
  · rcases claimAct_cases h j x a with h1 | ⟨h1, _, _, _, _, h2⟩
    · rw [h1]; exact Stays.of rfl rfl rfl
    · rw [h1]; exact ⟨List.prefix_refl _, List.prefix_refl _, by show s.fence.epoch ≤ a.num; omega⟩
  split
  · rcases workAct_is code s j x a with h1 | h1 | ⟨h1, _⟩ <;> rw [h1] <;> exact Stays.of rfl rfl rfl
  split
  · rcases sendAct_cases h h7 a (by omega) (by omega) with ⟨r, h1, _⟩ | h1 | ⟨sn, e, _, _, _, _, ⟨_, h1⟩ | ⟨_, h1⟩⟩
    · rw [h1]; exact Stays.of rfl rfl rfl
    · rw [h1]; exact Stays.of rfl rfl rfl
    · rw [h1]; exact Stays.of rfl rfl rfl
    · rw [h1]; exact ⟨List.prefix_refl _, List.prefix_append _ _, Int.le_refl _⟩
  split
  · unfold loadAct
    split
    · exact Stays.of rfl rfl rfl
    split
    · exact Stays.of rfl rfl rfl
    · exact Stays.of rfl rfl rfl
  split
  · exact Stays.of rfl rfl rfl
  · exact Stays.of rfl rfl rfl
end
end Go.Proofs.YtifphhkkpadpoaaDoor
