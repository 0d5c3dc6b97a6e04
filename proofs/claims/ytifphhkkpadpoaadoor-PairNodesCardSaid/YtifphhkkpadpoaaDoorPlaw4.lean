/- The plain law of pairs: the five statements of chapter 18, of what is computed. -/
import Derived.Test.YtifphhkkpadpoaaDoorPlaw3
import Derived.Lib.ItoaLen
namespace Go.Proofs.YtifphhkkpadpoaaDoor
set_option linter.unusedVariables false
section
variable {code : List Ins} {n t : Nat} {s : Pai}
theorem text_size {e : Emit} (h : 0 ≤ e.port ∧ e.port ≤ 3 ∧ is32 e.num = true) : (textOf e).size ≤ 100 := by
  obtain ⟨h1, h2, h3⟩ := h
  simp [is32] at h3
  have h4 := Lib.itoa_length_le e.port (by omega) (by omega)
  have h5 := Lib.itoa_length_le e.num (by omega) (by omega)
  show (Lib.itoa e.port ++ 32 :: Lib.itoa e.num).toArray.size ≤ _
  simp
  omega
theorem PInv.gateCheck (h : PInv code n t s) (ht : t ≤ 1000) (hc : codeCheck code = 0) : gateCheck s.gate = 0 := by
  unfold Go.Proofs.YtifphhkkpadpoaaDoor.gateCheck
  rw [if_neg (by rw [h.gfen]; simpa using h.fen), if_neg]
  rintro (h1 | h1)
  · have := h.gatelen; omega
  · rw [List.any_eq_true] at h1
    obtain ⟨u, h2, h3⟩ := h1
    obtain ⟨k, m, _, h4, h5⟩ := h.gate
    obtain ⟨e, h6, h7⟩ := List.mem_map.1 (h5.subset h2)
    have h8 := iter_small hc k _ _ h4 (st_good h.lg) (fun e he => absurd he List.not_mem_nil) e h6
    have h9 := text_size h8
    rw [h7] at h9
    unfold isLong at h3
    simp at h3
    omega
theorem acts_append (code : List Ins) : ∀ (l m : List PAct) (s : Pai), pairActs code s (l ++ m) = ((pairActs code (pairActs code s l).1 m).1, (pairActs code s l).2 ++ (pairActs code (pairActs code s l).1 m).2)
  | [], m, s => rfl
  | a :: l, m, s => by
    show ((pairActs code (pairAct code s a).1 (l ++ m)).1, (pairAct code s a).2 :: (pairActs code (pairAct code s a).1 (l ++ m)).2) = _
    rw [acts_append code l m]
    rfl
theorem acts_len (code : List Ins) : ∀ (l : List PAct) (s : Pai), (pairActs code s l).2.length = l.length
  | [], s => rfl
  | a :: l, s => by
    show (pairActs code (pairAct code s a).1 l).2.length + 1 = l.length + 1
    rw [acts_len code l]
theorem acts_inv (hn : n ≤ 4) : ∀ (l : List PAct) (t : Nat) (s : Pai), PInv code n t s → PInv code n (t + l.length) (pairActs code s l).1 ∧ Stays s (pairActs code s l).1
  | [], t, s, h => ⟨h, Stays.refl _⟩
  | a :: l, t, s, h => by
    obtain ⟨h1, h2⟩ := acts_inv hn l (t + 1) _ (h.act hn a)
    refine ⟨?_, (h.stays hn a).trans h2⟩
    show PInv code n (t + (l.length + 1)) (pairActs code (pairAct code s a).1 l).1
    rw [show t + (l.length + 1) = t + 1 + l.length by omega]
    exact h1
theorem acts_ans (hn : n ≤ 4) : ∀ (l : List PAct) (t : Nat) (s : Pai), PInv code n t s → ∀ (i : Nat) (a : PAct) (r : Int), l[i]? = some a → (pairActs code s l).2[i]? = some r → a.kind = 4 → r ≠ 8 ∧ r ≠ 1
  | [], t, s, h, i, a, r, h1, _, _ => by cases h1
  | b :: l, t, s, h, i, a, r, h1, h2, h3 => by
    cases i with
    | zero =>
      have h2' : some (pairAct code s b).2 = some r := h2
      injection h1 with h1
      injection h2' with h2'
      rw [← h2']
      subst h1
      exact h.ans hn b h3
    | succ i => exact acts_ans hn l (t + 1) _ (h.act hn b) i a r h1 h2 h3
/-- What a play comes to. -/
theorem play_cases (code : List Ins) (n : Int) (l : List PAct) : ((pairPlay code n l).2.2 ≠ 0 ∧ (pairPlay code n l).1 = noPai ∧ (pairPlay code n l).2.1 = []) ∨ ∃ N : Nat, n = (N : Int) ∧ 1 ≤ N ∧ N ≤ 4 ∧ codeCheck code = 0 ∧ l.length ≤ 100 ∧ pairPlay code n l = ((pairActs code (pairStart N) l).1, (pairActs code (pairStart N) l).2, 0) ∧ PInv code N l.length (pairActs code (pairStart N) l).1 := by
  unfold pairPlay
  by_cases h1 : codeCheck code = 0
  · rw [if_neg (by simpa using h1)]
    by_cases h2 : n < 1 ∨ 4 < n
    · rw [if_pos h2]; exact .inl ⟨by simp, rfl, rfl⟩
    · rw [if_neg h2]
      by_cases h3 : 100 < l.length
      · rw [if_pos h3]; exact .inl ⟨by simp, rfl, rfl⟩
      · rw [if_neg h3]
        have h4 := (acts_inv (code := code) (n := n.toNat) (by omega) l 0 _ (inv_start code n.toNat)).1
        rw [Nat.zero_add] at h4
        exact .inr ⟨n.toNat, by omega, by omega, by omega, h1, by omega, rfl, h4⟩
  · rw [if_pos h1]; exact .inl ⟨h1, rfl, rfl⟩
/-- What a program lets out, with what comes in. -/
def toldText (code : List Ins) (log : List Int) : List ByteArray := (ran code newVm log 5000).1.out.map textOf
theorem PInv.front (h : PInv code n t s) (ht : t ≤ 100) : s.gate.out <+: toldText code s.log := by
  obtain ⟨k, m, h1, h2, h3⟩ := h.gate
  obtain ⟨h4, h5⟩ := iter_le (f := 5000) h2 (by omega)
  obtain ⟨_, o, h6, _⟩ := iter_ext _ _ _ h5
  refine h3.trans ?_
  have h7 : m.out <+: (ran code newVm s.log 5000).1.out := ⟨o, h6.symm⟩
  exact h7.map textOf
/-- Any two that the nodes have, or was kept of them. -/
theorem NodInv.alike {log : List Int} {K : Nat} {x y : Nod} (hx : NodInv code log K x) (hy : NodInv code log K y) : x.outs.take (min x.outs.length y.outs.length) = y.outs.take (min x.outs.length y.outs.length) := by
  obtain ⟨k1, h1, h2⟩ := hx.run
  obtain ⟨k2, h3, h4⟩ := hy.run
  obtain ⟨k, m, _, _, ⟨r1, h5⟩, ⟨r2, h6⟩⟩ := one_run h2 h4 h1 h3
  simp only at h5 h6
  have e1 : x.outs.take (min x.outs.length y.outs.length) = m.out.take (min x.outs.length y.outs.length) := by rw [← h5, List.take_append_of_le_length (Nat.min_le_left _ _)]
  have e2 : y.outs.take (min x.outs.length y.outs.length) = m.out.take (min x.outs.length y.outs.length) := by rw [← h6, List.take_append_of_le_length (Nat.min_le_right _ _)]
  rw [e1, e2]
/-- Behind the last act. -/
theorem PInv.last (hn : n ≤ 4) (h : PInv code n t s) {l : List PAct} {k : Nat} {a : PAct} (hl : l.length = k + 1) (ha : l[k]? = some a) (hk : a.kind = 3 ∨ a.kind = 4) (h0 : (pairActs code s l).2[k]? = some 0) : ∃ (j : Nat) (x : Nod), a.who = (j : Int) ∧ (pairActs code s l).1.nodes[j]? = some x ∧ (pairActs code s l).1.fence = ⟨x.epoch, a.who⟩ ∧ (pairActs code s l).1.gate.fence = ⟨x.epoch, a.who⟩ := by
  obtain ⟨m, b, rfl⟩ : ∃ m b, l = m ++ [b] := by
    rcases List.eq_nil_or_concat l with h1 | ⟨m, b, h1⟩
    · rw [h1] at hl; cases hl
    · exact ⟨m, b, by simpa using h1⟩
  have hm : m.length = k := by simpa using hl
  subst hm
  rw [List.getElem?_append_right (Nat.le_refl _), Nat.sub_self] at ha
  injection ha with ha
  subst ha
  rw [acts_append] at h0 ⊢
  have h1 := (acts_inv hn m t s h).1
  rw [List.getElem?_append_right (by rw [acts_len]; exact Nat.le_refl _), acts_len, Nat.sub_self] at h0
  have h2 : some (pairAct code (pairActs code s m).1 b).2 = some 0 := h0
  injection h2 with h2
  exact h1.has hn b hk h2
/- The whole of it comes out, if one claims, works and sends long enough. -/
theorem wait_inp {m : Mach} (h : step code m = none) : m.inp = [] := by
  obtain ⟨v, inp, out⟩ := m
  unfold step at h
  split at h
  · cases h
  · unfold exec at h
    simp only at h
    repeat' split at h
    all_goals first | (cases h; done) | rfl
theorem iter_cap {U k : Nat} {m e m' : Mach} (h1 : iter code U m = some e) (he : Ended code e) (h2 : iter code k m = some m') : k ≤ U := by
  rcases Nat.lt_or_ge U k with h | h
  · obtain ⟨c, rfl⟩ := Nat.le.dest (Nat.le_of_lt h)
    rw [iter_add U c _ _ h1] at h2
    have := (iter_ended he h2).1
    omega
  · exact h
theorem iter_all {U k : Nat} {m e m' : Mach} (h1 : iter code U m = some e) (he : Ended code e) (h2 : iter code k m = some m') (hm : Ended code m') : k = U ∧ m' = e := by
  have h3 := iter_cap h1 he h2
  have h4 := iter_cap h2 hm h1
  have h5 : k = U := by omega
  subst h5
  rw [h1] at h2
  injection h2 with h2
  exact ⟨rfl, h2.symm⟩
/-- How far a node is behind w stretches of work. -/
def Far (code : List Ins) (log : List Int) (U w : Nat) (x : Nod) : Prop := ∃ k, iter code k (st log) = some ⟨x.vm, log.drop x.read.toNat, x.outs⟩ ∧ (k = U ∨ 50 * w ≤ k + 50 * x.read.toNat)
theorem wait_any {v : Vm} {o : List Emit} (h : step code ⟨v, [], o⟩ = none) (o' : List Emit) : step code ⟨v, [], o'⟩ = none := by
  have h1 := step_pre code ⟨v, [], []⟩ o'
  have h2 := step_pre code ⟨v, [], []⟩ o
  have e1 : pre o' ⟨v, [], []⟩ = (⟨v, [], o'⟩ : Mach) := by unfold pre; simp
  have e2 : pre o ⟨v, [], []⟩ = (⟨v, [], o⟩ : Mach) := by unfold pre; simp
  rw [e1] at h1
  rw [e2, h] at h2
  rw [h1]
  cases hs : step code ⟨v, [], []⟩ with
  | none => rfl
  | some q => rw [hs] at h2; cases h2
theorem Far.work {log : List Int} {K U w : Nat} {x : Nod} {e : Mach} (hU : iter code U (st log) = some e) (he : Ended code e) (hx : NodInv code log K x) (h : Far code log U w x) : Far code log U (w + 1) (worked code log x) := by
  obtain ⟨k, h1, h2⟩ := h
  obtain ⟨u, c, o, v, h3, h4, h5, h6, h7⟩ := hx.goes
  have h0 := hx.rd0
  have hd : ((fed log x.read).drop c).length = (fed log x.read).length - c := List.length_drop
  have hr : (x.read + ((fed log x.read).length - ((fed log x.read).drop c).length) : Int) = x.read + c := by omega
  have hw : worked code log x = { x with vm := v, outs := x.outs ++ o, read := x.read + c } := by
    unfold worked
    rw [h3]
    simp only
    rw [hr]
  rw [hw]
  have hrn : (x.read + (c : Int)).toNat = x.read.toNat + c := by omega
  have h8 : iter code (k + u) (st log) = some ⟨v, log.drop (x.read.toNat + c), x.outs ++ o⟩ := by rw [iter_add k u _ _ h1, h6]
  refine ⟨k + u, by show _ = some (⟨v, log.drop (x.read + (c : Int)).toNat, x.outs ++ o⟩ : Mach); rw [hrn]; exact h8, ?_⟩
  show k + u = U ∨ 50 * (w + 1) ≤ k + u + 50 * (x.read + (c : Int)).toNat
  rw [hrn]
  have hcap := iter_cap hU he h8
  rcases h2 with h2 | h2
  · left; omega
  · by_cases hu : u < 50
    · have hE := h7 hu
      rcases hE with hE | hE
      · left
        exact (iter_all hU he h8 (.inl hE)).1
      · have hi := wait_inp hE
        simp only at hi
        have hc : c = (fed log x.read).length := by
          have : ((fed log x.read).drop c).length = 0 := by rw [hi]; rfl
          omega
        by_cases hf : (fed log x.read).length = 0
        · left
          have hdl : log.drop x.read.toNat = [] := by
            unfold fed at hf
            rw [List.length_take] at hf
            exact List.length_eq_zero_iff.1 (by omega)
          have hdl2 : log.drop (x.read.toNat + c) = [] := by rw [← drop_drop_len, hdl]; exact List.drop_nil
          refine (iter_all hU he h8 ?_).1
          rw [hdl2]
          rw [hi] at hE
          exact .inr (wait_any hE _)
        · right
          have := fed_le log x.read
          omega
    · right; omega
/-- One has the fence, and works. -/
structure Has (code : List Ins) (n : Nat) (E : Int) (j : Nat) (s : Pai) (x : Nod) : Prop where
  at_ : s.nodes[j]? = some x
  ep : x.epoch = E
  pos : E ≠ 0
  fen : s.fence = ⟨E, (j : Int)⟩
theorem Has.pass {E : Int} {j : Nat} {x : Nod} (h : PInv code n t s) (hn : n ≤ 4) (hh : Has code n E j s x) : j < n ∧ fencePass s.fence.epoch s.fence.owner (j : Int) x.epoch = (true, 0) := by
  have hj : j < s.nodes.length := (List.getElem?_eq_some_iff.1 hh.at_).1
  rw [h.nn] at hj
  have hep := (h.nod j x hh.at_).ep
  have h1 := hh.ep
  have h2 := hh.pos
  have hm := fenceMay_mk (w := (j : Int)) (n := x.epoch) h.fen (by omega) (by omega) (by omega) (by omega)
  refine ⟨hj, ?_⟩
  unfold fencePass
  rw [if_neg (by simpa using hm), hh.fen]
  simp [h1]
theorem act_who {j : Nat} {x : Nod} (h : s.nodes[j]? = some x) : ¬ ((j : Int) < 0 ∨ (s.nodes.length : Int) ≤ (j : Int)) ∧ s.nodes.getD j freshNod = x := by
  have hj : j < s.nodes.length := (List.getElem?_eq_some_iff.1 h).1
  exact ⟨by omega, by rw [List.getD_eq_getElem?_getD, h]; rfl⟩
theorem Has.work {E : Int} {j : Nat} {x : Nod} (h : PInv code n t s) (hn : n ≤ 4) (hh : Has code n E j s x) : (pairAct code s ⟨3, (j : Int), 0⟩).1 = setNod s j (worked code s.log x) := by
  obtain ⟨h1, h2⟩ := act_who hh.at_
  unfold pairAct
  dsimp only
  rw [if_neg (by decide), if_neg (by decide), if_neg h1, if_neg (by decide), if_pos rfl]
  simp only [Int.toNat_natCast]
  rw [h2]
  unfold workAct
  rw [if_neg (by rw [hh.ep]; exact hh.pos)]
  simp only
  rw [(hh.pass h hn).2]
  rfl
theorem works {E : Int} {j U : Nat} {e : Mach} (hn : n ≤ 4) : ∀ (w w0 t : Nat) (s : Pai) (x : Nod), PInv code n t s → Has code n E j s x → iter code U (st s.log) = some e → Ended code e → Far code s.log U w0 x → x.sent = 0 → ∃ x', PInv code n (t + w) (pairActs code s (List.replicate w ⟨3, (j : Int), 0⟩)).1 ∧ Has code n E j (pairActs code s (List.replicate w ⟨3, (j : Int), 0⟩)).1 x' ∧ (pairActs code s (List.replicate w ⟨3, (j : Int), 0⟩)).1.log = s.log ∧ (pairActs code s (List.replicate w ⟨3, (j : Int), 0⟩)).1.gate = s.gate ∧ Far code s.log U (w0 + w) x' ∧ x'.sent = 0
  | 0, w0, t, s, x, h, hh, _, _, hF, hs => ⟨x, h, hh, rfl, rfl, hF, hs⟩
  | w + 1, w0, t, s, x, h, hh, hU, he, hF, hs => by
    have h1 := hh.work h hn
    have hI := h.act hn ⟨3, (j : Int), 0⟩
    rw [h1] at hI
    have hj : j < s.nodes.length := (List.getElem?_eq_some_iff.1 hh.at_).1
    obtain ⟨x', g1, g2, g3, g4, g5, g6⟩ := works hn w (w0 + 1) (t + 1) (setNod s j (worked code s.log x)) (worked code s.log x) hI ⟨List.getElem?_set_self hj, hh.ep, hh.pos, hh.fen⟩ hU he (hF.work hU he (h.nod j x hh.at_)) hs
    have e1 : (pairActs code s (List.replicate (w + 1) ⟨3, (j : Int), 0⟩)).1 = (pairActs code (setNod s j (worked code s.log x)) (List.replicate w ⟨3, (j : Int), 0⟩)).1 := by
      rw [List.replicate_succ]
      show (pairActs code (pairAct code s ⟨3, (j : Int), 0⟩).1 _).1 = _
      rw [h1]
    rw [e1, show t + (w + 1) = t + 1 + w by omega, show w0 + (w + 1) = w0 + 1 + w by omega]
    exact ⟨x', g1, g2, g3, g4, g5, g6⟩
theorem Has.send {E : Int} {j i : Nat} {x : Nod} {em : Emit} (h : PInv code n t s) (hn : n ≤ 4) (hc : codeCheck code = 0) (hh : Has code n E j s x) (hi : x.sent = (i : Int)) (hem : x.outs[i]? = some em) (hil : i < 1000) (hgl : i ≤ s.gate.out.length) :
    ∃ g, (pairAct code s ⟨4, (j : Int), 0⟩).1 = setNod { s with gate := g } j { x with sent := x.sent + 1 } ∧ g.fence = s.gate.fence ∧ i + 1 ≤ g.out.length := by
  obtain ⟨h1, h2⟩ := act_who hh.at_
  have hil' : i < x.outs.length := (List.getElem?_eq_some_iff.1 hem).1
  have hw : gateWrong s.gate ⟨(j : Int), x.epoch, (i : Int), textOf em⟩ = 0 := by
    have hp := (hh.pass h hn).2
    rw [← h.gfen] at hp
    have hsm : isLong (textOf em) = false := by
      have := text_size ((h.nod j x hh.at_).small hc h.lg em (List.mem_of_getElem? hem))
      unfold isLong
      exact decide_eq_false (by omega)
    unfold gateWrong
    simp only
    rw [hp, hsm]
    simp only [Int.toNat_natCast]
    rw [if_neg (by simp), if_neg (by simp), if_neg (by simp), if_neg (by omega), if_neg (by omega), if_neg, if_neg (by omega)]
    rintro ⟨h3, h4⟩
    have h5 : i < s.gate.out.length := by omega
    exact h4 (by rw [List.getElem?_eq_getElem h5, (h.hand hh.at_ hem).1 _ (List.getElem?_eq_getElem h5)])
  unfold pairAct
  dsimp only
  rw [if_neg (by decide), if_neg (by decide), if_neg h1, if_neg (by decide), if_neg (by decide), if_pos rfl]
  simp only [Int.toNat_natCast]
  rw [h2]
  unfold sendAct
  rw [if_neg (by rw [hh.ep]; exact hh.pos), if_neg (by omega)]
  have hd : handed x ⟨4, (j : Int), 0⟩ = ⟨(j : Int), x.epoch, (i : Int), textOf em⟩ := by
    unfold handed
    rw [hi, Int.toNat_natCast, List.getD_eq_getElem?_getD, hem]
    rfl
  rw [hd]
  have hgh : gateHand s.gate ⟨(j : Int), x.epoch, (i : Int), textOf em⟩ = if (i : Int) < s.gate.out.length then (s.gate, false, 0) else (⟨s.gate.fence, s.gate.out ++ [textOf em]⟩, true, 0) := by unfold gateHand; rw [if_neg (fun hx => hx hw)]
  rw [hgh]
  by_cases hlt : i < s.gate.out.length
  · rw [if_pos (show ((i : Int) < s.gate.out.length) by omega)]
    exact ⟨s.gate, rfl, rfl, hlt⟩
  · rw [if_neg (show ¬ ((i : Int) < s.gate.out.length) by omega)]
    exact ⟨_, rfl, rfl, by simp; omega⟩
theorem sends {E : Int} {j : Nat} (hn : n ≤ 4) (hc : codeCheck code = 0) : ∀ (a i t : Nat) (s : Pai) (x : Nod), PInv code n t s → Has code n E j s x → x.sent = (i : Int) → x.outs.length = i + a → i + a ≤ 1000 → i ≤ s.gate.out.length → PInv code n (t + a) (pairActs code s (List.replicate a ⟨4, (j : Int), 0⟩)).1 ∧ (pairActs code s (List.replicate a ⟨4, (j : Int), 0⟩)).1.log = s.log ∧ i + a ≤ (pairActs code s (List.replicate a ⟨4, (j : Int), 0⟩)).1.gate.out.length
  | 0, i, t, s, x, h, hh, hi, ho, hl, hg => ⟨h, rfl, hg⟩
  | a + 1, i, t, s, x, h, hh, hi, ho, hl, hg => by
    have hil : i < x.outs.length := by omega
    obtain ⟨g, h1, h2, h3⟩ := hh.send h hn hc hi (List.getElem?_eq_getElem hil) (by omega) hg
    have hI := h.act hn ⟨4, (j : Int), 0⟩
    rw [h1] at hI
    have hj : j < s.nodes.length := (List.getElem?_eq_some_iff.1 hh.at_).1
    obtain ⟨g1, g2, g3⟩ := sends hn hc a (i + 1) (t + 1) (setNod { s with gate := g } j { x with sent := x.sent + 1 }) { x with sent := x.sent + 1 } hI ⟨List.getElem?_set_self hj, hh.ep, hh.pos, hh.fen⟩ (by show x.sent + 1 = _; omega) (by show x.outs.length = _; omega) (by omega) h3
    have e1 : (pairActs code s (List.replicate (a + 1) ⟨4, (j : Int), 0⟩)).1 = (pairActs code (setNod { s with gate := g } j { x with sent := x.sent + 1 }) (List.replicate a ⟨4, (j : Int), 0⟩)).1 := by
      rw [List.replicate_succ]
      show (pairActs code (pairAct code s ⟨4, (j : Int), 0⟩).1 _).1 = _
      rw [h1]
    rw [e1, show t + (a + 1) = t + 1 + a by omega, show i + (a + 1) = i + 1 + a by omega]
    exact ⟨g1, g2, g3⟩
theorem Has.claim {j : Nat} {x : Nod} {E : Int} (h : PInv code n t s) (hn : n ≤ 4) (hx : s.nodes[j]? = some x) (hE : s.fence.epoch < E) (hE2 : E ≤ 2147483647) :
    (pairAct code s ⟨2, (j : Int), E⟩).1 = setNod { s with fence := ⟨E, (j : Int)⟩, gate := ⟨⟨E, (j : Int)⟩, s.gate.out⟩ } j { x with epoch := E, sent := 0 } := by
  obtain ⟨h1, h2⟩ := act_who hx
  have hj : j < s.nodes.length := (List.getElem?_eq_some_iff.1 hx).1
  rw [h.nn] at hj
  have h0 := (fenceCheck_nn h.fen).1
  have hm := fenceMay_mk (w := (j : Int)) (n := E) h.fen (by omega) (by omega) (by omega) (by omega)
  unfold pairAct
  dsimp only
  rw [if_neg (by decide), if_neg (by decide), if_neg h1, if_pos rfl]
  simp only [Int.toNat_natCast]
  rw [h2]
  have hcl : claimed s.fence.epoch s.fence.owner (j : Int) E = ⟨E, (j : Int)⟩ := by unfold claimed; rw [if_pos hE]
  have hf : fenceClaim s.fence.epoch s.fence.owner (j : Int) E = (E, (j : Int), true, 0) := by
    unfold fenceClaim
    rw [if_neg (by simpa using hm), hcl]
    simp
  unfold claimAct gateClaim
  rw [h.gfen]
  simp only
  rw [hf]
  simp
/-- Whatever has happened: all comes out. -/
theorem all_out (h : PInv code n t s) (hn : n ≤ 4) (hc : codeCheck code = 0) {j : Nat} (hj : j < n) {E : Int} (hE : s.fence.epoch < E) (hE2 : E ≤ 2147483647) (hU : (ran code newVm s.log 5000).2 < 5000) (crash : List PAct) (hcr : crash = [] ∨ crash = [⟨7, (j : Int), 0⟩])
    (ht : t + (crash ++ (⟨2, (j : Int), E⟩ : PAct) :: (List.replicate ((ran code newVm s.log 5000).2 / 50 + s.log.length + 2) (⟨3, (j : Int), 0⟩ : PAct) ++ List.replicate (toldText code s.log).length (⟨4, (j : Int), 0⟩ : PAct))).length ≤ 100) :
    (pairActs code s (crash ++ (⟨2, (j : Int), E⟩ : PAct) :: (List.replicate ((ran code newVm s.log 5000).2 / 50 + s.log.length + 2) (⟨3, (j : Int), 0⟩ : PAct) ++ List.replicate (toldText code s.log).length (⟨4, (j : Int), 0⟩ : PAct)))).1.gate.out = toldText code s.log := by
  have hjl : j < s.nodes.length := by rw [h.nn]; exact hj
  -- behind the crash, if there is one
  obtain ⟨s0, t0, x0, e0, h0, hx0, hl0, hf0, hg0, ht0⟩ : ∃ s0 t0 x0, (pairActs code s crash).1 = s0 ∧ PInv code n t0 s0 ∧ s0.nodes[j]? = some x0 ∧ s0.log = s.log ∧ s0.fence = s.fence ∧ s0.gate = s.gate ∧ t0 = t + crash.length := by
    rcases hcr with rfl | rfl
    · exact ⟨s, t, s.nodes[j], rfl, h, List.getElem?_eq_getElem hjl, rfl, rfl, rfl, rfl⟩
    · obtain ⟨h1, h2⟩ := act_who (List.getElem?_eq_getElem hjl)
      have e : (pairAct code s ⟨7, (j : Int), 0⟩).1 = setNod s j freshNod := by
        unfold pairAct
        dsimp only
        rw [if_neg (by decide), if_neg (by decide), if_neg h1, if_neg (by decide), if_neg (by decide), if_neg (by decide), if_neg (by decide), if_neg (by decide)]
        rfl
      have hI := h.act hn ⟨7, (j : Int), 0⟩
      rw [e] at hI
      exact ⟨setNod s j freshNod, t + 1, freshNod, by show (pairAct code s ⟨7, (j : Int), 0⟩).1 = _; exact e, hI, List.getElem?_set_self hjl, rfl, rfl, rfl, rfl⟩
  rw [acts_append, e0]
  show (pairActs code (pairAct code s0 ⟨2, (j : Int), E⟩).1 _).1.gate.out = _
  have hc1 := Has.claim h0 hn hx0 (by rw [hf0]; exact hE) hE2
  have hI1 := h0.act hn ⟨2, (j : Int), E⟩
  rw [hc1] at hI1 ⊢
  have hjl0 : j < s0.nodes.length := (List.getElem?_eq_some_iff.1 hx0).1
  have hE0 : E ≠ 0 := by have := (fenceCheck_nn h.fen).1; omega
  generalize hs1 : setNod { s0 with fence := ⟨E, (j : Int)⟩, gate := ⟨⟨E, (j : Int)⟩, s0.gate.out⟩ } j { x0 with epoch := E, sent := 0 } = s1 at *
  have hh1 : Has code n E j s1 { x0 with epoch := E, sent := 0 } := by
    subst hs1
    exact ⟨List.getElem?_set_self hjl0, rfl, hE0, rfl⟩
  have hl1 : s1.log = s.log := by subst hs1; exact hl0
  obtain ⟨_, hit⟩ := runs_iter (code := code) 5000 (st s.log)
  have hend := runs_ended (code := code) 5000 (st s.log) hU
  have hran : ran code newVm s.log 5000 = runs code 5000 (st s.log) := rfl
  unfold toldText at ht ⊢
  rw [hran] at ht hU ⊢
  generalize runs code 5000 (st s.log) = R at *
  rw [acts_append]
  obtain ⟨k0, _, hk0⟩ := (h0.nod j x0 hx0).run
  obtain ⟨x2, i2, hh2, hl2, hg2, hF2, hs2⟩ := works hn (R.2 / 50 + s.log.length + 2) 0 (t0 + 1) s1 _ hI1 hh1 (by rw [hl1]; exact hit) hend ⟨k0, by rw [hl1, ← hl0]; exact hk0, .inr (by omega)⟩ rfl
  generalize hs2' : (pairActs code s1 (List.replicate (R.2 / 50 + s.log.length + 2) ⟨3, (j : Int), 0⟩)).1 = s2 at *
  rw [hl1] at hl2 hF2
  -- the node has done it all
  have hout : x2.outs = R.1.out := by
    obtain ⟨k, g1, g2⟩ := hF2
    have g3 := iter_cap hit hend g1
    have g4 : k = R.2 := by
      rcases g2 with g2 | g2
      · exact g2
      · have g5 := (i2.nod j x2 hh2.at_).rd1
        rw [hl2] at g5
        omega
    subst g4
    rw [hit] at g1
    injection g1 with g1
    rw [g1]
  rw [List.length_append, List.length_cons, List.length_append, List.length_replicate, List.length_replicate, List.length_map] at ht
  have hlo : x2.outs.length = 0 + R.1.out.length := by rw [hout, Nat.zero_add]
  obtain ⟨i3, hl3, hg3⟩ := sends hn hc R.1.out.length 0 _ s2 x2 i2 hh2 hs2 hlo (by omega) (Nat.zero_le _)
  rw [List.length_map]
  generalize (pairActs code s2 (List.replicate R.1.out.length ⟨4, (j : Int), 0⟩)).1 = s3 at *
  have hfr := i3.front (by omega)
  unfold toldText at hfr
  rw [hl3, hl2, hran] at hfr
  exact hfr.eq_of_length (by have := hfr.length_le; rw [List.length_map] at this ⊢; omega)
end
end Go.Proofs.YtifphhkkpadpoaaDoor
