/- The plain law of pairs: what stands after each act. -/
import Derived.Test.YtifphhkkpadpoaaDoorPlaw
namespace Go.Proofs.YtifphhkkpadpoaaDoor
/-- A node is somewhere on the one run over what came in. -/
structure NodInv (code : List Ins) (log : List Int) (K : Nat) (x : Nod) : Prop where
  rd0 : 0 ≤ x.read
  rd1 : x.read ≤ log.length
  run : ∃ k, k ≤ K ∧ iter code k (st log) = some ⟨x.vm, log.drop x.read.toNat, x.outs⟩
  sn0 : 0 ≤ x.sent
  sn1 : x.sent ≤ x.outs.length
  ep : x.epoch = 0 ∨ (1 ≤ x.epoch ∧ x.epoch ≤ 2147483647)
section
variable {code : List Ins} {log : List Int} {K K' : Nat} {x : Nod}
theorem NodInv.more (h : NodInv code log K x) (hk : K ≤ K') : NodInv code log K' x :=
  ⟨h.rd0, h.rd1, by obtain ⟨k, h1, h2⟩ := h.run; exact ⟨k, Nat.le_trans h1 hk, h2⟩, h.sn0, h.sn1, h.ep⟩
theorem NodInv.logs (h : NodInv code log K x) (r : List Int) : NodInv code (log ++ r) K x :=
  ⟨h.rd0, by have := h.rd1; rw [List.length_append]; omega, by
    obtain ⟨k, h1, h2⟩ := h.run
    refine ⟨k, h1, ?_⟩
    have h3 := iter_feed k _ _ h2 r
    have h4 : x.read.toNat ≤ log.length := by have := h.rd0; have := h.rd1; omega
    rw [List.drop_append_of_le_length h4]
    exact h3, h.sn0, h.sn1, h.ep⟩
theorem NodInv.fresh (code : List Ins) (log : List Int) (K : Nat) : NodInv code log K freshNod :=
  ⟨Int.le_refl _, by show (0 : Int) ≤ _; omega, ⟨0, Nat.zero_le _, rfl⟩, Int.le_refl _, Int.le_refl _, .inl rfl⟩
theorem NodInv.still (h : NodInv code log K x) : NodInv code log K (still x) :=
  ⟨h.rd0, h.rd1, h.run, Int.le_refl _, by show (0 : Int) ≤ _; omega, .inl rfl⟩
theorem NodInv.drop (h : NodInv code log K x) : NodInv code log K { x with epoch := 0 } :=
  ⟨h.rd0, h.rd1, h.run, h.sn0, h.sn1, .inl rfl⟩
theorem NodInv.claim (h : NodInv code log K x) {e : Int} (h1 : 1 ≤ e) (h2 : e ≤ 2147483647) : NodInv code log K { x with epoch := e, sent := 0 } :=
  ⟨h.rd0, h.rd1, h.run, Int.le_refl _, by show (0 : Int) ≤ _; omega, .inr ⟨h1, h2⟩⟩
theorem NodInv.send (h : NodInv code log K x) (hs : x.sent ≠ x.outs.length) : NodInv code log K { x with sent := x.sent + 1 } :=
  ⟨h.rd0, h.rd1, h.run, by have := h.sn0; show 0 ≤ x.sent + 1; omega, by have := h.sn1; show x.sent + 1 ≤ _; simp only; omega, h.ep⟩
theorem NodInv.good (h : NodInv code log K x) (hc : codeCheck code = 0) (hl : ∀ z, z ∈ log → is32 z = true) : Good code ⟨x.vm, log.drop x.read.toNat, x.outs⟩ := by
  obtain ⟨k, _, h2⟩ := h.run
  exact iter_good hc k _ _ h2 (st_good hl)
theorem NodInv.small (h : NodInv code log K x) (hc : codeCheck code = 0) (hl : ∀ z, z ∈ log → is32 z = true) : SmallOut x.outs := by
  obtain ⟨k, _, h2⟩ := h.run
  exact iter_small hc k _ _ h2 (st_good hl) (fun e he => absurd he List.not_mem_nil)
theorem NodInv.outs_le (h : NodInv code log K x) : x.outs.length ≤ K := by
  obtain ⟨k, h1, h2⟩ := h.run
  obtain ⟨_, o, h3, h4⟩ := iter_ext k _ _ h2
  have h5 : x.outs = o := h3
  rw [h5]; omega
theorem fed_le (log : List Int) (r : Int) : (fed log r).length ≤ 1 := by unfold fed; rw [List.length_take]; omega
theorem fed_is32 (hl : ∀ z, z ∈ log → is32 z = true) (r : Int) : (fed log r).all is32 = true := by
  rw [List.all_eq_true]
  exact fun z hz => hl z (List.mem_of_mem_drop (List.mem_of_mem_take hz))
theorem NodInv.runErr (h : NodInv code log K x) (hc : codeCheck code = 0) (hl : ∀ z, z ∈ log → is32 z = true) : runErr code x.vm (fed log x.read) 50 = 0 := by
  have hg := h.good hc hl
  have h1 := hg.lo; have h2 := hg.hi; have h3 := hg.len; have h4 := hg.regs; have h5 := hg.one
  simp only at h1 h2 h3 h4 h5
  have h6 := (codeCheck_all hc).1
  have hv : vmRight x.vm = 0 := by
    unfold vmRight
    rw [if_pos ⟨h1, by omega, h3, h5, by rw [List.all_eq_true]; exact h4⟩]
  unfold Go.Proofs.YtifphhkkpadpoaaDoor.runErr
  rw [if_neg (by simpa using hc), if_neg (by simpa using hv), if_neg, if_neg (by omega), if_neg]
  · have := fed_le log x.read; omega
  · rw [fed_is32 hl]; simp; exact h2
theorem drop_drop_len (log : List Int) (r c : Nat) : (log.drop r).drop c = log.drop (r + c) := by rw [List.drop_drop]
/-- A stretch of work goes on along the run. -/
theorem NodInv.goes (_h : NodInv code log K x) : ∃ (u c : Nat) (o : List Emit) (v : Vm), ran code x.vm (fed log x.read) 50 = (⟨v, (fed log x.read).drop c, o⟩, u) ∧ c ≤ (fed log x.read).length ∧ u ≤ 50 ∧
    iter code u ⟨x.vm, log.drop x.read.toNat, x.outs⟩ = some ⟨v, log.drop (x.read.toNat + c), x.outs ++ o⟩ ∧ (u < 50 → Ended code ⟨v, (fed log x.read).drop c, o⟩) := by
  have h1 := runs_iter (code := code) 50 ⟨x.vm, fed log x.read, []⟩
  have h2 := runs_ended (code := code) 50 ⟨x.vm, fed log x.read, []⟩
  have hr : ran code x.vm (fed log x.read) 50 = runs code 50 ⟨x.vm, fed log x.read, []⟩ := rfl
  rw [hr]
  generalize runs code 50 ⟨x.vm, fed log x.read, []⟩ = q at *
  obtain ⟨⟨v, i, o⟩, u⟩ := q
  obtain ⟨h3, h4⟩ := h1
  simp only at h3 h4 h2
  obtain ⟨⟨c, h5, h6⟩, _⟩ := iter_ext u _ _ h4
  simp only at h5 h6
  subst h6
  refine ⟨u, c, o, v, rfl, h5, h3, ?_, h2⟩
  have h7 := iter_pre u _ _ (iter_feed u _ _ h4 ((log.drop x.read.toNat).drop 1)) x.outs
  have e1 : pre x.outs (feed ⟨x.vm, fed log x.read, []⟩ ((log.drop x.read.toNat).drop 1)) = ⟨x.vm, log.drop x.read.toNat, x.outs⟩ := by
    unfold pre feed fed
    simp only [List.append_nil]
    rw [List.take_append_drop]
  have e2 : pre x.outs (feed ⟨v, (fed log x.read).drop c, o⟩ ((log.drop x.read.toNat).drop 1)) = ⟨v, log.drop (x.read.toNat + c), x.outs ++ o⟩ := by
    unfold pre feed
    simp only
    rw [← List.drop_append_of_le_length h5, ← drop_drop_len]
    unfold fed
    rw [List.take_append_drop]
  rw [e1, e2] at h7
  exact h7
def worked (code : List Ins) (log : List Int) (x : Nod) : Nod := { x with vm := (ran code x.vm (fed log x.read) 50).1.vm, outs := x.outs ++ (ran code x.vm (fed log x.read) 50).1.out, read := x.read + ((fed log x.read).length - (ran code x.vm (fed log x.read) 50).1.inp.length) }
theorem NodInv.work (h : NodInv code log K x) : NodInv code log (K + 50) (worked code log x) := by
  obtain ⟨u, c, o, v, h1, h2, h3, h4, _⟩ := h.goes
  have h0 := h.rd0
  have hl : (fed log x.read).length ≤ log.length - x.read.toNat := by unfold fed; rw [List.length_take, List.length_drop]; omega
  have hd : ((fed log x.read).drop c).length = (fed log x.read).length - c := List.length_drop
  have hr : (x.read + ((fed log x.read).length - ((fed log x.read).drop c).length) : Int) = x.read + c := by omega
  have hw : worked code log x = { x with vm := v, outs := x.outs ++ o, read := x.read + c } := by
    unfold worked
    rw [h1]
    simp only
    rw [hr]
  rw [hw]
  obtain ⟨k, h5, h6⟩ := h.run
  refine ⟨by show 0 ≤ x.read + c; omega, ?_, ⟨k + u, by omega, ?_⟩, h.sn0, ?_, h.ep⟩
  · show x.read + (c : Int) ≤ _
    have := h.rd1
    omega
  · rw [iter_add k u _ _ h6, h4]
    show some _ = some _
    rw [show (x.read + (c : Int)).toNat = x.read.toNat + c by omega]
  · have := h.sn1
    show x.sent ≤ ((x.outs ++ o).length : Int)
    rw [List.length_append]
    omega
end
/-- What stands after t acts. -/
structure PInv (code : List Ins) (n t : Nat) (s : Pai) : Prop where
  lg : ∀ z, z ∈ s.log → is32 z = true
  loglen : s.log.length ≤ t
  nn : s.nodes.length = n
  nod : ∀ (j : Nat) (x : Nod), s.nodes[j]? = some x → NodInv code s.log (50 * t) x
  sav : ∀ x, x ∈ s.saved → NodInv code s.log (50 * t) x
  savlen : s.saved.length ≤ t
  gfen : s.gate.fence = s.fence
  fen : fenceCheck s.fence.epoch s.fence.owner = 0
  top : ∀ (j : Nat) (x : Nod), s.nodes[j]? = some x → x.epoch ≤ s.fence.epoch ∧ (x.epoch ≠ 0 → x.epoch = s.fence.epoch → s.fence.owner = j)
  one : ∀ (i j : Nat) (x y : Nod), s.nodes[i]? = some x → s.nodes[j]? = some y → x.epoch ≠ 0 → x.epoch = y.epoch → i = j
  gate : ∃ k m, k ≤ 50 * t ∧ iter code k (st s.log) = some m ∧ s.gate.out <+: m.out.map textOf
  gatelen : s.gate.out.length ≤ t
theorem fenceCheck_nn {e o : Int} (h : fenceCheck e o = 0) : 0 ≤ e ∧ e ≤ 2147483647 := by
  unfold fenceCheck at h
  split at h
  · rename_i h1
    rcases h1 with h1 | h1
    · omega
    · simp [isEpoch] at h1
      omega
  · cases h
theorem inv_start (code : List Ins) (n : Nat) : PInv code n 0 (pairStart n) := by
  have hf : ∀ j x, (List.replicate n freshNod)[j]? = some x → x = freshNod := fun j x hx => List.eq_of_mem_replicate (List.mem_of_getElem? hx)
  refine ⟨fun z hz => absurd hz List.not_mem_nil, Nat.le_refl _, List.length_replicate, fun j x hx => ?_, fun x hx => absurd hx List.not_mem_nil, Nat.le_refl _, rfl, rfl, fun j x hx => ?_, fun i j x y hx hy hne _ => ?_, ⟨0, _, Nat.le_refl _, rfl, List.nil_prefix⟩, Nat.le_refl _⟩
  · rw [hf j x hx]; exact NodInv.fresh _ _ _
  · rw [hf j x hx]; exact ⟨Int.le_refl _, fun h => absurd rfl h⟩
  · rw [hf i x hx] at hne; exact absurd rfl hne
section
variable {code : List Ins} {n t : Nat} {s : Pai}
theorem PInv.tick (h : PInv code n t s) : PInv code n (t + 1) s :=
  ⟨h.lg, by have := h.loglen; omega, h.nn, fun j x hx => (h.nod j x hx).more (by omega), fun x hx => (h.sav x hx).more (by omega), by have := h.savlen; omega, h.gfen, h.fen, h.top, h.one, by
    obtain ⟨k, m, h1, h2, h3⟩ := h.gate
    exact ⟨k, m, by omega, h2, h3⟩, by have := h.gatelen; omega⟩
theorem getNod {l : List Nod} {j i : Nat} {x y : Nod} (hj : j < l.length) (h : (l.set j x)[i]? = some y) : (i = j ∧ y = x) ∨ (i ≠ j ∧ l[i]? = some y) := by
  by_cases hij : i = j
  · subst hij
    rw [List.getElem?_set_self hj] at h
    injection h with h
    exact .inl ⟨rfl, h.symm⟩
  · rw [List.getElem?_set_ne (Ne.symm hij)] at h
    exact .inr ⟨hij, h⟩
/-- A node was put in another one's stead, of the same epoch or none. -/
theorem PInv.put (h : PInv code n t s) {j : Nat} {x x' : Nod} (hx : s.nodes[j]? = some x) (hn : NodInv code s.log (50 * (t + 1)) x') (he : x'.epoch = x.epoch ∨ x'.epoch = 0) : PInv code n (t + 1) (setNod s j x') := by
  have hj : j < s.nodes.length := (List.getElem?_eq_some_iff.1 hx).1
  have h0 := (fenceCheck_nn h.fen).1
  have hT := h.tick
  refine ⟨hT.lg, hT.loglen, by show (s.nodes.set j x').length = n; rw [List.length_set]; exact h.nn, fun i y hy => ?_, hT.sav, hT.savlen, hT.gfen, hT.fen, fun i y hy => ?_, fun i i' y y' hy hy' hne hee => ?_, hT.gate, hT.gatelen⟩
  · rcases getNod hj hy with ⟨_, rfl⟩ | ⟨_, hy⟩
    · exact hn
    · exact hT.nod i y hy
  · rcases getNod hj hy with ⟨rfl, rfl⟩ | ⟨_, hy⟩
    · rcases he with he | he
      · rw [he]; exact h.top _ x hx
      · rw [he]; exact ⟨h0, fun q => absurd rfl q⟩
    · exact h.top i y hy
  · rcases getNod hj hy with ⟨rfl, rfl⟩ | ⟨_, hz⟩
    · rcases getNod hj hy' with ⟨rfl, rfl⟩ | ⟨_, hz'⟩
      · rfl
      · rcases he with he | he
        · rw [he] at hne hee; exact h.one _ _ x y' hx hz' hne hee
        · exact absurd he hne
    · rcases getNod hj hy' with ⟨rfl, rfl⟩ | ⟨_, hz'⟩
      · rcases he with he | he
        · rw [he] at hee; exact h.one _ _ y x hz hx hne hee
        · rw [he] at hee; exact absurd hee hne
      · exact h.one _ _ y y' hz hz' hne hee
end
end Go.Proofs.YtifphhkkpadpoaaDoor
