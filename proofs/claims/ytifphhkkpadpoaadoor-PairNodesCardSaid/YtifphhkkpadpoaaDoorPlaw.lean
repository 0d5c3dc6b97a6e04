/- The plain law of runs: a run goes on as it began, whatever comes in behind, whatever went out before. -/
import Derived.Test.YtifphhkkpadpoaaDoorPplay
namespace Go.Proofs.YtifphhkkpadpoaaDoor
/-- So many steps, each of them done. -/
def iter (code : List Ins) : Nat → Mach → Option Mach
  | 0, m => some m
  | k + 1, m => if m.vm.halts || m.vm.fault then none else match step code m with
    | none => none
    | some m1 => iter code k m1
def feed (m : Mach) (r : List Int) : Mach := { m with inp := m.inp ++ r }
def pre (o : List Emit) (m : Mach) : Mach := { m with out := o ++ m.out }
def st (log : List Int) : Mach := ⟨newVm, log, []⟩
theorem iter_succ {code : List Ins} {k : Nat} {m m' : Mach} (h : iter code (k + 1) m = some m') : (m.vm.halts || m.vm.fault) = false ∧ ∃ m1, step code m = some m1 ∧ iter code k m1 = some m' := by
  unfold iter at h
  split at h
  · cases h
  · rename_i hr
    split at h
    · cases h
    · rename_i m1 h1
      exact ⟨by simpa using hr, m1, h1, h⟩
theorem iter_cons {code : List Ins} {k : Nat} {m m1 : Mach} (hr : (m.vm.halts || m.vm.fault) = false) (hs : step code m = some m1) : iter code (k + 1) m = iter code k m1 := by
  show (if m.vm.halts || m.vm.fault then none else match step code m with | none => none | some m1 => iter code k m1) = _
  rw [hr, hs]
  rfl
theorem iter_stop {code : List Ins} {k : Nat} {m : Mach} (h : (m.vm.halts || m.vm.fault) = true ∨ step code m = none) : iter code (k + 1) m = none := by
  show (if m.vm.halts || m.vm.fault then none else match step code m with | none => none | some m1 => iter code k m1) = _
  rcases h with h | h
  · rw [h]; rfl
  · rw [h]; split <;> rfl
theorem iter_add {code : List Ins} : ∀ (a b : Nat) (m m1 : Mach), iter code a m = some m1 → iter code (a + b) m = iter code b m1
  | 0, b, m, m1, h => by
    injection h with h; subst h
    rw [Nat.zero_add]
  | a + 1, b, m, m1, h => by
    obtain ⟨hr, m2, h2, h3⟩ := iter_succ h
    rw [show a + 1 + b = (a + b) + 1 from by omega, iter_cons hr h2]
    exact iter_add a b m2 m1 h3
theorem iter_split {code : List Ins} (a b : Nat) {m m2 : Mach} (h : iter code (a + b) m = some m2) : ∃ m1, iter code a m = some m1 ∧ iter code b m1 = some m2 := by
  induction a generalizing m with
  | zero => exact ⟨m, rfl, by rwa [Nat.zero_add] at h⟩
  | succ a ih =>
    rw [show a + 1 + b = (a + b) + 1 from by omega] at h
    obtain ⟨hr, m3, h3, h4⟩ := iter_succ h
    obtain ⟨m1, h5, h6⟩ := ih h4
    exact ⟨m1, by rw [iter_cons hr h3]; exact h5, h6⟩
theorem exec_vm_code {m m1 : Mach} {i : Ins} (h : exec i m = some m1) (r : List Int) : exec i (feed m r) = some (feed m1 r) := by
  obtain ⟨v, inp, out⟩ := m
  unfold exec at h ⊢
  unfold feed
  simp only at h ⊢
  repeat' split at h
  all_goals first | (cases h; done) | skip
  all_goals (injection h with h; subst h)
  all_goals simp [*]
theorem step_feed {code : List Ins} {m m1 : Mach} (h : step code m = some m1) (r : List Int) : step code (feed m r) = some (feed m1 r) := by
  unfold step at h ⊢
  show (if m.vm.pc = _ then _ else _) = _
  split at h
  · rename_i hp
    rw [if_pos hp]
    injection h with h; subst h; rfl
  · rename_i hp
    rw [if_neg hp]
    exact exec_vm_code h r
theorem iter_feed {code : List Ins} : ∀ (k : Nat) (m m1 : Mach), iter code k m = some m1 → ∀ r, iter code k (feed m r) = some (feed m1 r)
  | 0, m, m1, h, r => by injection h with h; subst h; rfl
  | k + 1, m, m1, h, r => by
    obtain ⟨hr, m2, h2, h3⟩ := iter_succ h
    rw [iter_cons (m := feed m r) hr (step_feed h2 r)]
    exact iter_feed k m2 m1 h3 r
theorem exec_pre (i : Ins) (m : Mach) (o : List Emit) : exec i (pre o m) = (exec i m).map (pre o) := by
  obtain ⟨v, inp, out⟩ := m
  unfold exec pre
  simp only
  by_cases h1 : i.code = 1
  · simp [h1]
  by_cases h2 : i.code = 2 ∨ i.code = 3 ∨ i.code = 4 ∨ i.code = 5
  · simp [h1, h2]
  by_cases h6 : i.code = 6
  · simp [h6]
  by_cases h7 : i.code = 7
  · simp [h7]
  by_cases h8 : i.code = 8
  · simp [h8]
  by_cases h9 : i.code = 9
  · cases inp <;> simp [h9]
  by_cases h10 : i.code = 10
  · simp [h10]
  by_cases h11 : i.code = 11
  · simp [h11]
  simp [h1, h2, h6, h7, h8, h9, h10, h11]
theorem step_pre (code : List Ins) (m : Mach) (o : List Emit) : step code (pre o m) = (step code m).map (pre o) := by
  unfold step
  show (if m.vm.pc = _ then _ else _) = _
  split
  · rfl
  · exact exec_pre _ m o
theorem iter_pre {code : List Ins} : ∀ (k : Nat) (m m1 : Mach), iter code k m = some m1 → ∀ o, iter code k (pre o m) = some (pre o m1)
  | 0, m, m1, h, o => by injection h with h; subst h; rfl
  | k + 1, m, m1, h, o => by
    obtain ⟨hr, m2, h2, h3⟩ := iter_succ h
    rw [iter_cons (m := pre o m) (m1 := pre o m2) hr (by rw [step_pre, h2]; rfl)]
    exact iter_pre k m2 m1 h3 o
/-- What one step takes, and lets out. -/
theorem exec_ext {m m1 : Mach} {i : Ins} (h : exec i m = some m1) : (∃ c, c ≤ m.inp.length ∧ m1.inp = m.inp.drop c) ∧ ∃ o, m1.out = m.out ++ o ∧ o.length ≤ 1 := by
  obtain ⟨v, inp, out⟩ := m
  unfold exec at h
  simp only at h
  repeat' split at h
  all_goals first | (cases h; done) | skip
  all_goals (injection h with h; subst h)
  all_goals first
    | exact ⟨⟨0, Nat.zero_le _, rfl⟩, [], (List.append_nil _).symm, Nat.zero_le _⟩
    | exact ⟨⟨0, Nat.zero_le _, rfl⟩, [_], rfl, Nat.le_refl _⟩
    | exact ⟨⟨1, Nat.succ_le_succ (Nat.zero_le _), rfl⟩, [], (List.append_nil _).symm, Nat.zero_le _⟩
theorem step_ext {code : List Ins} {m m1 : Mach} (h : step code m = some m1) : (∃ c, c ≤ m.inp.length ∧ m1.inp = m.inp.drop c) ∧ ∃ o, m1.out = m.out ++ o ∧ o.length ≤ 1 := by
  unfold step at h
  split at h
  · injection h with h; subst h; exact ⟨⟨0, Nat.zero_le _, by simp⟩, [], by simp, by simp⟩
  · exact exec_ext h
theorem iter_ext {code : List Ins} : ∀ (k : Nat) (m m1 : Mach), iter code k m = some m1 → (∃ c, c ≤ m.inp.length ∧ m1.inp = m.inp.drop c) ∧ ∃ o, m1.out = m.out ++ o ∧ o.length ≤ k
  | 0, m, m1, h => by
    injection h with h; subst h
    exact ⟨⟨0, Nat.zero_le _, by simp⟩, [], by simp, by simp⟩
  | k + 1, m, m1, h => by
    obtain ⟨_, m2, h2, h3⟩ := iter_succ h
    obtain ⟨⟨c, h4, h5⟩, o, h6, h7⟩ := step_ext h2
    obtain ⟨⟨c', h8, h9⟩, o', h10, h11⟩ := iter_ext k m2 m1 h3
    refine ⟨⟨c + c', ?_, ?_⟩, o ++ o', ?_, ?_⟩
    · rw [h5, List.length_drop] at h8; omega
    · rw [h9, h5, List.drop_drop]
    · rw [h10, h6, List.append_assoc]
    · rw [List.length_append]; omega
/-- What a run did: so many steps, each of them done. -/
theorem runs_iter {code : List Ins} : ∀ (f : Nat) (m : Mach), (runs code f m).2 ≤ f ∧ iter code (runs code f m).2 m = some (runs code f m).1
  | 0, m => ⟨Nat.le_refl _, rfl⟩
  | f + 1, m => by
    unfold runs
    split
    · exact ⟨Nat.zero_le _, rfl⟩
    · rename_i hr
      split
      · exact ⟨Nat.zero_le _, rfl⟩
      · rename_i m1 h1
        obtain ⟨a, b⟩ := runs_iter f m1
        exact ⟨Nat.succ_le_succ a, by rw [iter_cons (by simpa using hr) h1]; exact b⟩
/-- It can't go on. -/
def Ended (code : List Ins) (m : Mach) : Prop := (m.vm.halts || m.vm.fault) = true ∨ step code m = none
theorem runs_ended {code : List Ins} : ∀ (f : Nat) (m : Mach), (runs code f m).2 < f → Ended code (runs code f m).1
  | 0, m, h => absurd h (Nat.not_lt_zero _)
  | f + 1, m, h => by
    unfold runs at h ⊢
    split
    · rename_i hr
      exact .inl hr
    · rename_i hr
      rw [if_neg hr] at h
      split
      · rename_i h1
        exact .inr h1
      · rename_i m1 h1
        rw [h1] at h
        exact runs_ended f m1 (by simp only at h; omega)
theorem runs_stay {code : List Ins} {m : Mach} (h : Ended code m) (f : Nat) : runs code f m = (m, 0) := by
  cases f with
  | zero => rfl
  | succ f =>
    unfold runs
    rcases h with h | h
    · rw [if_pos h]
    · rw [h]; split <;> rfl
theorem runs_from {code : List Ins} : ∀ (k f : Nat) (m m1 : Mach), iter code k m = some m1 → runs code (k + f) m = ((runs code f m1).1, k + (runs code f m1).2)
  | 0, f, m, m1, h => by
    injection h with h; subst h
    rw [Nat.zero_add, Nat.zero_add]
  | k + 1, f, m, m1, h => by
    obtain ⟨hr, m2, h2, h3⟩ := iter_succ h
    have ih := runs_from k f m2 m1 h3
    rw [show k + 1 + f = (k + f) + 1 from by omega]
    show (if m.vm.halts || m.vm.fault then (m, 0) else match step code m with | none => (m, 0) | some m1 => ((runs code (k + f) m1).1, (runs code (k + f) m1).2 + 1)) = _
    rw [hr, h2]
    show ((runs code (k + f) m2).1, (runs code (k + f) m2).2 + 1) = _
    rw [ih]
    simp only
    rw [show k + (runs code f m1).2 + 1 = k + 1 + (runs code f m1).2 from by omega]
/-- No step more than the run has. -/
theorem iter_le {code : List Ins} {f k : Nat} {m m1 : Mach} (h : iter code k m = some m1) (hf : k ≤ f) : k ≤ (runs code f m).2 ∧ iter code ((runs code f m).2 - k) m1 = some (runs code f m).1 := by
  obtain ⟨g, rfl⟩ := Nat.le.dest hf
  rw [runs_from k g m m1 h]
  refine ⟨Nat.le_add_right _ _, ?_⟩
  simp only [Nat.add_sub_cancel_left]
  exact (runs_iter g m1).2
theorem iter_ended {code : List Ins} {k : Nat} {m m1 : Mach} (he : Ended code m) (h : iter code k m = some m1) : k = 0 ∧ m1 = m := by
  cases k with
  | zero => injection h with h; exact ⟨rfl, h.symm⟩
  | succ k => rw [iter_stop he] at h; cases h
theorem iter_good {code : List Ins} (hc : codeCheck code = 0) : ∀ (k : Nat) (m m1 : Mach), iter code k m = some m1 → Good code m → Good code m1
  | 0, m, m1, h, hg => by injection h with h; subst h; exact hg
  | k + 1, m, m1, h, hg => by
    obtain ⟨hr, m2, h2, h3⟩ := iter_succ h
    exact iter_good hc k m2 m1 h3 (step_good hc hg hr h2)
theorem st_good {code : List Ins} {log : List Int} (hl : ∀ x, x ∈ log → is32 x = true) : Good code (st log) :=
  ⟨Int.le_refl _, by show (0 : Int) ≤ _; omega, rfl, fun x hx => by
    have : x = 0 := List.eq_of_mem_replicate hx
    rw [this]; rfl, hl, rfl⟩
/-- What goes out is small. -/
def SmallOut (o : List Emit) : Prop := ∀ e, e ∈ o → 0 ≤ e.port ∧ e.port ≤ 3 ∧ is32 e.num = true
theorem exec_small {code : List Ins} {m m1 : Mach} {i : Ins} (hg : Good code m) (hok : okIns code.length i = true) (h : exec i m = some m1) (ho : SmallOut m.out) : SmallOut m1.out := by
  obtain ⟨v, inp, out⟩ := m
  have hr := hg.regs
  unfold exec at h
  simp only at h hr ho
  simp only [okIns, insRight, isReg] at hok
  repeat' split at h
  all_goals first | (cases h; done) | skip
  all_goals (injection h with h; subst h)
  all_goals first | exact ho | skip
  rename_i c1 c2 c6 c7 c8 c9 c10
  simp only [c10] at hok
  simp at hok
  intro e he
  rcases List.mem_append.1 he with he | he
  · exact ho e he
  · rw [List.mem_singleton] at he
    subst he
    exact ⟨hok.2.1, hok.2.2, reg32 hr _⟩
theorem iter_small {code : List Ins} (hc : codeCheck code = 0) : ∀ (k : Nat) (m m1 : Mach), iter code k m = some m1 → Good code m → SmallOut m.out → SmallOut m1.out
  | 0, m, m1, h, _, ho => by injection h with h; subst h; exact ho
  | k + 1, m, m1, h, hg, ho => by
    obtain ⟨hr, m2, h2, h3⟩ := iter_succ h
    refine iter_small hc k m2 m1 h3 (step_good hc hg hr h2) ?_
    unfold step at h2
    split at h2
    · injection h2 with h2; subst h2; exact ho
    · rename_i hne
      have hlt : m.vm.pc.toNat < code.length := by have := hg.lo; have := hg.hi; omega
      refine exec_small hg ((codeCheck_all hc).2 _ ?_) h2 ho
      rw [List.getD_eq_getElem?_getD, List.getElem?_eq_getElem hlt]
      exact List.getElem_mem hlt
end Go.Proofs.YtifphhkkpadpoaaDoor
