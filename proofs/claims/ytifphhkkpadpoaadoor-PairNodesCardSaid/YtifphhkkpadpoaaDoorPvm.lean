/- The plain law of the virtual machine: what chapter 11's functions compute, with no program in sight. -/
namespace Go.Proofs.YtifphhkkpadpoaaDoor
structure Ins where
  code : Int
  a : Int
  b : Int
  deriving DecidableEq, Inhabited
structure Emit where
  port : Int
  num : Int
  deriving DecidableEq, Inhabited
structure Vm where
  pc : Int
  regs : List Int
  halts : Bool
  fault : Bool
  deriving DecidableEq, Inhabited
def isReg (n : Int) : Bool := decide (0 ≤ n) && decide (n ≤ 7)
def is32 (n : Int) : Bool := decide (-2147483648 ≤ n) && decide (n ≤ 2147483647)
def w32 (n : Int) : Int := (n + 2147483648) % 4294967296 - 2147483648
theorem w32_is32 (n : Int) : is32 (w32 n) = true := by
  unfold is32 w32
  rw [Bool.and_eq_true]
  exact ⟨decide_eq_true (by omega), decide_eq_true (by omega)⟩
theorem w32_id {n : Int} (h : is32 n = true) : w32 n = n := by
  simp only [is32, Bool.and_eq_true, decide_eq_true_eq] at h
  unfold w32
  omega
def insRight (c a b long : Int) : Bool :=
  if c = 1 then isReg a && is32 b
  else if c = 2 ∨ c = 3 ∨ c = 4 ∨ c = 5 then isReg a && isReg b
  else if c = 6 then decide (a = 0) && (decide (0 ≤ b) && decide (b ≤ long))
  else if c = 7 ∨ c = 8 then isReg a && (decide (0 ≤ b) && decide (b ≤ long))
  else if c = 9 then isReg a && decide (b = 0)
  else if c = 10 then isReg a && (decide (0 ≤ b) && decide (b ≤ 3))
  else if c = 11 then decide (a = 0) && decide (b = 0)
  else false
def okIns (long : Nat) (i : Ins) : Bool := insRight i.code i.a i.b long
def codeCheck (p : List Ins) : Int := if 100 < p.length then 2 else if p.all (okIns p.length) then 0 else 4
def vmRight (v : Vm) : Int := if 0 ≤ v.pc ∧ v.pc ≤ 100 ∧ v.regs.length = 8 ∧ (v.halts && v.fault) = false ∧ v.regs.all is32 = true then 0 else 4
def newVm : Vm := ⟨0, List.replicate 8 0, false, false⟩
/-- A machine at work: how far it is, what is still to come in, what has gone out. -/
structure Mach where
  vm : Vm
  inp : List Int
  out : List Emit
  deriving DecidableEq, Inhabited
def sumOf (c a b : Int) : Int := if c = 3 then w32 (a + b) else if c = 4 then w32 (a - b) else if c = 5 then w32 (a * b) else b
def reg (v : Vm) (i : Int) : Int := v.regs.getD i.toNat 0
def setReg (v : Vm) (i x : Int) : Vm := { v with regs := v.regs.set i.toNat x }
/-- One step; none: it waits. -/
def exec (i : Ins) (m : Mach) : Option Mach :=
  let v := m.vm
  let on : Vm := { v with pc := v.pc + 1 }
  if i.code = 1 then some { m with vm := setReg on i.a i.b }
  else if i.code = 2 ∨ i.code = 3 ∨ i.code = 4 ∨ i.code = 5 then some { m with vm := setReg on i.a (sumOf i.code (w32 (reg v i.a)) (w32 (reg v i.b))) }
  else if i.code = 6 then some { m with vm := { v with pc := i.b } }
  else if i.code = 7 then some { m with vm := { v with pc := if reg v i.a = 0 then i.b else v.pc + 1 } }
  else if i.code = 8 then some { m with vm := { v with pc := if reg v i.a < 0 then i.b else v.pc + 1 } }
  else if i.code = 9 then match m.inp with
    | [] => none
    | x :: r => some { m with vm := setReg on i.a x, inp := r }
  else if i.code = 10 then some { m with vm := on, out := m.out ++ [⟨i.b, reg v i.a⟩] }
  else if i.code = 11 then some { m with vm := { v with halts := true } }
  else some { m with vm := on }
def step (code : List Ins) (m : Mach) : Option Mach :=
  if m.vm.pc = code.length then some { m with vm := { m.vm with fault := true } } else exec (code.getD m.vm.pc.toNat default) m
/-- So many steps at most; how many were done. -/
def runs (code : List Ins) : Nat → Mach → Mach × Nat
  | 0, m => (m, 0)
  | f + 1, m => if m.vm.halts || m.vm.fault then (m, 0) else match step code m with
    | none => (m, 0)
    | some m1 => ((runs code f m1).1, (runs code f m1).2 + 1)
/-- What is told before the work begins: 0, or the error. -/
def runErr (p : List Ins) (v : Vm) (inp : List Int) (fuel : Int) : Int :=
  if codeCheck p ≠ 0 then codeCheck p
  else if vmRight v ≠ 0 then vmRight v
  else if (p.length : Int) < v.pc ∨ inp.all is32 = false then 4
  else if fuel < 0 ∨ 5000 < fuel then 1
  else if 5000 < inp.length then 2
  else 0
def ran (p : List Ins) (v : Vm) (inp : List Int) (fuel : Int) : Mach × Nat := runs p fuel.toNat ⟨v, inp, []⟩
/-- What stands of a machine at work over a right program. -/
structure Good (code : List Ins) (m : Mach) : Prop where
  lo : 0 ≤ m.vm.pc
  hi : m.vm.pc ≤ code.length
  len : m.vm.regs.length = 8
  regs : ∀ x, x ∈ m.vm.regs → is32 x = true
  inp : ∀ x, x ∈ m.inp → is32 x = true
  one : (m.vm.halts && m.vm.fault) = false
theorem codeCheck_all {p : List Ins} (h : codeCheck p = 0) : p.length ≤ 100 ∧ ∀ i, i ∈ p → okIns p.length i = true := by
  unfold codeCheck at h
  split at h
  · cases h
  · split at h
    · rename_i h1 h2
      exact ⟨by omega, by simpa using h2⟩
    · cases h
theorem all_set {l : List Int} {P : Int → Prop} (h : ∀ x, x ∈ l → P x) (i : Nat) {y : Int} (hy : P y) : ∀ x, x ∈ l.set i y → P x := by
  intro x hx
  rcases List.mem_or_eq_of_mem_set hx with hx | rfl
  · exact h x hx
  · exact hy
theorem reg32 {l : List Int} (h : ∀ x, x ∈ l → is32 x = true) (i : Nat) : is32 (l.getD i 0) = true := by
  rw [List.getD_eq_getElem?_getD]
  rcases Nat.lt_or_ge i l.length with hi | hi
  · rw [List.getElem?_eq_getElem hi]; exact h _ (List.getElem_mem hi)
  · rw [List.getElem?_eq_none hi]; rfl
theorem sum32 {c a b : Int} (hb : is32 b = true) : is32 (sumOf c a b) = true := by
  unfold sumOf
  split
  · exact w32_is32 _
  · split
    · exact w32_is32 _
    · split
      · exact w32_is32 _
      · exact hb
theorem exec_good {code : List Ins} {m m1 : Mach} {i : Ins} (hg : Good code m) (hok : okIns code.length i = true) (hlt : m.vm.pc < code.length) (hr : (m.vm.halts || m.vm.fault) = false) (h : exec i m = some m1) : Good code m1 := by
  obtain ⟨h1, h2, h3, h4, h5, h6⟩ := hg
  have hh : m.vm.halts = false ∧ m.vm.fault = false := by simpa using hr
  simp only [okIns, insRight, isReg] at hok
  unfold exec at h
  simp only at h
  split at h
  · rename_i hc
    simp only [hc, if_true] at hok
    injection h with h; subst h
    exact ⟨by simp only [setReg]; omega, by simp only [setReg]; omega, by simpa [setReg] using h3, all_set h4 _ (by simp at hok; exact hok.2), h5, h6⟩
  split at h
  · injection h with h; subst h
    exact ⟨by simp only [setReg]; omega, by simp only [setReg]; omega, by simpa [setReg] using h3, all_set h4 _ (sum32 (w32_is32 _)), h5, h6⟩
  rename_i hc1 hc2
  simp only [hc1, hc2, if_false] at hok
  split at h
  · rename_i hc
    simp only [hc, if_true] at hok
    injection h with h; subst h
    simp at hok
    exact ⟨by simp only; omega, by simp only; omega, h3, h4, h5, h6⟩
  rename_i hc3
  simp only [hc3, if_false] at hok
  split at h
  · rename_i hc
    have hc' : i.code = 7 ∨ i.code = 8 := .inl hc
    simp only [hc', if_true] at hok
    injection h with h; subst h
    simp at hok
    exact ⟨by simp only; split <;> omega, by simp only; split <;> omega, h3, h4, h5, h6⟩
  split at h
  · rename_i hc
    have hc' : i.code = 7 ∨ i.code = 8 := .inr hc
    simp only [hc', if_true] at hok
    injection h with h; subst h
    simp at hok
    exact ⟨by simp only; split <;> omega, by simp only; split <;> omega, h3, h4, h5, h6⟩
  split at h
  · split at h
    · cases h
    · rename_i x r he
      injection h with h; subst h
      refine ⟨by simp only [setReg]; omega, by simp only [setReg]; omega, by simpa [setReg] using h3, all_set h4 _ (h5 _ (by rw [he]; simp)), fun y hy => h5 _ (by rw [he]; exact List.mem_cons_of_mem _ hy), h6⟩
  split at h
  · injection h with h; subst h
    exact ⟨by simp only; omega, by simp only; omega, h3, h4, h5, h6⟩
  split at h
  · injection h with h; subst h
    exact ⟨h1, h2, h3, h4, h5, by simp [hh.2]⟩
  · injection h with h; subst h
    exact ⟨by simp only; omega, by simp only; omega, h3, h4, h5, h6⟩
theorem step_good {code : List Ins} {m m1 : Mach} (hc : codeCheck code = 0) (hg : Good code m) (hr : (m.vm.halts || m.vm.fault) = false) (h : step code m = some m1) : Good code m1 := by
  unfold step at h
  split at h
  · injection h with h; subst h
    have hh : m.vm.halts = false ∧ m.vm.fault = false := by simpa using hr
    exact ⟨hg.lo, hg.hi, hg.len, hg.regs, hg.inp, by simp [hh.1]⟩
  · rename_i hne
    have hlt : m.vm.pc < code.length := by have := hg.hi; omega
    have hlt' : m.vm.pc.toNat < code.length := by have := hg.lo; omega
    refine exec_good hg ((codeCheck_all hc).2 _ ?_) hlt hr h
    rw [List.getD_eq_getElem?_getD, List.getElem?_eq_getElem hlt']
    exact List.getElem_mem hlt'
theorem runErr_good {p : List Ins} {v : Vm} {inp : List Int} {fuel : Int} (h : runErr p v inp fuel = 0) : codeCheck p = 0 ∧ vmRight v = 0 ∧ Good p ⟨v, inp, []⟩ ∧ 0 ≤ fuel ∧ fuel ≤ 5000 ∧ inp.length ≤ 5000 := by
  unfold runErr at h
  by_cases h1 : codeCheck p = 0
  · rw [if_neg (by simpa using h1)] at h
    by_cases h2 : vmRight v = 0
    · rw [if_neg (by simpa using h2)] at h
      split at h
      · cases h
      split at h
      · cases h
      split at h
      · cases h
      rename_i h3 h4 h5
      have h6 := h2
      unfold vmRight at h6
      split at h6
      · rename_i h7
        obtain ⟨a1, a2, a3, a4, a5⟩ := h7
        have h8 : inp.all is32 = true := by
          cases hb : inp.all is32
          · exact absurd (Or.inr hb) h3
          · rfl
        exact ⟨h1, h2, ⟨a1, by simp only; omega, a3, by simpa using a5, by simpa using h8, a4⟩, by omega, by omega, by omega⟩
      · cases h6
    · rw [if_pos h2] at h; exact absurd h h2
  · rw [if_pos h1] at h; exact absurd h h1
theorem runs_good {code : List Ins} (hc : codeCheck code = 0) : ∀ (f : Nat) (m : Mach), Good code m → Good code (runs code f m).1
  | 0, m, hg => hg
  | f + 1, m, hg => by
    unfold runs
    split
    · exact hg
    · rename_i hr
      split
      · exact hg
      · rename_i m1 h1
        exact runs_good hc f m1 (step_good hc hg (by simpa using hr) h1)
end Go.Proofs.YtifphhkkpadpoaaDoor
