/- The state of a play of pairs in memory: which blocks are whose. -/
import Derived.Test.YtifphhkkpadpoaaDoorGate3
import Derived.Test.YtifphhkkpadpoaaDoorKinds2
import Derived.Test.YtifphhkkpadpoaaDoorClEmit
import Derived.Test.YtifphhkkpadpoaaDoorVmH
import Derived.Test.YtifphhkkpadpoaaDoorPplay
namespace Go.Proofs.YtifphhkkpadpoaaDoor
open Go.RowKit Go.Proofs.YtifphhkkpadpoaaDoorW.PrintWords
set_option linter.unusedVariables false
set_option linter.unusedSimpArgs false
/-- Eight cells as they are: a node's. -/
def kRaw : Kd (List Value) where
  sz := 8
  E := []
  K := fun _ x cs => cs = x ∧ x.length = 8 ∧ ∀ u ∈ x, u.oneCell' = true
  M := fun _ _ _ x cs => cs = x ∧ x.length = 8 ∧ ∀ u ∈ x, u.oneCell' = true
  K_len := fun h => by rw [h.1]; exact h.2.1
  K_one := fun h => by rw [h.1]; exact h.2.2
  K_below := fun _ h => h
  K_of_M := fun h => h
  M_mono := fun _ h => h
  M_bound := fun h => h
  M_move := fun _ h => h
  M_lower := fun _ h => h
/-- The colours of the blocks: those from n on are of colour c. -/
def recol (col : Nat → Nat) (n c : Nat) : Nat → Nat := fun k => if k < n then col k else c
theorem recol_old {col : Nat → Nat} {n c k : Nat} (h : k < n) : recol col n c k = col k := if_pos h
theorem recol_new {col : Nat → Nat} {n c k : Nat} (h : n ≤ k) : recol col n c k = c := if_neg (by omega)
section
variable {α : Type} {d : Kd α} {e c B : Nat} {w w' : World} {col col' : Nat → Nat} {S : Nat → Prop} {v : Value} {xs : List α} {P : World → Prop}
theorem R_col (h : d.R e w B (fun k => col k = c) v xs) (ho : Only S w w') (hS : ∀ k, k < w.heap.size → S k → col k ≠ c) (hc : ∀ k, k < w.heap.size → col' k = col k) : d.R e w' B (fun k => col' k = c) v xs :=
  Kd.R_mono (Kd.R_step (Kd.R_bound h) (fun k hk hlt => ho.block k hlt (fun hx => hS k hlt hx hk.1))) (fun k hk => (hc k hk.2.2.1).trans hk.1)
theorem Keeps_col (h : Keeps P w (fun k => col k = c)) (ho : Only S w w') (hS : ∀ k, k < w.heap.size → S k → col k ≠ c) (hc : ∀ k, k < w.heap.size → col' k = col k) : Keeps P w' (fun k => col' k = c) :=
  Keeps.mono (Keeps.step (Keeps.bound h) ho (fun k hk hlt hx => hS k hlt hx hk.1)) (fun k hk => (hc k hk.2).trans hk.1)
theorem R_fresh {n : Nat} (h : d.R e w' n (fun k => n ≤ k) v xs) (hB : B ≤ n) : d.R e w' B (fun k => recol col n c k = c) v xs :=
  Kd.R_mono (Kd.R_lower h hB) (fun _ hk => recol_new hk)
theorem Keeps_fresh {n : Nat} (h : Keeps P w' (fun k => n ≤ k)) : Keeps P w' (fun k => recol col n c k = c) :=
  Keeps.mono h (fun _ hk => recol_new hk)
end
/-- A node, and the cells it stands in. -/
structure NodAt (w : World) (B : Nat) (ok : Nat → Prop) (x : Nod) (cs : List Value) : Prop where
  out : ∃ Ar cr vo, cs = [.int .i64 x.epoch, .int .i64 x.vm.pc, .slice Ar x.vm.regs.length cr, .bool x.vm.halts, .bool x.vm.fault, .int .i64 x.read, vo, .int .i64 x.sent] ∧ x.vm.regs.length ≤ cr ∧
    Keeps (fun W => (Kd.int .i64).C W Ar x.vm.regs.length x.vm.regs) w ok ∧ kEmit.R 52 w B ok vo x.outs
theorem NodAt.col {B c : Nat} {w w' : World} {col col' : Nat → Nat} {S : Nat → Prop} {x : Nod} {cs : List Value} (h : NodAt w B (fun k => col k = c) x cs) (ho : Only S w w') (hS : ∀ k, k < w.heap.size → S k → col k ≠ c) (hc : ∀ k, k < w.heap.size → col' k = col k) : NodAt w' B (fun k => col' k = c) x cs := by
  obtain ⟨Ar, cr, vo, he, hl, hk, hr⟩ := h.out
  exact ⟨Ar, cr, vo, he, hl, Keeps_col hk ho hS hc, R_col hr ho hS hc⟩
/-- Where the parts of a play lie. -/
structure Lay where
  vL : Value
  bn : Nat
  cap : Nat
  css : List (List Value)
  vS : Value
  AG : Option Addr
  cG : Nat
  col : Nat → Nat
def playCells (s : Pai) (y : Lay) (cv : Value) : Array Value :=
  #[y.vL, .int .i64 s.fence.epoch, .int .i64 s.fence.owner, .slice (some ⟨y.bn, 0, none⟩) s.nodes.length y.cap, y.vS, .int .i64 s.gate.fence.epoch, .int .i64 s.gate.fence.owner, .slice y.AG s.gate.out.length y.cG, cv]
/-- What else is held beside a play: its program, and a fact of memory that is no part of it. -/
structure Ext where
  val : Value
  X : World → (Nat → Prop) → Prop
  step : ∀ {w w' : World} {ok ok' : Nat → Prop}, X w ok → Only (fun k => ¬ ok k) w w' → (∀ k, ok k → k < w.heap.size → ok' k) → X w' ok'
theorem Ext.col (cv : Ext) {hp : Nat} {w w' : World} {col col' : Nat → Nat} {S : Nat → Prop} (h : cv.X w (fun k => col k = 0 ∧ k ≠ hp)) (ho : Only S w w') (hS : ∀ k, k < w.heap.size → S k → k = hp ∨ col k ≠ 0) (hc : ∀ k, k < w.heap.size → col' k = col k) : cv.X w' (fun k => col' k = 0 ∧ k ≠ hp) :=
  cv.step h ⟨ho.os, ho.tape, ho.output, ho.size, fun k hk hn => ho.block k hk (fun hx => hn (fun hok => by
    rcases hS k hk hx with e | e
    · exact hok.2 e
    · exact e hok.1))⟩ (fun k hk hlt => ⟨(hc k hlt).trans hk.1, hk.2⟩)
structure PlayAt (w : World) (B hp : Nat) (cv : Ext) (s : Pai) (y : Lay) : Prop where
  blk : w.heap[hp]? = some (.cells (playCells s y cv.val) 76 (0, 0))
  low : B ≤ hp
  hcol : y.col hp = 0
  nod : kRaw.R 49 w B (fun k => y.col k = 1) (.slice (some ⟨y.bn, 0, none⟩) s.nodes.length y.cap) y.css
  nods : ∀ j x, s.nodes[j]? = some x → ∃ cs, y.css[j]? = some cs ∧ NodAt w B (fun k => y.col k = 5 + j) x cs
  log : (Kd.int .i64).R 3 w B (fun k => y.col k = 2) y.vL s.log
  saved : kNod.R 49 w B (fun k => y.col k = 3) y.vS s.saved
  gcap : s.gate.out.length ≤ y.cG
  gate : Keeps (fun W => Kd.string.C W y.AG s.gate.out.length s.gate.out) w (fun k => y.col k = 4)
  ext : cv.X w (fun k => y.col k = 0 ∧ k ≠ hp)
section
variable {B hp : Nat} {w w' : World} {cv : Ext} {s : Pai} {y : Lay}
/-- Only the play's own struct was written, and what is new. -/
theorem PlayAt.struct (h : PlayAt w B hp cv s y) (ho : Only (fun k => k = hp) w w') (s' : Pai) (y' : Lay) (hb : w'.heap[hp]? = some (.cells (playCells s' y' cv.val) 76 (0, 0)))
    (h1 : s'.nodes = s.nodes) (h2 : s'.log = s.log) (h3 : s'.saved = s.saved) (h4 : s'.gate.out = s.gate.out) (e1 : y'.vL = y.vL) (e2 : y'.bn = y.bn) (e3 : y'.cap = y.cap) (e4 : y'.css = y.css) (e5 : y'.vS = y.vS) (e6 : y'.AG = y.AG) (e7 : y'.cG = y.cG) (e8 : y'.col = y.col) : PlayAt w' B hp cv s' y' := by
  have hS : ∀ c, c ≠ 0 → ∀ k, k < w.heap.size → k = hp → y.col k ≠ c := fun c hc k _ hk he => hc (by rw [← he, hk, h.hcol])
  have hc : ∀ k, k < w.heap.size → y.col k = y.col k := fun _ _ => rfl
  refine ⟨hb, h.low, by rw [e8]; exact h.hcol, ?_, ?_, ?_, ?_, ?_, ?_, by rw [e8]; exact cv.col h.ext ho (fun k _ hk => .inl hk) hc⟩
  · rw [e2, e3, e4, e8, h1]; exact R_col h.nod ho (hS 1 (by omega)) hc
  · rw [e4, e8, h1]
    intro j x hx
    obtain ⟨cs, h5, h6⟩ := h.nods j x hx
    exact ⟨cs, h5, h6.col ho (hS _ (by omega)) hc⟩
  · rw [e1, e8, h2]; exact R_col h.log ho (hS 2 (by omega)) hc
  · rw [e5, e8, h3]; exact R_col h.saved ho (hS 3 (by omega)) hc
  · rw [h4, e7]; exact h.gcap
  · rw [e6, e8, h4]; exact Keeps_col h.gate ho (hS 4 (by omega)) hc
/-- Nothing of it was written. -/
theorem PlayAt.far (h : PlayAt w B hp cv s y) (hb : Below w.heap.size w w') : PlayAt w' B hp cv s y :=
  h.struct (Only.of_below hb _) s y (blk_below h.blk hb) rfl rfl rfl rfl rfl rfl rfl rfl rfl rfl rfl rfl
/-- What is not of colour c (nor the struct) stays. -/
theorem PlayAt.rest (h : PlayAt w B hp cv s y) {S : Nat → Prop} {c : Nat} (ho : Only S w w') (hS : ∀ k, k < w.heap.size → S k → k = hp ∨ y.col k = c) {col' : Nat → Nat} (hc : ∀ k, k < w.heap.size → col' k = y.col k) :
    (c ≠ 1 → kRaw.R 49 w' B (fun k => col' k = 1) (.slice (some ⟨y.bn, 0, none⟩) s.nodes.length y.cap) y.css) ∧
    (∀ j x, c ≠ 5 + j → s.nodes[j]? = some x → ∃ cs, y.css[j]? = some cs ∧ NodAt w' B (fun k => col' k = 5 + j) x cs) ∧
    (c ≠ 2 → (Kd.int .i64).R 3 w' B (fun k => col' k = 2) y.vL s.log) ∧
    (c ≠ 3 → kNod.R 49 w' B (fun k => col' k = 3) y.vS s.saved) ∧
    (c ≠ 4 → Keeps (fun W => Kd.string.C W y.AG s.gate.out.length s.gate.out) w' (fun k => col' k = 4)) ∧ (c ≠ 0 → cv.X w' (fun k => col' k = 0 ∧ k ≠ hp)) := by
  have hS' : ∀ m, m ≠ 0 → c ≠ m → ∀ k, k < w.heap.size → S k → y.col k ≠ m := fun m h0 hm k hk hx he => by
    rcases hS k hk hx with e | e
    · exact h0 (by rw [← he, e, h.hcol])
    · exact hm (e.symm.trans he)
  exact ⟨fun hm => R_col h.nod ho (hS' 1 (by omega) hm) hc, fun j x hm hx => by
    obtain ⟨cs, h5, h6⟩ := h.nods j x hx
    exact ⟨cs, h5, h6.col ho (hS' _ (by omega) hm) hc⟩, fun hm => R_col h.log ho (hS' 2 (by omega) hm) hc, fun hm => R_col h.saved ho (hS' 3 (by omega) hm) hc, fun hm => Keeps_col h.gate ho (hS' 4 (by omega) hm) hc, fun hm => cv.col h.ext ho (fun k hk hx => (hS k hk hx).imp id (fun e => by omega)) hc⟩
theorem PlayAt.lt (h : PlayAt w B hp cv s y) : hp < w.heap.size := blk_lt h.blk
/-- The row of numbers was appended to, and stored. -/
theorem PlayAt.setLog (h : PlayAt w B hp cv s y) {w3 : World} {v1 : Value} {log' : List Int} (hg : w.grownBy w3 y.vL.ownBlock) (hR : (Kd.int .i64).R 3 w3 B (fun k => recol y.col w.heap.size 2 k = 2) v1 log') :
    PlayAt (w3.setCell ⟨hp, 0, none⟩ v1) B hp cv { s with log := log' } { y with vL := v1, col := recol y.col w.heap.size 2 } := by
  have hne : some hp ≠ y.vL.ownBlock := fun e => by have h1 : y.col hp = 2 := h.log.1 hp e.symm; have h2 := h.hcol; omega
  have hb3 := blk_grown h.blk hg hne
  have ho : Only (fun k => some k = y.vL.ownBlock ∨ k = hp) w (w3.setCell ⟨hp, 0, none⟩ v1) :=
    ((Only.of_grown hg).mono (fun k hk => .inl hk)).setCell (p := ⟨hp, 0, none⟩) (.inl (.inr rfl)) v1
  have hlt := h.lt
  have hcol : ∀ k, k < w.heap.size → recol y.col w.heap.size 2 k = y.col k := fun k hk => recol_old hk
  obtain ⟨r1, r2, r3, r4, r5, r6⟩ := h.rest (c := 2) ho (fun k hk hx => by
    rcases hx with hx | hx
    · exact .inr (h.log.1 k hx.symm)
    · exact .inl hx) hcol
  refine ⟨blk_put hb3 0 _ rfl, h.low, (hcol hp hlt).trans h.hcol, r1 (by omega), fun j x hx => r2 j x (by omega) hx, ?_, r4 (by omega), h.gcap, r5 (by omega), r6 (by omega)⟩
  exact Kd.R_far hR (p := ⟨hp, 0, none⟩) (fun k hk => by
    intro e
    have e' : k = hp := e
    have h1 : recol y.col w.heap.size 2 hp = 2 := e' ▸ hk
    have h2 := hcol _ hlt
    have h3 := h.hcol
    omega) v1
theorem PlayAt.bn_col (h : PlayAt w B hp cv s y) : y.col y.bn = 1 := h.nod.1 y.bn (by simp [Value.ownBlock])
theorem PlayAt.bn_ne (h : PlayAt w B hp cv s y) : y.bn ≠ hp := fun e => by have h1 := h.bn_col; have h2 := h.hcol; rw [e] at h1; omega
theorem PlayAt.bn_low (h : PlayAt w B hp cv s y) : B ≤ y.bn := Kd.R_base h.nod y.bn (by simp [Value.ownBlock])
theorem PlayAt.css_len (h : PlayAt w B hp cv s y) : s.nodes.length = y.css.length := (Kd.R_reads' h.nod).1
/-- The cells of node j. -/
theorem PlayAt.cells (h : PlayAt w B hp cv s y) {j : Nat} {x : Nod} (hx : s.nodes[j]? = some x) :
    ∃ cs, y.css[j]? = some cs ∧ cs.length = 8 ∧ (∀ u ∈ cs, u.oneCell' = true) ∧ NodAt w B (fun k => y.col k = 5 + j) x cs ∧ (∀ i u, cs[i]? = some u → w.cell? ⟨y.bn, j * 8 + i, none⟩ = some u) ∧ ∀ i, w.frozen? ⟨y.bn, j * 8 + i, none⟩ = false := by
  obtain ⟨cs, hcs, hN⟩ := h.nods j x hx
  have hj : j < s.nodes.length := (List.getElem?_eq_some_iff.1 hx).1
  obtain ⟨c, hl, hM, hc, hf⟩ := Kd.R_elem h.nod [] (j : Int) (by omega) (by omega)
  simp only [Int.toNat_natCast, List.getD_eq_getElem?_getD, hcs, Option.getD_some] at hM hc hf
  obtain ⟨rfl, h8, h1⟩ := hM
  exact ⟨c, hcs, h8, h1, hN, fun i u hu => hc i u hu, fun i => hf i⟩
theorem take_one {cs : List Value} {i : Nat} (hi : i < cs.length) (u : Value) : cs.take i ++ [u] ++ cs.drop (i + 1) = cs.set i u := by
  rw [List.set_eq_take_append_cons_drop, if_pos hi]
  simp
/-- One cell of node j was written. -/
theorem PlayAt.poke (h : PlayAt w B hp cv s y) {j i : Nat} {x : Nod} (hx : s.nodes[j]? = some x) {cs : List Value} (hcs : y.css[j]? = some cs) (hi : i < 8) {u : Value} (hu : u.oneCell' = true) (x' : Nod) (hN : NodAt w B (fun k => y.col k = 5 + j) x' (cs.set i u)) :
    PlayAt (w.setCell ⟨y.bn, j * 8 + i, none⟩ u) B hp cv (setNod s j x') { y with css := y.css.set j (cs.set i u) } := by
  obtain ⟨cs', hcs', h8, h1, _, hc, _⟩ := h.cells hx
  rw [hcs] at hcs'
  injection hcs' with hcs'
  subst hcs'
  have hj : j < s.nodes.length := (List.getElem?_eq_some_iff.1 hx).1
  have hjl : j < y.css.length := by have := h.css_len; omega
  obtain ⟨hR, hg⟩ := Kd.R_seg h.nod (j : Int) (by omega) (by omega) (c := cs) (seg := [u]) (j := i) (x' := cs.set i u) (okp := fun _ => False) h8 (fun k v hv => hc k v hv) (by show i + 1 ≤ 8; omega)
    ⟨take_one (by omega) u, by rw [List.length_set]; exact h8, fun v hv => by
      rcases List.mem_or_eq_of_mem_set hv with hv | hv
      · exact h1 v hv
      · rw [hv]; exact hu⟩ (fun _ hk => hk.elim)
  simp only [Int.toNat_natCast] at hR
  have hw : w.setCells y.bn (j * kRaw.sz + i) [u] = w.setCell ⟨y.bn, j * 8 + i, none⟩ u := rfl
  rw [hw] at hR
  have hcb := h.bn_col
  have ho : Only (fun k => k = y.bn) w (w.setCell ⟨y.bn, j * 8 + i, none⟩ u) := (Only.refl (fun k => k = y.bn) w).setCell (p := ⟨y.bn, j * 8 + i, none⟩) (.inl rfl) u
  have hc0 : ∀ k, k < w.heap.size → y.col k = y.col k := fun _ _ => rfl
  obtain ⟨_, r2, r3, r4, r5, r6⟩ := h.rest (c := 1) ho (fun k _ hk => .inr (by rw [hk]; exact hcb)) hc0
  refine ⟨?_, h.low, h.hcol, ?_, fun m z hz => ?_, r3 (by omega), r4 (by omega), h.gcap, r5 (by omega), r6 (by omega)⟩
  · have e : playCells (setNod s j x') { y with css := y.css.set j (cs.set i u) } cv.val = playCells s y cv.val := by unfold playCells setNod; simp only [List.length_set]
    rw [e]
    exact blk_far h.blk (fun e => h.bn_ne e.symm) _
  · show kRaw.R _ _ _ _ (.slice (some ⟨y.bn, 0, none⟩) (s.nodes.set j x').length y.cap) (y.css.set j (cs.set i u))
    rw [List.length_set]
    exact hR
  · have hz' : (s.nodes.set j x')[m]? = some z := hz
    by_cases hm : m = j
    · subst hm
      rw [List.getElem?_set_self hj] at hz'
      injection hz' with hz'
      subst hz'
      exact ⟨cs.set i u, List.getElem?_set_self hjl, hN.col ho (fun k _ hk he => by rw [hk, hcb] at he; omega) hc0⟩
    · rw [List.getElem?_set_ne (Ne.symm hm)] at hz'
      obtain ⟨cs2, h2, h3⟩ := r2 m z (by omega) hz'
      exact ⟨cs2, by show (y.css.set j (cs.set i u))[m]? = some cs2; rw [List.getElem?_set_ne (Ne.symm hm)]; exact h2, h3⟩
/-- The gate was put in another one's stead. -/
theorem PlayAt.setGate (h : PlayAt w B hp cv s y) {w3 : World} (hb : Below w.heap.size w w3) (g : Gat) {A : Option Addr} {c : Nat} (hl : g.out.length ≤ c) (hK : Keeps (fun W => Kd.string.C W A g.out.length g.out) w3 (fun k => w.heap.size ≤ k)) :
    PlayAt (((w3.setCell ⟨hp, 5, none⟩ (.int .i64 g.fence.epoch)).setCell ⟨hp, 6, none⟩ (.int .i64 g.fence.owner)).setCell ⟨hp, 7, none⟩ (.slice A g.out.length c)) B hp cv { s with gate := g } { y with AG := A, cG := c, col := recol y.col w.heap.size 4 } := by
  have hlt := h.lt
  have ho3 : Only (fun k => k = hp) w3 (((w3.setCell ⟨hp, 5, none⟩ (.int .i64 g.fence.epoch)).setCell ⟨hp, 6, none⟩ (.int .i64 g.fence.owner)).setCell ⟨hp, 7, none⟩ (.slice A g.out.length c)) :=
    (((Only.refl (fun k => k = hp) w3).setCell (p := ⟨hp, 5, none⟩) (.inl rfl) _).setCell (p := ⟨hp, 6, none⟩) (.inl rfl) _).setCell (p := ⟨hp, 7, none⟩) (.inl rfl) _
  have ho := (Only.of_below hb (fun k => k = hp)).trans ho3
  have hc : ∀ k, k < w.heap.size → recol y.col w.heap.size 4 k = y.col k := fun k hk => recol_old hk
  obtain ⟨r1, r2, r3, r4, _, r6⟩ := h.rest (c := 4) ho (fun k _ hk => .inl hk) hc
  refine ⟨blk_put (blk_put (blk_put (blk_below h.blk hb) 5 _ rfl) 6 _ rfl) 7 _ rfl, h.low, (hc hp hlt).trans h.hcol, r1 (by omega), fun j x hx => r2 j x (by omega) hx, r3 (by omega), r4 (by omega), hl, ?_, r6 (by omega)⟩
  refine Keeps.step (Keeps_fresh hK) ho3 (fun k hk _ e => ?_)
  have e' : k = hp := e
  have h1 : recol y.col w.heap.size 4 hp = 4 := e' ▸ hk
  have h2 := hc _ hlt
  have h3 := h.hcol
  omega
/-- The fence was put in another one's stead. -/
theorem PlayAt.setFence (h : PlayAt w B hp cv s y) (f : Fen) :
    PlayAt ((w.setCell ⟨hp, 1, none⟩ (.int .i64 f.epoch)).setCell ⟨hp, 2, none⟩ (.int .i64 f.owner)) B hp cv { s with fence := f } y :=
  h.struct (((Only.refl (fun k => k = hp) w).setCell (p := ⟨hp, 1, none⟩) (.inl rfl) _).setCell (p := ⟨hp, 2, none⟩) (.inl rfl) _) _ y (blk_put (blk_put h.blk 1 _ rfl) 2 _ rfl) rfl rfl rfl rfl rfl rfl rfl rfl rfl rfl rfl rfl
/-- New blocks, of one colour. -/
theorem PlayAt.grow (h : PlayAt w B hp cv s y) (hb : Below w.heap.size w w') (c : Nat) : PlayAt w' B hp cv s { y with col := recol y.col w.heap.size c } := by
  have hc : ∀ k, k < w.heap.size → recol y.col w.heap.size c k = y.col k := fun k hk => recol_old hk
  have ho := Only.of_below hb (fun _ => False)
  have hf : ∀ m, ∀ k, k < w.heap.size → False → y.col k ≠ m := fun _ _ _ hx => hx.elim
  exact ⟨blk_below h.blk hb, h.low, (hc hp h.lt).trans h.hcol, R_col h.nod ho (hf 1) hc, fun j x hx => by
    obtain ⟨cs, h5, h6⟩ := h.nods j x hx
    exact ⟨cs, h5, h6.col ho (hf _) hc⟩, R_col h.log ho (hf 2) hc, R_col h.saved ho (hf 3) hc, h.gcap, Keeps_col h.gate ho (hf 4) hc, cv.col h.ext ho (fun _ _ hx => hx.elim) hc⟩
/-- Node j was put in another one's stead. -/
theorem PlayAt.put8 (h : PlayAt w B hp cv s y) {j : Nat} {x : Nod} (hx : s.nodes[j]? = some x) (x' : Nod) {Ar : Option Addr} {cr : Nat} {vo : Value} (hl : x'.vm.regs.length ≤ cr)
    (hK : Keeps (fun W => (Kd.int .i64).C W Ar x'.vm.regs.length x'.vm.regs) w (fun k => y.col k = 5 + j)) (hO : kEmit.R 52 w B (fun k => y.col k = 5 + j) vo x'.outs) :
    PlayAt ((((((((w.setCell ⟨y.bn, j * 8 + 0, none⟩ (.int .i64 x'.epoch)).setCell ⟨y.bn, j * 8 + 1, none⟩ (.int .i64 x'.vm.pc)).setCell ⟨y.bn, j * 8 + 2, none⟩ (.slice Ar x'.vm.regs.length cr)).setCell ⟨y.bn, j * 8 + 3, none⟩ (.bool x'.vm.halts)).setCell ⟨y.bn, j * 8 + 4, none⟩ (.bool x'.vm.fault)).setCell ⟨y.bn, j * 8 + 5, none⟩ (.int .i64 x'.read)).setCell ⟨y.bn, j * 8 + 6, none⟩ vo).setCell ⟨y.bn, j * 8 + 7, none⟩ (.int .i64 x'.sent)) B hp cv (setNod s j x') { y with css := y.css.set j [.int .i64 x'.epoch, .int .i64 x'.vm.pc, .slice Ar x'.vm.regs.length cr, .bool x'.vm.halts, .bool x'.vm.fault, .int .i64 x'.read, vo, .int .i64 x'.sent] } := by
  obtain ⟨cs, hcs, h8, h1, _, hc, _⟩ := h.cells hx
  obtain ⟨Ao, co, rfl⟩ := Kd.R_slice hO
  have hj : j < s.nodes.length := (List.getElem?_eq_some_iff.1 hx).1
  have hjl : j < y.css.length := by have := h.css_len; omega
  generalize hseg : ([.int .i64 x'.epoch, .int .i64 x'.vm.pc, .slice Ar x'.vm.regs.length cr, .bool x'.vm.halts, .bool x'.vm.fault, .int .i64 x'.read, .slice Ao x'.outs.length co, .int .i64 x'.sent] : List Value) = seg
  have hs8 : seg.length = 8 := by rw [← hseg]; rfl
  have hs1 : ∀ v ∈ seg, v.oneCell' = true := by
    rw [← hseg]
    intro q hq
    simp only [List.mem_cons, List.not_mem_nil, or_false] at hq
    rcases hq with rfl | rfl | rfl | rfl | rfl | rfl | rfl | rfl <;> rfl
  obtain ⟨hR, hg⟩ := Kd.R_seg h.nod (j : Int) (by omega) (by omega) (c := cs) (seg := seg) (j := 0) (x' := seg) (okp := fun _ => False) h8 (fun k v hv => hc k v hv) (by show 0 + seg.length ≤ 8; omega)
    ⟨by rw [List.take_zero, List.drop_eq_nil_of_le (by omega)]; simp, hs8, hs1⟩ (fun _ hk => hk.elim)
  simp only [Int.toNat_natCast] at hR hg
  have hw : w.setCells y.bn (j * kRaw.sz + 0) seg = ((((((((w.setCell ⟨y.bn, j * 8 + 0, none⟩ (.int .i64 x'.epoch)).setCell ⟨y.bn, j * 8 + 1, none⟩ (.int .i64 x'.vm.pc)).setCell ⟨y.bn, j * 8 + 2, none⟩ (.slice Ar x'.vm.regs.length cr)).setCell ⟨y.bn, j * 8 + 3, none⟩ (.bool x'.vm.halts)).setCell ⟨y.bn, j * 8 + 4, none⟩ (.bool x'.vm.fault)).setCell ⟨y.bn, j * 8 + 5, none⟩ (.int .i64 x'.read)).setCell ⟨y.bn, j * 8 + 6, none⟩ (.slice Ao x'.outs.length co)).setCell ⟨y.bn, j * 8 + 7, none⟩ (.int .i64 x'.sent)) := by rw [← hseg]; rfl
  rw [hw] at hR hg
  generalize ((((((((w.setCell ⟨y.bn, j * 8 + 0, none⟩ (.int .i64 x'.epoch)).setCell ⟨y.bn, j * 8 + 1, none⟩ (.int .i64 x'.vm.pc)).setCell ⟨y.bn, j * 8 + 2, none⟩ (.slice Ar x'.vm.regs.length cr)).setCell ⟨y.bn, j * 8 + 3, none⟩ (.bool x'.vm.halts)).setCell ⟨y.bn, j * 8 + 4, none⟩ (.bool x'.vm.fault)).setCell ⟨y.bn, j * 8 + 5, none⟩ (.int .i64 x'.read)).setCell ⟨y.bn, j * 8 + 6, none⟩ (.slice Ao x'.outs.length co)).setCell ⟨y.bn, j * 8 + 7, none⟩ (.int .i64 x'.sent)) = W at *
  have hcb := h.bn_col
  have ho : Only (fun k => k = y.bn) w W := (Only.of_grown hg).mono (fun k hk => by injection hk)
  have hc0 : ∀ k, k < w.heap.size → y.col k = y.col k := fun _ _ => rfl
  obtain ⟨_, r2, r3, r4, r5, r6⟩ := h.rest (c := 1) ho (fun k _ hk => .inr (by rw [hk]; exact hcb)) hc0
  refine ⟨?_, h.low, h.hcol, ?_, fun m z hz => ?_, r3 (by omega), r4 (by omega), h.gcap, r5 (by omega), r6 (by omega)⟩
  · have e : playCells (setNod s j x') { y with css := y.css.set j seg } cv.val = playCells s y cv.val := by unfold playCells setNod; simp only [List.length_set]
    rw [e]
    exact (ho.block hp h.lt (fun e => h.bn_ne e.symm)).trans h.blk
  · show kRaw.R _ _ _ _ (.slice (some ⟨y.bn, 0, none⟩) (s.nodes.set j x').length y.cap) (y.css.set j seg)
    rw [List.length_set]
    exact hR
  · have hz' : (s.nodes.set j x')[m]? = some z := hz
    have hSb : ∀ c, c ≠ 1 → ∀ k, k < w.heap.size → k = y.bn → y.col k ≠ c := fun c hc k _ hk he => hc (by rw [← he, hk, hcb])
    by_cases hm : m = j
    · subst hm
      rw [List.getElem?_set_self hj] at hz'
      injection hz' with hz'
      subst hz'
      exact ⟨seg, List.getElem?_set_self hjl, ⟨⟨Ar, cr, .slice Ao x'.outs.length co, hseg.symm, hl, Keeps_col hK ho (hSb _ (by omega)) hc0, R_col hO ho (hSb _ (by omega)) hc0⟩⟩⟩
    · rw [List.getElem?_set_ne (Ne.symm hm)] at hz'
      obtain ⟨cs2, h2, h3⟩ := r2 m z (by omega) hz'
      exact ⟨cs2, by show (y.css.set j seg)[m]? = some cs2; rw [List.getElem?_set_ne (Ne.symm hm)]; exact h2, h3⟩
end
end Go.Proofs.YtifphhkkpadpoaaDoor
