/- A play while its nodes are being made; what is told of it at its end. -/
import Derived.Test.YtifphhkkpadpoaaDoorLay
namespace Go.Proofs.YtifphhkkpadpoaaDoor
open Go.RowKit Go.Proofs.YtifphhkkpadpoaaDoorW.PrintWords
set_option linter.unusedVariables false
/-- Beside a play: its program, and the row of what was answered. -/
def extOf (cv : Value) (B r0 : Nat) (v : Value) (xs : List Int) : Ext where
  val := cv
  X := fun w ok => (Kd.int .i64).R 34 w B ok v xs ∧ ok r0 ∧ r0 < w.heap.size
  step := fun ⟨h, hr, hl⟩ ho hk => ⟨Kd.R_mono (Kd.R_step (Kd.R_bound h) (fun k hok hlt => ho.block k hlt (fun hx => hx hok.1))) (fun k hok => hk k hok.1 hok.2.2.1), hk r0 hr hl, Nat.lt_of_lt_of_le hl ho.size⟩
/-- What is beside a play was written, and what is new. -/
theorem PlayAt.aside {B hp : Nat} {w w' : World} {cv : Ext} {s : Pai} {y : Lay} (h : PlayAt w B hp cv s y) {S : Nat → Prop} (ho : Only S w w') (hS : ∀ k, k < w.heap.size → S k → y.col k = 0 ∧ k ≠ hp) (cv' : Ext) (hv : cv'.val = cv.val) (hX : cv'.X w' (fun k => recol y.col w.heap.size 0 k = 0 ∧ k ≠ hp)) :
    PlayAt w' B hp cv' s { y with col := recol y.col w.heap.size 0 } := by
  have hc : ∀ k, k < w.heap.size → recol y.col w.heap.size 0 k = y.col k := fun k hk => recol_old hk
  have hf : ∀ m, m ≠ 0 → ∀ k, k < w.heap.size → S k → y.col k ≠ m := fun m hm k hk hx he => hm (he.symm.trans (hS k hk hx).1)
  refine ⟨?_, h.low, (hc hp h.lt).trans h.hcol, R_col h.nod ho (hf 1 (by omega)) hc, fun j x hx => ?_, R_col h.log ho (hf 2 (by omega)) hc, R_col h.saved ho (hf 3 (by omega)) hc, h.gcap, Keeps_col h.gate ho (hf 4 (by omega)) hc, hX⟩
  · rw [hv]
    exact (ho.block hp h.lt (fun e => (hS hp h.lt e).2 rfl)).trans h.blk
  · obtain ⟨cs, h5, h6⟩ := h.nods j x hx
    exact ⟨cs, h5, h6.col ho (hf _ (by omega)) hc⟩
structure Built (w : World) (B hp : Nat) (cv : Value) (i : Nat) (vN : Value) (css : List (List Value)) (col : Nat → Nat) : Prop where
  blk : w.heap[hp]? = some (.cells #[.slice none 0 0, .int .i64 0, .int .i64 0, vN, .slice none 0 0, .int .i64 0, .int .i64 0, .slice none 0 0, cv] 76 (0, 0))
  low : B ≤ hp
  hcol : col hp = 0
  row : kRaw.R 49 w B (fun k => col k = 1) vN css
  len : css.length = i
  nods : ∀ j, j < i → ∃ cs, css[j]? = some cs ∧ NodAt w B (fun k => col k = 5 + j) freshNod cs
  zero : ∀ k, k < hp → col k = 0
theorem Built.start {w : World} {B hp : Nat} {cv : Value} (hb : w.heap[hp]? = some (.cells #[.slice none 0 0, .int .i64 0, .int .i64 0, .slice none 0 0, .slice none 0 0, .int .i64 0, .int .i64 0, .slice none 0 0, cv] 76 (0, 0))) (hB : B ≤ hp) : Built w B hp cv 0 (.slice none 0 0) [] (fun _ => 0) :=
  ⟨hb, hB, rfl, Kd.R_nil _ _ _ _ _, rfl, fun j hj => absurd hj (Nat.not_lt_zero _), fun _ _ => rfl⟩
theorem Built.lt {w : World} {B hp i : Nat} {cv vN : Value} {css : List (List Value)} {col : Nat → Nat} (h : Built w B hp cv i vN css col) : hp < w.heap.size := blk_lt h.blk
/-- One node more. -/
theorem Built.step {w w7 w9 : World} {B hp i : Nat} {cv vN v9 vo : Value} {css : List (List Value)} {col : Nat → Nat} {Ar : Option Addr} {cr : Nat} (h : Built w B hp cv i vN css col) (hB : B ≤ w.heap.size) (hb : Below w.heap.size w w7) (hcr : freshNod.vm.regs.length ≤ cr)
    (hK : Keeps (fun W => (Kd.int .i64).C W Ar freshNod.vm.regs.length freshNod.vm.regs) w7 (fun k => w.heap.size ≤ k)) (hO : kEmit.R 52 w7 w.heap.size (fun k => w.heap.size ≤ k) vo freshNod.outs) (hg : w7.grownBy w9 vN.ownBlock)
    (hR : kRaw.R 49 w9 B (fun k => recol (recol col w.heap.size (5 + i)) w7.heap.size 1 k = 1) v9 (css ++ [[.int .i64 freshNod.epoch, .int .i64 freshNod.vm.pc, .slice Ar freshNod.vm.regs.length cr, .bool freshNod.vm.halts, .bool freshNod.vm.fault, .int .i64 freshNod.read, vo, .int .i64 freshNod.sent]])) :
    Built (w9.setCell ⟨hp, 3, none⟩ v9) B hp cv (i + 1) v9 (css ++ [[.int .i64 freshNod.epoch, .int .i64 freshNod.vm.pc, .slice Ar freshNod.vm.regs.length cr, .bool freshNod.vm.halts, .bool freshNod.vm.fault, .int .i64 freshNod.read, vo, .int .i64 freshNod.sent]]) (recol (recol col w.heap.size (5 + i)) w7.heap.size 1) := by
  have hlt := h.lt
  have hlt7 : hp < w7.heap.size := Nat.lt_of_lt_of_le hlt hb.size
  have hc1 : ∀ k, k < w.heap.size → recol (recol col w.heap.size (5 + i)) w7.heap.size 1 k = col k := fun k hk => (recol_old (Nat.lt_of_lt_of_le hk hb.size)).trans (recol_old hk)
  have hc2 : ∀ k, k < w7.heap.size → recol (recol col w.heap.size (5 + i)) w7.heap.size 1 k = recol col w.heap.size (5 + i) k := fun k hk => recol_old hk
  have hvN : ∀ k, vN.ownBlock = some k → col k = 1 ∧ k < w.heap.size := fun k hk => ⟨h.row.1 k hk, Kd.R_lt h.row k hk⟩
  have hne : some hp ≠ vN.ownBlock := fun e => by have h1 := (hvN hp e.symm).1; have h2 := h.hcol; omega
  have ho2 : Only (fun k => some k = vN.ownBlock ∨ k = hp) w7 (w9.setCell ⟨hp, 3, none⟩ v9) := ((Only.of_grown hg).mono (fun k hk => .inl hk)).setCell (p := ⟨hp, 3, none⟩) (.inl (.inr rfl)) v9
  have ho : Only (fun k => some k = vN.ownBlock ∨ k = hp) w (w9.setCell ⟨hp, 3, none⟩ v9) := (Only.of_below hb _).trans ho2
  refine ⟨blk_put (blk_grown (blk_below h.blk hb) hg hne) 3 _ rfl, h.low, (hc1 hp hlt).trans h.hcol, ?_, by rw [List.length_append, h.len]; rfl, fun j hj => ?_, fun k hk => (hc1 k (Nat.lt_trans hk hlt)).trans (h.zero k hk)⟩
  · exact Kd.R_far hR (p := ⟨hp, 3, none⟩) (fun k hk e => by
      have e' : k = hp := e
      have h1 := hc1 hp hlt
      rw [e'] at hk
      have h2 := h.hcol
      omega) v9
  · rcases Nat.lt_or_ge j i with hj' | hj'
    · obtain ⟨cs, h1, h2⟩ := h.nods j hj'
      refine ⟨cs, by rw [List.getElem?_append_left (by rw [h.len]; exact hj')]; exact h1, h2.col ho (fun k _ hk he => ?_) hc1⟩
      rcases hk with hk | hk
      · have := (hvN k hk.symm).1; omega
      · have := h.hcol; rw [hk] at he; omega
    · obtain rfl : j = i := by omega
      refine ⟨_, by rw [List.getElem?_append_right (by rw [h.len]; exact Nat.le_refl _), h.len, Nat.sub_self]; rfl, ?_⟩
      have hN : NodAt w7 B (fun k => recol col w.heap.size (5 + j) k = 5 + j) freshNod [.int .i64 freshNod.epoch, .int .i64 freshNod.vm.pc, .slice Ar freshNod.vm.regs.length cr, .bool freshNod.vm.halts, .bool freshNod.vm.fault, .int .i64 freshNod.read, vo, .int .i64 freshNod.sent] := ⟨Ar, cr, vo, rfl, hcr, Keeps_fresh hK, R_fresh hO hB⟩
      refine hN.col ho2 (fun k hk hx he => ?_) hc2
      rcases hx with hx | hx
      · have h1 := hvN k hx.symm
        rw [recol_old h1.2] at he
        omega
      · rw [hx, recol_old hlt] at he
        have := h.hcol
        omega
/-- The play begins. -/
theorem Built.play {w : World} {B hp i : Nat} {cv vN : Value} {css : List (List Value)} {col : Nat → Nat} (h : Built w B hp cv i vN css col) (hi : 0 < i) (hB : B ≤ w.heap.size) {r0 : Nat} (hr : r0 < hp) : ∃ y, PlayAt w B hp (extOf cv B r0 (.slice none 0 0) []) (pairStart i) y := by
  obtain ⟨g, cap, hv, _⟩ := Kd.R_form h.row (by rw [h.len]; exact hi)
  have hl := h.len
  refine ⟨⟨.slice none 0 0, g, cap, css, .slice none 0 0, none, 0, col⟩, ?_, h.low, h.hcol, ?_, fun j x hx => ?_, Kd.R_nil _ _ _ _ _, Kd.R_nil _ _ _ _ _, Nat.le_refl _, fun W _ => Kd.C_nil _ _, Kd.R_nil _ _ _ _ _, ⟨h.zero r0 hr, by omega⟩, Nat.lt_trans hr h.lt⟩
  · have hb := h.blk
    rw [hv, hl] at hb
    have e : playCells (pairStart i) ⟨.slice none 0 0, g, cap, css, .slice none 0 0, none, 0, col⟩ cv = #[.slice none 0 0, .int .i64 0, .int .i64 0, .slice (some ⟨g, 0, none⟩) i cap, .slice none 0 0, .int .i64 0, .int .i64 0, .slice none 0 0, cv] := by
      unfold playCells pairStart noGate
      simp only [List.length_replicate]
      rfl
    show w.heap[hp]? = some (.cells (playCells _ _ cv) _ _)
    rw [e]
    exact hb
  · have hr := h.row
    rw [hv] at hr
    show kRaw.R _ w B _ (.slice (some ⟨g, 0, none⟩) (List.replicate i freshNod).length cap) css
    rw [List.length_replicate, ← hl]
    exact hr
  · have hx' : (List.replicate i freshNod)[j]? = some x := hx
    have h1 : x = freshNod := List.eq_of_mem_replicate (List.mem_of_getElem? hx')
    have h2 : j < i := by have := (List.getElem?_eq_some_iff.1 hx').1; rwa [List.length_replicate] at this
    rw [h1]
    exact h.nods j h2
/-- The nodes of a play, to be read. -/
theorem PlayAt.nodesC {B hp : Nat} {w : World} {cv : Ext} {s : Pai} {y : Lay} (h : PlayAt w B hp cv s y) : kNod.C w (some ⟨y.bn, 0, none⟩) s.nodes.length s.nodes := by
  obtain ⟨h1, h2, h3⟩ := Kd.R_reads' h.nod
  refine ⟨rfl, by rw [h1]; exact h3.2.1, fun hp0 => ⟨_, rfl, fun j x hx => ?_⟩⟩
  obtain ⟨cs, hcs, h8, _, hN, hc, _⟩ := h.cells hx
  obtain ⟨Ar, cr, vo, rfl, hl, hK, hR⟩ := hN.out
  obtain ⟨Ao, co, hvo, hlo, hCo⟩ := Kd.R_reads hR
  subst hvo
  exact ⟨_, rfl, kNod_mk w x hl hK.now hlo hCo, fun i u hu => by rw [add_plain]; exact hc i u hu⟩
/-- What a play tells, as it stands in memory. -/
structure PairLay where
  AL : Option Addr
  cL : Nat
  AN : Option Addr
  cN : Nat
  AS : Option Addr
  cS : Nat
  AG : Option Addr
  cG : Nat
structure PairIn (w : World) (s : Pai) (z : PairLay) : Prop where
  log : (Kd.int .i64).C w z.AL s.log.length s.log
  logc : s.log.length ≤ z.cL
  nodes : kNod.C w z.AN s.nodes.length s.nodes
  nodesc : s.nodes.length ≤ z.cN
  saved : kNod.C w z.AS s.saved.length s.saved
  savedc : s.saved.length ≤ z.cS
  out : Kd.string.C w z.AG s.gate.out.length s.gate.out
  outc : s.gate.out.length ≤ z.cG
def pairCells (s : Pai) (z : PairLay) : Array Value := #[.slice z.AL s.log.length z.cL, .int .i64 s.fence.epoch, .int .i64 s.fence.owner, .slice z.AN s.nodes.length z.cN, .slice z.AS s.saved.length z.cS, .int .i64 s.gate.fence.epoch, .int .i64 s.gate.fence.owner, .slice z.AG s.gate.out.length z.cG]
theorem PairIn.below {w w' : World} {s : Pai} {z : PairLay} (h : PairIn w s z) (hb : Below w.heap.size w w') : PairIn w' s z :=
  ⟨Kd.C_below h.log hb, h.logc, Kd.C_below h.nodes hb, h.nodesc, Kd.C_below h.saved hb, h.savedc, Kd.C_below h.out hb, h.outc⟩
def PlayPost (w : World) (r : Pai × List Int × Int) (e : Ending) (w' : World) : Prop :=
  ∃ z AO cO, e = .returned (.tuple #[.agg (pairCells r.1 z), .slice AO r.2.1.length cO, .int .i64 r.2.2]) ∧ PairIn w' r.1 z ∧ (Kd.int .i64).C w' AO r.2.1.length r.2.1 ∧ r.2.1.length ≤ cO ∧ Below w.heap.size w w'
theorem noPairIn (w : World) : PairIn w noPai ⟨none, 0, none, 0, none, 0, none, 0⟩ := ⟨Kd.C_nil _ _, Nat.le_refl _, Kd.C_nil _ _, Nat.le_refl _, Kd.C_nil _ _, Nat.le_refl _, Kd.C_nil _ _, Nat.le_refl _⟩
theorem PlayAt.tells {B hp : Nat} {w : World} {cv : Ext} {s : Pai} {y : Lay} (h : PlayAt w B hp cv s y) : ∃ z : PairLay, PairIn w s z ∧ y.vL = .slice z.AL s.log.length z.cL ∧ z.AN = some ⟨y.bn, 0, none⟩ ∧ z.cN = y.cap ∧ y.vS = .slice z.AS s.saved.length z.cS ∧ z.AG = y.AG ∧ z.cG = y.cG := by
  obtain ⟨AL, cL, h1, h2, h3⟩ := Kd.R_reads h.log
  obtain ⟨AS, cS, h4, h5, h6⟩ := Kd.R_reads h.saved
  exact ⟨⟨AL, cL, some ⟨y.bn, 0, none⟩, y.cap, AS, cS, y.AG, y.cG⟩, ⟨h3, h2, h.nodesC, (Kd.R_reads' h.nod).2.1, h6, h5, h.gate.now, h.gcap⟩, h1, rfl, rfl, h4, rfl, rfl⟩
theorem PlayAt.pairIn {B hp : Nat} {w : World} {cv : Ext} {s : Pai} {y : Lay} (h : PlayAt w B hp cv s y) {z : PairLay} (hz : y.vL = .slice z.AL s.log.length z.cL ∧ z.AN = some ⟨y.bn, 0, none⟩ ∧ z.cN = y.cap ∧ y.vS = .slice z.AS s.saved.length z.cS ∧ z.AG = y.AG ∧ z.cG = y.cG) : PairIn w s z := by
  obtain ⟨e1, e2, e3, e4, e5, e6⟩ := hz
  have h1 := h.log
  have h4 := h.saved
  rw [e1] at h1
  rw [e4] at h4
  obtain ⟨_, a2, a3⟩ := Kd.R_reads' h1
  obtain ⟨_, b2, b3⟩ := Kd.R_reads' h4
  exact ⟨a3, a2, by rw [e2]; exact h.nodesC, by rw [e3]; exact (Kd.R_reads' h.nod).2.1, b3, b2, by rw [e5]; exact h.gate.now, by rw [e6]; exact h.gcap⟩
def trivExt (cv : Value) : Ext := ⟨cv, fun _ _ => True, fun _ _ _ => True.intro⟩
end Go.Proofs.YtifphhkkpadpoaaDoor
