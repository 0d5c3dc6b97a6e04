/- Small laws for regions that draw their order: what is kept is one word (Below, Only of two blocks); what the loads read follows from it. -/
import Derived.Test.YtifphhkkpadpoaaDoorEv
import Derived.Test.YtifphhkkpadpoaaDoorPlayAt
import Derived.IntWalk
namespace Go.Proofs.YtifphhkkpadpoaaDoor
open Go.RowKit Go.Proofs.YtifphhkkpadpoaaDoorW.PrintWords
set_option linter.unusedVariables false
theorem only_undrew {S : Nat → Prop} {w W : World} (h : Only S w.drew W) : Only S w W := ⟨h.os, h.tape, h.output, h.size, h.block⟩
theorem grown_undrew {w W : World} {row : Option Nat} (h : w.drew.grownBy W row) : w.grownBy W row := ⟨h.os, h.tape, h.output, h.size, h.block⟩
theorem below_undrew {n : Nat} {w W : World} (h : Below n w.drew W) : Below n w W := ⟨h.os, h.tape, h.output, h.size, h.block⟩
def RowOr (b : Nat) (v : Value) (q : Nat) : Prop := q = b ∨ some q = v.ownBlock
theorem rowOr_a (b : Nat) (v : Value) : RowOr b v b := .inl rfl
def OneOf (a b : Nat) (q : Nat) : Prop := q = a ∨ q = b
theorem oneOf_a (a b : Nat) : OneOf a b a := .inl rfl
theorem oneOf_b (a b : Nat) : OneOf a b b := .inr rfl
theorem oneOf_not {a b q : Nat} (h1 : q ≠ a) (h2 : q ≠ b) : ¬ OneOf a b q := fun h => h.elim h1 h2
theorem only_one {S : Nat → Prop} {w1 W : World} {g i : Nat} {u : Value} (h : Only S w1 W) (hg : S g) : Only S w1 (W.setCell ⟨g, i, none⟩ u) := Only.setCell h (p := ⟨g, i, none⟩) (.inl hg) u
theorem only_three {S : Nat → Prop} {w1 W : World} {g i j k : Nat} {u v t : Value} (h : Only S w1 W) (hg : S g) : Only S w1 (((W.setCell ⟨g, i, none⟩ u).setCell ⟨g, j, none⟩ v).setCell ⟨g, k, none⟩ t) := only_one (only_one (only_one h hg) hg) hg
theorem only_four {S : Nat → Prop} {w1 W : World} {g i j k l : Nat} {u v t s : Value} (h : Only S w1 W) (hg : S g) : Only S w1 ((((W.setCell ⟨g, i, none⟩ u).setCell ⟨g, j, none⟩ v).setCell ⟨g, k, none⟩ t).setCell ⟨g, l, none⟩ s) := only_one (only_three h hg) hg
theorem below_three {w1 W : World} {m g : Nat} {u v t : Value} (h : Below m w1 W) (hg : m ≤ g) : Below m w1 (((W.setCell ⟨g, 0, none⟩ u).setCell ⟨g, 1, none⟩ v).setCell ⟨g, 2, none⟩ t) := Below.setCell (Below.setCell (Below.setCell h (p := ⟨g, 0, none⟩) hg u) (p := ⟨g, 1, none⟩) hg v) (p := ⟨g, 2, none⟩) hg t
theorem below_four {w1 W : World} {m g : Nat} {u v t s : Value} (h : Below m w1 W) (hg : m ≤ g) : Below m w1 ((((W.setCell ⟨g, 0, none⟩ u).setCell ⟨g, 1, none⟩ v).setCell ⟨g, 2, none⟩ t).setCell ⟨g, 3, none⟩ s) := Below.setCell (below_three h hg) (p := ⟨g, 3, none⟩) hg s
/-- What a cell of old holds, in every later world. -/
theorem below_lay {w : World} {a : Addr} {v : Value} (h : w.cell? a = some v) : ∀ W : World, Below w.heap.size w W → W.cell? a = some v := fun W hW => (hW.cell (World.block_lt_of_cell? w a h)).trans h
theorem only_lay {S : Nat → Prop} {w : World} {a : Addr} {v : Value} (h : w.cell? a = some v) (hn : ¬ S a.block) : ∀ W : World, Only S w W → W.cell? a = some v := fun W hW => hW.cell h hn
/-- Node j was put in another one's stead; its own blocks, and new ones, may have changed. -/
theorem PlayAt.putNod {B hp : Nat} {w W' : World} {cv : Ext} {s : Pai} {y : Lay} (h : PlayAt w B hp cv s y) {j : Nat} {x : Nod} (hx : s.nodes[j]? = some x) {col' : Nat → Nat} (hc : ∀ k, k < w.heap.size → col' k = y.col k) (ho : Only (fun q => q = y.bn ∨ y.col q = 5 + j) w W') (x' : Nod) {cs' : List Value}
    (hR : kRaw.R 49 W' B (fun k => col' k = 1) (.slice (some ⟨y.bn, 0, none⟩) s.nodes.length y.cap) (y.css.set j cs')) (hN : NodAt W' B (fun k => col' k = 5 + j) x' cs') : PlayAt W' B hp cv (setNod s j x') { y with css := y.css.set j cs', col := col' } := by
  have hcb := h.bn_col
  have hj : j < s.nodes.length := (List.getElem?_eq_some_iff.1 hx).1
  have hjl : j < y.css.length := by have := h.css_len; omega
  have hS : ∀ c, c ≠ 1 → c ≠ 5 + j → ∀ k, k < w.heap.size → (k = y.bn ∨ y.col k = 5 + j) → y.col k ≠ c := fun c h1 h5 k _ hk he => by
    rcases hk with hk | hk
    · exact h1 (by rw [← he, hk, hcb])
    · exact h5 (by rw [← he, hk])
  refine ⟨?_, h.low, (hc hp h.lt).trans h.hcol, ?_, fun m z hz => ?_, R_col h.log ho (hS _ (by omega) (by omega)) hc, R_col h.saved ho (hS _ (by omega) (by omega)) hc, h.gcap, Keeps_col h.gate ho (hS _ (by omega) (by omega)) hc, cv.col h.ext ho (fun k _ hk => by
    rcases hk with hk | hk
    · exact .inr (by rw [hk, hcb]; omega)
    · exact .inr (by omega)) hc⟩
  · have e : playCells (setNod s j x') { y with css := y.css.set j cs', col := col' } cv.val = playCells s y cv.val := by unfold playCells setNod; simp only [List.length_set]
    rw [e]
    exact (ho.block hp h.lt (fun e => by
      rcases e with e | e
      · exact h.bn_ne e.symm
      · have := h.hcol; omega)).trans h.blk
  · show kRaw.R _ _ _ _ (.slice (some ⟨y.bn, 0, none⟩) (s.nodes.set j x').length y.cap) (y.css.set j cs')
    rw [List.length_set]
    exact hR
  · have hz' : (s.nodes.set j x')[m]? = some z := hz
    by_cases hm : m = j
    · subst hm
      rw [List.getElem?_set_self hj] at hz'
      injection hz' with hz'
      subst hz'
      exact ⟨cs', List.getElem?_set_self hjl, hN⟩
    · rw [List.getElem?_set_ne (Ne.symm hm)] at hz'
      obtain ⟨cs2, h2, h3⟩ := h.nods m z hz'
      exact ⟨cs2, by show (y.css.set j cs')[m]? = some cs2; rw [List.getElem?_set_ne (Ne.symm hm)]; exact h2, h3.col ho (hS _ (by omega) (by omega)) hc⟩
/-- What was kept: the row was appended to, and stored. -/
theorem PlayAt.setSaved {B hp : Nat} {w w3 w9 : World} {cv : Ext} {s : Pai} {y : Lay} (h : PlayAt w B hp cv s y) (hb : Below w.heap.size w w3) (hg : w3.grownBy w9 y.vS.ownBlock) {v1 : Value} {saved' : List Nod} (hR : kNod.R 49 w9 B (fun k => recol y.col w.heap.size 3 k = 3) v1 saved') :
    PlayAt (w9.setCell ⟨hp, 4, none⟩ v1) B hp cv { s with saved := saved' } { y with vS := v1, col := recol y.col w.heap.size 3 } := by
  have hne : some hp ≠ y.vS.ownBlock := fun e => by have h1 : y.col hp = 3 := h.saved.1 hp e.symm; have h2 := h.hcol; omega
  have hb9 := blk_grown (blk_below h.blk hb) hg hne
  have ho : Only (fun k => some k = y.vS.ownBlock ∨ k = hp) w (w9.setCell ⟨hp, 4, none⟩ v1) :=
    (((Only.of_below hb (fun k => some k = y.vS.ownBlock)).trans (Only.of_grown hg)).mono (fun k hk => .inl hk)).setCell (p := ⟨hp, 4, none⟩) (.inl (.inr rfl)) v1
  have hlt := h.lt
  have hcol : ∀ k, k < w.heap.size → recol y.col w.heap.size 3 k = y.col k := fun k hk => recol_old hk
  obtain ⟨r1, r2, r3, r4, r5, r6⟩ := h.rest (c := 3) ho (fun k hk hx => by
    rcases hx with hx | hx
    · exact .inr (h.saved.1 k hx.symm)
    · exact .inl hx) hcol
  refine ⟨blk_put hb9 4 _ rfl, h.low, (hcol hp hlt).trans h.hcol, r1 (by omega), fun j x hx => r2 j x (by omega) hx, r3 (by omega), ?_, h.gcap, r5 (by omega), r6 (by omega)⟩
  exact Kd.R_far hR (p := ⟨hp, 4, none⟩) (fun k hk => by
    intro e
    have e' : k = hp := e
    have h1 : recol y.col w.heap.size 3 hp = 3 := e' ▸ hk
    have h2 := hcol _ hlt
    have h3 := h.hcol
    omega) v1
/-- A run of a node's cells was written: the row of raw cells then. -/
theorem raw_seg {B n cap g : Nat} {w : World} {ok : Nat → Prop} {css : List (List Value)} (h : kRaw.R 49 w B ok (.slice (some ⟨g, 0, none⟩) n cap) css) {j i : Nat} (hj : j < n) {c : List Value} (hc : css[j]? = some c) (seg : List Value) (hi : i + seg.length ≤ 8) (h1 : ∀ u ∈ seg, u.oneCell' = true) :
    kRaw.R 49 (w.setCells g (j * 8 + i) seg) B ok (.slice (some ⟨g, 0, none⟩) n cap) (css.set j (c.take i ++ seg ++ c.drop (i + seg.length))) := by
  obtain ⟨c', hl, hM, hcc, hf⟩ := Kd.R_elem h [] (j : Int) (by omega) (by omega)
  simp only [Int.toNat_natCast, List.getD_eq_getElem?_getD, hc, Option.getD_some] at hM hcc hf
  obtain ⟨rfl, h8, hone⟩ := hM
  have h2 := (Kd.R_seg h (j : Int) (by omega) (by omega) (c := c') (seg := seg) (j := i) (x' := c'.take i ++ seg ++ c'.drop (i + seg.length)) (okp := fun _ => False) h8 (fun k v hv => by have := hcc k v hv; rw [Int.toNat_natCast]; exact this) (by show i + seg.length ≤ 8; omega)
    ⟨rfl, by rw [List.length_append, List.length_append, List.length_take, List.length_drop]; omega, fun v hv => by
      rcases List.mem_append.1 hv with hv | hv
      · rcases List.mem_append.1 hv with hv | hv
        · exact hone v (List.mem_of_mem_take hv)
        · exact h1 v hv
      · exact hone v (List.mem_of_mem_drop hv)⟩ (fun _ hk => hk.elim)).1
  simp only [Int.toNat_natCast] at h2
  exact h2
theorem nod_M {w : World} {B : Nat} {ok : Nat → Prop} {x : Nod} {vr vo : Value} (hr : (Kd.int .i64).R 3 w B ok vr x.vm.regs) (ho : kEmit.R 52 w B ok vo x.outs) : kNod.M w B ok x [.int .i64 x.epoch, .int .i64 x.vm.pc, vr, .bool x.vm.halts, .bool x.vm.fault, .int .i64 x.read, vo, .int .i64 x.sent] :=
  ⟨[.int .i64 x.epoch], [.int .i64 x.vm.pc, vr, .bool x.vm.halts, .bool x.vm.fault, .int .i64 x.read, vo, .int .i64 x.sent], rfl, rfl, ⟨[.int .i64 x.vm.pc, vr, .bool x.vm.halts, .bool x.vm.fault], [.int .i64 x.read, vo, .int .i64 x.sent], rfl, ⟨[.int .i64 x.vm.pc], [vr, .bool x.vm.halts, .bool x.vm.fault], rfl, rfl, ⟨[vr], [.bool x.vm.halts, .bool x.vm.fault], rfl, ⟨vr, rfl, hr⟩, ⟨[.bool x.vm.halts], [.bool x.vm.fault], rfl, rfl, rfl⟩⟩⟩, ⟨[.int .i64 x.read], [vo, .int .i64 x.sent], rfl, rfl, ⟨[vo], [.int .i64 x.sent], rfl, ⟨vo, rfl, ho⟩, rfl⟩⟩⟩⟩
theorem info_node : (Tryd.prog.info? 49).map (fun i => (i.zero, i.size, i.bytes)) = some (some (.agg #[.int .i64 0, .int .i64 0, .slice none 0 0, .bool false, .bool false, .int .i64 0, .slice none 0 0, .int .i64 0]), kNod.sz, 88) := by kernel_rfl
theorem raw_cells {B n cap g : Nat} {w : World} {ok : Nat → Prop} {css : List (List Value)} (h : kRaw.R 49 w B ok (.slice (some ⟨g, 0, none⟩) n cap) css) {j : Nat} (hj : j < n) {c : List Value} (hc : css[j]? = some c) :
    (∀ i u, c[i]? = some u → w.cell? ⟨g, j * 8 + i, none⟩ = some u) ∧ ∀ i, w.frozen? ⟨g, j * 8 + i, none⟩ = false := by
  obtain ⟨c', hl, hM, hcc, hf⟩ := Kd.R_elem h [] (j : Int) (by omega) (by omega)
  simp only [Int.toNat_natCast, List.getD_eq_getElem?_getD, hc, Option.getD_some] at hM hcc hf
  obtain ⟨rfl, h8, hone⟩ := hM
  exact ⟨fun i u hu => hcc i u hu, fun i => hf i⟩
/-- What a stretch of work leaves: the row of raw cells behind the append. -/
theorem PlayAt.rawAt {B hp : Nat} {w w' : World} {cv : Ext} {s : Pai} {y : Lay} (h : PlayAt w B hp cv s y) {j : Nat} (ho : Only (fun q => y.col q = 5 + j) w w') : kRaw.R 49 w' B (fun k => recol y.col w.heap.size (5 + j) k = 1) (.slice (some ⟨y.bn, 0, none⟩) s.nodes.length y.cap) y.css :=
  R_col h.nod ho (fun k _ hk he => by rw [hk] at he; omega) (fun k hk => recol_old hk)
/-- A node has worked: its machine, what it let out, and how much it has read are written. -/
theorem PlayAt.worked {B hp : Nat} {w w5 w6 : World} {cv : Ext} {s : Pai} {y : Lay} (h : PlayAt w B hp cv s y) {j : Nat} {x : Nod} (hx : s.nodes[j]? = some x) (hb : Below w.heap.size w w5) {v6 vo : Value} (hg : w5.grownBy w6 vo.ownBlock) (hvo : ∀ q, vo.ownBlock = some q → y.col q = 5 + j ∧ q < w.heap.size)
    {Ar Ar4 : Option Addr} {cr cr4 : Nat} (hcs : y.css[j]? = some [.int .i64 x.epoch, .int .i64 x.vm.pc, .slice Ar x.vm.regs.length cr, .bool x.vm.halts, .bool x.vm.fault, .int .i64 x.read, vo, .int .i64 x.sent])
    (x' : Nod) (h8 : x'.vm.regs.length = 8) (hcr : 8 ≤ cr4) (he : x'.epoch = x.epoch) (hs : x'.sent = x.sent) (hK : Keeps (fun W => (Kd.int .i64).C W Ar4 8 x'.vm.regs) w5 (fun q => w.heap.size ≤ q)) (hR : kEmit.R 52 w6 B (fun q => recol y.col w.heap.size (5 + j) q = 5 + j) v6 x'.outs) (h1 : v6.oneCell' = true) :
    ∃ css, PlayAt ((((((w6.setCell ⟨y.bn, j * 8 + 1, none⟩ (.int .i64 x'.vm.pc)).setCell ⟨y.bn, j * 8 + 2, none⟩ (.slice Ar4 8 cr4)).setCell ⟨y.bn, j * 8 + 3, none⟩ (.bool x'.vm.halts)).setCell ⟨y.bn, j * 8 + 4, none⟩ (.bool x'.vm.fault)).setCell ⟨y.bn, j * 8 + 6, none⟩ v6).setCell ⟨y.bn, j * 8 + 5, none⟩ (.int .i64 x'.read)) B hp cv (setNod s j x') { y with css := css, col := recol y.col w.heap.size (5 + j) } := by
  have hjn : j < s.nodes.length := (List.getElem?_eq_some_iff.1 hx).1
  have hjl : j < y.css.length := by have := h.css_len; omega
  have hbl : y.bn < w.heap.size := Kd.R_lt h.nod y.bn (by simp [Value.ownBlock])
  have ho5 : Only (fun q => y.col q = 5 + j) w w5 := Only.of_below hb _
  have ho56 : Only (fun q => some q = vo.ownBlock) w5 w6 := Only.of_grown hg
  have ho6 : Only (fun q => y.col q = 5 + j) w w6 := ho5.then_ ho56 (fun q hq => .inl (hvo q hq.symm).1)
  have r0 := h.rawAt ho6
  have r1 := raw_seg r0 hjn hcs (i := 1) [.int .i64 x'.vm.pc, .slice Ar4 8 cr4, .bool x'.vm.halts, .bool x'.vm.fault] (by show 1 + 4 ≤ 8; omega) (by
    intro u hu
    simp only [List.mem_cons, List.not_mem_nil, or_false] at hu
    rcases hu with rfl | rfl | rfl | rfl <;> rfl)
  have r2 := raw_seg r1 hjn (List.getElem?_set_self hjl) (i := 6) [v6] (by show 6 + 1 ≤ 8; omega) (by
    intro u hu
    rw [List.mem_singleton] at hu
    rw [hu]; exact h1)
  have r3 := raw_seg r2 hjn (List.getElem?_set_self (by rw [List.length_set]; exact hjl)) (i := 5) [.int .i64 x'.read] (by show 5 + 1 ≤ 8; omega) (by
    intro u hu
    rw [List.mem_singleton] at hu
    rw [hu]; rfl)
  rw [List.set_set, List.set_set] at r3
  have hW : (((w6.setCells y.bn (j * 8 + 1) [.int .i64 x'.vm.pc, .slice Ar4 8 cr4, .bool x'.vm.halts, .bool x'.vm.fault]).setCells y.bn (j * 8 + 6) [v6]).setCells y.bn (j * 8 + 5) [.int .i64 x'.read]) = ((((((w6.setCell ⟨y.bn, j * 8 + 1, none⟩ (.int .i64 x'.vm.pc)).setCell ⟨y.bn, j * 8 + 2, none⟩ (.slice Ar4 8 cr4)).setCell ⟨y.bn, j * 8 + 3, none⟩ (.bool x'.vm.halts)).setCell ⟨y.bn, j * 8 + 4, none⟩ (.bool x'.vm.fault)).setCell ⟨y.bn, j * 8 + 6, none⟩ v6).setCell ⟨y.bn, j * 8 + 5, none⟩ (.int .i64 x'.read)) := rfl
  rw [hW] at r3
  have ho7 : Only (fun q => q = y.bn) w6 ((((((w6.setCell ⟨y.bn, j * 8 + 1, none⟩ (.int .i64 x'.vm.pc)).setCell ⟨y.bn, j * 8 + 2, none⟩ (.slice Ar4 8 cr4)).setCell ⟨y.bn, j * 8 + 3, none⟩ (.bool x'.vm.halts)).setCell ⟨y.bn, j * 8 + 4, none⟩ (.bool x'.vm.fault)).setCell ⟨y.bn, j * 8 + 6, none⟩ v6).setCell ⟨y.bn, j * 8 + 5, none⟩ (.int .i64 x'.read)) := only_one (only_one (only_four (Only.refl _ w6) rfl) rfl) rfl
  generalize ((((((w6.setCell ⟨y.bn, j * 8 + 1, none⟩ (.int .i64 x'.vm.pc)).setCell ⟨y.bn, j * 8 + 2, none⟩ (.slice Ar4 8 cr4)).setCell ⟨y.bn, j * 8 + 3, none⟩ (.bool x'.vm.halts)).setCell ⟨y.bn, j * 8 + 4, none⟩ (.bool x'.vm.fault)).setCell ⟨y.bn, j * 8 + 6, none⟩ v6).setCell ⟨y.bn, j * 8 + 5, none⟩ (.int .i64 x'.read)) = W at *
  have hcol1 : recol y.col w.heap.size (5 + j) y.bn = 1 := (recol_old hbl).trans h.bn_col
  refine ⟨_, h.putNod hx (fun k hk => recol_old hk) ((ho6.mono (fun q hq => .inr hq)).then_ ho7 (fun q hq => .inl (.inl hq))) x' r3 ⟨⟨Ar4, cr4, v6, ?_, by rw [h8]; exact hcr, ?_, R_col hR ho7 (fun k _ hk => by rw [hk, hcol1]; omega) (fun _ _ => rfl)⟩⟩⟩
  · rw [h8, he, hs]; rfl
  · rw [h8]
    refine Keeps.mono (Keeps.step (Keeps.step hK ho56 (fun k hk _ hx => ?_)) ho7 (fun k hk _ hx => ?_)) (fun k hk => recol_new hk)
    · have h2 := (hvo k hx.symm).2
      have hk' : w.heap.size ≤ k := hk
      omega
    · have hk' : w.heap.size ≤ k := hk
      have hx' : k = y.bn := hx
      omega
end Go.Proofs.YtifphhkkpadpoaaDoor
