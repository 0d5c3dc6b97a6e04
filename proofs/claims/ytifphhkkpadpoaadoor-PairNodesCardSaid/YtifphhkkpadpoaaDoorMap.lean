/- A map with numbers as keys that the call makes itself: what each entry put into it leaves, as one event; what is found in it. -/
import Derived.Test.YtifphhkkpadpoaaDoorLay
import Derived.MapKept
import Derived.Carry
namespace Go.Proofs.YtifphhkkpadpoaaDoor
open Go.RowKit Go.Proofs.YtifphhkkpadpoaaDoorW.PrintWords
set_option linter.unusedVariables false
theorem run_put {P : Program} {mt kt et : TypeId} (hm : P.underlying mt = some (.map kt et)) (hkt : P.underlying kt = some (.int .i64)) {W : World} {g : Nat} {es : Array MapEntry} {c : Nat} (hb : W.heap[g]? = some (.map es c)) (k : Int) (v : Value) (hn : Instr.findNow (.int .i64) (.int .i64 k) es.toList 0 = some none) :
    (Instr.mapUpdate mt (.map (some g)) (.int .i64 k) v).run P W = .ok () { W with heap := W.heap.setIfInBounds g (.map (es.push { key := .int .i64 k, val := v, born := c }) (c + 1)) } := by
  unfold Instr.mapUpdate
  simp only [Sem.run_bind, run_underlying hm, Result.andThen_ok, MapKept.run_getObj_map hb, MapKept.run_checkKey hkt (show MapKept.IsKey (.int .i64) (.int .i64 k) from rfl), MapKept.run_findKey hkt hn, MapKept.run_setObj_map _ hb]
theorem run_find {P : Program} {mt kt et : TypeId} (hm : P.underlying mt = some (.map kt et)) (hkt : P.underlying kt = some (.int .i64)) {W : World} {g : Nat} {es : Array MapEntry} {c : Nat} (hb : W.heap[g]? = some (.map es c)) (k : Int) {i : Nat} {v : Value} (hn : Instr.findNow (.int .i64) (.int .i64 k) es.toList 0 = some (some (i, v))) :
    (Instr.lookup mt (.map (some g)) (.int .i64 k) true).run P W = .ok (.tuple #[v, .bool true]) W := by
  unfold Instr.lookup
  simp only [Sem.run_bind, run_underlying hm, Result.andThen_ok, MapKept.run_getObj_map hb, MapKept.run_checkKey hkt (show MapKept.IsKey (.int .i64) (.int .i64 k) from rfl), MapKept.run_findKey hkt hn, Sem.run_pure]
  rfl
theorem run_miss {P : Program} {mt kt et : TypeId} (hm : P.underlying mt = some (.map kt et)) (hkt : P.underlying kt = some (.int .i64)) {W : World} {g : Nat} {es : Array MapEntry} {c : Nat} (hb : W.heap[g]? = some (.map es c)) (k : Int) {z : Value} (hz : (zeroValue et).run P W = .ok z W) (hn : Instr.findNow (.int .i64) (.int .i64 k) es.toList 0 = some none) :
    (Instr.lookup mt (.map (some g)) (.int .i64 k) true).run P W = .ok (.tuple #[z, .bool false]) W := by
  unfold Instr.lookup
  simp only [Sem.run_bind, run_underlying hm, Result.andThen_ok, MapKept.run_getObj_map hb, MapKept.run_checkKey hkt (show MapKept.IsKey (.int .i64) (.int .i64 k) from rfl), MapKept.run_findKey hkt hn, Sem.run_pure, hz]
  rfl
theorem only_block {w : World} {g : Nat} (o : Obj) : Only (fun q => q = g) w { w with heap := w.heap.setIfInBounds g o } :=
  ⟨rfl, rfl, rfl, by simp, fun k _ hn => by
    show (w.heap.setIfInBounds g o)[k]? = _
    rw [Array.getElem?_setIfInBounds_ne (fun e => hn e.symm)]⟩
section
variable {P : Program} {ops : Array Oper} {rest : List Oper} {o : Oper} {a : Act} {Q : Exit → Act → World → Prop} {W : World}
theorem ev_insert (hgd : o.guard = none) (hN : o.dst = none) {mt kt et : TypeId} {m k x : Operand} (ho : o.op = .insert mt m k x) (hm : P.underlying mt = some (.map kt et)) (hkt : P.underlying kt = some (.int .i64)) {g : Nat} {es : Array MapEntry} {c : Nat} (hb : W.heap[g]? = some (.map es c))
    (haddr : a.eval m = .map (some g)) {key : Int} (hk : a.eval k = .int .i64 key) {u : Value} (hx : a.eval x = u) (hn : Instr.findNow (.int .i64) (.int .i64 key) es.toList 0 = some none) {n : Nat} {w0 : World} (hB : Below n w0 W) (hg : n ≤ g)
    (h : ∀ w1, w1.heap[g]? = some (.map (es.push { key := .int .i64 key, val := u, born := c }) (c + 1)) → Below n w0 w1 → wpList P ops Q rest a w1) : wpList P ops Q (o :: rest) a W := by
  refine wpList_plain hgd fun K hK => ?_
  have hrun := run_put hm hkt hb key u hn
  unfold Oper.wp execOp
  simp only [ho, haddr, hk, hx, Sem.run_bind, Sem.run_pure, Result.andThen_ok, hrun]
  show K (a.put o.dst undef) _
  rw [hN]
  have hlt := (Array.getElem?_eq_some_iff.1 hb).1
  refine hK a _ (h _ ?_ ⟨hB.os, hB.tape, hB.output, by simpa using hB.size, fun k hk => ?_⟩)
  · show (W.heap.setIfInBounds g _)[g]? = _
    rw [Array.getElem?_setIfInBounds_self_of_lt hlt]
  · show (W.heap.setIfInBounds g _)[k]? = _
    rw [Array.getElem?_setIfInBounds_ne (by omega)]
    exact hB.block k hk
theorem ev_makeMap (hgd : o.guard = none) {N : Tmp} (hN : o.dst = some N) {mt : TypeId} (ho : o.op = .makeMap mt none) {n : Nat} {w0 : World} (hB : Below n w0 W) (hn : n ≤ W.heap.size)
    (h : ∀ g w1, n ≤ g → w1.heap[g]? = some (.map #[] 0) → Below n w0 w1 → wpList P ops Q rest (a.put (some N) (.map (some g))) w1) : wpList P ops Q (o :: rest) a W := by
  refine wpList_plain hgd fun K hK => ?_
  unfold Oper.wp execOp
  simp only [ho, Sem.run_bind, Sem.run_pure, Option.map_none]
  show K (a.put o.dst (.map (some W.heap.size))) _
  rw [hN]
  exact hK _ _ (h W.heap.size (W.alloc (.map #[] 0)) hn (heap_alloc_new W _) (Below.alloc hB hn _))
theorem ev_lookup (hgd : o.guard = none) {N : Tmp} (hN : o.dst = some N) {mt : TypeId} {m k : Operand} (ho : o.op = .lookup mt m k true) {g : Nat} (haddr : a.eval m = .map (some g)) {key : Int} (hk : a.eval k = .int .i64 key) {v : Value}
    (hrun : (Instr.lookup mt (.map (some g)) (.int .i64 key) true).run P W = .ok v W) (h : wpList P ops Q rest (a.put (some N) v) W) : wpList P ops Q (o :: rest) a W := by
  refine wpList_plain hgd fun K hK => ?_
  unfold Oper.wp execOp
  simp only [ho, haddr, hk, Sem.run_bind, Sem.run_pure, Result.andThen_ok, hrun]
  show K (a.put o.dst v) _
  rw [hN]
  exact hK _ _ h
end
end Go.Proofs.YtifphhkkpadpoaaDoor
