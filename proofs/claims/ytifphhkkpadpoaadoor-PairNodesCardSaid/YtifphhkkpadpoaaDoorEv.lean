/- Whole stores and loads of structures as one event: what is left of the world is a letter, with its block. -/
import Derived.Test.YtifphhkkpadpoaaDoorLib
namespace Go.Proofs.YtifphhkkpadpoaaDoor
open Go.RowKit Go.Proofs.YtifphhkkpadpoaaDoorW.PrintWords
set_option linter.unusedVariables false
set_option linter.unusedSimpArgs false
section
variable {P : Program} {ops : Array Oper} {rest : List Oper} {o : Oper} {a : Act} {Q : Exit → Act → World → Prop} {W : World}
theorem ev_store (hgd : o.guard = none) (hN : o.dst = none) {t : TypeId} {p x : Operand} (ho : o.op = .store t p x) {g off : Nat} {cur cs' : Array Value} {e : TypeId} (hb : W.heap[g]? = some (.cells cur e (0, 0)))
    (haddr : a.eval p = .pointer (some ⟨g, off, none⟩)) {u : Value} (hx : a.eval x = u) {seg : List Value} (hu : u.cells.toList = seg) (ht : (P.info? t).map (·.size) = some seg.length) (hfit : off + seg.length ≤ cur.size) (h1 : ∀ q ∈ seg, q.oneCell' = true)
    (hcs : cs'.toList = cur.toList.take off ++ seg ++ cur.toList.drop (off + seg.length))
    (h : ∀ w1, w1.heap[g]? = some (.cells cs' e (0, 0)) → Only (fun k => k = g) W w1 → w1.heap.size = W.heap.size → wpList P ops Q rest a w1) : wpList P ops Q (o :: rest) a W := by
  refine wpList_plain hgd fun K hK => ?_
  have hrun := run_store_run (P := P) t u seg hb hu ht hfit h1
  unfold Oper.wp execOp
  simp only [ho, haddr, hx, Sem.run_bind, Sem.run_pure, Result.andThen_ok, hrun]
  show K (a.put o.dst undef) _
  rw [hN]
  obtain ⟨s1, s2, s3, s4⟩ := setCells_same g seg off W
  obtain ⟨cur', h2, h3, h4⟩ := setCells_row (e := e) seg off W cur hb hfit
  have hc : cur' = cs' := Array.toList_inj.1 (by rw [h4, hcs])
  rw [hc] at h2
  exact hK a _ (h _ h2 ⟨s1, s2, s3, by rw [s4]; exact Nat.le_refl _, fun k _ hn => setCells_far seg off k hn⟩ s4)
theorem ev_load (hgd : o.guard = none) {N : Tmp} (hN : o.dst = some N) {t : TypeId} {p : Operand} (ho : o.op = .load t p) {g : Nat} {cs : Array Value} {e : TypeId} (hb : W.heap[g]? = some (.cells cs e (0, 0)))
    (haddr : a.eval p = .pointer (some ⟨g, 0, none⟩)) {d : TypeDesc} (hu : P.underlying t = some d) (hd : (match d with | .struct _ | .array _ _ => true | _ => false) = true) (hi : (P.info? t).map (·.size) = some cs.size)
    (h : wpList P ops Q rest (a.put (some N) (.agg cs)) W) : wpList P ops Q (o :: rest) a W := by
  refine wpList_plain hgd fun K hK => ?_
  have hrun := run_loadVar_row W g e t cs (0, 0) d hb hu hd hi
  unfold Oper.wp execOp
  simp only [ho, haddr, Sem.run_bind, Sem.run_pure, Result.andThen_ok, asAddr, hrun, Instr.loadAt, Instr.sureAddr]
  show K (a.put o.dst (.agg cs)) _
  rw [hN]
  exact hK _ _ h
end
theorem info_nod : (Tryd.prog.info? 49).map (·.size) = some 8 := by kernel_rfl
/-- The eight cells of a node, as the walk writes them. -/
theorem one8 (a b c d e f : Int) (h t : Bool) (A A' : Option Addr) (n n' m m' : Nat) : ∀ q ∈ [Value.int .i64 a, .int .i64 b, .slice A n m, .bool h, .bool t, .int .i64 c, .slice A' n' m', .int .i64 d], q.oneCell' = true := by
  intro q hq
  simp only [List.mem_cons, List.not_mem_nil, or_false] at hq
  rcases hq with rfl | rfl | rfl | rfl | rfl | rfl | rfl | rfl <;> rfl
end Go.Proofs.YtifphhkkpadpoaaDoor
