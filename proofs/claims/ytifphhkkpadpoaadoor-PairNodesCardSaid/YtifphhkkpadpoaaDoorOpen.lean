/- An argument that is a slice of structs of numbers, opened; the listed table of powers of ten, fetched out of a row's condition. -/
import Derived.Test.YtifphhkkpadpoaaDoorLawA
import Derived.Test.YtifphhkkpadpoaaDoorTie
import Derived.Deep.Slices
import Derived.Deep.Fields
import Derived.ChangeSame
import Derived.Lib.LaidTab
import Derived.Stop.LaidErr
import Derived.ProofKit
import Derived.OpenShut
import Derived.LaidMore
import Derived.Lay
namespace Go.Proofs.YtifphhkkpadpoaaDoor
open Go.RowKit Go.Proofs.YtifphhkkpadpoaaDoorW.PrintWords Go.ChangeShapes Go.WideShapes Go.Deep
set_option linter.unusedVariables false
section
variable {H : Type} {enc : TypeId × Value → H} {P : Program} {w : World} {base : Nat} {spare : Nat → Bool} {held : Bool}
theorem open_slice_fields {t e : TypeId} {fs : Array Field} {fuel : Nat} {cs : List Value} {x : DataW H × List MemPlace} (ht : P.underlying t = some (.slice e)) (he : P.underlying e = some (.struct fs))
    (hone : oneCellFields P fs = true) (hC : P.cellsOf e = fs.size) (h : DataW.trod enc P w base spare held fuel t cs = some x) :
    (cs = [.slice none 0 0] ∧ x = (.nil, [])) ∨
    ∃ (a : Addr) (len cap m : Nat) (D : Nat → DataW H) (Pl : Nat → List MemPlace), cs = [.slice (some a) len cap] ∧ base ≤ a.block ∧ len ≤ cap ∧ cap ≤ maxLen ∧ m = (if spare a.block then cap else len) ∧
      x = (.slice ((List.range len).map D) ((List.range (m - len)).map fun j => D (len + j)), MemPlace.row a (m * fs.size) ++ (List.range m).flatMap Pl) ∧
      ∀ i, i < m → ∃ (ys : List (DataW H × List MemPlace)) (n : Nat), D i = .agg (ys.map (·.1)) ∧ Pl i = ys.flatMap (·.2) ∧ ys.length = fs.size ∧
        ∀ (j : Nat) (f : Field), fs[j]? = some f → ∃ (v : Value) (y : DataW H × List MemPlace), w.cell? (a.add (i * fs.size + j)) = some v ∧ ys[j]? = some y ∧ DataW.trod enc P w base spare held n f.type [v] = some y := by
  rcases open_slice ht h with h0 | ⟨a, len, cap, m, n, D, Pl, hcs, hb, hl, hm, hmm, hx, hi⟩
  · exact .inl h0
  · refine .inr ⟨a, len, cap, m, D, Pl, hcs, hb, hl, hm, hmm, by rw [hC] at hx; exact hx, fun i him => ?_⟩
    obtain ⟨cs', hc, ht'⟩ := hi i him
    rw [hC] at hc
    obtain ⟨ys, n', hn', hy, hlen, hyl, hf⟩ := DataW.trod_struct he ht'
    obtain ⟨_, hcl, hat⟩ := World.cells?_some hc
    simp only [Prod.mk.injEq] at hy
    refine ⟨ys, n', hy.1, hy.2, hyl, fun j f hj => ?_⟩
    obtain ⟨ho, hk⟩ := hone_of hone j f hj
    have hjl : j < fs.size := (Array.getElem?_eq_some_iff.1 hj).1
    have hcell := hat j hjl
    have hv : cs'[j]? = some (cs'[j]'(by omega)) := List.getElem?_eq_getElem (by omega)
    have h1 := hf j f hj
    rw [ho, hk] at h1
    have hone' : (cs'.drop j).take 1 = [cs'[j]'(by omega)] := by
      rw [List.drop_eq_getElem_cons (by omega)]
      rfl
    rw [hone'] at h1
    have hys : ys[j]? = some (ys[j]'(by omega)) := List.getElem?_eq_getElem (by omega)
    refine ⟨_, _, ?_, hys, h1.trans hys⟩
    rw [← Go.Deep.add_add, hcell, hv]
theorem C_of_cells {α : Type} (d : Kd α) {ad : Addr} : ∀ (n : Nat), n ≤ 9223372036854775807 → (∀ i, i < n → ∃ x cs, d.K w x cs ∧ ∀ j u, cs[j]? = some u → w.cell? (ad.add (i * d.sz + j)) = some u) → ∃ xs : List α, xs.length = n ∧ d.C w (some ad) n xs := by
  intro n hn h
  suffices hs : ∀ m, m ≤ n → ∃ xs : List α, xs.length = m ∧ ∀ j p, xs[j]? = some p → ∃ c, c.length = d.sz ∧ d.K w p c ∧ ∀ i u, c[i]? = some u → w.cell? (ad.add (j * d.sz + i)) = some u by
    obtain ⟨xs, hl, hx⟩ := hs n (Nat.le_refl _)
    exact ⟨xs, hl, hl, hn, fun _ => ⟨_, rfl, hx⟩⟩
  intro m
  induction m with
  | zero => exact fun _ => ⟨[], rfl, fun j p hj => by cases hj⟩
  | succ m ih =>
    intro hm
    obtain ⟨xs, hl, hx⟩ := ih (by omega)
    obtain ⟨x, cs, hK, hc⟩ := h m (by omega)
    refine ⟨xs ++ [x], by rw [List.length_append, hl]; rfl, fun j p hj => ?_⟩
    rcases Nat.lt_or_ge j m with hlt | hge
    · rw [List.getElem?_append_left (by omega)] at hj
      exact hx j p hj
    · rw [List.getElem?_append_right (by omega)] at hj
      have h0 : j - xs.length = 0 := by
        rcases Nat.eq_zero_or_pos (j - xs.length) with h0 | h0
        · exact h0
        · rw [List.getElem?_eq_none (by simp; omega)] at hj; cases hj
      rw [h0] at hj
      injection hj with hj
      obtain rfl : j = m := by omega
      subst hj
      exact ⟨cs, d.K_len hK, hK, hc⟩
end
section
variable {H : Type} {enc : TypeId × Value → H} {W : World} {base : Nat} {sp : Nat → Bool} {held : Bool}
theorem max_is : maxLen = 9223372036854775807 := rfl
theorem three_of {ad : Addr} {i n : Nat} {fs : Array Field} {ys : List (DataW H × List MemPlace)} (h3 : fs.size = 3) (hty : ∀ (j : Nat) (f : Field), fs[j]? = some f → f.type = 3)
    (hf : ∀ (j : Nat) (f : Field), fs[j]? = some f → ∃ (v : Value) (y : DataW H × List MemPlace), W.cell? (ad.add (i * fs.size + j)) = some v ∧ ys[j]? = some y ∧ DataW.trod enc Tryd.prog W base sp held n f.type [v] = some y) :
    ∃ a b c : Int, W.cell? (ad.add (i * 3)) = some (.int .i64 a) ∧ W.cell? (ad.add (i * 3 + 1)) = some (.int .i64 b) ∧ W.cell? (ad.add (i * 3 + 2)) = some (.int .i64 c) := by
  have key : ∀ j, j < 3 → ∃ a : Int, W.cell? (ad.add (i * 3 + j)) = some (.int .i64 a) := fun j hj => by
    obtain ⟨f, hf1⟩ : ∃ f, fs[j]? = some f := ⟨_, Array.getElem?_eq_getElem (by omega)⟩
    obtain ⟨v, y, hc, _, ht⟩ := hf j f hf1
    rw [hty j f hf1] at ht
    obtain ⟨z, hz, _⟩ := DataW.trod_int Tryd.underlying3 ht
    injection hz with hz
    subst hz
    rw [h3] at hc
    exact ⟨z, hc⟩
  obtain ⟨a, ha⟩ := key 0 (by omega)
  obtain ⟨b, hb⟩ := key 1 (by omega)
  obtain ⟨c, hc⟩ := key 2 (by omega)
  exact ⟨a, b, c, ha, hb, hc⟩
theorem open_ins {fuel : Nat} {a : Option Addr} {len cap : Nat} {x : DataW H × List MemPlace} (h : DataW.trod enc Tryd.prog W base sp held fuel 22 [.slice a len cap] = some x) (hsp : ∀ b, sp b = true) : ∃ xs : List Ins, len = xs.length ∧ xs.length ≤ cap ∧ kIns.C W a xs.length xs := by
  rcases open_slice_fields Tryd.underlying22 Tryd.underlying66 (by kernel_rfl) (by kernel_rfl) h with ⟨hcs, _⟩ | ⟨ad, l, c, m, D, Pl, hcs, _, hl, hm, hmm, _, hi⟩
  · injection hcs with hcs
    injection hcs with h1 h2 h3
    subst h1; subst h2; subst h3
    exact ⟨[], rfl, Nat.le_refl _, Kd.C_nil _ _⟩
  · injection hcs with hcs
    injection hcs with h1 h2 h3
    subst h1; subst h2; subst h3
    rw [hsp, if_pos rfl] at hmm
    obtain ⟨xs, hxl, hxC⟩ := C_of_cells kIns (w := W) (ad := ad) len (by rw [max_is] at hm; omega) (fun i hilt => by
      obtain ⟨ys, n, _, _, _, hf⟩ := hi i (by omega)
      obtain ⟨p, q, r, h1, h2, h3⟩ := three_of (by rfl) (by intro j f hj; have : j < 3 := (Array.getElem?_eq_some_iff.1 hj).1; rcases j with _ | _ | _ | j <;> first | (simp at hj; rw [← hj]) | omega) hf
      refine ⟨⟨p, q, r⟩, _, kIns_mk W ⟨p, q, r⟩, fun j u hu => ?_⟩
      rcases j with _ | _ | _ | j
      · injection hu with hu; rw [← hu]; exact h1
      · injection hu with hu; rw [← hu]; exact h2
      · injection hu with hu; rw [← hu]; exact h3
      · cases hu)
    subst hxl
    exact ⟨xs, rfl, hl, hxC⟩
theorem open_pact {fuel : Nat} {a : Option Addr} {len cap : Nat} {x : DataW H × List MemPlace} (h : DataW.trod enc Tryd.prog W base sp held fuel 23 [.slice a len cap] = some x) (hsp : ∀ b, sp b = true) : ∃ xs : List PAct, len = xs.length ∧ xs.length ≤ cap ∧ kPAct.C W a xs.length xs := by
  rcases open_slice_fields Tryd.underlying23 Tryd.underlying41 (by kernel_rfl) (by kernel_rfl) h with ⟨hcs, _⟩ | ⟨ad, l, c, m, D, Pl, hcs, _, hl, hm, hmm, _, hi⟩
  · injection hcs with hcs
    injection hcs with h1 h2 h3
    subst h1; subst h2; subst h3
    exact ⟨[], rfl, Nat.le_refl _, Kd.C_nil _ _⟩
  · injection hcs with hcs
    injection hcs with h1 h2 h3
    subst h1; subst h2; subst h3
    rw [hsp, if_pos rfl] at hmm
    obtain ⟨xs, hxl, hxC⟩ := C_of_cells kPAct (w := W) (ad := ad) len (by rw [max_is] at hm; omega) (fun i hilt => by
      obtain ⟨ys, n, _, _, _, hf⟩ := hi i (by omega)
      obtain ⟨p, q, r, h1, h2, h3⟩ := three_of (by rfl) (by intro j f hj; have : j < 3 := (Array.getElem?_eq_some_iff.1 hj).1; rcases j with _ | _ | _ | j <;> first | (simp at hj; rw [← hj]) | omega) hf
      refine ⟨⟨p, q, r⟩, _, kPAct_mk W ⟨p, q, r⟩, fun j u hu => ?_⟩
      rcases j with _ | _ | _ | j
      · injection hu with hu; rw [← hu]; exact h1
      · injection hu with hu; rw [← hu]; exact h2
      · injection hu with hu; rw [← hu]; exact h3
      · cases hu)
    subst hxl
    exact ⟨xs, rfl, hl, hxC⟩
end
theorem tab_of_laid {W : World} {r : List (String × DataW Unit)} {x y : String × DataW Unit} (h : laidMetH Tryd.prog (x :: y :: ("internal/strconv.uint64pow10", Rows.laid_internal_strconv_uint64pow10) :: r) W) (hp : ((x :: y :: ("internal/strconv.uint64pow10", Rows.laid_internal_strconv_uint64pow10) :: r).all fun x => x.2.handleName?.isNone) = true) : Tab W := by
  rw [MakeChecks.laidMetH_plain _ _ _ hp] at h
  have h2 := h.tail.tail
  exact Lib.tabIs_of_head (g := 3) (t := 187) (e := 155) (n := 20) (by kernel_rfl) (by kernel_rfl) Tryd.underlying187 Tryd.underlying155 (by kernel_rfl) (by kernel_rfl) h2
end Go.Proofs.YtifphhkkpadpoaaDoor
