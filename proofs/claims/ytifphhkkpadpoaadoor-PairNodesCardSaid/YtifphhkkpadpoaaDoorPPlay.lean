/- The walk of pair.Play. Printed by gen_play.py. -/
import Derived.Test.YtifphhkkpadpoaaDoorPAct3
import Derived.Test.YtifphhkkpadpoaaDoorBuilt
import Derived.Test.YtifphhkkpadpoaaDoorVmA
namespace Go.Proofs.YtifphhkkpadpoaaDoor
open Go.RowKit Go.Proofs.YtifphhkkpadpoaaDoorW.PrintWords
set_option linter.unusedVariables false
set_option linter.unusedSimpArgs false
theorem info_pair : (Tryd.prog.info? 32).map (·.size) = some 8 := by kernel_rfl
theorem one8z : ∀ q ∈ ([.slice none 0 0, .int .i64 0, .int .i64 0, .slice none 0 0, .slice none 0 0, .int .i64 0, .int .i64 0, .slice none 0 0] : List Value), q.oneCell' = true := by
  intro q hq
  simp only [List.mem_cons, List.not_mem_nil, or_false] at hq
  rcases hq with rfl | rfl | rfl | rfl | rfl | rfl | rfl | rfl <;> rfl
theorem Only.below_of {S : Nat → Prop} {w w' : World} {m : Nat} (h : Only S w w') (hS : ∀ k, S k → m ≤ k) (hm : m ≤ w.heap.size) : Below m w w' :=
  ⟨h.os, h.tape, h.output, h.size, fun k hk => h.block k (Nat.lt_of_lt_of_le hk hm) (fun hx => by have := hS k hx; omega)⟩
set_option maxRecDepth 100000 in
set_option maxHeartbeats 8000000 in
theorem play_err (code : List Ins) (Ac : Option Addr) (cc : Nat) (n : Int) (l : List PAct) (Al : Option Addr) (cl : Nat) (w : World) (hC : kIns.C w Ac code.length code) (hcc : code.length ≤ cc) (hL : kPAct.C w Al l.length l) (h : (pairPlay code n l).2.2 ≠ 0) :
    Calls Tryd.prog 11 #[.slice Ac code.length cc, .int .i64 n, .slice Al l.length cl] w (PlayPost w (pairPlay code n l)) := by
  unfold pairPlay at h ⊢
  by_cases h1 : codeCheck code = 0
  · have HE := Aside0.mk h1
    rw [if_neg (by simpa using h1)] at h ⊢
    clear h1
    by_cases h2 : n < 1 ∨ 4 < n
    · rw [if_pos h2] at h ⊢
      by_cases h3 : n < 1
      · have d1 : decide (n < 1) = true := decide_eq_true h3
        have HC := Aside0.mk hC
        have HL := Aside0.mk hL
        have hlen := hL.2.1
        have HB0 := Aside0.mk (below_alloc (Below.refl w.heap.size w) (.cells #[.slice none 0 0, .int .i64 0, .int .i64 0, .slice none 0 0, .slice none 0 0, .int .i64 0, .int .i64 0, .slice none 0 0] 32))
        have hr0 := blk_new w (.cells #[.slice none 0 0, .int .i64 0, .int .i64 0, .slice none 0 0, .slice none 0 0, .int .i64 0, .int .i64 0, .slice none 0 0] 32)
        clear hC hL
        go_enter Tryd.func11, Tryd.ntmps11
        go_wp2_with fail
        generalize w.alloc (.cells #[.slice none 0 0, .int .i64 0, .int .i64 0, .slice none 0 0, .slice none 0 0, .int .i64 0, .int .i64 0, .slice none 0 0] 32) = w0 at *
        refine (check_calls Ac cc code w0 (Kd.C_below HC.out HB0.out)).mono ?_
        rintro e1 w1 ⟨rfl, hb1⟩
        rw [HE.out]
        have HB1 := Aside0.mk (below_step HB0.out hb1)
        have hr1 := blk_below hr0 hb1
        have HR1 := Aside0.mk hr1
        clear hb1 hr0 hr1
        go_wp2_with (refine ev_store rfl rfl rfl HR1.out rfl rfl rfl info_pair (Nat.le_refl 8) one8z (cs' := #[.slice none 0 0, .int .i64 0, .int .i64 0, .slice none 0 0, .slice none 0 0, .int .i64 0, .int .i64 0, .slice none 0 0]) rfl ?_; intro w2 b2 hO2 hs2; have B2 := Aside0.mk b2; have HO2 := Aside0.mk hO2; clear b2 hO2 hs2)
        have x0 := blk_cell B2.out 0
        have x1 := blk_cell B2.out 1
        have x2 := blk_cell B2.out 2
        have x3 := blk_cell B2.out 3
        have x4 := blk_cell B2.out 4
        have x5 := blk_cell B2.out 5
        have x6 := blk_cell B2.out 6
        have x7 := blk_cell B2.out 7
        refine bodyPost_ret (v := .tuple #[.agg #[.slice none 0 0, .int .i64 0, .int .i64 0, .slice none 0 0, .slice none 0 0, .int .i64 0, .int .i64 0, .slice none 0 0], .slice none 0 0, .int .i64 1]) (by simp [results, Tryd.results11, go_sem, x0, x1, x2, x3, x4, x5, x6, x7]) rfl ⟨⟨none, 0, none, 0, none, 0, none, 0⟩, none, 0, rfl, noPairIn _, Kd.C_nil _ _, Nat.le_refl _, ?_⟩
        exact HB1.out.trans (HO2.out.below_of (fun k hk => by have hk' : k = w.heap.size := hk; omega) (by exact HB1.out.size))
      · have d1 : decide (n < 1) = false := decide_eq_false h3
        have d2 : decide (4 < n) = true := decide_eq_true (by omega)
        have HC := Aside0.mk hC
        have HL := Aside0.mk hL
        have hlen := hL.2.1
        have HB0 := Aside0.mk (below_alloc (Below.refl w.heap.size w) (.cells #[.slice none 0 0, .int .i64 0, .int .i64 0, .slice none 0 0, .slice none 0 0, .int .i64 0, .int .i64 0, .slice none 0 0] 32))
        have hr0 := blk_new w (.cells #[.slice none 0 0, .int .i64 0, .int .i64 0, .slice none 0 0, .slice none 0 0, .int .i64 0, .int .i64 0, .slice none 0 0] 32)
        clear hC hL
        go_enter Tryd.func11, Tryd.ntmps11
        go_wp2_with fail
        generalize w.alloc (.cells #[.slice none 0 0, .int .i64 0, .int .i64 0, .slice none 0 0, .slice none 0 0, .int .i64 0, .int .i64 0, .slice none 0 0] 32) = w0 at *
        refine (check_calls Ac cc code w0 (Kd.C_below HC.out HB0.out)).mono ?_
        rintro e1 w1 ⟨rfl, hb1⟩
        rw [HE.out]
        have HB1 := Aside0.mk (below_step HB0.out hb1)
        have hr1 := blk_below hr0 hb1
        have HR1 := Aside0.mk hr1
        clear hb1 hr0 hr1
        go_wp2_with (refine ev_store rfl rfl rfl HR1.out rfl rfl rfl info_pair (Nat.le_refl 8) one8z (cs' := #[.slice none 0 0, .int .i64 0, .int .i64 0, .slice none 0 0, .slice none 0 0, .int .i64 0, .int .i64 0, .slice none 0 0]) rfl ?_; intro w2 b2 hO2 hs2; have B2 := Aside0.mk b2; have HO2 := Aside0.mk hO2; clear b2 hO2 hs2)
        have x0 := blk_cell B2.out 0
        have x1 := blk_cell B2.out 1
        have x2 := blk_cell B2.out 2
        have x3 := blk_cell B2.out 3
        have x4 := blk_cell B2.out 4
        have x5 := blk_cell B2.out 5
        have x6 := blk_cell B2.out 6
        have x7 := blk_cell B2.out 7
        refine bodyPost_ret (v := .tuple #[.agg #[.slice none 0 0, .int .i64 0, .int .i64 0, .slice none 0 0, .slice none 0 0, .int .i64 0, .int .i64 0, .slice none 0 0], .slice none 0 0, .int .i64 1]) (by simp [results, Tryd.results11, go_sem, x0, x1, x2, x3, x4, x5, x6, x7]) rfl ⟨⟨none, 0, none, 0, none, 0, none, 0⟩, none, 0, rfl, noPairIn _, Kd.C_nil _ _, Nat.le_refl _, ?_⟩
        exact HB1.out.trans (HO2.out.below_of (fun k hk => by have hk' : k = w.heap.size := hk; omega) (by exact HB1.out.size))
    · rw [if_neg h2] at h ⊢
      have d1 : decide (n < 1) = false := decide_eq_false (by omega)
      have d2 : decide (4 < n) = false := decide_eq_false (by omega)
      by_cases h3 : 100 < l.length
      · rw [if_pos h3] at h ⊢
        have d3 : decide (100 < l.length) = true := decide_eq_true h3
        have HC := Aside0.mk hC
        have HL := Aside0.mk hL
        have hlen := hL.2.1
        have HB0 := Aside0.mk (below_alloc (Below.refl w.heap.size w) (.cells #[.slice none 0 0, .int .i64 0, .int .i64 0, .slice none 0 0, .slice none 0 0, .int .i64 0, .int .i64 0, .slice none 0 0] 32))
        have hr0 := blk_new w (.cells #[.slice none 0 0, .int .i64 0, .int .i64 0, .slice none 0 0, .slice none 0 0, .int .i64 0, .int .i64 0, .slice none 0 0] 32)
        clear hC hL
        go_enter Tryd.func11, Tryd.ntmps11
        go_wp2_with fail
        generalize w.alloc (.cells #[.slice none 0 0, .int .i64 0, .int .i64 0, .slice none 0 0, .slice none 0 0, .int .i64 0, .int .i64 0, .slice none 0 0] 32) = w0 at *
        refine (check_calls Ac cc code w0 (Kd.C_below HC.out HB0.out)).mono ?_
        rintro e1 w1 ⟨rfl, hb1⟩
        rw [HE.out]
        have HB1 := Aside0.mk (below_step HB0.out hb1)
        have hr1 := blk_below hr0 hb1
        have HR1 := Aside0.mk hr1
        clear hb1 hr0 hr1
        go_wp2_with (refine ev_store rfl rfl rfl HR1.out rfl rfl rfl info_pair (Nat.le_refl 8) one8z (cs' := #[.slice none 0 0, .int .i64 0, .int .i64 0, .slice none 0 0, .slice none 0 0, .int .i64 0, .int .i64 0, .slice none 0 0]) rfl ?_; intro w2 b2 hO2 hs2; have B2 := Aside0.mk b2; have HO2 := Aside0.mk hO2; clear b2 hO2 hs2)
        have x0 := blk_cell B2.out 0
        have x1 := blk_cell B2.out 1
        have x2 := blk_cell B2.out 2
        have x3 := blk_cell B2.out 3
        have x4 := blk_cell B2.out 4
        have x5 := blk_cell B2.out 5
        have x6 := blk_cell B2.out 6
        have x7 := blk_cell B2.out 7
        refine bodyPost_ret (v := .tuple #[.agg #[.slice none 0 0, .int .i64 0, .int .i64 0, .slice none 0 0, .slice none 0 0, .int .i64 0, .int .i64 0, .slice none 0 0], .slice none 0 0, .int .i64 2]) (by simp [results, Tryd.results11, go_sem, x0, x1, x2, x3, x4, x5, x6, x7]) rfl ⟨⟨none, 0, none, 0, none, 0, none, 0⟩, none, 0, rfl, noPairIn _, Kd.C_nil _ _, Nat.le_refl _, ?_⟩
        exact HB1.out.trans (HO2.out.below_of (fun k hk => by have hk' : k = w.heap.size := hk; omega) (by exact HB1.out.size))
      · rw [if_neg h3] at h
        exact absurd rfl h
  · rw [if_pos h1] at h ⊢
    obtain ⟨er, HE⟩ : ∃ er, Aside0 (codeCheck code = er) := ⟨_, ⟨rfl⟩⟩
    have hz : (er == 0) = false := by rw [← HE.out]; simpa using h1
    have hz' : (er != 0) = true := by rw [← HE.out]; simpa using h1
    rw [HE.out]
    clear h1 h
    have HC := Aside0.mk hC
    have HL := Aside0.mk hL
    have hlen := hL.2.1
    have HB0 := Aside0.mk (below_alloc (Below.refl w.heap.size w) (.cells #[.slice none 0 0, .int .i64 0, .int .i64 0, .slice none 0 0, .slice none 0 0, .int .i64 0, .int .i64 0, .slice none 0 0] 32))
    have hr0 := blk_new w (.cells #[.slice none 0 0, .int .i64 0, .int .i64 0, .slice none 0 0, .slice none 0 0, .int .i64 0, .int .i64 0, .slice none 0 0] 32)
    clear hC hL
    go_enter Tryd.func11, Tryd.ntmps11
    go_wp2_with fail
    generalize w.alloc (.cells #[.slice none 0 0, .int .i64 0, .int .i64 0, .slice none 0 0, .slice none 0 0, .int .i64 0, .int .i64 0, .slice none 0 0] 32) = w0 at *
    refine (check_calls Ac cc code w0 (Kd.C_below HC.out HB0.out)).mono ?_
    rintro e1 w1 ⟨rfl, hb1⟩
    rw [HE.out]
    have HB1 := Aside0.mk (below_step HB0.out hb1)
    have hr1 := blk_below hr0 hb1
    have HR1 := Aside0.mk hr1
    clear hb1 hr0 hr1
    go_wp2_with (refine ev_store rfl rfl rfl HR1.out rfl rfl rfl info_pair (Nat.le_refl 8) one8z (cs' := #[.slice none 0 0, .int .i64 0, .int .i64 0, .slice none 0 0, .slice none 0 0, .int .i64 0, .int .i64 0, .slice none 0 0]) rfl ?_; intro w2 b2 hO2 hs2; have B2 := Aside0.mk b2; have HO2 := Aside0.mk hO2; clear b2 hO2 hs2)
    have x0 := blk_cell B2.out 0
    have x1 := blk_cell B2.out 1
    have x2 := blk_cell B2.out 2
    have x3 := blk_cell B2.out 3
    have x4 := blk_cell B2.out 4
    have x5 := blk_cell B2.out 5
    have x6 := blk_cell B2.out 6
    have x7 := blk_cell B2.out 7
    refine bodyPost_ret (v := .tuple #[.agg #[.slice none 0 0, .int .i64 0, .int .i64 0, .slice none 0 0, .slice none 0 0, .int .i64 0, .int .i64 0, .slice none 0 0], .slice none 0 0, .int .i64 er]) (by simp [results, Tryd.results11, go_sem, x0, x1, x2, x3, x4, x5, x6, x7]) rfl ⟨⟨none, 0, none, 0, none, 0, none, 0⟩, none, 0, rfl, noPairIn _, Kd.C_nil _ _, Nat.le_refl _, ?_⟩
    exact HB1.out.trans (HO2.out.below_of (fun k hk => by have hk' : k = w.heap.size := hk; omega) (by exact HB1.out.size))

theorem info_raw : (Tryd.prog.info? 49).map (fun i => (i.zero, i.size, i.bytes)) = some (some (.agg #[.int .i64 0, .int .i64 0, .slice none 0 0, .bool false, .bool false, .int .i64 0, .slice none 0 0, .int .i64 0]), kRaw.sz, 88) := by kernel_rfl
theorem info_errno : (Tryd.prog.info? 34).map (fun i => (i.zero, i.size, i.bytes)) = some (some (.int .i64 0), (Kd.int .i64).sz, 8) := by kernel_rfl
theorem one8p (A1 A2 A3 A4 : Option Addr) (n1 n2 n3 n4 c1 c2 c3 c4 : Nat) (a b c d : Int) : ∀ q ∈ ([.slice A1 n1 c1, .int .i64 a, .int .i64 b, .slice A2 n2 c2, .slice A3 n3 c3, .int .i64 c, .int .i64 d, .slice A4 n4 c4] : List Value), q.oneCell' = true := by
  intro q hq
  simp only [List.mem_cons, List.not_mem_nil, or_false] at hq
  rcases hq with rfl | rfl | rfl | rfl | rfl | rfl | rfl | rfl <;> rfl
theorem acts_snoc (code : List Ins) (s0 : Pai) (l : List PAct) {k : Nat} {x : PAct} (hx : l[k]? = some x) {s : Pai} {errs : List Int} (h : pairActs code s0 (l.take k) = (s, errs)) : pairActs code s0 (l.take (k + 1)) = ((pairAct code s x).1, errs ++ [(pairAct code s x).2]) := by
  have hlt := (List.getElem?_eq_some_iff.1 hx).1
  have e : l.take (k + 1) = l.take k ++ [x] := by rw [List.take_succ_eq_append_getElem hlt]; rw [List.getElem?_eq_getElem hlt] at hx; injection hx with hx; rw [hx]
  rw [e, acts_append, h]
  rfl
set_option maxRecDepth 100000 in
set_option maxHeartbeats 8000000 in
theorem play_ok (code : List Ins) (Ac : Option Addr) (cc : Nat) (N : Nat) (l : List PAct) (Al : Option Addr) (cl : Nat) (w : World) (hC : kIns.C w Ac code.length code) (hcc : code.length ≤ cc) (hL : kPAct.C w Al l.length l) (hcap : l.length ≤ cl) (hc : codeCheck code = 0) (hN1 : 1 ≤ N) (hN4 : N ≤ 4) (hl : l.length ≤ 100) (hT : Tab w) :
    Calls Tryd.prog 11 #[.slice Ac code.length cc, .int .i64 (N : Int), .slice Al l.length cl] w (PlayPost w ((pairActs code (pairStart N) l).1, (pairActs code (pairStart N) l).2, 0)) := by
  have HE := Aside0.mk hc
  have HT := Aside0.mk hT
  have d1 : decide ((N : Int) < 1) = false := decide_eq_false (by omega)
  have d2 : decide (4 < (N : Int)) = false := decide_eq_false (by omega)
  have d2' : decide (4 < N) = false := decide_eq_false (by omega)
  have d1' : decide (N < 1) = false := decide_eq_false (by omega)
  have d3 : decide (100 < l.length) = false := decide_eq_false (by omega)
  clear hc hT
  have HC := Aside0.mk hC
  have HL := Aside0.mk hL
  have hlen := hL.2.1
  have HB0 := Aside0.mk (below_alloc (Below.refl w.heap.size w) (.cells #[.slice none 0 0, .int .i64 0, .int .i64 0, .slice none 0 0, .slice none 0 0, .int .i64 0, .int .i64 0, .slice none 0 0] 32))
  have hr0 := blk_new w (.cells #[.slice none 0 0, .int .i64 0, .int .i64 0, .slice none 0 0, .slice none 0 0, .int .i64 0, .int .i64 0, .slice none 0 0] 32)
  clear hC hL
  go_enter Tryd.func11, Tryd.ntmps11
  go_wp2_with fail
  generalize w.alloc (.cells #[.slice none 0 0, .int .i64 0, .int .i64 0, .slice none 0 0, .slice none 0 0, .int .i64 0, .int .i64 0, .slice none 0 0] 32) = w0 at *
  refine (check_calls Ac cc code w0 (Kd.C_below HC.out HB0.out)).mono ?_
  rintro e1 w1 ⟨rfl, hb1⟩
  rw [HE.out]
  have HB1 := Aside0.mk (below_step HB0.out hb1)
  have hr1 := blk_below hr0 hb1
  have HR1 := Aside0.mk hr1
  clear hb1 hr0 hr1
  have HTW : Aside0 (∀ W, Below w1.heap.size w1 W → Tab W) := ⟨fun W hW => (HT.out.below HB1.out).below hW⟩
  have HCW : Aside0 (∀ W, Below w1.heap.size w1 W → kIns.C W Ac code.length code) := ⟨fun W hW => Kd.C_below (Kd.C_below HC.out HB1.out) hW⟩
  have HLW : Aside0 (∀ W, Below w1.heap.size w1 W → kPAct.C W Al l.length l) := ⟨fun W hW => Kd.C_below (Kd.C_below HL.out HB1.out) hW⟩
  have hr0 : w.heap.size < w1.heap.size := blk_lt HR1.out
  go_wp2
  have hbp := blk_new w1 (.cells #[.slice none 0 0, .int .i64 0, .int .i64 0, .slice none 0 0, .slice none 0 0, .int .i64 0, .int .i64 0, .slice none 0 0, .slice Ac code.length cc] 76)
  have HB2 := Aside0.mk (below_alloc (Below.refl w1.heap.size w1) (.cells #[.slice none 0 0, .int .i64 0, .int .i64 0, .slice none 0 0, .slice none 0 0, .int .i64 0, .int .i64 0, .slice none 0 0, .slice Ac code.length cc] 76))
  have hsz : (w1.alloc (.cells #[.slice none 0 0, .int .i64 0, .int .i64 0, .slice none 0 0, .slice none 0 0, .int .i64 0, .int .i64 0, .slice none 0 0, .slice Ac code.length cc] 76)).heap.size = w1.heap.size + 1 := by simp
  have HZ2 : Aside0 (w1.heap.size ≤ (w1.alloc (.cells #[.slice none 0 0, .int .i64 0, .int .i64 0, .slice none 0 0, .slice none 0 0, .int .i64 0, .int .i64 0, .slice none 0 0, .slice Ac code.length cc] 76)).heap.size) := ⟨by omega⟩
  clear hsz
  generalize w1.alloc (.cells #[.slice none 0 0, .int .i64 0, .int .i64 0, .slice none 0 0, .slice none 0 0, .int .i64 0, .int .i64 0, .slice none 0 0, .slice Ac code.length cc] 76) = w2 at *
  generalize w1.heap.size = hp at *
  have HBt := Aside0.mk (Built.start hbp (Nat.le_refl hp))
  clear hbp
  go_loopw [34] (fun u wr => ∃ (i : Nat) (vN : Value) (css : List (List Value)) (col : Nat → Nat), u = .int .i64 i ∧ i ≤ N ∧ Aside0 (Built wr hp hp (.slice Ac code.length cc) i vN css col) ∧ Aside0 (Below hp w1 wr) ∧ Aside0 (hp ≤ wr.heap.size)) (fun u _ => N - (intOf u).toNat)
  case atStart => exact ⟨0, _, _, _, rfl, Nat.zero_le _, HBt, HB2, HZ2⟩
  case round =>
    obtain ⟨i, vN, css, col, rfl, hi, HBi, HBw, HZw⟩ := hrel
    obtain ⟨AN, cN, hvN⟩ := Kd.R_slice HBi.out.row
    have hlen' := HBi.out.len
    rw [hlen'] at hvN
    subst hvN
    by_cases hlt : i < N
    · have hd : decide (i < N) = true := decide_eq_true hlt
      have HO := Aside0.mk (Only.refl (RowOr hp (.slice AN i cN)) wr)
      have p3 : wr.cell? ⟨hp, 3, none⟩ = some (.slice AN i cN) := blk_cell HBi.out.blk 3
      have hhl := HBi.out.lt
      have HNE : Aside0 (some hp ≠ (Value.slice AN i cN).ownBlock) := ⟨fun e => by have h1 := HBi.out.row.1 hp e.symm; have h2 := HBi.out.hcol; omega⟩
      have HLb : Aside0 ((css.length + 1) * 88 ≤ 140737488355328) := ⟨by omega⟩
      have hs1 : 0 < kRaw.sz := by decide
      have hs2 : 0 < 88 := by decide
      clear hlen'
      go_wp2_with fail
      go_region_law
        (first
          | (refine Kd.R_append_step kRaw (W := w7) (w0 := w7) hp rfl (.tmp 38) (.tmp 40) 27 49 (.agg #[.int .i64 0, .int .i64 0, .slice none 0 0, .bool false, .bool false, .int .i64 0, .slice none 0 0, .int .i64 0]) 88 rfl Tryd.underlying27 info_raw rfl hs1 hs2 (.slice AN i cN) css [.int .i64 freshNod.epoch, .int .i64 freshNod.vm.pc, .slice Ar7 freshNod.vm.regs.length cr7, .bool freshNod.vm.halts, .bool freshNod.vm.fault, .int .i64 freshNod.read, .slice A8 freshNod.outs.length c8, .int .i64 freshNod.sent] [.int .i64 freshNod.epoch, .int .i64 freshNod.vm.pc, .slice Ar7 freshNod.vm.regs.length cr7, .bool freshNod.vm.halts, .bool freshNod.vm.fault, .int .i64 freshNod.read, .slice A8 freshNod.outs.length c8, .int .i64 freshNod.sent] (fun q => recol (recol col wr.heap.size (5 + i)) w7.heap.size 1 q = 1) (fun _ => False) rfl rfl HM7.out (fun _ h => h.elim) HF7.out HR7.out (Below.refl hp _) HZ7.out HLb.out ?_; intro v9 w9 hR9 hB9 hg9 hat9; obtain ⟨A9, c9, rfl⟩ := Kd.R_slice hR9; have HS9 : Only (RowOr hp (.slice AN i cN)) wr w9 := HS7.trans ((Only.of_grown hg9).mono (fun q hq => .inr hq)); have hb9 := blk_grown (w := w7) (blk_below HBi.out.blk HB7.out) hg9 HNE.out; have g4 : w9.cell? ⟨hp, 3, none⟩ = some (.slice AN i cN) := blk_cell hb9 3; have g5 := blk_frozen hb9 3; have HR9 := Aside0.mk hR9; have HG9 := Aside0.mk hg9; have HB9 := Aside0.mk hB9; clear hR9 hg9 hB9 hat9 hb9)
          | (go_simp; go_at_call 32; refine (fresh_calls _).mono ?_; rintro e7 w7 ⟨Ar7, cr7, vo7, rfl, hcr7, hK7, hO7, hb7⟩; obtain ⟨A8, c8, rfl⟩ := Kd.R_slice hO7; have HB7 := Aside0.mk (below_undrew (w := wr) hb7); have HS7 : Only (RowOr hp (.slice AN i cN)) wr w7 := Only.of_below HB7.out _; have hb77 := blk_below HBi.out.blk HB7.out; have l7 := blk_lt hb77; have p37 : w7.cell? ⟨hp, 3, none⟩ = some (.slice AN i cN) := blk_cell hb77 3; have HM7 : Aside0 (kRaw.M w7 hp (fun _ => False) [.int .i64 freshNod.epoch, .int .i64 freshNod.vm.pc, .slice Ar7 freshNod.vm.regs.length cr7, .bool freshNod.vm.halts, .bool freshNod.vm.fault, .int .i64 freshNod.read, .slice A8 freshNod.outs.length c8, .int .i64 freshNod.sent] [.int .i64 freshNod.epoch, .int .i64 freshNod.vm.pc, .slice Ar7 freshNod.vm.regs.length cr7, .bool freshNod.vm.halts, .bool freshNod.vm.fault, .int .i64 freshNod.read, .slice A8 freshNod.outs.length c8, .int .i64 freshNod.sent]) := Aside0.mk ⟨rfl, rfl, one8 _ _ _ _ 0 0 _ _ _ _ _ _ _ _⟩; have HR7 : Aside0 (kRaw.R 49 w7 hp (fun q => recol (recol col wr.heap.size (5 + i)) w7.heap.size 1 q = 1) (.slice AN i cN) css) := Aside0.mk (R_col HBi.out.row (Only.of_below HB7.out (fun _ => False)) (fun _ _ hx => hx.elim) (fun k hk => (recol_old (Nat.lt_of_lt_of_le hk HB7.out.size)).trans (recol_old hk))); have HF7 : Aside0 (∀ q, w7.heap.size ≤ q → recol (recol col wr.heap.size (5 + i)) w7.heap.size 1 q = 1) := Aside0.mk (fun q hq => recol_new hq); have HZ7 : Aside0 (hp ≤ w7.heap.size) := Aside0.mk (Nat.le_trans HZw.out HB7.out.size); have HK7 := Aside0.mk hK7; have HO7 := Aside0.mk hO7; clear hK7 hO7 hb7 hb77; go_wp2_with fail))
      all_goals
        have hst := HBi.out.step HZw.out HB7.out hcr7 HK7.out HO7.out HG9.out HR9.out
        simp only [List.length_append, List.length_singleton] at hst
        have HST := Aside0.mk hst
        have HB10 : Aside0 (Below hp w1 (w9.setCell ⟨hp, 3, none⟩ (.slice A9 (css.length + 1) c9))) := ⟨Below.setCell ((HBw.out.trans (HB7.out.mono HZw.out)).trans HB9.out) (p := ⟨hp, 3, none⟩) (Nat.le_refl hp) _⟩
        have HZ10 : Aside0 (hp ≤ (w9.setCell ⟨hp, 3, none⟩ (.slice A9 (css.length + 1) c9)).heap.size) := ⟨Nat.le_of_lt HST.out.lt⟩
        clear hst
        go_wp2
        go_roundw
        case rel => exact ⟨i + 1, _, _, _, by go_num, by omega, HST, HB10, HZ10⟩
        case measure => simp [intOf]; omega
    · obtain rfl : i = N := by omega
      have hd : decide (i < i) = false := decide_eq_false (by omega)
      obtain ⟨y, hP⟩ := HBi.out.play (by omega) HZw.out (r0 := w.heap.size) hr0
      have HP := Aside0.mk hP
      clear hP HBi
      have hinv0 : PInv code i 0 (pairStart i) := inv_start code i
      go_wp2
      go_loopw [11, 47] (fun vO u wr => ∃ (k : Nat) (s : Pai) (errs : List Int) (AO : Option Addr) (cO : Nat) (y : Lay), u = .int .i64 k ∧ k ≤ l.length ∧ vO = .slice AO k cO ∧ Aside0 (errs.length = k) ∧ Aside0 (pairActs code (pairStart i) (l.take k) = (s, errs)) ∧ Aside0 (PlayAt wr hp hp (extOf (.slice Ac code.length cc) hp w.heap.size (.slice AO k cO) errs) s y) ∧ Aside0 (Below hp w1 wr) ∧ Aside0 (hp ≤ wr.heap.size) ∧ Aside0 (PInv code i k s)) (fun _ u _ => l.length - (intOf u).toNat)
      case atStart => exact ⟨0, _, [], none, 0, y, rfl, Nat.zero_le _, rfl, ⟨rfl⟩, ⟨rfl⟩, HP, HBw, HZw, ⟨hinv0⟩⟩
      case round =>
        clear HP HBw HZw hinv0
        obtain ⟨k, s, errs, AO, cO, y, rfl, hk, rfl, HEL, HAC, HP, HBw, HZw, HI⟩ := hrel
        by_cases hlt : k < l.length
        · have hd : decide (k < l.length) = true := decide_eq_true hlt
          obtain ⟨ad, a, he, ha, h0, h1, h2⟩ := kPAct_get (HLW.out wr HBw.out) k hlt
          subst he
          have HA := Aside0.mk ha
          have hP1 := HP.out.far (below_alloc (Below.refl wr.heap.size wr) (.cells #[.int .i64 a.kind, .int .i64 a.who, .int .i64 a.num] 41))
          have HB3 : Aside0 (Below hp w1 (wr.alloc (.cells #[.int .i64 a.kind, .int .i64 a.who, .int .i64 a.num] 41))) := ⟨HBw.out.trans ((below_alloc (Below.refl wr.heap.size wr) _).mono HZw.out)⟩
          have HZ3 : Aside0 (hp ≤ (wr.alloc (.cells #[.int .i64 a.kind, .int .i64 a.who, .int .i64 a.num] 41)).heap.size) := ⟨Nat.le_trans HZw.out (below_alloc (Below.refl wr.heap.size wr) _).size⟩
          have HP1 := Aside0.mk hP1
          clear ha hP1
          go_wp2_with fail
          refine (act_calls (extOf (.slice Ac code.length cc) hp w.heap.size (.slice AO k cO) errs) code Ac cc i k hp hp s y a _ HI.out hN4 (by omega) HE.out rfl HP1.out HZ3.out hcc (fun W hW => HCW.out W (HB3.out.trans hW)) (fun W hW => HTW.out W (HB3.out.trans hW))).mono ?_
          rintro e7 w7 ⟨rfl, ⟨y7, hP7⟩, hb7⟩
          have HP7 := Aside0.mk hP7
          have HB7 := Aside0.mk (HB3.out.trans hb7)
          have hlt7 := hP7.lt
          have HZ7 : Aside0 (hp ≤ w7.heap.size) := ⟨Nat.le_of_lt hlt7⟩
          have HR7 : Aside0 ((Kd.int .i64).R 34 w7 hp (fun q => recol y7.col w7.heap.size 0 q = 0 ∧ q ≠ hp) (.slice AO k cO) errs) := ⟨((extOf (.slice Ac code.length cc) hp w.heap.size (.slice AO k cO) errs).step hP7.ext (Only.refl _ _) (ok' := fun q => recol y7.col w7.heap.size 0 q = 0 ∧ q ≠ hp) (fun q hq hl => ⟨(recol_old hl).trans hq.1, hq.2⟩)).1⟩
          have HF7 : Aside0 (∀ q, w7.heap.size ≤ q → recol y7.col w7.heap.size 0 q = 0 ∧ q ≠ hp) := ⟨fun q hq => ⟨recol_new hq, by omega⟩⟩
          have HX7 : Aside0 (y7.col w.heap.size = 0 ∧ w.heap.size ≠ hp) := ⟨hP7.ext.2.1⟩
          have HL7 : Aside0 ((errs.length + 1) * 8 ≤ 140737488355328) := ⟨by have := HEL.out; omega⟩
          have hs1 : 0 < (Kd.int .i64).sz := by decide
          have hs2 : 0 < 8 := by decide
          obtain ⟨rv, HRV⟩ : ∃ rv, Aside0 ((pairAct code s a).2 = rv) := ⟨_, ⟨rfl⟩⟩
          rw [HRV.out]
          clear hP7 hb7 HB3 HZ3 HP1 h0 h1 h2
          go_wp2_with (at_builtin; refine Kd.R_append (Kd.int .i64) (W := w7) (w0 := w7) hp rfl (.tmp 51) (.tmp 54) 33 34 (.int .i64 0) 8 rfl Tryd.underlying33 info_errno rfl hs1 hs2 (.slice AO k cO) errs rv [.int .i64 rv] (fun q => recol y7.col w7.heap.size 0 q = 0 ∧ q ≠ hp) (fun _ => False) rfl rfl rfl (fun _ h => h.elim) HF7.out HR7.out (Below.refl hp _) HZ7.out HL7.out ?_; intro v9 w9 hR9 hB9 hg9 hat9; obtain ⟨A9, c9, rfl⟩ := Kd.R_slice hR9; have HR9 := Aside0.mk hR9; have HG9 := Aside0.mk hg9; have HB9 := Aside0.mk hB9; clear hR9 hg9 hB9 hat9)
          have hl9 : (errs ++ [rv]).length = k + 1 := by rw [List.length_append, HEL.out]; rfl
          rw [hl9] at HR9
          rw [HEL.out]
          have HP9 : Aside0 (PlayAt w9 hp hp (extOf (.slice Ac code.length cc) hp w.heap.size (.slice A9 (k + 1) c9) (errs ++ [rv])) (pairAct code s a).1 { y7 with col := recol y7.col w7.heap.size 0 }) := ⟨HP7.out.aside (Only.of_grown HG9.out) (fun q hq hx => HP7.out.ext.1.1 q hx.symm) _ rfl ⟨HR9.out, ⟨(recol_old (by omega)).trans HX7.out.1, HX7.out.2⟩, by have := HG9.out.size; omega⟩⟩
          have HAC9 : Aside0 (pairActs code (pairStart i) (l.take (k + 1)) = ((pairAct code s a).1, errs ++ [rv])) := ⟨by rw [← HRV.out]; exact acts_snoc code _ l HA.out HAC.out⟩
          have HEL9 := Aside0.mk hl9
          have HB10 : Aside0 (Below hp w1 w9) := ⟨HB7.out.trans HB9.out⟩
          have HZ10 : Aside0 (hp ≤ w9.heap.size) := ⟨Nat.le_of_lt HP9.out.lt⟩
          clear hl9
          refine ⟨⟨k + 1, _, errs ++ [rv], A9, c9, _, by go_num, by omega, rfl, HEL9, HAC9, HP9, HB10, HZ10, ⟨HI.out.act hN4 a⟩⟩, ?_⟩
          simp [intOf]
          omega
        · obtain rfl : k = l.length := by omega
          have hd : decide (l.length < l.length) = false := decide_eq_false (by omega)
          obtain ⟨z, hz, e1, e2, e3, e4, e5, e6⟩ := HP.out.tells
          have hob := HP.out.blk
          have p0 : wr.cell? ⟨hp, 0, none⟩ = some (.slice z.AL s.log.length z.cL) := by rw [← e1]; exact blk_cell hob 0
          have p1 : wr.cell? ⟨hp, 1, none⟩ = some (.int .i64 s.fence.epoch) := blk_cell hob 1
          have p2 : wr.cell? ⟨hp, 2, none⟩ = some (.int .i64 s.fence.owner) := blk_cell hob 2
          have p3 : wr.cell? ⟨hp, 3, none⟩ = some (.slice z.AN s.nodes.length z.cN) := by rw [e2, e3]; exact blk_cell hob 3
          have p4 : wr.cell? ⟨hp, 4, none⟩ = some (.slice z.AS s.saved.length z.cS) := by rw [← e4]; exact blk_cell hob 4
          have p5 : wr.cell? ⟨hp, 5, none⟩ = some (.int .i64 s.gate.fence.epoch) := blk_cell hob 5
          have p6 : wr.cell? ⟨hp, 6, none⟩ = some (.int .i64 s.gate.fence.owner) := blk_cell hob 6
          have p7 : wr.cell? ⟨hp, 7, none⟩ = some (.slice z.AG s.gate.out.length z.cG) := by rw [e5, e6]; exact blk_cell hob 7
          have HRr : Aside0 (wr.heap[w.heap.size]? = some (.cells #[.slice none 0 0, .int .i64 0, .int .i64 0, .slice none 0 0, .slice none 0 0, .int .i64 0, .int .i64 0, .slice none 0 0] 32 (0, 0))) := ⟨(HBw.out.block _ hr0).trans HR1.out⟩
          have HZZ : Aside0 (y.vL = .slice z.AL s.log.length z.cL ∧ z.AN = some ⟨y.bn, 0, none⟩ ∧ z.cN = y.cap ∧ y.vS = .slice z.AS s.saved.length z.cS ∧ z.AG = y.AG ∧ z.cG = y.cG) := ⟨⟨e1, e2, e3, e4, e5, e6⟩⟩
          have HONE := Aside0.mk (one8p z.AL z.AN z.AS z.AG s.log.length s.nodes.length s.saved.length s.gate.out.length z.cL z.cN z.cS z.cG s.fence.epoch s.fence.owner s.gate.fence.epoch s.gate.fence.owner)
          clear hob e1 e2 e3 e4 e5 e6 hz
          go_wp2_with (refine ev_store rfl rfl rfl HRr.out rfl rfl rfl info_pair (Nat.le_refl 8) HONE.out (cs' := pairCells s z) rfl ?_; intro w2 b2 hO2 hs2; have B2 := Aside0.mk b2; have HO2 := Aside0.mk hO2; clear b2 hO2 hs2)
          have x0 : w2.cell? ⟨w.heap.size, 0, none⟩ = some (.slice z.AL s.log.length z.cL) := blk_cell B2.out 0
          have x1 : w2.cell? ⟨w.heap.size, 1, none⟩ = some (.int .i64 s.fence.epoch) := blk_cell B2.out 1
          have x2 : w2.cell? ⟨w.heap.size, 2, none⟩ = some (.int .i64 s.fence.owner) := blk_cell B2.out 2
          have x3 : w2.cell? ⟨w.heap.size, 3, none⟩ = some (.slice z.AN s.nodes.length z.cN) := blk_cell B2.out 3
          have x4 : w2.cell? ⟨w.heap.size, 4, none⟩ = some (.slice z.AS s.saved.length z.cS) := blk_cell B2.out 4
          have x5 : w2.cell? ⟨w.heap.size, 5, none⟩ = some (.int .i64 s.gate.fence.epoch) := blk_cell B2.out 5
          have x6 : w2.cell? ⟨w.heap.size, 6, none⟩ = some (.int .i64 s.gate.fence.owner) := blk_cell B2.out 6
          have x7 : w2.cell? ⟨w.heap.size, 7, none⟩ = some (.slice z.AG s.gate.out.length z.cG) := blk_cell B2.out 7
          have hP2 := HP.out.aside HO2.out (fun q _ hx => by rw [show q = w.heap.size from hx]; exact HP.out.ext.2.1) (trivExt (.slice Ac code.length cc)) rfl True.intro
          have hR2 := Kd.R_step (Kd.R_bound HP.out.ext.1) (fun q hq hl => HO2.out.block q hl (fun e => by have h1 := hq.2.1; have e' : q = w.heap.size := e; omega))
          rw [← HEL.out] at hR2
          obtain ⟨_, hcO, hCO⟩ := Kd.R_reads' hR2
          have hac := HAC.out
          rw [List.take_length] at hac
          refine bodyPost_ret (v := .tuple #[.agg (pairCells s z), .slice AO l.length cO, .int .i64 0]) (by simp [results, Tryd.results11, go_sem, x0, x1, x2, x3, x4, x5, x6, x7, pairCells]) rfl ?_
          rw [hac]
          refine ⟨z, AO, cO, ?_, hP2.pairIn HZZ.out, hCO, hcO, ?_⟩
          · show _ = Ending.returned (.tuple #[.agg (pairCells s z), .slice AO errs.length cO, .int .i64 0])
            rw [HEL.out]
          · exact HB1.out.trans ((HBw.out.mono (Nat.le_of_lt hr0)).trans (HO2.out.below_of (fun q hq => by have hq' : q = w.heap.size := hq; omega) (by have := HZw.out; omega)))
end Go.Proofs.YtifphhkkpadpoaaDoor
