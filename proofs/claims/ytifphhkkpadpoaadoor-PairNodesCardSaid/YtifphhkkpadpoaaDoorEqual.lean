/- The walks of slices.Equal at this program's element types. Printed by gen_equal.py. -/
import Derived.Test.YtifphhkkpadpoaaDoorKinds2
import Derived.Test.YtifphhkkpadpoaaDoorVmC
namespace Go.Proofs.YtifphhkkpadpoaaDoor
open Go.RowKit Go.Proofs.YtifphhkkpadpoaaDoorW.PrintWords
set_option linter.unusedVariables false
set_option linter.unusedSimpArgs false
theorem emit_same (x : Emit) (W : World) : (binOp BinOp.neq 52 (.agg #[.int .i64 x.port, .int .i64 x.num]) (.agg #[.int .i64 x.port, .int .i64 x.num])).run Tryd.prog W = .ok (.bool false) W := by
  go_simp
theorem emit_other (x z : Emit) (he : ¬ x = z) (W : World) : (binOp BinOp.neq 52 (.agg #[.int .i64 x.port, .int .i64 x.num]) (.agg #[.int .i64 z.port, .int .i64 z.num])).run Tryd.prog W = .ok (.bool true) W := by
  by_cases h1 : x.port = z.port
  · by_cases h2 : x.num = z.num
    · exact absurd (by cases x; cases z; simp at h1 h2; rw [h1, h2]) he
    · go_simp
      try simp [h1, h2]
  · go_simp
    try simp [h1]
set_option maxRecDepth 100000 in
set_option maxHeartbeats 4000000 in
theorem equal_int (A A' : Option Addr) (c c' : Nat) (xs ys : List Int) (w : World) (hC : (Kd.int .i64).C w A xs.length xs) (hC' : (Kd.int .i64).C w A' ys.length ys) :
    Calls Tryd.prog 18 #[.slice A xs.length c, .slice A' ys.length c'] w fun e w' => e = .returned (.bool (decide (xs = ys))) ∧ Below w.heap.size w w' := by
  have HC := Aside0.mk hC
  have HC' := Aside0.mk hC'
  have hlen := hC.2.1
  have hlen' := hC'.2.1
  clear hC hC'
  by_cases hl : xs.length = ys.length
  · have HL := Aside0.mk hl
    rw [← hl] at HC' hlen' ⊢
    clear hl
    go_enter Tryd.func18, Tryd.ntmps18
    go_wp2
    go_loopw [13] (fun i wr => ∃ k : Nat, k ≤ xs.length ∧ i = .int .i64 k ∧ Aside0 (∀ j, j < k → xs[j]? = ys[j]?) ∧ Aside0 (Below w.heap.size w wr)) (fun i _ => xs.length - (intOf i).toNat)
    case atStart => exact ⟨0, Nat.zero_le _, rfl, ⟨fun j hj => absurd hj (Nat.not_lt_zero _)⟩, ⟨Below.refl _ _⟩⟩
    case round =>
      obtain ⟨k, hk, rfl, HN, HB⟩ := hrel
      by_cases hlt : k < xs.length
      · have hd : decide (k < xs.length) = true := decide_eq_true hlt
        have i0 : (0 : Int) ≤ (k : Int) := by omega
        have i1 : (k : Int) < (xs.length : Int) := by omega
        have hky : k < ys.length := by have := HL.out; omega
        have hX := Kd.C_below HC.out HB.out
        have hY := Kd.C_below HC'.out HB.out
        obtain ⟨ad, ea, c1⟩ := Kd.at_int hX (k : Int) i0 i1
        obtain ⟨bd, eb, c2⟩ := Kd.at_int hY (k : Int) i0 (by omega)
        subst ea; subst eb
        rw [Int.toNat_natCast] at c1 c2
        generalize hx : rd xs (k : Int) = x at *
        generalize hy : rd ys (k : Int) = z at *
        have HX : Aside0 (xs[k]? = some x) := ⟨by rw [List.getElem?_eq_getElem hlt, ← hx]; simp [rd, List.getD_eq_getElem?_getD, List.getElem?_eq_getElem hlt]⟩
        have HY : Aside0 (ys[k]? = some z) := ⟨by rw [List.getElem?_eq_getElem hky, ← hy]; simp [rd, List.getD_eq_getElem?_getD, List.getElem?_eq_getElem hky]⟩
        clear hx hy
        by_cases he : x = z
        · subst he
          have q1 : (x == x) = true := by simp
          have q2 : (x != x) = false := by simp
          have HE : Aside0 (xs[k]? = ys[k]?) := ⟨HX.out.trans HY.out.symm⟩
          clear hX hY
          try clear he
          have hb0 := Aside0.mk (pw_below_drewN HB.out 0)
          go_wp2
          go_quiet (fail)
          have HB2 := Aside0.mk (pw_below_drewN HB.out nq)
          go_wp2
          go_roundw
          case rel => exact ⟨k + 1, by omega, by go_num, ⟨fun j hj => by
            rcases Nat.lt_or_ge j k with h | h
            · exact HN.out j h
            · obtain rfl : j = k := by omega
              exact HE.out⟩, HB2⟩
          case measure => simp [intOf]; omega
        · have q1 : (x == z) = false := by simpa using he
          have q2 : (x != z) = true := by simpa using he
          have HE : Aside0 (xs[k]? ≠ ys[k]?) := ⟨fun h => he (by rw [HX.out, HY.out] at h; injection h)⟩
          clear hX hY
          try clear he
          go_wp2
          go_quiet (fail)
          have HB2 := Aside0.mk (pw_below_drewN HB.out nq)
          go_wp2
          go_ret
          refine ⟨ret_bool (decide_eq_false (fun h => HE.out (by rw [h]))).symm, ?_⟩
          exact HB2.out
      · have hd : decide (k < xs.length) = false := decide_eq_false hlt
        go_wp2
        go_ret
        refine ⟨ret_bool (decide_eq_true ?_).symm, HB.out⟩
        apply List.ext_getElem?
        intro j
        rcases Nat.lt_or_ge j k with h | h
        · exact HN.out j h
        · have := HL.out
          rw [List.getElem?_eq_none (by omega), List.getElem?_eq_none (by omega)]
  · have hd : ((xs.length : Int) == (ys.length : Int)) = false := by rw [beq_eq_false_iff_ne]; omega
    have hd' : ((xs.length : Int) != (ys.length : Int)) = true := by rw [bne_iff_ne]; omega
    have HL := Aside0.mk hl
    clear hl
    go_enter Tryd.func18, Tryd.ntmps18
    go_wp2
    go_ret
    exact ⟨ret_bool (decide_eq_false (fun h => HL.out (by rw [h]))).symm, Below.refl _ _⟩
set_option maxRecDepth 100000 in
set_option maxHeartbeats 4000000 in
theorem equal_errno (A A' : Option Addr) (c c' : Nat) (xs ys : List Int) (w : World) (hC : (Kd.int .i64).C w A xs.length xs) (hC' : (Kd.int .i64).C w A' ys.length ys) :
    Calls Tryd.prog 35 #[.slice A xs.length c, .slice A' ys.length c'] w fun e w' => e = .returned (.bool (decide (xs = ys))) ∧ Below w.heap.size w w' := by
  have HC := Aside0.mk hC
  have HC' := Aside0.mk hC'
  have hlen := hC.2.1
  have hlen' := hC'.2.1
  clear hC hC'
  by_cases hl : xs.length = ys.length
  · have HL := Aside0.mk hl
    rw [← hl] at HC' hlen' ⊢
    clear hl
    go_enter Tryd.func35, Tryd.ntmps35
    go_wp2
    go_loopw [13] (fun i wr => ∃ k : Nat, k ≤ xs.length ∧ i = .int .i64 k ∧ Aside0 (∀ j, j < k → xs[j]? = ys[j]?) ∧ Aside0 (Below w.heap.size w wr)) (fun i _ => xs.length - (intOf i).toNat)
    case atStart => exact ⟨0, Nat.zero_le _, rfl, ⟨fun j hj => absurd hj (Nat.not_lt_zero _)⟩, ⟨Below.refl _ _⟩⟩
    case round =>
      obtain ⟨k, hk, rfl, HN, HB⟩ := hrel
      by_cases hlt : k < xs.length
      · have hd : decide (k < xs.length) = true := decide_eq_true hlt
        have i0 : (0 : Int) ≤ (k : Int) := by omega
        have i1 : (k : Int) < (xs.length : Int) := by omega
        have hky : k < ys.length := by have := HL.out; omega
        have hX := Kd.C_below HC.out HB.out
        have hY := Kd.C_below HC'.out HB.out
        obtain ⟨ad, ea, c1⟩ := Kd.at_int hX (k : Int) i0 i1
        obtain ⟨bd, eb, c2⟩ := Kd.at_int hY (k : Int) i0 (by omega)
        subst ea; subst eb
        rw [Int.toNat_natCast] at c1 c2
        generalize hx : rd xs (k : Int) = x at *
        generalize hy : rd ys (k : Int) = z at *
        have HX : Aside0 (xs[k]? = some x) := ⟨by rw [List.getElem?_eq_getElem hlt, ← hx]; simp [rd, List.getD_eq_getElem?_getD, List.getElem?_eq_getElem hlt]⟩
        have HY : Aside0 (ys[k]? = some z) := ⟨by rw [List.getElem?_eq_getElem hky, ← hy]; simp [rd, List.getD_eq_getElem?_getD, List.getElem?_eq_getElem hky]⟩
        clear hx hy
        by_cases he : x = z
        · subst he
          have q1 : (x == x) = true := by simp
          have q2 : (x != x) = false := by simp
          have HE : Aside0 (xs[k]? = ys[k]?) := ⟨HX.out.trans HY.out.symm⟩
          clear hX hY
          try clear he
          have hb0 := Aside0.mk (pw_below_drewN HB.out 0)
          go_wp2
          go_quiet (fail)
          have HB2 := Aside0.mk (pw_below_drewN HB.out nq)
          go_wp2
          go_roundw
          case rel => exact ⟨k + 1, by omega, by go_num, ⟨fun j hj => by
            rcases Nat.lt_or_ge j k with h | h
            · exact HN.out j h
            · obtain rfl : j = k := by omega
              exact HE.out⟩, HB2⟩
          case measure => simp [intOf]; omega
        · have q1 : (x == z) = false := by simpa using he
          have q2 : (x != z) = true := by simpa using he
          have HE : Aside0 (xs[k]? ≠ ys[k]?) := ⟨fun h => he (by rw [HX.out, HY.out] at h; injection h)⟩
          clear hX hY
          try clear he
          go_wp2
          go_quiet (fail)
          have HB2 := Aside0.mk (pw_below_drewN HB.out nq)
          go_wp2
          go_ret
          refine ⟨ret_bool (decide_eq_false (fun h => HE.out (by rw [h]))).symm, ?_⟩
          exact HB2.out
      · have hd : decide (k < xs.length) = false := decide_eq_false hlt
        go_wp2
        go_ret
        refine ⟨ret_bool (decide_eq_true ?_).symm, HB.out⟩
        apply List.ext_getElem?
        intro j
        rcases Nat.lt_or_ge j k with h | h
        · exact HN.out j h
        · have := HL.out
          rw [List.getElem?_eq_none (by omega), List.getElem?_eq_none (by omega)]
  · have hd : ((xs.length : Int) == (ys.length : Int)) = false := by rw [beq_eq_false_iff_ne]; omega
    have hd' : ((xs.length : Int) != (ys.length : Int)) = true := by rw [bne_iff_ne]; omega
    have HL := Aside0.mk hl
    clear hl
    go_enter Tryd.func35, Tryd.ntmps35
    go_wp2
    go_ret
    exact ⟨ret_bool (decide_eq_false (fun h => HL.out (by rw [h]))).symm, Below.refl _ _⟩
set_option maxRecDepth 100000 in
set_option maxHeartbeats 4000000 in
theorem equal_string (A A' : Option Addr) (c c' : Nat) (xs ys : List ByteArray) (w : World) (hC : (Kd.string).C w A xs.length xs) (hC' : (Kd.string).C w A' ys.length ys) :
    Calls Tryd.prog 21 #[.slice A xs.length c, .slice A' ys.length c'] w fun e w' => e = .returned (.bool (decide (xs = ys))) ∧ Below w.heap.size w w' := by
  have HC := Aside0.mk hC
  have HC' := Aside0.mk hC'
  have hlen := hC.2.1
  have hlen' := hC'.2.1
  clear hC hC'
  by_cases hl : xs.length = ys.length
  · have HL := Aside0.mk hl
    rw [← hl] at HC' hlen' ⊢
    clear hl
    go_enter Tryd.func21, Tryd.ntmps21
    go_wp2
    go_loopw [13] (fun i wr => ∃ k : Nat, k ≤ xs.length ∧ i = .int .i64 k ∧ Aside0 (∀ j, j < k → xs[j]? = ys[j]?) ∧ Aside0 (Below w.heap.size w wr)) (fun i _ => xs.length - (intOf i).toNat)
    case atStart => exact ⟨0, Nat.zero_le _, rfl, ⟨fun j hj => absurd hj (Nat.not_lt_zero _)⟩, ⟨Below.refl _ _⟩⟩
    case round =>
      obtain ⟨k, hk, rfl, HN, HB⟩ := hrel
      by_cases hlt : k < xs.length
      · have hd : decide (k < xs.length) = true := decide_eq_true hlt
        have i0 : (0 : Int) ≤ (k : Int) := by omega
        have i1 : (k : Int) < (xs.length : Int) := by omega
        have hky : k < ys.length := by have := HL.out; omega
        have hX := Kd.C_below HC.out HB.out
        have hY := Kd.C_below HC'.out HB.out
        obtain ⟨ad, ea, c1⟩ := Kd.at_string hX (k : Int) i0 i1
        obtain ⟨bd, eb, c2⟩ := Kd.at_string hY (k : Int) i0 (by omega)
        subst ea; subst eb
        rw [Int.toNat_natCast] at c1 c2
        generalize hx : rdOf ByteArray.empty xs (k : Int) = x at *
        generalize hy : rdOf ByteArray.empty ys (k : Int) = z at *
        have HX : Aside0 (xs[k]? = some x) := ⟨by rw [List.getElem?_eq_getElem hlt, ← hx]; simp [rdOf, List.getD_eq_getElem?_getD, List.getElem?_eq_getElem hlt]⟩
        have HY : Aside0 (ys[k]? = some z) := ⟨by rw [List.getElem?_eq_getElem hky, ← hy]; simp [rdOf, List.getD_eq_getElem?_getD, List.getElem?_eq_getElem hky]⟩
        clear hx hy
        by_cases he : x = z
        · subst he
          have q1 : (x.toList == x.toList) = true := by simp
          have q2 : (!x.toList == x.toList) = false := by simp
          have HE : Aside0 (xs[k]? = ys[k]?) := ⟨HX.out.trans HY.out.symm⟩
          clear hX hY
          try clear he
          have hb0 := Aside0.mk (pw_below_drewN HB.out 0)
          go_wp2
          go_quiet (fail)
          have HB2 := Aside0.mk (pw_below_drewN HB.out nq)
          go_wp2
          go_roundw
          case rel => exact ⟨k + 1, by omega, by go_num, ⟨fun j hj => by
            rcases Nat.lt_or_ge j k with h | h
            · exact HN.out j h
            · obtain rfl : j = k := by omega
              exact HE.out⟩, HB2⟩
          case measure => simp [intOf]; omega
        · have q1 : (x.toList == z.toList) = false := beq_eq_false_iff_ne.2 (fun hx => he (by rw [ByteArray.toList_eq, ByteArray.toList_eq] at hx; exact ByteArray.ext (Array.toList_inj.1 hx)))
          have q2 : (!x.toList == z.toList) = true := by rw [q1]; rfl
          have HE : Aside0 (xs[k]? ≠ ys[k]?) := ⟨fun h => he (by rw [HX.out, HY.out] at h; injection h)⟩
          clear hX hY
          try clear he
          go_wp2
          go_quiet (fail)
          have HB2 := Aside0.mk (pw_below_drewN HB.out nq)
          go_wp2
          go_ret
          refine ⟨ret_bool (decide_eq_false (fun h => HE.out (by rw [h]))).symm, ?_⟩
          exact HB2.out
      · have hd : decide (k < xs.length) = false := decide_eq_false hlt
        go_wp2
        go_ret
        refine ⟨ret_bool (decide_eq_true ?_).symm, HB.out⟩
        apply List.ext_getElem?
        intro j
        rcases Nat.lt_or_ge j k with h | h
        · exact HN.out j h
        · have := HL.out
          rw [List.getElem?_eq_none (by omega), List.getElem?_eq_none (by omega)]
  · have hd : ((xs.length : Int) == (ys.length : Int)) = false := by rw [beq_eq_false_iff_ne]; omega
    have hd' : ((xs.length : Int) != (ys.length : Int)) = true := by rw [bne_iff_ne]; omega
    have HL := Aside0.mk hl
    clear hl
    go_enter Tryd.func21, Tryd.ntmps21
    go_wp2
    go_ret
    exact ⟨ret_bool (decide_eq_false (fun h => HL.out (by rw [h]))).symm, Below.refl _ _⟩
set_option maxRecDepth 100000 in
set_option maxHeartbeats 4000000 in
theorem equal_Emit (A A' : Option Addr) (c c' : Nat) (xs ys : List Emit) (w : World) (hC : (kEmit).C w A xs.length xs) (hC' : (kEmit).C w A' ys.length ys) :
    Calls Tryd.prog 16 #[.slice A xs.length c, .slice A' ys.length c'] w fun e w' => e = .returned (.bool (decide (xs = ys))) ∧ Below w.heap.size w w' := by
  have HC := Aside0.mk hC
  have HC' := Aside0.mk hC'
  have hlen := hC.2.1
  have hlen' := hC'.2.1
  clear hC hC'
  by_cases hl : xs.length = ys.length
  · have HL := Aside0.mk hl
    rw [← hl] at HC' hlen' ⊢
    clear hl
    go_enter Tryd.func16, Tryd.ntmps16
    go_wp2
    go_loopw [13] (fun i wr => ∃ k : Nat, k ≤ xs.length ∧ i = .int .i64 k ∧ Aside0 (∀ j, j < k → xs[j]? = ys[j]?) ∧ Aside0 (Below w.heap.size w wr)) (fun i _ => xs.length - (intOf i).toNat)
    case atStart => exact ⟨0, Nat.zero_le _, rfl, ⟨fun j hj => absurd hj (Nat.not_lt_zero _)⟩, ⟨Below.refl _ _⟩⟩
    case round =>
      obtain ⟨k, hk, rfl, HN, HB⟩ := hrel
      by_cases hlt : k < xs.length
      · have hd : decide (k < xs.length) = true := decide_eq_true hlt
        have i0 : (0 : Int) ≤ (k : Int) := by omega
        have i1 : (k : Int) < (xs.length : Int) := by omega
        have hky : k < ys.length := by have := HL.out; omega
        have hX := Kd.C_below HC.out HB.out
        have hY := Kd.C_below HC'.out HB.out
        obtain ⟨ad, x, ea, hx, c1, c2⟩ := kEmit_get hX k hlt
        obtain ⟨bd, z, eb, hz, c3, c4⟩ := kEmit_get hY k (by omega)
        subst ea; subst eb
        have HX := Aside0.mk hx
        have HY := Aside0.mk hz
        clear hx hz
        by_cases he : x = z
        · subst he
          have TT : ∀ W : World, (binOp BinOp.neq 52 (.agg #[.int .i64 x.port, .int .i64 x.num]) (.agg #[.int .i64 x.port, .int .i64 x.num])).run Tryd.prog W = .ok (.bool false) W := emit_same x
          have HE : Aside0 (xs[k]? = ys[k]?) := ⟨HX.out.trans HY.out.symm⟩
          clear hX hY
          try clear he
          have hb0 := Aside0.mk (pw_below_drewN HB.out 0)
          go_wp2
          go_quiet (fail)
          have HB2 := Aside0.mk (pw_below_drewN HB.out nq)
          go_wp2
          go_roundw
          case rel => exact ⟨k + 1, by omega, by go_num, ⟨fun j hj => by
            rcases Nat.lt_or_ge j k with h | h
            · exact HN.out j h
            · obtain rfl : j = k := by omega
              exact HE.out⟩, HB2⟩
          case measure => simp [intOf]; omega
        · have TT : ∀ W : World, (binOp BinOp.neq 52 (.agg #[.int .i64 x.port, .int .i64 x.num]) (.agg #[.int .i64 z.port, .int .i64 z.num])).run Tryd.prog W = .ok (.bool true) W := emit_other x z he
          have HE : Aside0 (xs[k]? ≠ ys[k]?) := ⟨fun h => he (by rw [HX.out, HY.out] at h; injection h)⟩
          clear hX hY
          try clear he
          go_wp2
          go_quiet (fail)
          have HB2 := Aside0.mk (pw_below_drewN HB.out nq)
          go_wp2
          go_ret
          refine ⟨ret_bool (decide_eq_false (fun h => HE.out (by rw [h]))).symm, ?_⟩
          exact HB2.out
      · have hd : decide (k < xs.length) = false := decide_eq_false hlt
        go_wp2
        go_ret
        refine ⟨ret_bool (decide_eq_true ?_).symm, HB.out⟩
        apply List.ext_getElem?
        intro j
        rcases Nat.lt_or_ge j k with h | h
        · exact HN.out j h
        · have := HL.out
          rw [List.getElem?_eq_none (by omega), List.getElem?_eq_none (by omega)]
  · have hd : ((xs.length : Int) == (ys.length : Int)) = false := by rw [beq_eq_false_iff_ne]; omega
    have hd' : ((xs.length : Int) != (ys.length : Int)) = true := by rw [bne_iff_ne]; omega
    have HL := Aside0.mk hl
    clear hl
    go_enter Tryd.func16, Tryd.ntmps16
    go_wp2
    go_ret
    exact ⟨ret_bool (decide_eq_false (fun h => HL.out (by rw [h]))).symm, Below.refl _ _⟩
end Go.Proofs.YtifphhkkpadpoaaDoor
