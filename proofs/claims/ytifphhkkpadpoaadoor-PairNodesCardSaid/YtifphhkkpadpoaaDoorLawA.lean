/- What the statements of chapter 18 call: echo, front, told, pairLives. -/
import Derived.Test.YtifphhkkpadpoaaDoorPPlay
import Derived.Test.YtifphhkkpadpoaaDoorEqual
namespace Go.Proofs.YtifphhkkpadpoaaDoor
open Go.RowKit Go.Proofs.YtifphhkkpadpoaaDoorW.PrintWords
set_option linter.unusedVariables false
set_option linter.unusedSimpArgs false
theorem C_of_block {α : Type} (d : Kd α) {w : World} {g e : Nat} {cs : Array Value} {xs : List α} (hb : w.heap[g]? = some (.cells cs e (0, 0))) (hr : Reps (d.K w) d.sz xs cs.toList) (hm : xs.length ≤ 9223372036854775807) : d.C w (some ⟨g, 0, none⟩) xs.length xs := by
  refine ⟨rfl, hm, fun _ => ⟨_, rfl, fun j p hj => ?_⟩⟩
  have hK := hr.2 j p hj
  refine ⟨_, d.K_len hK, hK, fun i u hu => ?_⟩
  rw [add_plain, blk_cell hb]
  rw [List.getElem?_take] at hu
  split at hu
  · rw [List.getElem?_drop] at hu
    rw [← Array.getElem?_toList]
    exact hu
  · cases hu
def echoCode : List Ins := [⟨9, 1, 0⟩, ⟨10, 1, 3⟩, ⟨6, 0, 0⟩]
def livesActs : List PAct := [⟨1, 0, -7⟩, ⟨2, 0, 1⟩, ⟨3, 0, 0⟩, ⟨4, 0, 0⟩, ⟨2, 1, 2⟩, ⟨3, 1, 0⟩, ⟨4, 1, 0⟩, ⟨3, 0, 0⟩]
theorem echo_check : codeCheck echoCode = 0 := by decide
theorem lives_out : (pairActs echoCode (pairStart 2) livesActs).2 = [0, 0, 0, 0, 0, 0, 0, 9] := by kernel_rfl
theorem lives_gate : (pairActs echoCode (pairStart 2) livesActs).1.gate.out = [⟨#[51, 32, 45, 55]⟩] := by kernel_rfl
set_option maxRecDepth 100000 in
set_option maxHeartbeats 4000000 in
theorem echo_calls (w : World) : Calls Tryd.prog 34 #[] w fun e w' => ∃ A c, e = .returned (.slice A echoCode.length c) ∧ echoCode.length ≤ c ∧ kIns.C w' A echoCode.length echoCode ∧ Below w.heap.size w w' := by
  go_enter Tryd.func34, Tryd.ntmps34
  go_wp2
  go_ret
  refine ⟨_, _, rfl, Nat.le_refl 3, ?_, below_alloc (Below.refl _ _) _⟩
  refine C_of_block kIns (blk_new w _) ?_ (by decide)
  have h := ((Reps.none (kIns.K (w.alloc (.cells #[.int .i64 9, .int .i64 1, .int .i64 0, .int .i64 10, .int .i64 1, .int .i64 3, .int .i64 6, .int .i64 0, .int .i64 0] 66))) 3).snoc (kIns_mk _ ⟨9, 1, 0⟩) rfl).snoc (kIns_mk _ ⟨10, 1, 3⟩) rfl |>.snoc (kIns_mk _ ⟨6, 0, 0⟩) rfl
  exact h
set_option maxRecDepth 100000 in
set_option maxHeartbeats 4000000 in
theorem front_calls (A A' : Option Addr) (c c' : Nat) (xs ys : List ByteArray) (w : World) (hC : Kd.string.C w A xs.length xs) (hC' : Kd.string.C w A' ys.length ys) (hc : ys.length ≤ c') :
    Calls Tryd.prog 14 #[.slice A xs.length c, .slice A' ys.length c'] w fun e w' => e = .returned (.bool (decide (xs <+: ys))) ∧ Below w.heap.size w w' := by
  have hlx := hC.2.1
  have hly := hC'.2.1
  by_cases hle : xs.length ≤ ys.length
  · have hd : decide (xs.length ≤ ys.length) = true := decide_eq_true hle
    have hE : Calls Tryd.prog 21 #[.slice A xs.length c, .slice A' xs.length c'] w fun e w' => e = .returned (.bool (decide (xs = ys.take xs.length))) ∧ Below w.heap.size w w' := by
      have h := equal_string A A' c c' xs (ys.take xs.length) w hC (Kd.C_take hC' hle)
      rw [List.length_take, Nat.min_eq_left hle] at h
      exact h
    have hcut : ∀ W : World, (Instr.slice 28 (.slice A' ys.length c') none (some (.int .i64 (xs.length : Int))) none).run Tryd.prog W = .ok (.slice A' xs.length c') W := fun W => by
      have h := cut_to (P := Tryd.prog) 28 9 .i64 Tryd.underlying28 (i := Tryd.t9) rfl A' ys.length c' (xs.length : Int) (by omega) (by omega) hc W
      rw [Int.toNat_natCast] at h
      exact h
    have HE := Aside0.mk hE
    have HP : Aside0 (decide (xs = ys.take xs.length) = decide (xs <+: ys)) := ⟨decide_eq_decide.2 List.prefix_iff_eq_take.symm⟩
    clear hE hC hC'
    go_enter Tryd.func14, Tryd.ntmps14
    go_wp2_with (go_at_call 21; refine HE.out.mono ?_; rintro e w1 ⟨rfl, hb⟩; rw [HP.out]; have HB := Aside0.mk hb; clear hb)
    go_ret
    exact ⟨rfl, HB.out⟩
  · have hd : decide (xs.length ≤ ys.length) = false := decide_eq_false hle
    have HP : Aside0 (decide (xs <+: ys) = false) := ⟨decide_eq_false (fun h => hle h.length_le)⟩
    rw [HP.out]
    clear hC hC'
    go_enter Tryd.func14, Tryd.ntmps14
    go_wp2
    go_ret
    exact ⟨rfl, Below.refl _ _⟩
theorem new_right : vmRight newVm = 0 := by decide
theorem told_err {code : List Ins} {log : List Int} (hc : codeCheck code = 0) (hl : ∀ z, z ∈ log → is32 z = true) (hn : log.length ≤ 5000) : runErr code newVm log 5000 = 0 := by
  unfold runErr
  rw [if_neg (by simpa using hc), if_neg (by rw [new_right]; simp), if_neg, if_neg (by decide), if_neg (by omega)]
  rintro (h | h)
  · have h1 : (code.length : Int) < 0 := h
    omega
  · rw [List.all_eq_true.2 hl] at h
    cases h
set_option maxRecDepth 100000 in
set_option maxHeartbeats 8000000 in
theorem told_calls (code : List Ins) (log : List Int) (A A' : Option Addr) (c c' : Nat) (w : World) (hC : kIns.C w A code.length code) (hcc : code.length ≤ c) (hC' : (Kd.int .i64).C w A' log.length log) (hcl : log.length ≤ c') (hc : codeCheck code = 0) (hl : ∀ z, z ∈ log → is32 z = true) (hn : log.length ≤ 5000) (hT : Tab w) :
    Calls Tryd.prog 13 #[.slice A code.length c, .slice A' log.length c'] w fun e w' => ∃ AL cL, e = .returned (.tuple #[.slice AL (toldText code log).length cL, .bool (decide ((ran code newVm log 5000).2 < 5000))]) ∧ (toldText code log).length ≤ cL ∧ Kd.string.C w' AL (toldText code log).length (toldText code log) ∧ Below w.heap.size w w' := by
  have hre := told_err hc hl hn
  have hou : SmallOut (ran code newVm log 5000).1.out := iter_small hc _ _ _ (runs_iter 5000 (st log)).2 (st_good hl) (fun e he => absurd he List.not_mem_nil)
  have hol : (ran code newVm log 5000).1.out.length ≤ 5000 := by
    have h2 := runs_iter (code := code) 5000 (st log)
    obtain ⟨_, o, h4, h5⟩ := iter_ext _ _ _ h2.2
    have h6 : (ran code newVm log 5000).1.out = [] ++ o := h4
    rw [h6]
    simp only [List.nil_append]
    exact Nat.le_trans h5 h2.1
  have HRE := Aside0.mk hre
  have HC := Aside0.mk hC
  have HC' := Aside0.mk hC'
  have HT := Aside0.mk hT
  clear hre hC hC' hc hl hT
  unfold toldText
  obtain ⟨m, u, HM⟩ : ∃ m u, Aside0 (ran code newVm log 5000 = (m, u)) := ⟨_, _, ⟨rfl⟩⟩
  rw [HM.out] at hou hol ⊢
  simp only at hou hol ⊢
  obtain ⟨v', inp', outs⟩ := m
  simp only at hou hol ⊢
  have HOU := Aside0.mk hou
  clear hou
  rw [List.length_map]
  go_enter Tryd.func13, Tryd.ntmps13
  go_wp2_with fail
  refine (new_calls _).mono ?_
  rintro e1 w1 ⟨A1, c1, rfl, hc1, hK1, hb1⟩
  have HB1 := Aside0.mk hb1
  have hrun := run_ok code newVm log 5000 A A1 A' c c1 c' w1 (Kd.C_below HC.out hb1) hK1.now (Kd.C_below HC'.out hb1) hcc hcl HRE.out
  have hrun' : Calls Tryd.prog 19 #[.slice A code.length c, .agg #[.int .i64 0, .slice A1 8 c1, .bool false, .bool false], .slice A' log.length c', .int .i64 5000] w1 (RunOk w1 log.length ⟨v', inp', outs⟩ u) := by
    have h : Calls Tryd.prog 19 #[.slice A code.length c, .agg #[.int .i64 0, .slice A1 8 c1, .bool false, .bool false], .slice A' log.length c', .int .i64 5000] w1 (RunOk w1 log.length (ran code newVm log 5000).1 (ran code newVm log 5000).2) := hrun
    rw [HM.out] at h
    exact h
  have HRUN := Aside0.mk hrun'
  clear hrun hrun' hK1 hb1
  go_wp2_with fail
  refine HRUN.out.mono ?_
  rintro e2 w2 ⟨Ar, cr, Ao, co, rfl, hcr, hco, hKr, hKo, hb2⟩
  have HB2 := Aside0.mk (below_step HB1.out hb2)
  have HKo := Aside0.mk hKo.now
  clear hKo hKr hb2 HRUN
  simp only at HKo hco
  go_wp2_with fail
  have HB3 := Aside0.mk (below_alloc HB2.out (.cells #[.int .i64 v'.pc, .slice Ar 8 cr, .bool v'.halts, .bool v'.fault] 46))
  have HK3 := Aside0.mk (Kd.C_alloc HKo.out (.cells #[.int .i64 v'.pc, .slice Ar 8 cr, .bool v'.halts, .bool v'.fault] 46))
  clear HB2 HKo
  generalize w2.alloc (.cells #[.int .i64 v'.pc, .slice Ar 8 cr, .bool v'.halts, .bool v'.fault] 46) = w3 at *
  have HZ3 : Aside0 (Below w3.heap.size w3 w3) := ⟨Below.refl _ _⟩
  have hmax := HK3.out.2.1
  have hs1 : 0 < Kd.string.sz := by decide
  have hs2 : 0 < 16 := by decide
  go_wp2
  go_loopw [11, 26] (fun vl u2 wr => ∃ (k : Nat) (AL : Option Addr) (cL : Nat), u2 = .int .i64 k ∧ k ≤ outs.length ∧ vl = .slice AL k cL ∧ Aside0 (Kd.string.R 9 wr w3.heap.size (fun q => w3.heap.size ≤ q) (.slice AL k cL) ((outs.take k).map textOf)) ∧ Aside0 (Below w3.heap.size w3 wr)) (fun _ u2 _ => outs.length - (intOf u2).toNat)
  case atStart => exact ⟨0, none, 0, rfl, Nat.zero_le _, rfl, ⟨Kd.R_nil _ _ _ _ _⟩, HZ3⟩
  case round =>
    obtain ⟨k, AL, cL, rfl, hk, rfl, HR, HBw⟩ := hrel
    by_cases hlt : k < outs.length
    · have hd : decide (k < outs.length) = true := decide_eq_true hlt
      obtain ⟨ad, x, ea, hx, c1, c2⟩ := kEmit_get (Kd.C_below HK3.out HBw.out) k hlt
      subst ea
      have HX := Aside0.mk hx
      obtain ⟨h1, h2, h3⟩ := HOU.out x (List.mem_of_getElem? hx)
      simp [is32] at h3
      have h32 : -2147483648 ≤ x.num ∧ x.num ≤ 2147483647 := by omega
      clear h3 hx
      have HB4 : Aside0 (Below w3.heap.size w3 (wr.alloc (.cells #[.int .i64 x.port, .int .i64 x.num] 52))) := ⟨below_alloc HBw.out _⟩
      have HR4 := Aside0.mk (Kd.R_alloc HR.out (.cells #[.int .i64 x.port, .int .i64 x.num] 52))
      go_wp2_with fail
      refine (text_calls x.port x.num (by omega) (by omega) (by omega) (by omega) _ (HT.out.below (below_step HB3.out HB4.out))).mono ?_
      rintro e5 w5 ⟨rfl, hb5⟩
      have HB5 := Aside0.mk (below_step HB4.out hb5)
      have HR5 := Aside0.mk (Kd.R_below HR4.out hb5)
      have HF5 : Aside0 (∀ q, w5.heap.size ≤ q → w3.heap.size ≤ q) := ⟨fun q hq => Nat.le_trans HB5.out.size hq⟩
      have HZ5 : Aside0 (w3.heap.size ≤ w5.heap.size) := ⟨HB5.out.size⟩
      have HL5 : Aside0 ((((outs.take k).map textOf).length + 1) * 16 ≤ 140737488355328) := ⟨by rw [List.length_map, List.length_take]; omega⟩
      obtain ⟨tx, HTX⟩ : ∃ tx, Aside0 (textOf x = tx) := ⟨_, ⟨rfl⟩⟩
      rw [show textOf ⟨x.port, x.num⟩ = tx from HTX.out]
      clear hb5 HR4 HB4 c1 c2 HR
      go_wp2_with (at_builtin; refine Kd.R_append Kd.string (W := w5) (w0 := w5) w3.heap.size rfl (.tmp 30) (.tmp 33) 28 9 (.string ⟨#[]⟩) 16 rfl Tryd.underlying28 info_string rfl hs1 hs2 (.slice AL k cL) ((outs.take k).map textOf) tx [.string tx] (fun q => w3.heap.size ≤ q) (fun _ => False) rfl rfl rfl (fun _ h => h.elim) HF5.out HR5.out (Below.refl _ _) HZ5.out HL5.out ?_; intro v9 w9 hR9 hB9 hg9 hat9; obtain ⟨A9, c9, rfl⟩ := Kd.R_slice hR9; have HR9 := Aside0.mk hR9; have HB9 := Aside0.mk hB9; clear hR9 hg9 hB9 hat9)
      have hl9 : ((outs.take k).map textOf ++ [tx]).length = k + 1 := by
        rw [List.length_append, List.length_map, List.length_take]
        simp
        omega
      have hl10 : (outs.take k).map textOf ++ [tx] = (outs.take (k + 1)).map textOf := by
        rw [List.take_add_one, HX.out, List.map_append, ← HTX.out]
        rfl
      rw [hl9, hl10] at HR9
      refine ⟨⟨k + 1, A9, c9, by go_num, by omega, rfl, HR9, ⟨HB5.out.trans HB9.out⟩⟩, ?_⟩
      simp [intOf]
      omega
    · obtain rfl : k = outs.length := by omega
      have hd : decide (outs.length < outs.length) = false := decide_eq_false (by omega)
      have hR := HR.out
      rw [List.take_length] at hR
      have hlm : outs.length = (outs.map textOf).length := by rw [List.length_map]
      rw [hlm] at hR
      obtain ⟨_, hcL, hCL⟩ := Kd.R_reads' hR
      rw [← hlm] at hcL
      have HCL := Aside0.mk hCL
      have HHL := Aside0.mk hcL
      clear hR hlm hCL hcL HR
      by_cases hu : u < 5000
      all_goals
        have hud : decide (u < 5000) = decide (u < 5000) := rfl
        first
          | (have hu1 : decide ((u : Int) < 5000) = true := decide_eq_true (by omega); have hu2 : decide (u < 5000) = true := decide_eq_true hu)
          | (have hu1 : decide ((u : Int) < 5000) = false := decide_eq_false (by omega); have hu2 : decide (u < 5000) = false := decide_eq_false hu)
        clear hud
        have HU := Aside0.mk hu2
        go_wp2
        go_ret2
        refine ⟨AL, cL, ?_, HHL.out, by rw [List.length_map] at HCL; exact HCL.out, below_step HB3.out HBw.out⟩
        rfl
theorem one8v (s : Pai) (z : PairLay) : ∀ q ∈ (pairCells s z).toList, q.oneCell' = true := one8p _ _ _ _ _ _ _ _ _ _ _ _ _ _ _ _
theorem lives_reps (W : World) : Reps (kPAct.K W) kPAct.sz livesActs (#[.int .i64 1, .int .i64 0, .int .i64 (-7), .int .i64 2, .int .i64 0, .int .i64 1, .int .i64 3, .int .i64 0, .int .i64 0, .int .i64 4, .int .i64 0, .int .i64 0, .int .i64 2, .int .i64 1, .int .i64 2, .int .i64 3, .int .i64 1, .int .i64 0, .int .i64 4, .int .i64 1, .int .i64 0, .int .i64 3, .int .i64 0, .int .i64 0] : Array Value).toList := (((((((((Reps.none (kPAct.K W) 3).snoc (kPAct_mk W ⟨1, 0, -7⟩) rfl).snoc (kPAct_mk W ⟨2, 0, 1⟩) rfl).snoc (kPAct_mk W ⟨3, 0, 0⟩) rfl).snoc (kPAct_mk W ⟨4, 0, 0⟩) rfl).snoc (kPAct_mk W ⟨2, 1, 2⟩) rfl).snoc (kPAct_mk W ⟨3, 1, 0⟩) rfl).snoc (kPAct_mk W ⟨4, 1, 0⟩) rfl).snoc (kPAct_mk W ⟨3, 0, 0⟩) rfl)
set_option maxRecDepth 100000 in
set_option maxHeartbeats 8000000 in
theorem pairLives_calls (w : World) (hT : Tab w) : Calls Tryd.prog 12 #[] w fun e w' => e = .returned (.bool true) ∧ Below w.heap.size w w' := by
  have HT := Aside0.mk hT
  clear hT
  go_enter Tryd.func12, Tryd.ntmps12
  go_wp2_with fail
  refine (echo_calls _).mono ?_
  rintro e1 w1 ⟨A1, c1, rfl, hc1, hC1, hb1⟩
  have HB1 := Aside0.mk hb1
  have HC1 := Aside0.mk hC1
  clear hb1 hC1
  go_wp2_with fail
  have hb2 := below_alloc HB1.out (.cells #[.int .i64 1, .int .i64 0, .int .i64 (-7), .int .i64 2, .int .i64 0, .int .i64 1, .int .i64 3, .int .i64 0, .int .i64 0, .int .i64 4, .int .i64 0, .int .i64 0, .int .i64 2, .int .i64 1, .int .i64 2, .int .i64 3, .int .i64 1, .int .i64 0, .int .i64 4, .int .i64 1, .int .i64 0, .int .i64 3, .int .i64 0, .int .i64 0] 41)
  have hbk := blk_new w1 (.cells #[.int .i64 1, .int .i64 0, .int .i64 (-7), .int .i64 2, .int .i64 0, .int .i64 1, .int .i64 3, .int .i64 0, .int .i64 0, .int .i64 4, .int .i64 0, .int .i64 0, .int .i64 2, .int .i64 1, .int .i64 2, .int .i64 3, .int .i64 1, .int .i64 0, .int .i64 4, .int .i64 1, .int .i64 0, .int .i64 3, .int .i64 0, .int .i64 0] 41)
  have hC2 := Kd.C_alloc HC1.out (.cells #[.int .i64 1, .int .i64 0, .int .i64 (-7), .int .i64 2, .int .i64 0, .int .i64 1, .int .i64 3, .int .i64 0, .int .i64 0, .int .i64 4, .int .i64 0, .int .i64 0, .int .i64 2, .int .i64 1, .int .i64 2, .int .i64 3, .int .i64 1, .int .i64 0, .int .i64 4, .int .i64 1, .int .i64 0, .int .i64 3, .int .i64 0, .int .i64 0] 41)
  clear HB1
  generalize w1.alloc (.cells #[.int .i64 1, .int .i64 0, .int .i64 (-7), .int .i64 2, .int .i64 0, .int .i64 1, .int .i64 3, .int .i64 0, .int .i64 0, .int .i64 4, .int .i64 0, .int .i64 0, .int .i64 2, .int .i64 1, .int .i64 2, .int .i64 3, .int .i64 1, .int .i64 0, .int .i64 4, .int .i64 1, .int .i64 0, .int .i64 3, .int .i64 0, .int .i64 0] 41) = w2 at *
  generalize w1.heap.size = g1 at *
  have hL : kPAct.C w2 (some ⟨g1, 0, none⟩) livesActs.length livesActs := C_of_block kPAct hbk (lives_reps w2) (by decide)
  have hplay := play_ok echoCode A1 c1 2 livesActs (some ⟨g1, 0, none⟩) 8 w2 hC2 hc1 hL (by decide) echo_check (by decide) (by decide) (by decide) (HT.out.below hb2)
  have h1 := lives_out
  have h2 := lives_gate
  generalize pairActs echoCode (pairStart 2) livesActs = r at hplay h1 h2
  obtain ⟨s, errs⟩ := r
  simp only at h1 h2 hplay
  subst h1
  have HG := Aside0.mk h2
  have HB2 := Aside0.mk hb2
  clear h2 hb2 hL hbk hC2 HC1
  refine hplay.mono ?_
  rintro e3 w3 ⟨z, AO, cO, rfl, hz, hO, hcO, hb3⟩
  have HB3 := Aside0.mk (below_step HB2.out hb3)
  have HZ := Aside0.mk hz
  have HO := Aside0.mk hO
  simp only at HO HZ hcO
  clear hz hO hb3 hplay HB2
  unfold pairCells
  go_wp2_with fail
  have hbp := blk_alloc (blk_new w3 (.cells #[.slice z.AL s.log.length z.cL, .int .i64 s.fence.epoch, .int .i64 s.fence.owner, .slice z.AN s.nodes.length z.cN, .slice z.AS s.saved.length z.cS, .int .i64 s.gate.fence.epoch, .int .i64 s.gate.fence.owner, .slice z.AG s.gate.out.length z.cG] 32)) (.cells #[.int .i64 0, .int .i64 0, .int .i64 0, .int .i64 0, .int .i64 0, .int .i64 0, .int .i64 0, .int .i64 9] 34)
  have hbe := blk_new (w3.alloc (.cells #[.slice z.AL s.log.length z.cL, .int .i64 s.fence.epoch, .int .i64 s.fence.owner, .slice z.AN s.nodes.length z.cN, .slice z.AS s.saved.length z.cS, .int .i64 s.gate.fence.epoch, .int .i64 s.gate.fence.owner, .slice z.AG s.gate.out.length z.cG] 32)) (.cells #[.int .i64 0, .int .i64 0, .int .i64 0, .int .i64 0, .int .i64 0, .int .i64 0, .int .i64 0, .int .i64 9] 34)
  have hsz : (w3.alloc (.cells #[.slice z.AL s.log.length z.cL, .int .i64 s.fence.epoch, .int .i64 s.fence.owner, .slice z.AN s.nodes.length z.cN, .slice z.AS s.saved.length z.cS, .int .i64 s.gate.fence.epoch, .int .i64 s.gate.fence.owner, .slice z.AG s.gate.out.length z.cG] 32)).heap.size = w3.heap.size + 1 := by simp
  rw [hsz] at hbe
  have HB4 := Aside0.mk (below_alloc (below_alloc HB3.out (.cells #[.slice z.AL s.log.length z.cL, .int .i64 s.fence.epoch, .int .i64 s.fence.owner, .slice z.AN s.nodes.length z.cN, .slice z.AS s.saved.length z.cS, .int .i64 s.gate.fence.epoch, .int .i64 s.gate.fence.owner, .slice z.AG s.gate.out.length z.cG] 32)) (.cells #[.int .i64 0, .int .i64 0, .int .i64 0, .int .i64 0, .int .i64 0, .int .i64 0, .int .i64 0, .int .i64 9] 34))
  have hO4 := Kd.C_alloc (Kd.C_alloc HO.out (.cells #[.slice z.AL s.log.length z.cL, .int .i64 s.fence.epoch, .int .i64 s.fence.owner, .slice z.AN s.nodes.length z.cN, .slice z.AS s.saved.length z.cS, .int .i64 s.gate.fence.epoch, .int .i64 s.gate.fence.owner, .slice z.AG s.gate.out.length z.cG] 32)) (.cells #[.int .i64 0, .int .i64 0, .int .i64 0, .int .i64 0, .int .i64 0, .int .i64 0, .int .i64 0, .int .i64 9] 34)
  have hZ4 := (HZ.out.below (below_alloc (below_alloc (Below.refl w3.heap.size w3) (.cells #[.slice z.AL s.log.length z.cL, .int .i64 s.fence.epoch, .int .i64 s.fence.owner, .slice z.AN s.nodes.length z.cN, .slice z.AS s.saved.length z.cS, .int .i64 s.gate.fence.epoch, .int .i64 s.gate.fence.owner, .slice z.AG s.gate.out.length z.cG] 32)) (.cells #[.int .i64 0, .int .i64 0, .int .i64 0, .int .i64 0, .int .i64 0, .int .i64 0, .int .i64 0, .int .i64 9] 34))).out
  have HZc := Aside0.mk HZ.out.outc
  clear hsz HB3 HO HZ
  generalize (w3.alloc (.cells #[.slice z.AL s.log.length z.cL, .int .i64 s.fence.epoch, .int .i64 s.fence.owner, .slice z.AN s.nodes.length z.cN, .slice z.AS s.saved.length z.cS, .int .i64 s.gate.fence.epoch, .int .i64 s.gate.fence.owner, .slice z.AG s.gate.out.length z.cG] 32)).alloc (.cells #[.int .i64 0, .int .i64 0, .int .i64 0, .int .i64 0, .int .i64 0, .int .i64 0, .int .i64 0, .int .i64 9] 34) = w4 at *
  generalize w3.heap.size = g3 at *
  have hE : (Kd.int .i64).C w4 (some ⟨g3 + 1, 0, none⟩) [(0 : Int), 0, 0, 0, 0, 0, 0, 9].length [(0 : Int), 0, 0, 0, 0, 0, 0, 9] := C_of_block (Kd.int .i64) hbe (Kd.reps_scalar (enc := fun x => Value.int .i64 x) [0, 0, 0, 0, 0, 0, 0, 9]) (by decide)
  have heq := equal_errno AO (some ⟨g3 + 1, 0, none⟩) cO 8 [0, 0, 0, 0, 0, 0, 0, 9] [0, 0, 0, 0, 0, 0, 0, 9] w4 hO4 hE
  rw [show decide (([0, 0, 0, 0, 0, 0, 0, 9] : List Int) = [0, 0, 0, 0, 0, 0, 0, 9]) = true from rfl] at heq
  have HP4 := Aside0.mk hbp
  have HZ4 := Aside0.mk hZ4
  clear hbe hO4 hE hbp hZ4
  refine heq.mono ?_
  rintro e5 w5 ⟨rfl, hb5⟩
  clear heq
  have hp5 := blk_below HP4.out hb5
  have HB5 := Aside0.mk (below_step HB4.out hb5)
  have HZ5 := Aside0.mk (Kd.C_below HZ4.out hb5)
  have x7 : w5.cell? ⟨g3, 7, none⟩ = some (.slice z.AG s.gate.out.length z.cG) := blk_cell hp5 7
  have lt5 := blk_lt hp5
  clear hb5 hp5 HP4 HZ4 HB4
  go_wp2_with fail
  have hbs := blk_new w5 (.cells #[.string ⟨#[51, 32, 45, 55]⟩] 9)
  have HB6 := Aside0.mk (below_alloc HB5.out (.cells #[.string ⟨#[51, 32, 45, 55]⟩] 9))
  have hZ6 := Kd.C_alloc HZ5.out (.cells #[.string ⟨#[51, 32, 45, 55]⟩] 9)
  clear x7 HB5 HZ5
  generalize w5.alloc (.cells #[.string ⟨#[51, 32, 45, 55]⟩] 9) = w6 at *
  generalize w5.heap.size = g5 at *
  have hS : Kd.string.C w6 (some ⟨g5, 0, none⟩) [(⟨#[51, 32, 45, 55]⟩ : ByteArray)].length [⟨#[51, 32, 45, 55]⟩] := C_of_block Kd.string hbs (Kd.reps_scalar (enc := fun x => Value.string x) [⟨#[51, 32, 45, 55]⟩]) (by decide)
  have heq := equal_string z.AG (some ⟨g5, 0, none⟩) z.cG 1 s.gate.out [⟨#[51, 32, 45, 55]⟩] w6 hZ6 hS
  rw [show decide (s.gate.out = [(⟨#[51, 32, 45, 55]⟩ : ByteArray)]) = true from decide_eq_true HG.out] at heq
  clear hS hZ6 hbs
  refine heq.mono ?_
  rintro e7 w7 ⟨rfl, hb7⟩
  have HB7 := Aside0.mk (below_step HB6.out hb7)
  clear heq hb7
  go_wp2
  go_ret
  exact ⟨rfl, HB7.out⟩
end Go.Proofs.YtifphhkkpadpoaaDoor
