/- The walk of dutykeep.PairNodes. Printed by gen_laws.py. -/
import Derived.Test.YtifphhkkpadpoaaDoorLawA
import Derived.Test.YtifphhkkpadpoaaDoorEqual
import Derived.Test.YtifphhkkpadpoaaDoorLay
namespace Go.Proofs.YtifphhkkpadpoaaDoor
open Go.RowKit Go.Proofs.YtifphhkkpadpoaaDoorW.PrintWords
set_option linter.unusedVariables false
set_option linter.unusedSimpArgs false
theorem pick_all {α β : Type} (xs : List α) : ∀ (Q : Nat → α → β → Prop), (∀ j p, xs[j]? = some p → ∃ c, Q j p c) → ∃ cs : List β, cs.length = xs.length ∧ ∀ j p, xs[j]? = some p → ∃ c, cs[j]? = some c ∧ Q j p c := by
  induction xs with
  | nil => exact fun Q h => ⟨[], rfl, fun j p hj => by simp at hj⟩
  | cons a r ih =>
    intro Q h
    obtain ⟨c, hc⟩ := h 0 a rfl
    obtain ⟨cs, hl, hcs⟩ := ih (fun j => Q (j + 1)) (fun j p hj => h (j + 1) p (by simpa using hj))
    refine ⟨c :: cs, by simp [hl], fun j p hj => ?_⟩
    cases j with
    | zero =>
      simp at hj
      subst hj
      exact ⟨c, rfl, hc⟩
    | succ j => simpa using hcs j p (by simpa using hj)
theorem raw_of_nod {w : World} {A : Option Addr} {xs : List Nod} (h : kNod.C w A xs.length xs) : ∃ css : List (List Value), css.length = xs.length ∧ kRaw.C w A css.length css ∧ ∀ (j : Nat) (x : Nod), xs[j]? = some x → ∃ cs, css[j]? = some cs ∧ kNod.K w x cs := by
  rcases Nat.eq_zero_or_pos xs.length with h0 | h0
  · have hx : xs = [] := List.eq_nil_of_length_eq_zero h0
    subst hx
    exact ⟨[], rfl, ⟨rfl, by simp, fun h => absurd h (by simp)⟩, fun j x hj => by simp at hj⟩
  · obtain ⟨ad, rfl, hc⟩ := h.2.2 h0
    obtain ⟨css, hl, hcs⟩ := pick_all xs (fun j p c => c.length = kNod.sz ∧ kNod.K w p c ∧ ∀ i u, c[i]? = some u → w.cell? (ad.add (j * kNod.sz + i)) = some u) hc
    refine ⟨css, hl, ⟨rfl, by rw [hl]; exact h.2.1, fun _ => ⟨ad, rfl, fun j c hj => ?_⟩⟩, fun j x hx => ?_⟩
    · have hj' : j < xs.length := by rw [← hl]; exact (List.getElem?_eq_some_iff.1 hj).1
      obtain ⟨c', e1, e2, e3, e4⟩ := hcs j _ (List.getElem?_eq_getElem hj')
      rw [hj] at e1
      obtain rfl := Option.some.inj e1
      exact ⟨c, e2, ⟨rfl, e2, fun u hu => kNod.K_one e3 u hu⟩, e4⟩
    · obtain ⟨c', e1, e2, e3, e4⟩ := hcs j x hx
      exact ⟨c', e1, e3⟩
theorem nod_of_raw {w : World} {A : Option Addr} {xs : List Nod} {css : List (List Value)} (h : kRaw.C w A css.length css) (hl : css.length = xs.length) (hk : ∀ (j : Nat) (x : Nod), xs[j]? = some x → ∃ cs, css[j]? = some cs ∧ kNod.K w x cs) : kNod.C w A xs.length xs := by
  refine ⟨rfl, by rw [← hl]; exact h.2.1, fun h0 => ?_⟩
  obtain ⟨ad, rfl, hc⟩ := h.2.2 (by omega)
  refine ⟨ad, rfl, fun j x hx => ?_⟩
  obtain ⟨cs, e1, e2⟩ := hk j x hx
  obtain ⟨c, f1, f2, f3⟩ := hc j cs e1
  obtain rfl : c = cs := f2.1
  exact ⟨c, f1, e2, f3⟩
theorem info_Raw : (Tryd.prog.info? 49).map (fun i => (i.zero, i.size, i.bytes)) = some (some (.agg #[.int .i64 0, .int .i64 0, .slice none 0 0, .bool false, .bool false, .int .i64 0, .slice none 0 0, .int .i64 0]), (kRaw).sz, 88) := by kernel_rfl
set_option maxRecDepth 100000 in
set_option maxHeartbeats 4000000 in
theorem clone_Raw (A : Option Addr) (c : Nat) (xs : List _) (w : World) (hC : (kRaw).C w A xs.length xs) (hb : xs.length * 88 ≤ 140737488355328) :
    Calls Tryd.prog 15 #[.slice A xs.length c] w (Fresh (kRaw) 49 w xs) := by
  have HC := Aside0.mk hC
  have HL := Aside0.mk hb
  clear hC hb
  have he := fun W => Lib.run_eql_slice_nil (P := Tryd.prog) W 27 49 A xs.length c 0 0 Tryd.underlying27
  rcases A with _ | ad <;> simp only [Option.isNone_none, Option.isNone_some] at he
  · have h0 : xs = [] := by
      rcases xs with _ | ⟨x, r⟩
      · rfl
      · obtain ⟨ad, h, _⟩ := HC.out.2.2 (by simp)
        cases h
    subst h0
    simp only [List.length_nil] at he ⊢
    go_enter Tryd.func15, Tryd.ntmps15
    go_wp2
    go_ret
    exact ⟨_, rfl, Kd.R_nil _ _ _ _ _, Below.refl _ _⟩
  · go_enter Tryd.func15, Tryd.ntmps15
    go_wp2_with (at_builtin; refine Kd.R_append_rows (kRaw) (Rr := (kRaw).K w) (w0 := w) w.heap.size rfl (.tmp 5) (.tmp 6) 27 49 (.agg #[.int .i64 0, .int .i64 0, .slice none 0 0, .bool false, .bool false, .int .i64 0, .slice none 0 0, .int .i64 0]) 88 rfl Tryd.underlying27 info_Raw rfl (by decide) (by decide) _ [] xs (some ad) xs.length c (fun k => w.heap.size ≤ k) (fun _ => False) rfl rfl (R_empty _ _ _ _ _ (Nat.le_refl _) (Nat.le_refl _)) (HC.out.imp_ (below_alloc (Below.refl _ _) _) (fun _ _ h => h)) (fun _ _ h => h) (fun _ h => h.elim) (fun k hk => by simp at hk; omega) ((Below.refl _ _).alloc (Nat.le_refl _) _) (by simp) (by simpa using HL.out) ?_; intro v1 w1 hR hB hg hat; have HR := Aside0.mk hR; have HB := Aside0.mk hB; clear hR hB hg hat)
    go_ret
    exact ⟨_, rfl, by simpa using HR.out, HB.out⟩
set_option maxRecDepth 100000 in
set_option maxHeartbeats 8000000 in
theorem pairNodes_calls (code : List Ins) (A : Option Addr) (c : Nat) (n : Int) (l : List PAct) (Al : Option Addr) (cl : Nat) (w : World) (hC : kIns.C w A code.length code) (hcc : code.length ≤ c) (hL : kPAct.C w Al l.length l) (hcap : l.length ≤ cl) (hT : Tab w) :
    Calls Tryd.prog 4 #[.slice A code.length c, .int .i64 n, .slice Al l.length cl] w fun e w' => e = .returned (.bool true) ∧ Below w.heap.size w w' := by
  rcases play_cases code n l with ⟨h1, h2, h3⟩ | hok
  · have hr : ∃ er, pairPlay code n l = (noPai, [], er) ∧ er ≠ 0 := ⟨(pairPlay code n l).2.2, by rw [← h2, ← h3], h1⟩
    obtain ⟨er, hr, hne⟩ := hr
    have HPLAY := Aside0.mk (play_err code A c n l Al cl w hC hcc hL h1)
    rw [hr] at HPLAY
    have hz1 : (er == 0) = false := by simpa using hne
    have hz2 : (er != 0) = true := by simpa using hne
    clear h1 h2 h3 hr hne
    generalize hnp : noPai = s at *
    have HNP := Aside0.mk hnp
    clear hnp
    have HT := Aside0.mk hT
    have HC := Aside0.mk hC
    have HL := Aside0.mk hL
    have hlen := hL.2.1
    clear hT hC hL
    go_enter Tryd.func4, Tryd.ntmps4
    go_wp2_with fail
    refine HPLAY.out.mono ?_
    rintro e1 w1 ⟨z, AO, cO, rfl, hz, hO, hcO, hb1⟩
    clear HPLAY
    simp only at hz hO hcO
    unfold pairCells
    simp only
    have hbp := blk_new w1 (.cells #[.slice z.AL s.log.length z.cL, .int .i64 s.fence.epoch, .int .i64 s.fence.owner, .slice z.AN s.nodes.length z.cN, .slice z.AS s.saved.length z.cS, .int .i64 s.gate.fence.epoch, .int .i64 s.gate.fence.owner, .slice z.AG s.gate.out.length z.cG] 32)
    have HB2 := Aside0.mk (below_alloc hb1 (.cells #[.slice z.AL s.log.length z.cL, .int .i64 s.fence.epoch, .int .i64 s.fence.owner, .slice z.AN s.nodes.length z.cN, .slice z.AS s.saved.length z.cS, .int .i64 s.gate.fence.epoch, .int .i64 s.gate.fence.owner, .slice z.AG s.gate.out.length z.cG] 32))
    have HZ2 := Aside0.mk (hz.below (below_alloc (Below.refl w1.heap.size w1) (.cells #[.slice z.AL s.log.length z.cL, .int .i64 s.fence.epoch, .int .i64 s.fence.owner, .slice z.AN s.nodes.length z.cN, .slice z.AS s.saved.length z.cS, .int .i64 s.gate.fence.epoch, .int .i64 s.gate.fence.owner, .slice z.AG s.gate.out.length z.cG] 32)))
    have HO2 := Aside0.mk (Kd.C_alloc hO (.cells #[.slice z.AL s.log.length z.cL, .int .i64 s.fence.epoch, .int .i64 s.fence.owner, .slice z.AN s.nodes.length z.cN, .slice z.AS s.saved.length z.cS, .int .i64 s.gate.fence.epoch, .int .i64 s.gate.fence.owner, .slice z.AG s.gate.out.length z.cG] 32))
    clear hb1 hz hO
    go_wp2_with fail
    generalize w1.alloc (.cells #[.slice z.AL s.log.length z.cL, .int .i64 s.fence.epoch, .int .i64 s.fence.owner, .slice z.AN s.nodes.length z.cN, .slice z.AS s.saved.length z.cS, .int .i64 s.gate.fence.epoch, .int .i64 s.gate.fence.owner, .slice z.AG s.gate.out.length z.cG] 32) = w2 at *
    generalize w1.heap.size = g1 at *
    refine (pairLives_calls w2 (HT.out.below HB2.out)).mono ?_
    rintro e3 w3 ⟨rfl, hb3⟩
    have hbp := blk_below hbp hb3
    have HB3 := Aside0.mk (below_step HB2.out hb3)
    have HZ3 := Aside0.mk (HZ2.out.below hb3)
    have HO3 := Aside0.mk (Kd.C_below HO2.out hb3)
    clear hb3 HB2 HZ2 HO2
    go_wp2_with fail
    refine (pairLives_calls w3 (HT.out.below HB3.out)).mono ?_
    rintro e4 w4 ⟨rfl, hb4⟩
    have hbp := blk_below hbp hb4
    have HB4 := Aside0.mk (below_step HB3.out hb4)
    have HZ4 := Aside0.mk (HZ3.out.below hb4)
    have HO4 := Aside0.mk (Kd.C_below HO3.out hb4)
    clear hb4 HB3 HZ3 HO3
    go_wp2
    go_ret
    exact ⟨rfl, HB4.out⟩
    
  · obtain ⟨N, rfl, hN1, hN4, hc, hl, hr, hI⟩ := hok
    have HPLAY := Aside0.mk (play_ok code A c N l Al cl w hC hcc hL hcap hc hN1 hN4 hl hT)
    generalize hrr : pairActs code (pairStart N) l = rr at *
    obtain ⟨s, errs⟩ := rr
    simp only at hI HPLAY
    have hel : errs.length = l.length := by
      have h := acts_len code l (pairStart N)
      rw [hrr] at h
      exact h
    have hnod : ∀ x, x ∈ s.nodes ++ s.saved → NodInv code s.log (50 * l.length) x := by
      intro x hx
      rcases List.mem_append.1 hx with hx | hx
      · obtain ⟨j, hj⟩ := List.getElem?_of_mem hx
        exact hI.nod j x hj
      · exact hI.sav x hx
    have HNOD := Aside0.mk hnod
    have hn4 : s.nodes.length ≤ 4 := by rw [hI.nn]; exact hN4
    have hsv : s.saved.length ≤ 100 := by have := hI.savlen; omega
    clear hr hrr hnod hel hI hc
    have HT := Aside0.mk hT
    have HC := Aside0.mk hC
    have HL := Aside0.mk hL
    have hlen := hL.2.1
    clear hT hC hL
    go_enter Tryd.func4, Tryd.ntmps4
    go_wp2_with fail
    refine HPLAY.out.mono ?_
    rintro e1 w1 ⟨z, AO, cO, rfl, hz, hO, hcO, hb1⟩
    clear HPLAY
    obtain ⟨AL, cL, AN, cN, AS, cS, AG, cG⟩ := z
    simp only at hz hO hcO
    unfold pairCells
    simp only
    have hbp := blk_new w1 (.cells #[.slice AL s.log.length cL, .int .i64 s.fence.epoch, .int .i64 s.fence.owner, .slice AN s.nodes.length cN, .slice AS s.saved.length cS, .int .i64 s.gate.fence.epoch, .int .i64 s.gate.fence.owner, .slice AG s.gate.out.length cG] 32)
    have HB2 := Aside0.mk (below_alloc hb1 (.cells #[.slice AL s.log.length cL, .int .i64 s.fence.epoch, .int .i64 s.fence.owner, .slice AN s.nodes.length cN, .slice AS s.saved.length cS, .int .i64 s.gate.fence.epoch, .int .i64 s.gate.fence.owner, .slice AG s.gate.out.length cG] 32))
    have HZ2 := Aside0.mk (hz.below (below_alloc (Below.refl w1.heap.size w1) (.cells #[.slice AL s.log.length cL, .int .i64 s.fence.epoch, .int .i64 s.fence.owner, .slice AN s.nodes.length cN, .slice AS s.saved.length cS, .int .i64 s.gate.fence.epoch, .int .i64 s.gate.fence.owner, .slice AG s.gate.out.length cG] 32)))
    have HO2 := Aside0.mk (Kd.C_alloc hO (.cells #[.slice AL s.log.length cL, .int .i64 s.fence.epoch, .int .i64 s.fence.owner, .slice AN s.nodes.length cN, .slice AS s.saved.length cS, .int .i64 s.gate.fence.epoch, .int .i64 s.gate.fence.owner, .slice AG s.gate.out.length cG] 32))
    clear hb1 hz hO
    go_wp2_with fail
    generalize w1.alloc (.cells #[.slice AL s.log.length cL, .int .i64 s.fence.epoch, .int .i64 s.fence.owner, .slice AN s.nodes.length cN, .slice AS s.saved.length cS, .int .i64 s.gate.fence.epoch, .int .i64 s.gate.fence.owner, .slice AG s.gate.out.length cG] 32) = w2 at *
    generalize w1.heap.size = g1 at *
    refine (pairLives_calls w2 (HT.out.below HB2.out)).mono ?_
    rintro e3 w3 ⟨rfl, hb3⟩
    have hbp := blk_below hbp hb3
    have HB3 := Aside0.mk (below_step HB2.out hb3)
    have HZ3 := Aside0.mk (HZ2.out.below hb3)
    have HO3 := Aside0.mk (Kd.C_below HO2.out hb3)
    clear hb3 HB2 HZ2 HO2
    obtain ⟨cN1, hl1, hC1, hK1⟩ := raw_of_nod HZ3.out.nodes
    obtain ⟨cS1, hl2, hC2, hK2⟩ := raw_of_nod HZ3.out.saved
    have x0 : w3.cell? ⟨g1, 0, none⟩ = some (.slice AL s.log.length cL) := blk_cell hbp 0
    have x3 : w3.cell? ⟨g1, 3, none⟩ = some (.slice AN s.nodes.length cN) := blk_cell hbp 3
    have x4 : w3.cell? ⟨g1, 4, none⟩ = some (.slice AS s.saved.length cS) := blk_cell hbp 4
    have L3 := below_lay x3
    have L4 := below_lay x4
    have HCL : Aside0 (∀ W, Below w3.heap.size w3 W → Calls Tryd.prog 15 #[.slice AN s.nodes.length cN] W (Fresh kRaw 49 W cN1)) := ⟨fun W hW => by
      have h := clone_Raw AN cN cN1 W (Kd.C_below hC1 hW) (by omega)
      rw [hl1] at h
      exact h⟩
    have HSV : Aside0 (∀ W, Below w3.heap.size w3 W → ReadsRow (kRaw.K W) kRaw.sz W AS s.saved.length cS1) := ⟨fun W hW => by
      have h := Kd.C_below hC2 hW
      rw [hl2] at h
      exact h⟩
    have HK1 := Aside0.mk hK1
    have HK2 := Aside0.mk hK2
    have HL1 := Aside0.mk hl1
    have HL2 := Aside0.mk hl2
    have hs1 : 0 < kRaw.sz := by decide
    have hs2 : 0 < 88 := by decide
    have HLb : Aside0 ((cN1.length + s.saved.length) * 88 ≤ 140737488355328) := ⟨by omega⟩
    have HP3 := Aside0.mk hbp
    have HB0 := Aside0.mk (Below.refl w3.heap.size w3)
    clear hbp x0 x3 x4 hC1 hC2 hK1 hK2 hl1 hl2
    go_wp2_with fail
    go_region_held3 (fun w' => Below w3.heap.size w3 w') (with_reducible first | exact below_drew HB0.out | assumption)
      (first
        | (refine Kd.R_append_rows_step kRaw (Rr := kRaw.K w5) (w0 := w5) (W := w5) w3.heap.size rfl (.tmp 33) (.tmp 35) 27 49 (.agg #[.int .i64 0, .int .i64 0, .slice none 0 0, .bool false, .bool false, .int .i64 0, .slice none 0 0, .int .i64 0]) 88 rfl Tryd.underlying27 info_Raw rfl hs1 hs2 (.slice A5 cN1.length c5) cN1 cS1 AS s.saved.length cS (fun q => w3.heap.size ≤ q) (fun _ => False) rfl rfl HR5.out HV5.out (fun _ _ h => h) (fun _ h => h.elim) HF5.out (Below.refl _ _) HZ5.out HLb.out ?_; intro v6 w6 hR6 hB6 hg6 hat6; obtain ⟨A6, c6, rfl⟩ := Kd.R_slice hR6; obtain ⟨nL, hnL⟩ : ∃ nL, nL = (cN1 ++ cS1).length := ⟨_, rfl⟩; rw [← hnL] at hR6 ⊢; have HR6 := Aside0.mk hR6; have HNL := Aside0.mk hnL; clear hnL; have hB36 : Below w3.heap.size w3 w6 := HB5.out.trans hB6; clear hR6 hB6 hg6 hat6)
        | (go_at_call 15; refine (HCL.out _ (by assumption)).mono ?_; rintro e5 w5 ⟨v5, rfl, hR5, hb5⟩; obtain ⟨A5, c5, rfl⟩ := Kd.R_slice hR5; have hB35 : Below w3.heap.size w3 w5 := below_undrew (w := w3) hb5; have HB5 := Aside0.mk hB35; have HR5 : Aside0 (kRaw.R 49 w5 w3.heap.size (fun q => w3.heap.size ≤ q) (.slice A5 cN1.length c5) cN1) := ⟨hR5⟩; have HV5 := Aside0.mk (HSV.out w5 hB35); have HF5 : Aside0 (∀ k, w5.heap.size ≤ k → w3.heap.size ≤ k) := ⟨fun k hk => Nat.le_trans HB5.out.size hk⟩; have HZ5 : Aside0 (w3.heap.size ≤ w5.heap.size) := ⟨HB5.out.size⟩; clear hR5 hb5))
    have HB6 := Aside0.mk hB36
    obtain ⟨hn6, hc6, hC6⟩ := Kd.R_reads' HR6.out
    have hC7 : kNod.C w6 A6 (s.nodes ++ s.saved).length (s.nodes ++ s.saved) := by
      refine nod_of_raw hC6 (by rw [List.length_append, List.length_append, HL1.out, HL2.out]) (fun j x hx => ?_)
      rcases Nat.lt_or_ge j s.nodes.length with hj | hj
      · rw [List.getElem?_append_left hj] at hx
        obtain ⟨cs, e1, e2⟩ := HK1.out j x hx
        exact ⟨cs, by rw [List.getElem?_append_left (by rw [HL1.out]; exact hj)]; exact e1, kNod.K_below HB6.out e2⟩
      · rw [List.getElem?_append_right hj] at hx
        obtain ⟨cs, e1, e2⟩ := HK2.out _ x hx
        exact ⟨cs, by rw [List.getElem?_append_right (by rw [HL1.out]; exact hj), HL1.out]; exact e1, kNod.K_below HB6.out e2⟩
    have HCT := Aside0.mk hC7
    have ht : (s.nodes ++ s.saved).length ≤ 104 := by rw [List.length_append]; omega
    have hcc6 : (s.nodes ++ s.saved).length ≤ c6 := by
      have h := hc6
      rw [hn6] at h
      rw [List.length_append, HL1.out, HL2.out] at h
      rw [List.length_append]
      exact h
    have hln : nL = (s.nodes ++ s.saved).length := by rw [HNL.out, List.length_append, List.length_append, HL1.out, HL2.out]
    clear hn6 hc6 HR6 HNL
    subst hln
    generalize s.nodes ++ s.saved = T at *
    have HP6 := Aside0.mk (blk_below HP3.out HB6.out)
    clear hC7 hC6 HK1 HK2 HL1 HL2 HR5 HV5 HF5 HZ5 HCL HSV L3 L4 hs1 hs2 HLb hB36 hB35
    go_wp2_with fail
    go_loopw [39] (fun u wr => ∃ k : Nat, u = .int .i64 k ∧ k ≤ T.length ∧ Aside0 (Below w6.heap.size w6 wr)) (fun u _ => T.length - (intOf u).toNat)
    case atStart => exact ⟨0, rfl, Nat.zero_le _, ⟨Below.refl _ _⟩⟩
    case round =>
      obtain ⟨k, rfl, hk, HBr⟩ := hrel
      by_cases hlt : k < T.length
      · have hd : decide (k < T.length) = true := decide_eq_true hlt
        have hbr := blk_below HP6.out HBr.out
        obtain ⟨ad, x, A2, c2, AO2, cO2, hAN, hx, z0, z1, z2, z3, z4, z5, z6, z7, l2, g2, l6, g6⟩ := kNod_get (Kd.C_below HCT.out HBr.out) k hlt
        subst hAN
        have hnx := HNOD.out x (List.mem_of_getElem? hx)
        have d10 : decide (x.read < 0) = false := decide_eq_false (by have := hnx.rd0; omega)
        have d11 : decide ((s.log.length : Int) < x.read) = false := decide_eq_false (by have := hnx.rd1; omega)
        have d12 : decide (x.sent < 0) = false := decide_eq_false (by have := hnx.sn0; omega)
        have d13 : decide ((x.outs.length : Int) < x.sent) = false := decide_eq_false (by have := hnx.sn1; omega)
        have hal := below_alloc (Below.refl wr.heap.size wr) (.cells #[.int .i64 x.epoch, .int .i64 x.vm.pc, .slice A2 x.vm.regs.length c2, .bool x.vm.halts, .bool x.vm.fault, .int .i64 x.read, .slice AO2 x.outs.length cO2, .int .i64 x.sent] 49)
        have hba := blk_new wr (.cells #[.int .i64 x.epoch, .int .i64 x.vm.pc, .slice A2 x.vm.regs.length c2, .bool x.vm.halts, .bool x.vm.fault, .int .i64 x.read, .slice AO2 x.outs.length cO2, .int .i64 x.sent] 49)
        have hbg := blk_below hbr hal
        have HB7 : Aside0 (Below w6.heap.size w6 (wr.alloc (.cells #[.int .i64 x.epoch, .int .i64 x.vm.pc, .slice A2 x.vm.regs.length c2, .bool x.vm.halts, .bool x.vm.fault, .int .i64 x.read, .slice AO2 x.outs.length cO2, .int .i64 x.sent] 49))) := ⟨HBr.out.trans (hal.mono HBr.out.size)⟩
        have x0 : (wr.alloc (.cells #[.int .i64 x.epoch, .int .i64 x.vm.pc, .slice A2 x.vm.regs.length c2, .bool x.vm.halts, .bool x.vm.fault, .int .i64 x.read, .slice AO2 x.outs.length cO2, .int .i64 x.sent] 49)).cell? ⟨g1, 0, none⟩ = some (.slice AL s.log.length cL) := blk_cell hbg 0
        have a5 : (wr.alloc (.cells #[.int .i64 x.epoch, .int .i64 x.vm.pc, .slice A2 x.vm.regs.length c2, .bool x.vm.halts, .bool x.vm.fault, .int .i64 x.read, .slice AO2 x.outs.length cO2, .int .i64 x.sent] 49)).cell? ⟨wr.heap.size, 5, none⟩ = some (.int .i64 x.read) := blk_cell hba 5
        have a6 : (wr.alloc (.cells #[.int .i64 x.epoch, .int .i64 x.vm.pc, .slice A2 x.vm.regs.length c2, .bool x.vm.halts, .bool x.vm.fault, .int .i64 x.read, .slice AO2 x.outs.length cO2, .int .i64 x.sent] 49)).cell? ⟨wr.heap.size, 6, none⟩ = some (.slice AO2 x.outs.length cO2) := blk_cell hba 6
        have a7 : (wr.alloc (.cells #[.int .i64 x.epoch, .int .i64 x.vm.pc, .slice A2 x.vm.regs.length c2, .bool x.vm.halts, .bool x.vm.fault, .int .i64 x.read, .slice AO2 x.outs.length cO2, .int .i64 x.sent] 49)).cell? ⟨wr.heap.size, 7, none⟩ = some (.int .i64 x.sent) := blk_cell hba 7
        have d5 : decide ((k : Int) < 0) = false := decide_eq_false (by omega)
        have d6 : decide ((c6 : Int) < (k : Int)) = false := decide_eq_false (by omega)
        have d6' : decide (c6 < k) = false := decide_eq_false (by omega)
        have HNX := Aside0.mk hnx
        have HGX := Aside0.mk (Kd.C_below g6 hal)
        have hlx := l6
        have HBA := Aside0.mk hba
        have HGE := Aside0.mk HBr.out.size
        clear l2 g2 l6 g6 hx hbg hba hal hbr hnx
        go_wp2_with fail
        generalize wr.alloc (.cells #[.int .i64 x.epoch, .int .i64 x.vm.pc, .slice A2 x.vm.regs.length c2, .bool x.vm.halts, .bool x.vm.fault, .int .i64 x.read, .slice AO2 x.outs.length cO2, .int .i64 x.sent] 49) = w7 at *
        generalize hga : wr.heap.size = ga at *
        clear x0 z0 z1 z2 z3 z4 z5 z6 z7 d10 d11 d12 d13 a5 a6 a7
        go_loopw [72] (fun u wi => ∃ m : Nat, u = .int .i64 m ∧ m ≤ k ∧ Aside0 (Below w7.heap.size w7 wi)) (fun u _ => k - (intOf u).toNat)
        case atStart => exact ⟨0, rfl, Nat.zero_le _, ⟨Below.refl _ _⟩⟩
        case round =>
          obtain ⟨m, rfl, hm, HBi⟩ := hrel
          by_cases hmk : m < k
          · have hd2 : decide (m < k) = true := decide_eq_true hmk
            obtain ⟨ad2, y, B2, e2, B6, e6, hAN2, hy, y0, y1, y2, y3, y4, y5, y6, y7, _, _, l8, g8⟩ := kNod_get (Kd.C_below HCT.out (HB7.out.trans (HBi.out.mono HB7.out.size))) m (by omega)
            obtain rfl : ad = ad2 := Option.some.inj hAN2
            have hny := HNOD.out y (List.mem_of_getElem? hy)
            have hal := below_alloc (Below.refl wr.heap.size wr) (.cells #[.int .i64 y.epoch, .int .i64 y.vm.pc, .slice B2 y.vm.regs.length e2, .bool y.vm.halts, .bool y.vm.fault, .int .i64 y.read, .slice B6 y.outs.length e6, .int .i64 y.sent] 49)
            have hb7y : Below w7.heap.size w7 (wr.alloc (.cells #[.int .i64 y.epoch, .int .i64 y.vm.pc, .slice B2 y.vm.regs.length e2, .bool y.vm.halts, .bool y.vm.fault, .int .i64 y.read, .slice B6 y.outs.length e6, .int .i64 y.sent] 49)) := HBi.out.trans (hal.mono HBi.out.size)
            have HB8 := Aside0.mk hb7y
            have a6 : (wr.alloc (.cells #[.int .i64 y.epoch, .int .i64 y.vm.pc, .slice B2 y.vm.regs.length e2, .bool y.vm.halts, .bool y.vm.fault, .int .i64 y.read, .slice B6 y.outs.length e6, .int .i64 y.sent] 49)).cell? ⟨ga, 6, none⟩ = some (.slice AO2 x.outs.length cO2) := blk_cell (blk_below HBA.out HB8.out) 6
            have b6 : (wr.alloc (.cells #[.int .i64 y.epoch, .int .i64 y.vm.pc, .slice B2 y.vm.regs.length e2, .bool y.vm.halts, .bool y.vm.fault, .int .i64 y.read, .slice B6 y.outs.length e6, .int .i64 y.sent] 49)).cell? ⟨wr.heap.size, 6, none⟩ = some (.slice B6 y.outs.length e6) := blk_cell (blk_new wr _) 6
            have halk := HNX.out.alike hny
            obtain ⟨K, hKe⟩ : ∃ K, K = min x.outs.length y.outs.length := ⟨_, rfl⟩
            rw [← hKe] at halk
            have hKx : K ≤ x.outs.length := by omega
            have hKy : K ≤ y.outs.length := by omega
            have HEQ : Aside0 (∀ W, Below (wr.alloc (.cells #[.int .i64 y.epoch, .int .i64 y.vm.pc, .slice B2 y.vm.regs.length e2, .bool y.vm.halts, .bool y.vm.fault, .int .i64 y.read, .slice B6 y.outs.length e6, .int .i64 y.sent] 49)).heap.size (wr.alloc (.cells #[.int .i64 y.epoch, .int .i64 y.vm.pc, .slice B2 y.vm.regs.length e2, .bool y.vm.halts, .bool y.vm.fault, .int .i64 y.read, .slice B6 y.outs.length e6, .int .i64 y.sent] 49)) W → Calls Tryd.prog 16 #[.slice AO2 K cO2, .slice B6 K e6] W (fun e w' => e = .returned (.bool true) ∧ Below W.heap.size W w')) := ⟨fun W hW => by
              have h1 := Kd.C_take (Kd.C_below (Kd.C_below HGX.out hb7y) hW) hKx
              have h2 := Kd.C_take (Kd.C_below (Kd.C_below g8 hal) hW) hKy
              have h := equal_Emit AO2 B6 cO2 e6 _ _ W h1 h2
              rw [halk, List.length_take, Nat.min_eq_left hKy] at h
              simpa using h⟩
            have j0 : (0 : Int) ≤ (K : Int) := by omega
            have j1 : (K : Int) ≤ (cO2 : Int) := by omega
            have j2 : (K : Int) ≤ (e6 : Int) := by omega
            have k0 : decide ((K : Int) < 0) = false := decide_eq_false (by omega)
            have k1 : decide ((cO2 : Int) < (K : Int)) = false := decide_eq_false (by omega)
            have k2 : decide (cO2 < K) = false := decide_eq_false (by omega)
            have k3 : decide ((e6 : Int) < (K : Int)) = false := decide_eq_false (by omega)
            have k4 : decide (e6 < K) = false := decide_eq_false (by omega)
            have hmin : min (x.outs.length : Int) (y.outs.length : Int) = (K : Int) := by omega
            clear hal hAN2 hy hny halk g8 hb7y
            go_wp2_with fail
            first | rw [hmin] | rw [← hKe]
            have La6 := below_lay a6
            have Lb6 := below_lay b6
            clear a6 b6 y0 y1 y2 y3 y4 y5 y6 y7 hmin hKe
            generalize wr.alloc (.cells #[.int .i64 y.epoch, .int .i64 y.vm.pc, .slice B2 y.vm.regs.length e2, .bool y.vm.halts, .bool y.vm.fault, .int .i64 y.read, .slice B6 y.outs.length e6, .int .i64 y.sent] 49) = w8 at *
            have HB0y := Aside0.mk (Below.refl w8.heap.size w8)
            go_region_held3 (fun w' => Below w8.heap.size w8 w') (with_reducible first | exact below_drew HB0y.out | assumption)
              ((go_at_call 16; refine (HEQ.out _ (by assumption)).mono ?_; rintro e9 w9 ⟨rfl, hb9⟩; have hB89 : Below w8.heap.size w8 w9 := below_undrew (w := w8) hb9; clear hb9))
            go_wp2
            go_roundw
            case rel => exact ⟨m + 1, by go_num, by omega, ⟨HB8.out.trans (hB89.mono HB8.out.size)⟩⟩
            case measure => simp [intOf]; omega
          · obtain rfl : m = k := by omega
            have hd2 : decide (m < m) = false := decide_eq_false (by omega)
            go_wp2
            go_roundw
            case rel => exact ⟨m + 1, by go_num, by omega, ⟨HB7.out.trans (HBi.out.mono HB7.out.size)⟩⟩
            case measure => simp [intOf]; omega
      · obtain rfl : k = T.length := by omega
        have hd : decide (T.length < T.length) = false := decide_eq_false (by omega)
        go_wp2
        go_ret
        exact ⟨rfl, below_step (below_step HB3.out HB6.out) HBr.out⟩
    
end Go.Proofs.YtifphhkkpadpoaaDoor
