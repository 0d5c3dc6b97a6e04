/- The walk of (*machine).step at some kinds of instructions: it does what the plain law's step does. Printed by gen_step.py. -/
import Derived.Test.YtifphhkkpadpoaaDoorVmDd
namespace Go.Proofs.YtifphhkkpadpoaaDoor
open Go.RowKit Go.Proofs.YtifphhkkpadpoaaDoorW.PrintWords
set_option linter.unusedVariables false
set_option linter.unusedSimpArgs false
theorem info_emit : (Tryd.prog.info? 52).map (fun i => (i.zero, i.size, i.bytes)) = some (some (.agg #[.int .i64 0, .int .i64 0]), kEmit.sz, 16) := by kernel_rfl
set_option maxRecDepth 100000 in
set_option maxHeartbeats 4000000 in
theorem step_out (w : World) (B gm gr cr cc ci : Nat) (Ac Ai : Option Addr) (vo : Value) (code : List Ins) (regs : List Int) (inp : List Int) (out : List Emit) (n : Nat) (a b : Int)
    (hM : MachAt w B gm gr cr Ac cc Ai ci vo code ⟨⟨n, regs, false, false⟩, inp, out⟩) (hB : B ≤ w.heap.size)
    (hx : code[n]? = some ⟨10, a, b⟩) (ha0 : 0 ≤ a) (ha1 : a ≤ 7) (hol : out.length ≤ 1000000) :
    Calls Tryd.prog 43 #[.pointer (some ⟨gm, 0, none⟩)] w (StepPost B gm gr cr Ac cc code ⟨⟨n, regs, false, false⟩, inp, out⟩ w) := by
  have hlt : n < code.length := (List.getElem?_eq_some_iff.1 hx).1
  have hlen := hM.rows.code.now.2.1
  have hstep : step code ⟨⟨n, regs, false, false⟩, inp, out⟩ = some ⟨⟨n + 1, regs, false, false⟩, inp, out ++ [⟨b, regs.getD a.toNat 0⟩]⟩ := by
    unfold step
    rw [if_neg (by simp only; omega)]
    have he : code.getD n default = ⟨10, a, b⟩ := by simp [List.getD_eq_getElem?_getD, hx]
    simp only [Int.toNat_natCast, he]
    simp [-List.getD_eq_getElem?_getD, exec, setReg, reg]
  obtain ⟨ad, x, e, hx', hc0, hc1, hc2⟩ := kIns_get hM.rows.code.now n hlt
  cases e
  obtain rfl : (⟨10, a, b⟩ : Ins) = x := by rw [hx] at hx'; injection hx'
  have hblk := hM.blk
  have HM := Aside0.mk hM
  have HX := Aside0.mk hx
  have HS := Aside0.mk hstep
  clear hx hx' hM hstep
  have i0 : (0 : Int) ≤ (n : Int) := by omega
  have i1 : (n : Int) < (code.length : Int) := by omega
  have hd : ((n : Int) == (code.length : Int)) = false := by rw [beq_eq_false_iff_ne]; omega
  have g0 : w.cell? ⟨gm, 0, none⟩ = some (.int .i64 (n : Int)) := blk_cell hblk 0
  have g4 : w.cell? ⟨gm, 4, none⟩ = some (.slice (some ad) code.length cc) := blk_cell hblk 4
  go_enter Tryd.func43, Tryd.ntmps43
  go_wp2
  go_quiet (fail)
  have HB1 : Aside0 (Below w.heap.size w (w.drewN nq)) := ⟨pw_below_drewN (Below.refl _ _) nq⟩
  replace g0 : (w.drewN nq).cell? ⟨gm, 0, none⟩ = some (.int .i64 (n : Int)) := g0
  replace g4 : (w.drewN nq).cell? ⟨gm, 4, none⟩ = some (.slice (some ad) code.length cc) := g4
  replace hc0 : (w.drewN nq).cell? (ad.add (n * 3)) = some (.int .i64 10) := hc0
  replace hc1 : (w.drewN nq).cell? ⟨(ad.add (n * 3)).block, (ad.add (n * 3)).off + 1, none⟩ = some (.int .i64 a) := hc1
  replace hc2 : (w.drewN nq).cell? ⟨(ad.add (n * 3)).block, (ad.add (n * 3)).off + 2, none⟩ = some (.int .i64 b) := hc2
  generalize w.drewN nq = w1 at *
  have n0 := World.new_ne w1 _ g0
  have nc := World.new_ne w1 _ hc0
  go_wp2
  go_region_held3 (fun w' => w'.cell? ⟨gm, 0, none⟩ = some (.int .i64 (n : Int)) ∧ w'.cell? ⟨gm, 4, none⟩ = some (.slice (some ad) code.length cc) ∧ w'.cell? (ad.add (n * 3)) = some (.int .i64 10) ∧ w'.cell? ⟨(ad.add (n * 3)).block, (ad.add (n * 3)).off + 1, none⟩ = some (.int .i64 a) ∧  w'.cell? ⟨(ad.add (n * 3)).block, (ad.add (n * 3)).off + 2, none⟩ = some (.int .i64 b)) (go_keep) (fail)
  have HB2 : Aside0 (Below w.heap.size w (w1.alloc (.cells #[.int .i64 10, .int .i64 a, .int .i64 b] 66)).drew) := ⟨(HB1.out.alloc HB1.out.size _).drew⟩
  have hbox : (w1.alloc (.cells #[.int .i64 10, .int .i64 a, .int .i64 b] 66)).drew.heap[w1.heap.size]? = some (.cells #[.int .i64 10, .int .i64 a, .int .i64 b] 66 (0, 0)) := blk_new w1 _
  clear g0 g4 hc0 hc1 hc2 n0 nc
  generalize (w1.alloc (.cells #[.int .i64 10, .int .i64 a, .int .i64 b] 66)).drew = w2 at *
  generalize w1.heap.size = hb at *
  have hM2 := HM.out.below HB2.out
  have g0 : w2.cell? ⟨gm, 0, none⟩ = some (.int .i64 (n : Int)) := blk_cell hM2.blk 0
  have g1 : w2.cell? ⟨gm, 1, none⟩ = some (.slice (some ⟨gr, 0, none⟩) 8 cr) := blk_cell hM2.blk 1
  have f0 := blk_frozen hM2.blk 0
  have b0 : w2.cell? ⟨hb, 0, none⟩ = some (.int .i64 10) := blk_cell hbox 0
  have b1 : w2.cell? ⟨hb, 1, none⟩ = some (.int .i64 a) := blk_cell hbox 1
  have b2 : w2.cell? ⟨hb, 2, none⟩ = some (.int .i64 b) := blk_cell hbox 2
  have hne := hM2.ne
  have HM2 := Aside0.mk hM2
  obtain ⟨r0, r1⟩ := hM2.rows.reg a ha0 (by omega)
  obtain ⟨ra, HA⟩ : ∃ ra, Aside0 (regs.getD a.toNat 0 = ra) := ⟨_, ⟨rfl⟩⟩
  rw [HA.out] at r0
  replace HS : Aside0 (step code ⟨⟨n, regs, false, false⟩, inp, out⟩ = some ⟨⟨n + 1, regs, false, false⟩, inp, out ++ [⟨b, ra⟩]⟩) := ⟨by rw [HS.out, HA.out]⟩
  have ha2 : a < 8 := by omega
  have g6 : w2.cell? ⟨gm, 6, none⟩ = some vo := blk_cell hM2.blk 6
  have f6 := blk_frozen hM2.blk 6
  have lg := blk_lt hM2.blk
  clear hM2 hbox
  have hfr : Aside0 (∀ k, w2.drew.heap.size ≤ k → B ≤ k) := ⟨fun k hk => by have h1 := HB2.out.size; have h2 : w2.heap.size ≤ k := hk; omega⟩
  have hR0 : Aside0 (kEmit.R 52 w2.drew B (fun k => B ≤ k) vo out) := ⟨Kd.R_below HM2.out.rows.outs (below_drew (Below.refl _ _))⟩
  have hBs : Aside0 (B ≤ w2.drew.heap.size) := ⟨by have h1 := HB2.out.size; show B ≤ w2.heap.size; omega⟩
  have hLl : Aside0 ((out.length + 1) * 16 ≤ 140737488355328) := ⟨by omega⟩
  have HGV : Aside0 (some gm ≠ vo.ownBlock) := ⟨Kd.R_ne HM2.out.rows.outs HM2.out.blk (by decide)⟩
  have hEm : Aside0 (kEmit.M w2.drew B (fun _ => False) ⟨b, ra⟩ [.int .i64 b, .int .i64 ra]) := ⟨kEmit_mk w2.drew ⟨b, ra⟩⟩
  clear hol
  go_wp2
  go_region_law ((refine Kd.R_append_step kEmit (W := w2.drew) (w0 := w2) B rfl (.tmp 134) (.tmp 143) 47 52 (.agg #[.int .i64 0, .int .i64 0]) 16 rfl Tryd.underlying47 info_emit rfl (by decide) (by decide) vo out ⟨b, ra⟩ [.int .i64 b, .int .i64 ra] (fun k => B ≤ k) (fun _ => False) rfl rfl hEm.out (fun _ h => h.elim) hfr.out hR0.out (Below.refl B w2).drew hBs.out hLl.out ?_; intro v1 w3 hR hB3 hg hat; obtain ⟨A1, c1, rfl⟩ := Kd.R_slice hR; have hb3 := blk_grown (w := w2.drew) HM2.out.blk hg HGV.out; have g63 : w3.cell? ⟨gm, 6, none⟩ = some vo := blk_cell hb3 6; have f63 := blk_frozen hb3 6; have g03 : w3.cell? ⟨gm, 0, none⟩ = some (.int .i64 (n : Int)) := blk_cell hb3 0; have f03 := blk_frozen hb3 0; have HR3 := Aside0.mk hR; have HB3 := Aside0.mk hB3; have HG3 := Aside0.mk hg; clear hR hB3 hg hat hb3))
  all_goals
    go_wp2
    go_ret
    have hM3 := ((HM2.out.below (w1 := w2.drew) (below_drew (Below.refl _ _))).setOut HR3.out HG3.out).setPc (n + 1)
    have hlow := ((((HB2.out.mono hB).trans HB3.out).setCell (p := ⟨gm, 6, none⟩) HM2.out.low (.slice A1 (out ++ [(⟨b, ra⟩ : Emit)]).length c1)).setCell (p := ⟨gm, 0, none⟩) HM2.out.low (.int .i64 (n + 1)))
    simp only [List.length_append, List.length_singleton] at hM3 hlow
    exact StepPost.went HS.out hM3 hlow
end Go.Proofs.YtifphhkkpadpoaaDoor
