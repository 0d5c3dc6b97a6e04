/- The walk of (*machine).step at some kinds of instructions: it does what the plain law's step does. Printed by gen_step.py. -/
import Derived.Test.YtifphhkkpadpoaaDoorVmDd
namespace Go.Proofs.YtifphhkkpadpoaaDoor
open Go.RowKit Go.Proofs.YtifphhkkpadpoaaDoorW.PrintWords
set_option linter.unusedVariables false
set_option linter.unusedSimpArgs false
set_option maxRecDepth 100000 in
set_option maxHeartbeats 4000000 in
theorem step_wait (w : World) (B gm gr cr cc ci : Nat) (Ac Ai : Option Addr) (vo : Value) (code : List Ins) (regs : List Int) (out : List Emit) (n : Nat) (a b : Int)
    (hM : MachAt w B gm gr cr Ac cc Ai ci vo code ⟨⟨n, regs, false, false⟩, [], out⟩) (hB : B ≤ w.heap.size)
    (hx : code[n]? = some ⟨9, a, b⟩) (ha0 : 0 ≤ a) (ha1 : a ≤ 7) :
    Calls Tryd.prog 43 #[.pointer (some ⟨gm, 0, none⟩)] w (StepPost B gm gr cr Ac cc code ⟨⟨n, regs, false, false⟩, [], out⟩ w) := by
  have hlt : n < code.length := (List.getElem?_eq_some_iff.1 hx).1
  have hlen := hM.rows.code.now.2.1
  have hstep : step code ⟨⟨n, regs, false, false⟩, [], out⟩ = none := by
    unfold step
    rw [if_neg (by simp only; omega)]
    have he : code.getD n default = ⟨9, a, b⟩ := by simp [List.getD_eq_getElem?_getD, hx]
    simp only [Int.toNat_natCast, he]
    simp [-List.getD_eq_getElem?_getD, exec, setReg, reg]
  obtain ⟨ad, x, e, hx', hc0, hc1, hc2⟩ := kIns_get hM.rows.code.now n hlt
  cases e
  obtain rfl : (⟨9, a, b⟩ : Ins) = x := by rw [hx] at hx'; injection hx'
  have hblk := hM.blk
  have HM := Aside0.mk hM
  have HX := Aside0.mk hx
  have HS := Aside0.mk hstep
  clear hx hx' hM hstep
  have i0 : (0 : Int) ≤ (n : Int) := by omega
  have i1 : (n : Int) < (code.length : Int) := by omega
  have hd : ((n : Int) == (code.length : Int)) = false := by rw [beq_eq_false_iff_ne]; omega
  have g0 : w.cell? ⟨gm, 0, none⟩ = some (.int .i64 (n : Int)) := blk_cell hblk 0
  have g4 : w.cell? ⟨gm, 4, none⟩ = some (.slice (some ad) code.length cc) := blk_cell hblk 4
  go_enter Tryd.func43, Tryd.ntmps43
  go_wp2
  go_quiet (fail)
  have HB1 : Aside0 (Below w.heap.size w (w.drewN nq)) := ⟨pw_below_drewN (Below.refl _ _) nq⟩
  replace g0 : (w.drewN nq).cell? ⟨gm, 0, none⟩ = some (.int .i64 (n : Int)) := g0
  replace g4 : (w.drewN nq).cell? ⟨gm, 4, none⟩ = some (.slice (some ad) code.length cc) := g4
  replace hc0 : (w.drewN nq).cell? (ad.add (n * 3)) = some (.int .i64 9) := hc0
  replace hc1 : (w.drewN nq).cell? ⟨(ad.add (n * 3)).block, (ad.add (n * 3)).off + 1, none⟩ = some (.int .i64 a) := hc1
  replace hc2 : (w.drewN nq).cell? ⟨(ad.add (n * 3)).block, (ad.add (n * 3)).off + 2, none⟩ = some (.int .i64 b) := hc2
  generalize w.drewN nq = w1 at *
  have n0 := World.new_ne w1 _ g0
  have nc := World.new_ne w1 _ hc0
  go_wp2
  go_region_held3 (fun w' => w'.cell? ⟨gm, 0, none⟩ = some (.int .i64 (n : Int)) ∧ w'.cell? ⟨gm, 4, none⟩ = some (.slice (some ad) code.length cc) ∧ w'.cell? (ad.add (n * 3)) = some (.int .i64 9) ∧ w'.cell? ⟨(ad.add (n * 3)).block, (ad.add (n * 3)).off + 1, none⟩ = some (.int .i64 a) ∧  w'.cell? ⟨(ad.add (n * 3)).block, (ad.add (n * 3)).off + 2, none⟩ = some (.int .i64 b)) (go_keep) (fail)
  have HB2 : Aside0 (Below w.heap.size w (w1.alloc (.cells #[.int .i64 9, .int .i64 a, .int .i64 b] 66)).drew) := ⟨(HB1.out.alloc HB1.out.size _).drew⟩
  have hbox : (w1.alloc (.cells #[.int .i64 9, .int .i64 a, .int .i64 b] 66)).drew.heap[w1.heap.size]? = some (.cells #[.int .i64 9, .int .i64 a, .int .i64 b] 66 (0, 0)) := blk_new w1 _
  clear g0 g4 hc0 hc1 hc2 n0 nc
  generalize (w1.alloc (.cells #[.int .i64 9, .int .i64 a, .int .i64 b] 66)).drew = w2 at *
  generalize w1.heap.size = hb at *
  have hM2 := HM.out.below HB2.out
  have g0 : w2.cell? ⟨gm, 0, none⟩ = some (.int .i64 (n : Int)) := blk_cell hM2.blk 0
  have g1 : w2.cell? ⟨gm, 1, none⟩ = some (.slice (some ⟨gr, 0, none⟩) 8 cr) := blk_cell hM2.blk 1
  have f0 := blk_frozen hM2.blk 0
  have b0 : w2.cell? ⟨hb, 0, none⟩ = some (.int .i64 9) := blk_cell hbox 0
  have b1 : w2.cell? ⟨hb, 1, none⟩ = some (.int .i64 a) := blk_cell hbox 1
  have b2 : w2.cell? ⟨hb, 2, none⟩ = some (.int .i64 b) := blk_cell hbox 2
  have hne := hM2.ne
  have HM2 := Aside0.mk hM2
  have g5 : w2.cell? ⟨gm, 5, none⟩ = some (.slice Ai 0 ci) := blk_cell hM2.blk 5
  clear hM2 hbox
  go_wp2
  go_ret
  exact ⟨⟨Ai, ci, vo, by rw [HS.out]; exact ⟨rfl, HM2.out⟩⟩, HB2.out.mono hB⟩
set_option maxRecDepth 100000 in
set_option maxHeartbeats 4000000 in
theorem step_in (w : World) (B gm gr cr cc ci : Nat) (Ac Ai : Option Addr) (vo : Value) (code : List Ins) (regs : List Int) (x0 : Int) (inp : List Int) (out : List Emit) (n : Nat) (a b : Int)
    (hM : MachAt w B gm gr cr Ac cc Ai ci vo code ⟨⟨n, regs, false, false⟩, (x0 :: inp), out⟩) (hB : B ≤ w.heap.size)
    (hx : code[n]? = some ⟨9, a, b⟩) (ha0 : 0 ≤ a) (ha1 : a ≤ 7) :
    Calls Tryd.prog 43 #[.pointer (some ⟨gm, 0, none⟩)] w (StepPost B gm gr cr Ac cc code ⟨⟨n, regs, false, false⟩, (x0 :: inp), out⟩ w) := by
  have hlt : n < code.length := (List.getElem?_eq_some_iff.1 hx).1
  have hlen := hM.rows.code.now.2.1
  have hstep : step code ⟨⟨n, regs, false, false⟩, (x0 :: inp), out⟩ = some ⟨⟨n + 1, regs.set a.toNat x0, false, false⟩, inp, out⟩ := by
    unfold step
    rw [if_neg (by simp only; omega)]
    have he : code.getD n default = ⟨9, a, b⟩ := by simp [List.getD_eq_getElem?_getD, hx]
    simp only [Int.toNat_natCast, he]
    simp [-List.getD_eq_getElem?_getD, exec, setReg, reg]
  obtain ⟨ad, x, e, hx', hc0, hc1, hc2⟩ := kIns_get hM.rows.code.now n hlt
  cases e
  obtain rfl : (⟨9, a, b⟩ : Ins) = x := by rw [hx] at hx'; injection hx'
  have hblk := hM.blk
  have HM := Aside0.mk hM
  have HX := Aside0.mk hx
  have HS := Aside0.mk hstep
  clear hx hx' hM hstep
  have i0 : (0 : Int) ≤ (n : Int) := by omega
  have i1 : (n : Int) < (code.length : Int) := by omega
  have hd : ((n : Int) == (code.length : Int)) = false := by rw [beq_eq_false_iff_ne]; omega
  have g0 : w.cell? ⟨gm, 0, none⟩ = some (.int .i64 (n : Int)) := blk_cell hblk 0
  have g4 : w.cell? ⟨gm, 4, none⟩ = some (.slice (some ad) code.length cc) := blk_cell hblk 4
  go_enter Tryd.func43, Tryd.ntmps43
  go_wp2
  go_quiet (fail)
  have HB1 : Aside0 (Below w.heap.size w (w.drewN nq)) := ⟨pw_below_drewN (Below.refl _ _) nq⟩
  replace g0 : (w.drewN nq).cell? ⟨gm, 0, none⟩ = some (.int .i64 (n : Int)) := g0
  replace g4 : (w.drewN nq).cell? ⟨gm, 4, none⟩ = some (.slice (some ad) code.length cc) := g4
  replace hc0 : (w.drewN nq).cell? (ad.add (n * 3)) = some (.int .i64 9) := hc0
  replace hc1 : (w.drewN nq).cell? ⟨(ad.add (n * 3)).block, (ad.add (n * 3)).off + 1, none⟩ = some (.int .i64 a) := hc1
  replace hc2 : (w.drewN nq).cell? ⟨(ad.add (n * 3)).block, (ad.add (n * 3)).off + 2, none⟩ = some (.int .i64 b) := hc2
  generalize w.drewN nq = w1 at *
  have n0 := World.new_ne w1 _ g0
  have nc := World.new_ne w1 _ hc0
  go_wp2
  go_region_held3 (fun w' => w'.cell? ⟨gm, 0, none⟩ = some (.int .i64 (n : Int)) ∧ w'.cell? ⟨gm, 4, none⟩ = some (.slice (some ad) code.length cc) ∧ w'.cell? (ad.add (n * 3)) = some (.int .i64 9) ∧ w'.cell? ⟨(ad.add (n * 3)).block, (ad.add (n * 3)).off + 1, none⟩ = some (.int .i64 a) ∧  w'.cell? ⟨(ad.add (n * 3)).block, (ad.add (n * 3)).off + 2, none⟩ = some (.int .i64 b)) (go_keep) (fail)
  have HB2 : Aside0 (Below w.heap.size w (w1.alloc (.cells #[.int .i64 9, .int .i64 a, .int .i64 b] 66)).drew) := ⟨(HB1.out.alloc HB1.out.size _).drew⟩
  have hbox : (w1.alloc (.cells #[.int .i64 9, .int .i64 a, .int .i64 b] 66)).drew.heap[w1.heap.size]? = some (.cells #[.int .i64 9, .int .i64 a, .int .i64 b] 66 (0, 0)) := blk_new w1 _
  clear g0 g4 hc0 hc1 hc2 n0 nc
  generalize (w1.alloc (.cells #[.int .i64 9, .int .i64 a, .int .i64 b] 66)).drew = w2 at *
  generalize w1.heap.size = hb at *
  have hM2 := HM.out.below HB2.out
  have g0 : w2.cell? ⟨gm, 0, none⟩ = some (.int .i64 (n : Int)) := blk_cell hM2.blk 0
  have g1 : w2.cell? ⟨gm, 1, none⟩ = some (.slice (some ⟨gr, 0, none⟩) 8 cr) := blk_cell hM2.blk 1
  have f0 := blk_frozen hM2.blk 0
  have b0 : w2.cell? ⟨hb, 0, none⟩ = some (.int .i64 9) := blk_cell hbox 0
  have b1 : w2.cell? ⟨hb, 1, none⟩ = some (.int .i64 a) := blk_cell hbox 1
  have b2 : w2.cell? ⟨hb, 2, none⟩ = some (.int .i64 b) := blk_cell hbox 2
  have hne := hM2.ne
  have HM2 := Aside0.mk hM2
  obtain ⟨r0, r1⟩ := hM2.rows.reg a ha0 (by omega)
  have g5 : w2.cell? ⟨gm, 5, none⟩ = some (.slice Ai (inp.length + 1) ci) := blk_cell hM2.blk 5
  have f5 := blk_frozen hM2.blk 5
  have hin := hM2.rows.inp.now
  have hcap := hM2.capi
  have hmax := hin.2.1
  obtain ⟨ai, ea, hx0⟩ := Kd.at_int hin 0 (by omega) (by simp)
  cases ea
  replace hx0 : w2.cell? ai = some (.int .i64 x0) := by simpa [rd, Addr.add] using hx0
  obtain ⟨Aj, hcut, hj⟩ := print_cut_of (P := Tryd.prog) (Value.int .i64) (0 : Int) 24 3 .i64 Tryd.underlying24 (i := Tryd.t3) rfl rfl (some ai) (inp.length + 1) ci 1 (by omega)
  have hcut' : ∀ W : World, (Instr.slice 24 (.slice (some ai) (inp.length + 1) ci) (some (.int .i64 1)) none none).run Tryd.prog W = .ok (.slice Aj inp.length (ci - 1)) W := hcut
  have HJ := Aside0.mk hj
  clear hj hcut
  have ha2 : a < 8 := by omega
  have l0 : (0 : Int) < ((inp.length + 1 : Nat) : Int) := by omega
  clear hM2 hbox hin
  go_wp2
  go_region
  go_wp2
  go_ret
  have HM3 := HM2.out.setReg a x0
  have HK : Keeps (fun W => (Kd.int .i64).C W Aj inp.length inp) (w2.setCell ⟨gr, a.toNat, none⟩ (.int .i64 x0)) (fun k => k < B) := HM3.rows.inp.imp (fun W' h => Kd.C_of_reads (HJ.out W' (x0 :: inp) hcap (Kd.reads_of_C h)))
  exact StepPost.went HS.out (((HM3.setIn (by simp only [List.length_cons] at hcap; omega) HK).setPc (n + 1)).below (below_drew (Below.refl _ _))) ((((HB2.out.mono hB).setCell (p := ⟨gr, a.toNat, none⟩) HM2.out.rows.lowr _).setCell (p := ⟨gm, 5, none⟩) HM2.out.low _).setCell (p := ⟨gm, 0, none⟩) HM2.out.low _).drew
end Go.Proofs.YtifphhkkpadpoaaDoor
