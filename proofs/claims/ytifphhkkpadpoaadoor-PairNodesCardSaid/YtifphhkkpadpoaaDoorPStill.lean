/- The walks of pair.fresh and pair.still. -/
import Derived.Test.YtifphhkkpadpoaaDoorPInput
import Derived.Test.YtifphhkkpadpoaaDoorEv
namespace Go.Proofs.YtifphhkkpadpoaaDoor
open Go.RowKit Go.Proofs.YtifphhkkpadpoaaDoorW.PrintWords
set_option linter.unusedVariables false
set_option linter.unusedSimpArgs false
/-- A node that was made just now. -/
def FreshPost (w : World) (x : Nod) (e : Ending) (w' : World) : Prop :=
  ∃ Ar cr vo, e = .returned (.agg #[.int .i64 x.epoch, .int .i64 x.vm.pc, .slice Ar x.vm.regs.length cr, .bool x.vm.halts, .bool x.vm.fault, .int .i64 x.read, vo, .int .i64 x.sent]) ∧ x.vm.regs.length ≤ cr ∧
    Keeps (fun W => (Kd.int .i64).C W Ar x.vm.regs.length x.vm.regs) w' (fun k => w.heap.size ≤ k) ∧ kEmit.R 52 w' w.heap.size (fun k => w.heap.size ≤ k) vo x.outs ∧ Below w.heap.size w w'
def StillPost (w : World) (x : Nod) (e : Ending) (w' : World) : Prop :=
  ∃ vr vo, e = .returned (.agg #[.int .i64 x.epoch, .int .i64 x.vm.pc, vr, .bool x.vm.halts, .bool x.vm.fault, .int .i64 x.read, vo, .int .i64 x.sent]) ∧
    (Kd.int .i64).R 3 w' w.heap.size (fun k => w.heap.size ≤ k) vr x.vm.regs ∧ kEmit.R 52 w' w.heap.size (fun k => w.heap.size ≤ k) vo x.outs ∧ Below w.heap.size w w'
set_option maxRecDepth 100000 in
set_option maxHeartbeats 8000000 in
theorem fresh_calls (w : World) : Calls Tryd.prog 32 #[] w (FreshPost w freshNod) := by
  go_enter Tryd.func32, Tryd.ntmps32
  go_wp2_with fail
  have HB0 := Aside0.mk (below_alloc (Below.refl w.heap.size w) (.cells #[.int .i64 0, .int .i64 0, .slice none 0 0, .bool false, .bool false, .int .i64 0, .slice none 0 0, .int .i64 0] 49))
  have HN0 := Aside0.mk (blk_new w (.cells #[.int .i64 0, .int .i64 0, .slice none 0 0, .bool false, .bool false, .int .i64 0, .slice none 0 0, .int .i64 0] 49))
  refine (new_calls _).mono ?_
  rintro e w1 ⟨A, c, rfl, hc, hK, hb⟩
  have b1 := blk_below HN0.out hb
  have HB1 := Aside0.mk (below_step HB0.out hb)
  have hs := HB0.out.size
  have HK := Aside0.mk hK
  have HS := Aside0.mk hb.size
  clear hb hK
  have ltb := blk_lt b1
  have HB := Aside0.mk b1
  have HU := Aside0.mk (one8 0 0 0 0 0 0 false false A none 8 0 c 0)
  clear b1
  go_wp2_with (refine ev_store rfl rfl rfl HB.out rfl rfl rfl info_nod (Nat.le_refl 8) HU.out (cs' := #[.int .i64 0, .int .i64 0, .slice A 8 c, .bool false, .bool false, .int .i64 0, .slice none 0 0, .int .i64 0]) rfl ?_; intro w2 b2 hO hs2; have B2 := Aside0.mk b2; have HO := Aside0.mk hO; clear b2 hO)
  refine bodyPost_ret (v := .agg #[.int .i64 0, .int .i64 0, .slice A 8 c, .bool false, .bool false, .int .i64 0, .slice none 0 0, .int .i64 0]) (results_single rfl (.cell _ _ _ (0, 0) _ rfl B2.out Tryd.underlying49 rfl info_nod .nil)) rfl ⟨A, c, .slice none 0 0, rfl, hc, ?_, Kd.R_nil _ _ _ _ _, ?_⟩
  · have hlt2 : w.heap.size < (w.alloc (.cells #[.int .i64 0, .int .i64 0, .slice none 0 0, .bool false, .bool false, .int .i64 0, .slice none 0 0, .int .i64 0] 49)).heap.size := blk_lt HN0.out
    refine Keeps.mono (Keeps.step HK.out HO.out (fun j hj _ hx => ?_)) (fun j hj => ?_)
    · have hj' : (w.alloc (.cells #[.int .i64 0, .int .i64 0, .slice none 0 0, .bool false, .bool false, .int .i64 0, .slice none 0 0, .int .i64 0] 49)).heap.size ≤ j := hj
      omega
    · have hj' : (w.alloc (.cells #[.int .i64 0, .int .i64 0, .slice none 0 0, .bool false, .bool false, .int .i64 0, .slice none 0 0, .int .i64 0] 49)).heap.size ≤ j := hj
      show w.heap.size ≤ j
      omega
  · exact HB1.out.trans ⟨HO.out.os, HO.out.tape, HO.out.output, HO.out.size, fun k hk => HO.out.block k (Nat.lt_trans hk ltb) (fun e => by have e' : k = w.heap.size := e; omega)⟩
end Go.Proofs.YtifphhkkpadpoaaDoor
