/- The plain law of pairs (chapter 18): what pair.Play computes, with no program in sight. -/
import Derived.Test.YtifphhkkpadpoaaDoorPpair
import Derived.Lib.ItoaNum
namespace Go.Proofs.YtifphhkkpadpoaaDoor
def textOf (x : Emit) : ByteArray := ⟨(Lib.itoa x.port ++ 32 :: Lib.itoa x.num).toArray⟩
def freshNod : Nod := ⟨0, newVm, 0, [], 0⟩
def still (n : Nod) : Nod := { n with epoch := 0, sent := 0 }
def setNod (s : Pai) (j : Nat) (n : Nod) : Pai := { s with nodes := s.nodes.set j n }
def inputAct (s : Pai) (a : PAct) : Pai × Int := if is32 a.num = true then ({ s with log := s.log ++ [a.num] }, 0) else (s, 4)
def claimAct (s : Pai) (j : Nat) (n : Nod) (a : PAct) : Pai × Int :=
  if (fenceClaim s.fence.epoch s.fence.owner a.who a.num).2.2.2 ≠ 0 then (s, (fenceClaim s.fence.epoch s.fence.owner a.who a.num).2.2.2)
  else if (fenceClaim s.fence.epoch s.fence.owner a.who a.num).2.2.1 = false then ({ s with fence := ⟨(fenceClaim s.fence.epoch s.fence.owner a.who a.num).1, (fenceClaim s.fence.epoch s.fence.owner a.who a.num).2.1⟩ }, 9)
  else if (gateClaim s.gate a.who a.num).2.1 = false then ({ s with fence := ⟨(fenceClaim s.fence.epoch s.fence.owner a.who a.num).1, (fenceClaim s.fence.epoch s.fence.owner a.who a.num).2.1⟩, gate := (gateClaim s.gate a.who a.num).1 }, 9)
  else (setNod { s with fence := ⟨(fenceClaim s.fence.epoch s.fence.owner a.who a.num).1, (fenceClaim s.fence.epoch s.fence.owner a.who a.num).2.1⟩, gate := (gateClaim s.gate a.who a.num).1 } j { n with epoch := a.num, sent := 0 }, 0)
/-- What is read in one stretch of work: one number at most. -/
def fed (log : List Int) (read : Int) : List Int := (log.drop read.toNat).take 1
def workAct (code : List Ins) (s : Pai) (j : Nat) (n : Nod) (a : PAct) : Pai × Int :=
  if n.epoch = 0 then (s, 9)
  else if (fencePass s.fence.epoch s.fence.owner a.who n.epoch).1 = false then (setNod s j { n with epoch := 0 }, 9)
  else (setNod s j { n with vm := (ran code n.vm (fed s.log n.read) 50).1.vm, outs := n.outs ++ (ran code n.vm (fed s.log n.read) 50).1.out, read := n.read + ((fed s.log n.read).length - (ran code n.vm (fed s.log n.read) 50).1.inp.length) }, 0)
def handed (n : Nod) (a : PAct) : Give := ⟨a.who, n.epoch, n.sent, textOf (n.outs.getD n.sent.toNat ⟨0, 0⟩)⟩
def sendAct (s : Pai) (j : Nat) (n : Nod) (a : PAct) : Pai × Int :=
  if n.epoch = 0 then (s, 9)
  else if n.sent = n.outs.length then (s, 7)
  else if (gateHand s.gate (handed n a)).2.2 ≠ 0 then (if (gateHand s.gate (handed n a)).2.2 = 9 then setNod s j { n with epoch := 0 } else s, (gateHand s.gate (handed n a)).2.2)
  else (setNod { s with gate := (gateHand s.gate (handed n a)).1 } j { n with sent := n.sent + 1 }, 0)
def loadAct (s : Pai) (j : Nat) (n : Nod) (a : PAct) : Pai × Int :=
  if n.epoch ≠ 0 then (s, 9)
  else if a.num < 0 ∨ (s.saved.length : Int) ≤ a.num then (s, 7)
  else (setNod s j (still (s.saved.getD a.num.toNat freshNod)), 0)
def pairAct (code : List Ins) (s : Pai) (a : PAct) : Pai × Int :=
  if a.kind = 1 then inputAct s a
  else if a.kind < 1 ∨ 7 < a.kind then (s, 1)
  else if a.who < 0 ∨ (s.nodes.length : Int) ≤ a.who then (s, 7)
  else if a.kind = 2 then claimAct s a.who.toNat (s.nodes.getD a.who.toNat freshNod) a
  else if a.kind = 3 then workAct code s a.who.toNat (s.nodes.getD a.who.toNat freshNod) a
  else if a.kind = 4 then sendAct s a.who.toNat (s.nodes.getD a.who.toNat freshNod) a
  else if a.kind = 6 then loadAct s a.who.toNat (s.nodes.getD a.who.toNat freshNod) a
  else if a.kind = 5 then ({ s with saved := s.saved ++ [still (s.nodes.getD a.who.toNat freshNod)] }, 0)
  else (setNod s a.who.toNat freshNod, 0)
def noPai : Pai := ⟨[], ⟨0, 0⟩, [], [], noGate⟩
def pairStart (n : Nat) : Pai := ⟨[], ⟨0, 0⟩, List.replicate n freshNod, [], noGate⟩
/-- The acts in turn: the state, and what was answered. -/
def pairActs (code : List Ins) : Pai → List PAct → Pai × List Int
  | s, [] => (s, [])
  | s, a :: l => ((pairActs code (pairAct code s a).1 l).1, (pairAct code s a).2 :: (pairActs code (pairAct code s a).1 l).2)
def pairPlay (code : List Ins) (n : Int) (l : List PAct) : Pai × List Int × Int :=
  if codeCheck code ≠ 0 then (noPai, [], codeCheck code)
  else if n < 1 ∨ 4 < n then (noPai, [], 1)
  else if 100 < l.length then (noPai, [], 2)
  else ((pairActs code (pairStart n.toNat) l).1, (pairActs code (pairStart n.toNat) l).2, 0)
end Go.Proofs.YtifphhkkpadpoaaDoor
