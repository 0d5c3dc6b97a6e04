/- The plain law of fences, gates and pairs (chapters 16 to 18): what the functions compute, with no program in sight. -/
import Derived.Test.YtifphhkkpadpoaaDoorPvm
namespace Go.Proofs.YtifphhkkpadpoaaDoor
structure Fen where
  epoch : Int
  owner : Int
  deriving DecidableEq, Inhabited
structure PAct where
  kind : Int
  who : Int
  num : Int
  deriving DecidableEq, Inhabited
structure Nod where
  epoch : Int
  vm : Vm
  read : Int
  outs : List Emit
  sent : Int
  deriving DecidableEq, Inhabited
structure Gat where
  fence : Fen
  out : List ByteArray
structure Pai where
  log : List Int
  fence : Fen
  nodes : List Nod
  saved : List Nod
  gate : Gat
def isWho (n : Int) : Bool := decide (0 ≤ n) && decide (n ≤ 255)
def isEpoch (n : Int) : Bool := decide (1 ≤ n) && decide (n ≤ 2147483647)
def fenceCheck (e o : Int) : Int := if (e = 0 ∧ o = 0) ∨ (isEpoch e && isWho o) = true then 0 else 4
def fenceMay (e o w n : Int) : Int := if fenceCheck e o ≠ 0 then fenceCheck e o else if (isWho w && isEpoch n) = true then 0 else 1
def claimed (e o w n : Int) : Fen := if e < n then ⟨n, w⟩ else ⟨e, o⟩
def fenceClaim (e o w n : Int) : Int × Int × Bool × Int :=
  if fenceMay e o w n ≠ 0 then (0, 0, false, fenceMay e o w n) else ((claimed e o w n).epoch, (claimed e o w n).owner, decide (claimed e o w n = ⟨n, w⟩), 0)
def fencePass (e o w n : Int) : Bool × Int := if fenceMay e o w n ≠ 0 then (false, fenceMay e o w n) else (decide (e = n ∧ o = w), 0)
structure Give where
  who : Int
  epoch : Int
  num : Int
  text : ByteArray
def isLong (s : ByteArray) : Bool := decide (1000 < s.size)
def gateCheck (g : Gat) : Int :=
  if fenceCheck g.fence.epoch g.fence.owner ≠ 0 then fenceCheck g.fence.epoch g.fence.owner else if 1000 < g.out.length ∨ g.out.any isLong = true then 2 else 0
/-- What is wrong with what is handed to a right gate. -/
def gateWrong (g : Gat) (x : Give) : Int :=
  if (fencePass g.fence.epoch g.fence.owner x.who x.epoch).2 ≠ 0 then (fencePass g.fence.epoch g.fence.owner x.who x.epoch).2
  else if (fencePass g.fence.epoch g.fence.owner x.who x.epoch).1 = false then 9
  else if isLong x.text = true then 2
  else if x.num < 0 then 1
  else if (g.out.length : Int) < x.num then 7
  else if x.num < g.out.length ∧ g.out[x.num.toNat]? ≠ some x.text then 8
  else if x.num = 1000 then 6
  else 0
def noGate : Gat := ⟨⟨0, 0⟩, []⟩
def gateHand (g : Gat) (x : Give) : Gat × Bool × Int :=
  if gateWrong g x ≠ 0 then (noGate, false, gateWrong g x)
  else if x.num < g.out.length then (g, false, 0)
  else (⟨g.fence, g.out ++ [x.text]⟩, true, 0)
def gateClaim (g : Gat) (w n : Int) : Gat × Bool × Int :=
  if (fenceClaim g.fence.epoch g.fence.owner w n).2.2.2 ≠ 0 then (noGate, false, (fenceClaim g.fence.epoch g.fence.owner w n).2.2.2)
  else (⟨⟨(fenceClaim g.fence.epoch g.fence.owner w n).1, (fenceClaim g.fence.epoch g.fence.owner w n).2.1⟩, g.out⟩, (fenceClaim g.fence.epoch g.fence.owner w n).2.2.1, 0)
theorem gateCheck_ok {g : Gat} (h : gateCheck g = 0) : fenceCheck g.fence.epoch g.fence.owner = 0 ∧ g.out.length ≤ 1000 ∧ g.out.any isLong = false := by
  unfold gateCheck at h
  split at h
  · rename_i h1; exact absurd h h1
  · rename_i h1
    split at h
    · cases h
    · rename_i h2
      exact ⟨by simpa using h1, by omega, by simpa using fun hx => h2 (.inr hx)⟩
end Go.Proofs.YtifphhkkpadpoaaDoor
