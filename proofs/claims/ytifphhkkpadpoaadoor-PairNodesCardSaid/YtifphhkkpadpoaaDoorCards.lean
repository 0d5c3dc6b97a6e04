/-
  DERIVED. GIVEN WITH THE SEED: THE CARDS: each row of YtifphhkkpadpoaaDoorRows.lean that lists a variable, with what it lists TIED to the program's text (the seventh form; the later family's looks); each row that meets fmt, with fmt's text TOLD by the authors' own Lean function (tested against real Go, not proved from fmt's source: count such statements apart). THE CARD IS WHAT COUNTS. Prove the row's statement (the work); the ties are given (YtifphhkkpadpoaaDoorTie.lean); close each card by the builder's one call (the guide's Derived/Test/ToyasCard.lean, 'card_holds'). Laid BY PROGRAM, IN A SANDBOX (cutbox-door.mjs). By AI agents, Wed Nov 11 2026. No macro, syntax, notation, axiom, sorry.
-/
import Derived.Test.YtifphhkkpadpoaaDoorRows
import GoSem.ClaimSeven
namespace Go.Proofs.YtifphhkkpadpoaaDoor
namespace Rows

/-- THE TIED CARD OF 'dutykeep.PairFront'. -/
def pairFrontCard : Claim7 := { stood := { row := pairFrontRow, standIns := [], harness := (true, "6e63253df087e843ba3817ccf80f1932474aa0876382a1b2772d1cdd04129fea"), looks := true }, kinds := [], alts := [], laidByText := true, laidKinds := [.data, .data, .data], laidTests := true, laidLooks := .later }
def PairFrontCardSaid : Prop := Claim7.holds Tryd.pinned (.plain (OpenSpec.ofChange pairFrontSpec)) pairFrontCard

/-- THE TIED CARD OF 'dutykeep.PairNodes'. -/
def pairNodesCard : Claim7 := { stood := { row := pairNodesRow, standIns := [], harness := (true, "6e63253df087e843ba3817ccf80f1932474aa0876382a1b2772d1cdd04129fea"), looks := true }, kinds := [], alts := [], laidByText := true, laidKinds := [.data, .data, .data], laidTests := true, laidLooks := .later }
def PairNodesCardSaid : Prop := Claim7.holds Tryd.pinned (.plain (OpenSpec.ofChange pairNodesSpec)) pairNodesCard

/-- THE TIED CARD OF 'dutykeep.PairOne'. -/
def pairOneCard : Claim7 := { stood := { row := pairOneRow, standIns := [], harness := (true, "6e63253df087e843ba3817ccf80f1932474aa0876382a1b2772d1cdd04129fea"), looks := true }, kinds := [], alts := [], laidByText := true, laidKinds := [.data, .data, .data], laidTests := true, laidLooks := .later }
def PairOneCardSaid : Prop := Claim7.holds Tryd.pinned (.plain (OpenSpec.ofChange pairOneSpec)) pairOneCard

/-- THE TIED CARD OF 'dutykeep.PairStays'. -/
def pairStaysCard : Claim7 := { stood := { row := pairStaysRow, standIns := [], harness := (true, "6e63253df087e843ba3817ccf80f1932474aa0876382a1b2772d1cdd04129fea"), looks := true }, kinds := [], alts := [], laidByText := true, laidKinds := [.data, .data, .data], laidTests := true, laidLooks := .later }
def PairStaysCardSaid : Prop := Claim7.holds Tryd.pinned (.plain (OpenSpec.ofChange pairStaysSpec)) pairStaysCard

/-- THE TIED CARD OF 'dutykeep.PairAll'. -/
def pairAllCard : Claim7 := { stood := { row := pairAllRow, standIns := [], harness := (true, "6e63253df087e843ba3817ccf80f1932474aa0876382a1b2772d1cdd04129fea"), looks := true }, kinds := [], alts := [], laidByText := true, laidKinds := [.data, .data, .data], laidTests := true, laidLooks := .later }
def PairAllCardSaid : Prop := Claim7.holds Tryd.pinned (.plain (OpenSpec.ofChange pairAllSpec)) pairAllCard

/-- THE TIED CARD OF 'dutykeep.ProgBack'. -/
def progBackCard : Claim7 := { stood := { row := progBackRow, standIns := [], harness := (true, "6e63253df087e843ba3817ccf80f1932474aa0876382a1b2772d1cdd04129fea"), looks := true }, kinds := [], alts := [], laidByText := true, laidKinds := [.data, .data, .data, .data, .sentinel, .sentinel, .pinned], laidTests := true, laidLooks := .later }
def ProgBackCardSaid : Prop := Claim7.holds Tryd.pinned (.plain (OpenSpec.ofChange progBackSpec)) progBackCard

/-- THE TIED CARD OF 'dutykeep.ProgLine'. -/
def progLineCard : Claim7 := { stood := { row := progLineRow, standIns := [], harness := (true, "6e63253df087e843ba3817ccf80f1932474aa0876382a1b2772d1cdd04129fea"), looks := true }, kinds := [], alts := [], laidByText := true, laidKinds := [.data, .data, .data, .data, .sentinel, .sentinel, .pinned], laidTests := true, laidLooks := .later }
def ProgLineCardSaid : Prop := Claim7.holds Tryd.pinned (.plain (OpenSpec.ofChange progLineSpec)) progLineCard

/-- THE TIED CARD OF 'dutykeep.ProgBlanks'. -/
def progBlanksCard : Claim7 := { stood := { row := progBlanksRow, standIns := [], harness := (true, "6e63253df087e843ba3817ccf80f1932474aa0876382a1b2772d1cdd04129fea"), looks := true }, kinds := [], alts := [], laidByText := true, laidKinds := [.data, .data, .data, .data, .sentinel, .sentinel, .pinned], laidTests := true, laidLooks := .later }
def ProgBlanksCardSaid : Prop := Claim7.holds Tryd.pinned (.plain (OpenSpec.ofChange progBlanksSpec)) progBlanksCard

/-- THE SECOND FORM's CARD OF 'dutykeep.PairFront'. -/
def pairFrontUptoCard : Claim7 := { stood := { row := pairFrontUptoRow, standIns := [], harness := (true, "6e63253df087e843ba3817ccf80f1932474aa0876382a1b2772d1cdd04129fea"), looks := true }, kinds := [], alts := [], laidByText := true, laidKinds := [.data, .data, .data], laidTests := true, laidLooks := .later }
def PairFrontUptoCardSaid : Prop := Claim7.holds Tryd.pinned (.plain (OpenSpec.upto pairFrontSpec)) pairFrontUptoCard

/-- THE SECOND FORM's CARD OF 'dutykeep.PairNodes'. -/
def pairNodesUptoCard : Claim7 := { stood := { row := pairNodesUptoRow, standIns := [], harness := (true, "6e63253df087e843ba3817ccf80f1932474aa0876382a1b2772d1cdd04129fea"), looks := true }, kinds := [], alts := [], laidByText := true, laidKinds := [.data, .data, .data], laidTests := true, laidLooks := .later }
def PairNodesUptoCardSaid : Prop := Claim7.holds Tryd.pinned (.plain (OpenSpec.upto pairNodesSpec)) pairNodesUptoCard

/-- THE SECOND FORM's CARD OF 'dutykeep.PairOne'. -/
def pairOneUptoCard : Claim7 := { stood := { row := pairOneUptoRow, standIns := [], harness := (true, "6e63253df087e843ba3817ccf80f1932474aa0876382a1b2772d1cdd04129fea"), looks := true }, kinds := [], alts := [], laidByText := true, laidKinds := [.data, .data, .data], laidTests := true, laidLooks := .later }
def PairOneUptoCardSaid : Prop := Claim7.holds Tryd.pinned (.plain (OpenSpec.upto pairOneSpec)) pairOneUptoCard

/-- THE SECOND FORM's CARD OF 'dutykeep.PairStays'. -/
def pairStaysUptoCard : Claim7 := { stood := { row := pairStaysUptoRow, standIns := [], harness := (true, "6e63253df087e843ba3817ccf80f1932474aa0876382a1b2772d1cdd04129fea"), looks := true }, kinds := [], alts := [], laidByText := true, laidKinds := [.data, .data, .data], laidTests := true, laidLooks := .later }
def PairStaysUptoCardSaid : Prop := Claim7.holds Tryd.pinned (.plain (OpenSpec.upto pairStaysSpec)) pairStaysUptoCard

/-- THE SECOND FORM's CARD OF 'dutykeep.PairAll'. -/
def pairAllUptoCard : Claim7 := { stood := { row := pairAllUptoRow, standIns := [], harness := (true, "6e63253df087e843ba3817ccf80f1932474aa0876382a1b2772d1cdd04129fea"), looks := true }, kinds := [], alts := [], laidByText := true, laidKinds := [.data, .data, .data], laidTests := true, laidLooks := .later }
def PairAllUptoCardSaid : Prop := Claim7.holds Tryd.pinned (.plain (OpenSpec.upto pairAllSpec)) pairAllUptoCard

/-- THE SECOND FORM's CARD OF 'dutykeep.ProgBack'. -/
def progBackUptoCard : Claim7 := { stood := { row := progBackUptoRow, standIns := [], harness := (true, "6e63253df087e843ba3817ccf80f1932474aa0876382a1b2772d1cdd04129fea"), looks := true }, kinds := [], alts := [], laidByText := true, laidKinds := [.data, .data, .data, .data, .sentinel, .sentinel, .pinned], laidTests := true, laidLooks := .later }
def ProgBackUptoCardSaid : Prop := Claim7.holds Tryd.pinned (.plain (OpenSpec.upto progBackSpec)) progBackUptoCard

/-- THE SECOND FORM's CARD OF 'dutykeep.ProgLine'. -/
def progLineUptoCard : Claim7 := { stood := { row := progLineUptoRow, standIns := [], harness := (true, "6e63253df087e843ba3817ccf80f1932474aa0876382a1b2772d1cdd04129fea"), looks := true }, kinds := [], alts := [], laidByText := true, laidKinds := [.data, .data, .data, .data, .sentinel, .sentinel, .pinned], laidTests := true, laidLooks := .later }
def ProgLineUptoCardSaid : Prop := Claim7.holds Tryd.pinned (.plain (OpenSpec.upto progLineSpec)) progLineUptoCard

/-- THE SECOND FORM's CARD OF 'dutykeep.ProgBlanks'. -/
def progBlanksUptoCard : Claim7 := { stood := { row := progBlanksUptoRow, standIns := [], harness := (true, "6e63253df087e843ba3817ccf80f1932474aa0876382a1b2772d1cdd04129fea"), looks := true }, kinds := [], alts := [], laidByText := true, laidKinds := [.data, .data, .data, .data, .sentinel, .sentinel, .pinned], laidTests := true, laidLooks := .later }
def ProgBlanksUptoCardSaid : Prop := Claim7.holds Tryd.pinned (.plain (OpenSpec.upto progBlanksSpec)) progBlanksUptoCard
end Rows
end Go.Proofs.YtifphhkkpadpoaaDoor
