/-
  DERIVED. GIVEN WITH THE SEED: THE CARDS: each row of YtmopgcbhmkemjaaGreatDoorRows.lean that lists a variable, with what it lists TIED to the program's text (the seventh form; the later family's looks); each row that meets fmt, with fmt's text TOLD by the authors' own Lean function (tested against real Go, not proved from fmt's source: count such statements apart). THE CARD IS WHAT COUNTS. Prove the row's statement (the work); the ties are given (YtmopgcbhmkemjaaGreatDoorTie.lean); close each card by the builder's one call (the guide's Derived/Test/ToyasCard.lean, 'card_holds'). Laid BY PROGRAM, IN A SANDBOX (cutbox-door.mjs). By AI agents, Wed Nov 11 2026. No macro, syntax, notation, axiom, sorry.
-/
import Derived.Test.YtmopgcbhmkemjaaGreatDoorRows
import GoSem.ClaimSeven
namespace Go.Proofs.YtmopgcbhmkemjaaGreatDoor
namespace Rows

/-- THE TIED CARD OF 'merestonelaw03.PointNodes'. -/
def pointNodesCard : Claim7 := { stood := { row := pointNodesRow, standIns := [], harness := (true, "595ad80496859734adf0f2313ef1fb85b1dd2f98370ff010c53c9294dac98ec4"), looks := true }, kinds := [], alts := [], laidByText := true, laidKinds := [.data], laidTests := true, laidLooks := .later }
def PointNodesCardSaid : Prop := Claim7.holds Tryz.pinned (.plain (OpenSpec.ofChange pointNodesSpec)) pointNodesCard

/-- THE TIED CARD OF 'merestonelaw03.PointOrders'. -/
def pointOrdersCard : Claim7 := { stood := { row := pointOrdersRow, standIns := [], harness := (true, "595ad80496859734adf0f2313ef1fb85b1dd2f98370ff010c53c9294dac98ec4"), looks := true }, kinds := [], alts := [], laidByText := true, laidKinds := [.data], laidTests := true, laidLooks := .later }
def PointOrdersCardSaid : Prop := Claim7.holds Tryz.pinned (.plain (OpenSpec.ofChange pointOrdersSpec)) pointOrdersCard

/-- THE TIED CARD OF 'merestonelaw03.PointMoves'. -/
def pointMovesCard : Claim7 := { stood := { row := pointMovesRow, standIns := [], harness := (true, "595ad80496859734adf0f2313ef1fb85b1dd2f98370ff010c53c9294dac98ec4"), looks := true }, kinds := [], alts := [], laidByText := true, laidKinds := [.data], laidTests := true, laidLooks := .later }
def PointMovesCardSaid : Prop := Claim7.holds Tryz.pinned (.plain (OpenSpec.ofChange pointMovesSpec)) pointMovesCard

/-- THE TIED CARD OF 'merestonelaw03.PointHolds'. -/
def pointHoldsCard : Claim7 := { stood := { row := pointHoldsRow, standIns := [], harness := (true, "595ad80496859734adf0f2313ef1fb85b1dd2f98370ff010c53c9294dac98ec4"), looks := true }, kinds := [], alts := [], laidByText := true, laidKinds := [.data], laidTests := true, laidLooks := .later }
def PointHoldsCardSaid : Prop := Claim7.holds Tryz.pinned (.plain (OpenSpec.ofChange pointHoldsSpec)) pointHoldsCard

/-- THE TIED CARD OF 'merestonelaw03.PointSorts'. -/
def pointSortsCard : Claim7 := { stood := { row := pointSortsRow, standIns := [], harness := (true, "595ad80496859734adf0f2313ef1fb85b1dd2f98370ff010c53c9294dac98ec4"), looks := true }, kinds := [], alts := [], laidByText := true, laidKinds := [.data], laidTests := true, laidLooks := .later }
def PointSortsCardSaid : Prop := Claim7.holds Tryz.pinned (.plain (OpenSpec.ofChange pointSortsSpec)) pointSortsCard

/-- THE SECOND FORM's CARD OF 'merestonelaw03.PointNodes'. -/
def pointNodesUptoCard : Claim7 := { stood := { row := pointNodesUptoRow, standIns := [], harness := (true, "595ad80496859734adf0f2313ef1fb85b1dd2f98370ff010c53c9294dac98ec4"), looks := true }, kinds := [], alts := [], laidByText := true, laidKinds := [.data], laidTests := true, laidLooks := .later }
def PointNodesUptoCardSaid : Prop := Claim7.holds Tryz.pinned (.plain (OpenSpec.upto pointNodesSpec)) pointNodesUptoCard

/-- THE SECOND FORM's CARD OF 'merestonelaw03.PointOrders'. -/
def pointOrdersUptoCard : Claim7 := { stood := { row := pointOrdersUptoRow, standIns := [], harness := (true, "595ad80496859734adf0f2313ef1fb85b1dd2f98370ff010c53c9294dac98ec4"), looks := true }, kinds := [], alts := [], laidByText := true, laidKinds := [.data], laidTests := true, laidLooks := .later }
def PointOrdersUptoCardSaid : Prop := Claim7.holds Tryz.pinned (.plain (OpenSpec.upto pointOrdersSpec)) pointOrdersUptoCard

/-- THE SECOND FORM's CARD OF 'merestonelaw03.PointMoves'. -/
def pointMovesUptoCard : Claim7 := { stood := { row := pointMovesUptoRow, standIns := [], harness := (true, "595ad80496859734adf0f2313ef1fb85b1dd2f98370ff010c53c9294dac98ec4"), looks := true }, kinds := [], alts := [], laidByText := true, laidKinds := [.data], laidTests := true, laidLooks := .later }
def PointMovesUptoCardSaid : Prop := Claim7.holds Tryz.pinned (.plain (OpenSpec.upto pointMovesSpec)) pointMovesUptoCard

/-- THE SECOND FORM's CARD OF 'merestonelaw03.PointHolds'. -/
def pointHoldsUptoCard : Claim7 := { stood := { row := pointHoldsUptoRow, standIns := [], harness := (true, "595ad80496859734adf0f2313ef1fb85b1dd2f98370ff010c53c9294dac98ec4"), looks := true }, kinds := [], alts := [], laidByText := true, laidKinds := [.data], laidTests := true, laidLooks := .later }
def PointHoldsUptoCardSaid : Prop := Claim7.holds Tryz.pinned (.plain (OpenSpec.upto pointHoldsSpec)) pointHoldsUptoCard

/-- THE SECOND FORM's CARD OF 'merestonelaw03.PointSorts'. -/
def pointSortsUptoCard : Claim7 := { stood := { row := pointSortsUptoRow, standIns := [], harness := (true, "595ad80496859734adf0f2313ef1fb85b1dd2f98370ff010c53c9294dac98ec4"), looks := true }, kinds := [], alts := [], laidByText := true, laidKinds := [.data], laidTests := true, laidLooks := .later }
def PointSortsUptoCardSaid : Prop := Claim7.holds Tryz.pinned (.plain (OpenSpec.upto pointSortsSpec)) pointSortsUptoCard
end Rows
end Go.Proofs.YtmopgcbhmkemjaaGreatDoor
