/-
  DERIVED. GIVEN WITH THE SEED: THE CARDS: each row of YtjkchmegnfbfoaaGreatDoorRows.lean that lists a variable, with what it lists TIED to the program's text (the seventh form; the later family's looks); each row that meets fmt, with fmt's text TOLD by the authors' own Lean function (tested against real Go, not proved from fmt's source: count such statements apart). THE CARD IS WHAT COUNTS. Prove the row's statement (the work); the ties are given (YtjkchmegnfbfoaaGreatDoorTie.lean); close each card by the builder's one call (the guide's Derived/Test/ToyasCard.lean, 'card_holds'). Laid BY PROGRAM, IN A SANDBOX (cutbox-door.mjs). By AI agents, Wed Nov 11 2026. No macro, syntax, notation, axiom, sorry.
-/
import Derived.Test.YtjkchmegnfbfoaaGreatDoorRows
import GoSem.ClaimSeven
namespace Go.Proofs.YtjkchmegnfbfoaaGreatDoor
namespace Rows

/-- THE TIED CARD OF 'merestonelaw02.RatioMakes'. -/
def ratioMakesCard : Claim7 := { stood := { row := ratioMakesRow, standIns := [], harness := (true, "e9a2182fcc603e355c13605a38b817f800e35a92b47162bf78378b54bda4915f"), looks := true }, kinds := [], alts := [], laidByText := true, laidKinds := [.data], laidTests := true, laidLooks := .later }
def RatioMakesCardSaid : Prop := Claim7.holds Tryz.pinned (.plain (OpenSpec.ofChange ratioMakesSpec)) ratioMakesCard

/-- THE TIED CARD OF 'merestonelaw02.RatioSums'. -/
def ratioSumsCard : Claim7 := { stood := { row := ratioSumsRow, standIns := [], harness := (true, "e9a2182fcc603e355c13605a38b817f800e35a92b47162bf78378b54bda4915f"), looks := true }, kinds := [], alts := [], laidByText := true, laidKinds := [.data], laidTests := true, laidLooks := .later }
def RatioSumsCardSaid : Prop := Claim7.holds Tryz.pinned (.plain (OpenSpec.ofChange ratioSumsSpec)) ratioSumsCard

/-- THE TIED CARD OF 'merestonelaw02.RatioOrders'. -/
def ratioOrdersCard : Claim7 := { stood := { row := ratioOrdersRow, standIns := [], harness := (true, "e9a2182fcc603e355c13605a38b817f800e35a92b47162bf78378b54bda4915f"), looks := true }, kinds := [], alts := [], laidByText := true, laidKinds := [.data], laidTests := true, laidLooks := .later }
def RatioOrdersCardSaid : Prop := Claim7.holds Tryz.pinned (.plain (OpenSpec.ofChange ratioOrdersSpec)) ratioOrdersCard

/-- THE TIED CARD OF 'merestonelaw02.RatioMirrors'. -/
def ratioMirrorsCard : Claim7 := { stood := { row := ratioMirrorsRow, standIns := [], harness := (true, "e9a2182fcc603e355c13605a38b817f800e35a92b47162bf78378b54bda4915f"), looks := true }, kinds := [], alts := [], laidByText := true, laidKinds := [.data], laidTests := true, laidLooks := .later }
def RatioMirrorsCardSaid : Prop := Claim7.holds Tryz.pinned (.plain (OpenSpec.ofChange ratioMirrorsSpec)) ratioMirrorsCard

/-- THE TIED CARD OF 'merestonelaw02.RatioHolds'. -/
def ratioHoldsCard : Claim7 := { stood := { row := ratioHoldsRow, standIns := [], harness := (true, "e9a2182fcc603e355c13605a38b817f800e35a92b47162bf78378b54bda4915f"), looks := true }, kinds := [], alts := [], laidByText := true, laidKinds := [.data], laidTests := true, laidLooks := .later }
def RatioHoldsCardSaid : Prop := Claim7.holds Tryz.pinned (.plain (OpenSpec.ofChange ratioHoldsSpec)) ratioHoldsCard

/-- THE SECOND FORM's CARD OF 'merestonelaw02.RatioMakes'. -/
def ratioMakesUptoCard : Claim7 := { stood := { row := ratioMakesUptoRow, standIns := [], harness := (true, "e9a2182fcc603e355c13605a38b817f800e35a92b47162bf78378b54bda4915f"), looks := true }, kinds := [], alts := [], laidByText := true, laidKinds := [.data], laidTests := true, laidLooks := .later }
def RatioMakesUptoCardSaid : Prop := Claim7.holds Tryz.pinned (.plain (OpenSpec.upto ratioMakesSpec)) ratioMakesUptoCard

/-- THE SECOND FORM's CARD OF 'merestonelaw02.RatioSums'. -/
def ratioSumsUptoCard : Claim7 := { stood := { row := ratioSumsUptoRow, standIns := [], harness := (true, "e9a2182fcc603e355c13605a38b817f800e35a92b47162bf78378b54bda4915f"), looks := true }, kinds := [], alts := [], laidByText := true, laidKinds := [.data], laidTests := true, laidLooks := .later }
def RatioSumsUptoCardSaid : Prop := Claim7.holds Tryz.pinned (.plain (OpenSpec.upto ratioSumsSpec)) ratioSumsUptoCard

/-- THE SECOND FORM's CARD OF 'merestonelaw02.RatioOrders'. -/
def ratioOrdersUptoCard : Claim7 := { stood := { row := ratioOrdersUptoRow, standIns := [], harness := (true, "e9a2182fcc603e355c13605a38b817f800e35a92b47162bf78378b54bda4915f"), looks := true }, kinds := [], alts := [], laidByText := true, laidKinds := [.data], laidTests := true, laidLooks := .later }
def RatioOrdersUptoCardSaid : Prop := Claim7.holds Tryz.pinned (.plain (OpenSpec.upto ratioOrdersSpec)) ratioOrdersUptoCard

/-- THE SECOND FORM's CARD OF 'merestonelaw02.RatioMirrors'. -/
def ratioMirrorsUptoCard : Claim7 := { stood := { row := ratioMirrorsUptoRow, standIns := [], harness := (true, "e9a2182fcc603e355c13605a38b817f800e35a92b47162bf78378b54bda4915f"), looks := true }, kinds := [], alts := [], laidByText := true, laidKinds := [.data], laidTests := true, laidLooks := .later }
def RatioMirrorsUptoCardSaid : Prop := Claim7.holds Tryz.pinned (.plain (OpenSpec.upto ratioMirrorsSpec)) ratioMirrorsUptoCard

/-- THE SECOND FORM's CARD OF 'merestonelaw02.RatioHolds'. -/
def ratioHoldsUptoCard : Claim7 := { stood := { row := ratioHoldsUptoRow, standIns := [], harness := (true, "e9a2182fcc603e355c13605a38b817f800e35a92b47162bf78378b54bda4915f"), looks := true }, kinds := [], alts := [], laidByText := true, laidKinds := [.data], laidTests := true, laidLooks := .later }
def RatioHoldsUptoCardSaid : Prop := Claim7.holds Tryz.pinned (.plain (OpenSpec.upto ratioHoldsSpec)) ratioHoldsUptoCard
end Rows
end Go.Proofs.YtjkchmegnfbfoaaGreatDoor
