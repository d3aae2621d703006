/-
  DERIVED. GIVEN WITH THE SEED: THE CARDS: each row of YtnpfochbpdfcmaaGreatDoorRows.lean that lists a variable, with what it lists TIED to the program's text (the seventh form; the later family's looks); each row that meets fmt, with fmt's text TOLD by the authors' own Lean function (tested against real Go, not proved from fmt's source: count such statements apart). THE CARD IS WHAT COUNTS. Prove the row's statement (the work); the ties are given (YtnpfochbpdfcmaaGreatDoorTie.lean); close each card by the builder's one call (the guide's Derived/Test/ToyasCard.lean, 'card_holds'). Laid BY PROGRAM, IN A SANDBOX (cutbox-door.mjs). By AI agents, Wed Nov 11 2026. No macro, syntax, notation, axiom, sorry.
-/
import Derived.Test.YtnpfochbpdfcmaaGreatDoorRows
import GoSem.ClaimSeven
namespace Go.Proofs.YtnpfochbpdfcmaaGreatDoor
namespace Rows

/-- THE TIED CARD OF 'assayerlaw03.RatsRead'. -/
def ratsReadCard : Claim7 := { stood := { row := ratsReadRow, standIns := [], harness := (true, "111521f9b5b62b1a6b6b49fdb2f8c9f58cea649baeb669f9e6b9d80ccf95cd7a"), looks := false }, kinds := [], alts := [], laidByText := true, laidKinds := [.data, .data, .pinned], laidTests := true, laidLooks := .later }
def RatsReadCardSaid : Prop := Claim7.holds Tryz.pinned (.plain (OpenSpec.ofChange ratsReadSpec)) ratsReadCard

/-- THE TIED CARD OF 'assayerlaw03.RatsPoints'. -/
def ratsPointsCard : Claim7 := { stood := { row := ratsPointsRow, standIns := [], harness := (true, "111521f9b5b62b1a6b6b49fdb2f8c9f58cea649baeb669f9e6b9d80ccf95cd7a"), looks := false }, kinds := [], alts := [], laidByText := true, laidKinds := [.data, .data, .pinned], laidTests := true, laidLooks := .later }
def RatsPointsCardSaid : Prop := Claim7.holds Tryz.pinned (.plain (OpenSpec.ofChange ratsPointsSpec)) ratsPointsCard

/-- THE TIED CARD OF 'assayerlaw03.RatsField'. -/
def ratsFieldCard : Claim7 := { stood := { row := ratsFieldRow, standIns := [], harness := (true, "111521f9b5b62b1a6b6b49fdb2f8c9f58cea649baeb669f9e6b9d80ccf95cd7a"), looks := false }, kinds := [], alts := [], laidByText := true, laidKinds := [.data, .data, .pinned], laidTests := true, laidLooks := .later }
def RatsFieldCardSaid : Prop := Claim7.holds Tryz.pinned (.plain (OpenSpec.ofChange ratsFieldSpec)) ratsFieldCard

/-- THE TIED CARD OF 'assayerlaw03.RatsMade'. -/
def ratsMadeCard : Claim7 := { stood := { row := ratsMadeRow, standIns := [], harness := (true, "111521f9b5b62b1a6b6b49fdb2f8c9f58cea649baeb669f9e6b9d80ccf95cd7a"), looks := false }, kinds := [], alts := [], laidByText := true, laidKinds := [.data, .data, .pinned], laidTests := true, laidLooks := .later }
def RatsMadeCardSaid : Prop := Claim7.holds Tryz.pinned (.plain (OpenSpec.ofChange ratsMadeSpec)) ratsMadeCard

/-- THE TIED CARD OF 'assayerlaw03.RatsUndone'. -/
def ratsUndoneCard : Claim7 := { stood := { row := ratsUndoneRow, standIns := [], harness := (true, "111521f9b5b62b1a6b6b49fdb2f8c9f58cea649baeb669f9e6b9d80ccf95cd7a"), looks := false }, kinds := [], alts := [], laidByText := true, laidKinds := [.data, .data, .pinned], laidTests := true, laidLooks := .later }
def RatsUndoneCardSaid : Prop := Claim7.holds Tryz.pinned (.plain (OpenSpec.ofChange ratsUndoneSpec)) ratsUndoneCard

/-- THE TIED CARD OF 'assayerlaw03.RatsFloors'. -/
def ratsFloorsCard : Claim7 := { stood := { row := ratsFloorsRow, standIns := [], harness := (true, "111521f9b5b62b1a6b6b49fdb2f8c9f58cea649baeb669f9e6b9d80ccf95cd7a"), looks := false }, kinds := [], alts := [], laidByText := true, laidKinds := [.data, .data, .pinned], laidTests := true, laidLooks := .later }
def RatsFloorsCardSaid : Prop := Claim7.holds Tryz.pinned (.plain (OpenSpec.ofChange ratsFloorsSpec)) ratsFloorsCard

/-- THE TIED CARD OF 'assayerlaw03.RatsSmall'. -/
def ratsSmallCard : Claim7 := { stood := { row := ratsSmallRow, standIns := [], harness := (true, "111521f9b5b62b1a6b6b49fdb2f8c9f58cea649baeb669f9e6b9d80ccf95cd7a"), looks := false }, kinds := [], alts := [], laidByText := true, laidKinds := [.data, .data, .pinned], laidTests := true, laidLooks := .later }
def RatsSmallCardSaid : Prop := Claim7.holds Tryz.pinned (.plain (OpenSpec.ofChange ratsSmallSpec)) ratsSmallCard

/-- THE TIED CARD OF 'assayerlaw03.RatsBetween'. -/
def ratsBetweenCard : Claim7 := { stood := { row := ratsBetweenRow, standIns := [], harness := (true, "111521f9b5b62b1a6b6b49fdb2f8c9f58cea649baeb669f9e6b9d80ccf95cd7a"), looks := false }, kinds := [], alts := [], laidByText := true, laidKinds := [.data, .data, .pinned], laidTests := true, laidLooks := .later }
def RatsBetweenCardSaid : Prop := Claim7.holds Tryz.pinned (.plain (OpenSpec.ofChange ratsBetweenSpec)) ratsBetweenCard

/-- THE TIED CARD OF 'assayerlaw03.RatsOrder'. -/
def ratsOrderCard : Claim7 := { stood := { row := ratsOrderRow, standIns := [], harness := (true, "111521f9b5b62b1a6b6b49fdb2f8c9f58cea649baeb669f9e6b9d80ccf95cd7a"), looks := false }, kinds := [], alts := [], laidByText := true, laidKinds := [.data, .data, .pinned], laidTests := true, laidLooks := .later }
def RatsOrderCardSaid : Prop := Claim7.holds Tryz.pinned (.plain (OpenSpec.ofChange ratsOrderSpec)) ratsOrderCard

/-- THE TIED CARD OF 'assayerlaw04.VecsLinear'. -/
def vecsLinearCard : Claim7 := { stood := { row := vecsLinearRow, standIns := [], harness := (true, "111521f9b5b62b1a6b6b49fdb2f8c9f58cea649baeb669f9e6b9d80ccf95cd7a"), looks := false }, kinds := [], alts := [], laidByText := true, laidKinds := [.data, .data, .pinned], laidTests := true, laidLooks := .later }
def VecsLinearCardSaid : Prop := Claim7.holds Tryz.pinned (.plain (OpenSpec.ofChange vecsLinearSpec)) vecsLinearCard

/-- THE TIED CARD OF 'assayerlaw04.VecsParts'. -/
def vecsPartsCard : Claim7 := { stood := { row := vecsPartsRow, standIns := [], harness := (true, "111521f9b5b62b1a6b6b49fdb2f8c9f58cea649baeb669f9e6b9d80ccf95cd7a"), looks := false }, kinds := [], alts := [], laidByText := true, laidKinds := [.data, .data, .pinned], laidTests := true, laidLooks := .later }
def VecsPartsCardSaid : Prop := Claim7.holds Tryz.pinned (.plain (OpenSpec.ofChange vecsPartsSpec)) vecsPartsCard

/-- THE TIED CARD OF 'assayerlaw04.VecsTurned'. -/
def vecsTurnedCard : Claim7 := { stood := { row := vecsTurnedRow, standIns := [], harness := (true, "111521f9b5b62b1a6b6b49fdb2f8c9f58cea649baeb669f9e6b9d80ccf95cd7a"), looks := false }, kinds := [], alts := [], laidByText := true, laidKinds := [.data, .data, .pinned], laidTests := true, laidLooks := .later }
def VecsTurnedCardSaid : Prop := Claim7.holds Tryz.pinned (.plain (OpenSpec.ofChange vecsTurnedSpec)) vecsTurnedCard

/-- THE TIED CARD OF 'assayerlaw04.VecsBack'. -/
def vecsBackCard : Claim7 := { stood := { row := vecsBackRow, standIns := [], harness := (true, "111521f9b5b62b1a6b6b49fdb2f8c9f58cea649baeb669f9e6b9d80ccf95cd7a"), looks := false }, kinds := [], alts := [], laidByText := true, laidKinds := [.data, .data, .pinned], laidTests := true, laidLooks := .later }
def VecsBackCardSaid : Prop := Claim7.holds Tryz.pinned (.plain (OpenSpec.ofChange vecsBackSpec)) vecsBackCard

/-- THE TIED CARD OF 'assayerlaw04.VecsOdd'. -/
def vecsOddCard : Claim7 := { stood := { row := vecsOddRow, standIns := [], harness := (true, "111521f9b5b62b1a6b6b49fdb2f8c9f58cea649baeb669f9e6b9d80ccf95cd7a"), looks := false }, kinds := [], alts := [], laidByText := true, laidKinds := [.data, .data, .pinned], laidTests := true, laidLooks := .later }
def VecsOddCardSaid : Prop := Claim7.holds Tryz.pinned (.plain (OpenSpec.ofChange vecsOddSpec)) vecsOddCard

/-- THE SECOND FORM's CARD OF 'assayerlaw03.RatsRead'. -/
def ratsReadUptoCard : Claim7 := { stood := { row := ratsReadUptoRow, standIns := [], harness := (true, "111521f9b5b62b1a6b6b49fdb2f8c9f58cea649baeb669f9e6b9d80ccf95cd7a"), looks := false }, kinds := [], alts := [], laidByText := true, laidKinds := [.data, .data, .pinned], laidTests := true, laidLooks := .later }
def RatsReadUptoCardSaid : Prop := Claim7.holds Tryz.pinned (.plain (OpenSpec.upto ratsReadSpec)) ratsReadUptoCard

/-- THE SECOND FORM's CARD OF 'assayerlaw03.RatsPoints'. -/
def ratsPointsUptoCard : Claim7 := { stood := { row := ratsPointsUptoRow, standIns := [], harness := (true, "111521f9b5b62b1a6b6b49fdb2f8c9f58cea649baeb669f9e6b9d80ccf95cd7a"), looks := false }, kinds := [], alts := [], laidByText := true, laidKinds := [.data, .data, .pinned], laidTests := true, laidLooks := .later }
def RatsPointsUptoCardSaid : Prop := Claim7.holds Tryz.pinned (.plain (OpenSpec.upto ratsPointsSpec)) ratsPointsUptoCard

/-- THE SECOND FORM's CARD OF 'assayerlaw03.RatsField'. -/
def ratsFieldUptoCard : Claim7 := { stood := { row := ratsFieldUptoRow, standIns := [], harness := (true, "111521f9b5b62b1a6b6b49fdb2f8c9f58cea649baeb669f9e6b9d80ccf95cd7a"), looks := false }, kinds := [], alts := [], laidByText := true, laidKinds := [.data, .data, .pinned], laidTests := true, laidLooks := .later }
def RatsFieldUptoCardSaid : Prop := Claim7.holds Tryz.pinned (.plain (OpenSpec.upto ratsFieldSpec)) ratsFieldUptoCard

/-- THE SECOND FORM's CARD OF 'assayerlaw03.RatsMade'. -/
def ratsMadeUptoCard : Claim7 := { stood := { row := ratsMadeUptoRow, standIns := [], harness := (true, "111521f9b5b62b1a6b6b49fdb2f8c9f58cea649baeb669f9e6b9d80ccf95cd7a"), looks := false }, kinds := [], alts := [], laidByText := true, laidKinds := [.data, .data, .pinned], laidTests := true, laidLooks := .later }
def RatsMadeUptoCardSaid : Prop := Claim7.holds Tryz.pinned (.plain (OpenSpec.upto ratsMadeSpec)) ratsMadeUptoCard

/-- THE SECOND FORM's CARD OF 'assayerlaw03.RatsUndone'. -/
def ratsUndoneUptoCard : Claim7 := { stood := { row := ratsUndoneUptoRow, standIns := [], harness := (true, "111521f9b5b62b1a6b6b49fdb2f8c9f58cea649baeb669f9e6b9d80ccf95cd7a"), looks := false }, kinds := [], alts := [], laidByText := true, laidKinds := [.data, .data, .pinned], laidTests := true, laidLooks := .later }
def RatsUndoneUptoCardSaid : Prop := Claim7.holds Tryz.pinned (.plain (OpenSpec.upto ratsUndoneSpec)) ratsUndoneUptoCard

/-- THE SECOND FORM's CARD OF 'assayerlaw03.RatsFloors'. -/
def ratsFloorsUptoCard : Claim7 := { stood := { row := ratsFloorsUptoRow, standIns := [], harness := (true, "111521f9b5b62b1a6b6b49fdb2f8c9f58cea649baeb669f9e6b9d80ccf95cd7a"), looks := false }, kinds := [], alts := [], laidByText := true, laidKinds := [.data, .data, .pinned], laidTests := true, laidLooks := .later }
def RatsFloorsUptoCardSaid : Prop := Claim7.holds Tryz.pinned (.plain (OpenSpec.upto ratsFloorsSpec)) ratsFloorsUptoCard

/-- THE SECOND FORM's CARD OF 'assayerlaw03.RatsSmall'. -/
def ratsSmallUptoCard : Claim7 := { stood := { row := ratsSmallUptoRow, standIns := [], harness := (true, "111521f9b5b62b1a6b6b49fdb2f8c9f58cea649baeb669f9e6b9d80ccf95cd7a"), looks := false }, kinds := [], alts := [], laidByText := true, laidKinds := [.data, .data, .pinned], laidTests := true, laidLooks := .later }
def RatsSmallUptoCardSaid : Prop := Claim7.holds Tryz.pinned (.plain (OpenSpec.upto ratsSmallSpec)) ratsSmallUptoCard

/-- THE SECOND FORM's CARD OF 'assayerlaw03.RatsBetween'. -/
def ratsBetweenUptoCard : Claim7 := { stood := { row := ratsBetweenUptoRow, standIns := [], harness := (true, "111521f9b5b62b1a6b6b49fdb2f8c9f58cea649baeb669f9e6b9d80ccf95cd7a"), looks := false }, kinds := [], alts := [], laidByText := true, laidKinds := [.data, .data, .pinned], laidTests := true, laidLooks := .later }
def RatsBetweenUptoCardSaid : Prop := Claim7.holds Tryz.pinned (.plain (OpenSpec.upto ratsBetweenSpec)) ratsBetweenUptoCard

/-- THE SECOND FORM's CARD OF 'assayerlaw03.RatsOrder'. -/
def ratsOrderUptoCard : Claim7 := { stood := { row := ratsOrderUptoRow, standIns := [], harness := (true, "111521f9b5b62b1a6b6b49fdb2f8c9f58cea649baeb669f9e6b9d80ccf95cd7a"), looks := false }, kinds := [], alts := [], laidByText := true, laidKinds := [.data, .data, .pinned], laidTests := true, laidLooks := .later }
def RatsOrderUptoCardSaid : Prop := Claim7.holds Tryz.pinned (.plain (OpenSpec.upto ratsOrderSpec)) ratsOrderUptoCard

/-- THE SECOND FORM's CARD OF 'assayerlaw04.VecsLinear'. -/
def vecsLinearUptoCard : Claim7 := { stood := { row := vecsLinearUptoRow, standIns := [], harness := (true, "111521f9b5b62b1a6b6b49fdb2f8c9f58cea649baeb669f9e6b9d80ccf95cd7a"), looks := false }, kinds := [], alts := [], laidByText := true, laidKinds := [.data, .data, .pinned], laidTests := true, laidLooks := .later }
def VecsLinearUptoCardSaid : Prop := Claim7.holds Tryz.pinned (.plain (OpenSpec.upto vecsLinearSpec)) vecsLinearUptoCard

/-- THE SECOND FORM's CARD OF 'assayerlaw04.VecsParts'. -/
def vecsPartsUptoCard : Claim7 := { stood := { row := vecsPartsUptoRow, standIns := [], harness := (true, "111521f9b5b62b1a6b6b49fdb2f8c9f58cea649baeb669f9e6b9d80ccf95cd7a"), looks := false }, kinds := [], alts := [], laidByText := true, laidKinds := [.data, .data, .pinned], laidTests := true, laidLooks := .later }
def VecsPartsUptoCardSaid : Prop := Claim7.holds Tryz.pinned (.plain (OpenSpec.upto vecsPartsSpec)) vecsPartsUptoCard

/-- THE SECOND FORM's CARD OF 'assayerlaw04.VecsTurned'. -/
def vecsTurnedUptoCard : Claim7 := { stood := { row := vecsTurnedUptoRow, standIns := [], harness := (true, "111521f9b5b62b1a6b6b49fdb2f8c9f58cea649baeb669f9e6b9d80ccf95cd7a"), looks := false }, kinds := [], alts := [], laidByText := true, laidKinds := [.data, .data, .pinned], laidTests := true, laidLooks := .later }
def VecsTurnedUptoCardSaid : Prop := Claim7.holds Tryz.pinned (.plain (OpenSpec.upto vecsTurnedSpec)) vecsTurnedUptoCard

/-- THE SECOND FORM's CARD OF 'assayerlaw04.VecsBack'. -/
def vecsBackUptoCard : Claim7 := { stood := { row := vecsBackUptoRow, standIns := [], harness := (true, "111521f9b5b62b1a6b6b49fdb2f8c9f58cea649baeb669f9e6b9d80ccf95cd7a"), looks := false }, kinds := [], alts := [], laidByText := true, laidKinds := [.data, .data, .pinned], laidTests := true, laidLooks := .later }
def VecsBackUptoCardSaid : Prop := Claim7.holds Tryz.pinned (.plain (OpenSpec.upto vecsBackSpec)) vecsBackUptoCard

/-- THE SECOND FORM's CARD OF 'assayerlaw04.VecsOdd'. -/
def vecsOddUptoCard : Claim7 := { stood := { row := vecsOddUptoRow, standIns := [], harness := (true, "111521f9b5b62b1a6b6b49fdb2f8c9f58cea649baeb669f9e6b9d80ccf95cd7a"), looks := false }, kinds := [], alts := [], laidByText := true, laidKinds := [.data, .data, .pinned], laidTests := true, laidLooks := .later }
def VecsOddUptoCardSaid : Prop := Claim7.holds Tryz.pinned (.plain (OpenSpec.upto vecsOddSpec)) vecsOddUptoCard
end Rows
end Go.Proofs.YtnpfochbpdfcmaaGreatDoor
