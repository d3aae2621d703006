/-
  DERIVED. GIVEN WITH THE SEED: THE CARDS: each row of YtkefmeddnncacaaGreatDoorRows.lean that lists a variable, with what it lists TIED to the program's text (the seventh form; the later family's looks); each row that meets fmt, with fmt's text TOLD by the authors' own Lean function (tested against real Go, not proved from fmt's source: count such statements apart). THE CARD IS WHAT COUNTS. Prove the row's statement (the work); the ties are given (YtkefmeddnncacaaGreatDoorTie.lean); close each card by the builder's one call (the guide's Derived/Test/ToyasCard.lean, 'card_holds'). Laid BY PROGRAM, IN A SANDBOX (cutbox-door.mjs). By AI agents, Wed Nov 11 2026. No macro, syntax, notation, axiom, sorry.
-/
import Derived.Test.YtkefmeddnncacaaGreatDoorRows
import GoSem.ClaimSeven
namespace Go.Proofs.YtkefmeddnncacaaGreatDoor
namespace Rows

/-- THE TIED CARD OF 'assayerlaw03.RatsTexts'. -/
def ratsTextsCard : Claim7 := { stood := { row := ratsTextsRow, standIns := [], harness := (true, "b2a7bd762b59ac0b54d59e57007efa39823523141b4f74eb721e34dc654ba0e6"), looks := false }, kinds := [], alts := [], laidByText := true, laidKinds := [.data, .data, .data, .data, .pinned], laidTests := true, laidLooks := .later }
def RatsTextsCardSaid : Prop := Claim7.holds Tryz.pinned (.plain (OpenSpec.ofChange ratsTextsSpec)) ratsTextsCard

/-- THE TIED CARD OF 'assayerlaw04.VecsAdds'. -/
def vecsAddsCard : Claim7 := { stood := { row := vecsAddsRow, standIns := [], harness := (true, "b2a7bd762b59ac0b54d59e57007efa39823523141b4f74eb721e34dc654ba0e6"), looks := false }, kinds := [], alts := [], laidByText := true, laidKinds := [.data, .data, .data], laidTests := true, laidLooks := .later }
def VecsAddsCardSaid : Prop := Claim7.holds Tryz.pinned (.plain (OpenSpec.ofChange vecsAddsSpec)) vecsAddsCard

/-- THE TIED CARD OF 'assayerlaw04.VecsDots'. -/
def vecsDotsCard : Claim7 := { stood := { row := vecsDotsRow, standIns := [], harness := (true, "b2a7bd762b59ac0b54d59e57007efa39823523141b4f74eb721e34dc654ba0e6"), looks := false }, kinds := [], alts := [], laidByText := true, laidKinds := [.data, .data, .data], laidTests := true, laidLooks := .later }
def VecsDotsCardSaid : Prop := Claim7.holds Tryz.pinned (.plain (OpenSpec.ofChange vecsDotsSpec)) vecsDotsCard

/-- THE TIED CARD OF 'assayerlaw09.NormsFits'. -/
def normsFitsCard : Claim7 := { stood := { row := normsFitsRow, standIns := [], harness := (true, "b2a7bd762b59ac0b54d59e57007efa39823523141b4f74eb721e34dc654ba0e6"), looks := false }, kinds := [], alts := [], laidByText := true, laidKinds := [.data], laidTests := true, laidLooks := .later }
def NormsFitsCardSaid : Prop := Claim7.holds Tryz.pinned (.plain (OpenSpec.ofChange normsFitsSpec)) normsFitsCard

/-- THE TIED CARD OF 'assayerlaw05.GridsTurns'. -/
def gridsTurnsCard : Claim7 := { stood := { row := gridsTurnsRow, standIns := [], harness := (true, "b2a7bd762b59ac0b54d59e57007efa39823523141b4f74eb721e34dc654ba0e6"), looks := false }, kinds := [], alts := [], laidByText := true, laidKinds := [.data, .data, .data], laidTests := true, laidLooks := .later }
def GridsTurnsCardSaid : Prop := Claim7.holds Tryz.pinned (.plain (OpenSpec.ofChange gridsTurnsSpec)) gridsTurnsCard

/-- THE TIED CARD OF 'assayerlaw05.GridsSolves'. -/
def gridsSolvesCard : Claim7 := { stood := { row := gridsSolvesRow, standIns := [], harness := (true, "b2a7bd762b59ac0b54d59e57007efa39823523141b4f74eb721e34dc654ba0e6"), looks := false }, kinds := [], alts := [], laidByText := true, laidKinds := [.data, .data, .data], laidTests := true, laidLooks := .later }
def GridsSolvesCardSaid : Prop := Claim7.holds Tryz.pinned (.plain (OpenSpec.ofChange gridsSolvesSpec)) gridsSolvesCard

/-- THE SECOND FORM's CARD OF 'assayerlaw03.RatsTexts'. -/
def ratsTextsUptoCard : Claim7 := { stood := { row := ratsTextsUptoRow, standIns := [], harness := (true, "b2a7bd762b59ac0b54d59e57007efa39823523141b4f74eb721e34dc654ba0e6"), looks := false }, kinds := [], alts := [], laidByText := true, laidKinds := [.data, .data, .data, .data, .pinned], laidTests := true, laidLooks := .later }
def RatsTextsUptoCardSaid : Prop := Claim7.holds Tryz.pinned (.plain (OpenSpec.upto ratsTextsSpec)) ratsTextsUptoCard

/-- THE SECOND FORM's CARD OF 'assayerlaw04.VecsAdds'. -/
def vecsAddsUptoCard : Claim7 := { stood := { row := vecsAddsUptoRow, standIns := [], harness := (true, "b2a7bd762b59ac0b54d59e57007efa39823523141b4f74eb721e34dc654ba0e6"), looks := false }, kinds := [], alts := [], laidByText := true, laidKinds := [.data, .data, .data], laidTests := true, laidLooks := .later }
def VecsAddsUptoCardSaid : Prop := Claim7.holds Tryz.pinned (.plain (OpenSpec.upto vecsAddsSpec)) vecsAddsUptoCard

/-- THE SECOND FORM's CARD OF 'assayerlaw04.VecsDots'. -/
def vecsDotsUptoCard : Claim7 := { stood := { row := vecsDotsUptoRow, standIns := [], harness := (true, "b2a7bd762b59ac0b54d59e57007efa39823523141b4f74eb721e34dc654ba0e6"), looks := false }, kinds := [], alts := [], laidByText := true, laidKinds := [.data, .data, .data], laidTests := true, laidLooks := .later }
def VecsDotsUptoCardSaid : Prop := Claim7.holds Tryz.pinned (.plain (OpenSpec.upto vecsDotsSpec)) vecsDotsUptoCard

/-- THE SECOND FORM's CARD OF 'assayerlaw09.NormsFits'. -/
def normsFitsUptoCard : Claim7 := { stood := { row := normsFitsUptoRow, standIns := [], harness := (true, "b2a7bd762b59ac0b54d59e57007efa39823523141b4f74eb721e34dc654ba0e6"), looks := false }, kinds := [], alts := [], laidByText := true, laidKinds := [.data], laidTests := true, laidLooks := .later }
def NormsFitsUptoCardSaid : Prop := Claim7.holds Tryz.pinned (.plain (OpenSpec.upto normsFitsSpec)) normsFitsUptoCard

/-- THE SECOND FORM's CARD OF 'assayerlaw05.GridsTurns'. -/
def gridsTurnsUptoCard : Claim7 := { stood := { row := gridsTurnsUptoRow, standIns := [], harness := (true, "b2a7bd762b59ac0b54d59e57007efa39823523141b4f74eb721e34dc654ba0e6"), looks := false }, kinds := [], alts := [], laidByText := true, laidKinds := [.data, .data, .data], laidTests := true, laidLooks := .later }
def GridsTurnsUptoCardSaid : Prop := Claim7.holds Tryz.pinned (.plain (OpenSpec.upto gridsTurnsSpec)) gridsTurnsUptoCard

/-- THE SECOND FORM's CARD OF 'assayerlaw05.GridsSolves'. -/
def gridsSolvesUptoCard : Claim7 := { stood := { row := gridsSolvesUptoRow, standIns := [], harness := (true, "b2a7bd762b59ac0b54d59e57007efa39823523141b4f74eb721e34dc654ba0e6"), looks := false }, kinds := [], alts := [], laidByText := true, laidKinds := [.data, .data, .data], laidTests := true, laidLooks := .later }
def GridsSolvesUptoCardSaid : Prop := Claim7.holds Tryz.pinned (.plain (OpenSpec.upto gridsSolvesSpec)) gridsSolvesUptoCard
end Rows
end Go.Proofs.YtkefmeddnncacaaGreatDoor
