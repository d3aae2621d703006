/-
  DERIVED. GIVEN WITH THE SEED: THE CARDS: each row of YthnhcbdecgkacaaGreatDoorRows.lean that lists a variable, with what it lists TIED to the program's text (the seventh form; the later family's looks); each row that meets fmt, with fmt's text TOLD by the authors' own Lean function (tested against real Go, not proved from fmt's source: count such statements apart). THE CARD IS WHAT COUNTS. Prove the row's statement (the work); the ties are given (YthnhcbdecgkacaaGreatDoorTie.lean); close each card by the builder's one call (the guide's Derived/Test/ToyasCard.lean, 'card_holds'). Laid BY PROGRAM, IN A SANDBOX (cutbox-door.mjs). By AI agents, Wed Nov 11 2026. No macro, syntax, notation, axiom, sorry.
-/
import Derived.Test.YthnhcbdecgkacaaGreatDoorRows
import GoSem.ClaimSeven
namespace Go.Proofs.YthnhcbdecgkacaaGreatDoor
namespace Rows

/-- THE TIED CARD OF 'assayerlaw01.NatsPairs'. -/
def natsPairsCard : Claim7 := { stood := { row := natsPairsRow, standIns := [], harness := (true, "a4c727553f58f2ba2c4cabfcbf36e11b0ca3cb9b05d996235fb06b712ce86f0e"), looks := false }, kinds := [], alts := [], laidByText := true, laidKinds := [.data, .data, .data], laidTests := true, laidLooks := .later }
def NatsPairsCardSaid : Prop := Claim7.holds Tryz.pinned (.plain (OpenSpec.ofChange natsPairsSpec)) natsPairsCard

/-- THE TIED CARD OF 'assayerlaw02.IntsPairs'. -/
def intsPairsCard : Claim7 := { stood := { row := intsPairsRow, standIns := [], harness := (true, "a4c727553f58f2ba2c4cabfcbf36e11b0ca3cb9b05d996235fb06b712ce86f0e"), looks := false }, kinds := [], alts := [], laidByText := true, laidKinds := [.data, .data, .data], laidTests := true, laidLooks := .later }
def IntsPairsCardSaid : Prop := Claim7.holds Tryz.pinned (.plain (OpenSpec.ofChange intsPairsSpec)) intsPairsCard

/-- THE TIED CARD OF 'assayerlaw04.VecsLinear'. -/
def vecsLinearCard : Claim7 := { stood := { row := vecsLinearRow, standIns := [], harness := (true, "a4c727553f58f2ba2c4cabfcbf36e11b0ca3cb9b05d996235fb06b712ce86f0e"), looks := false }, kinds := [], alts := [], laidByText := true, laidKinds := [.data, .data, .pinned], laidTests := true, laidLooks := .later }
def VecsLinearCardSaid : Prop := Claim7.holds Tryz.pinned (.plain (OpenSpec.ofChange vecsLinearSpec)) vecsLinearCard

/-- THE TIED CARD OF 'assayerlaw04.VecsParts'. -/
def vecsPartsCard : Claim7 := { stood := { row := vecsPartsRow, standIns := [], harness := (true, "a4c727553f58f2ba2c4cabfcbf36e11b0ca3cb9b05d996235fb06b712ce86f0e"), looks := false }, kinds := [], alts := [], laidByText := true, laidKinds := [.data, .data, .pinned], laidTests := true, laidLooks := .later }
def VecsPartsCardSaid : Prop := Claim7.holds Tryz.pinned (.plain (OpenSpec.ofChange vecsPartsSpec)) vecsPartsCard

/-- THE TIED CARD OF 'assayerlaw04.VecsTurned'. -/
def vecsTurnedCard : Claim7 := { stood := { row := vecsTurnedRow, standIns := [], harness := (true, "a4c727553f58f2ba2c4cabfcbf36e11b0ca3cb9b05d996235fb06b712ce86f0e"), looks := false }, kinds := [], alts := [], laidByText := true, laidKinds := [.data, .data, .pinned], laidTests := true, laidLooks := .later }
def VecsTurnedCardSaid : Prop := Claim7.holds Tryz.pinned (.plain (OpenSpec.ofChange vecsTurnedSpec)) vecsTurnedCard

/-- THE TIED CARD OF 'assayerlaw04.VecsBack'. -/
def vecsBackCard : Claim7 := { stood := { row := vecsBackRow, standIns := [], harness := (true, "a4c727553f58f2ba2c4cabfcbf36e11b0ca3cb9b05d996235fb06b712ce86f0e"), looks := false }, kinds := [], alts := [], laidByText := true, laidKinds := [.data, .data, .pinned], laidTests := true, laidLooks := .later }
def VecsBackCardSaid : Prop := Claim7.holds Tryz.pinned (.plain (OpenSpec.ofChange vecsBackSpec)) vecsBackCard

/-- THE TIED CARD OF 'assayerlaw04.VecsOdd'. -/
def vecsOddCard : Claim7 := { stood := { row := vecsOddRow, standIns := [], harness := (true, "a4c727553f58f2ba2c4cabfcbf36e11b0ca3cb9b05d996235fb06b712ce86f0e"), looks := false }, kinds := [], alts := [], laidByText := true, laidKinds := [.data, .data, .pinned], laidTests := true, laidLooks := .later }
def VecsOddCardSaid : Prop := Claim7.holds Tryz.pinned (.plain (OpenSpec.ofChange vecsOddSpec)) vecsOddCard

/-- THE SECOND FORM's CARD OF 'assayerlaw01.NatsPairs'. -/
def natsPairsUptoCard : Claim7 := { stood := { row := natsPairsUptoRow, standIns := [], harness := (true, "a4c727553f58f2ba2c4cabfcbf36e11b0ca3cb9b05d996235fb06b712ce86f0e"), looks := false }, kinds := [], alts := [], laidByText := true, laidKinds := [.data, .data, .data], laidTests := true, laidLooks := .later }
def NatsPairsUptoCardSaid : Prop := Claim7.holds Tryz.pinned (.plain (OpenSpec.upto natsPairsSpec)) natsPairsUptoCard

/-- THE SECOND FORM's CARD OF 'assayerlaw02.IntsPairs'. -/
def intsPairsUptoCard : Claim7 := { stood := { row := intsPairsUptoRow, standIns := [], harness := (true, "a4c727553f58f2ba2c4cabfcbf36e11b0ca3cb9b05d996235fb06b712ce86f0e"), looks := false }, kinds := [], alts := [], laidByText := true, laidKinds := [.data, .data, .data], laidTests := true, laidLooks := .later }
def IntsPairsUptoCardSaid : Prop := Claim7.holds Tryz.pinned (.plain (OpenSpec.upto intsPairsSpec)) intsPairsUptoCard

/-- THE SECOND FORM's CARD OF 'assayerlaw04.VecsLinear'. -/
def vecsLinearUptoCard : Claim7 := { stood := { row := vecsLinearUptoRow, standIns := [], harness := (true, "a4c727553f58f2ba2c4cabfcbf36e11b0ca3cb9b05d996235fb06b712ce86f0e"), looks := false }, kinds := [], alts := [], laidByText := true, laidKinds := [.data, .data, .pinned], laidTests := true, laidLooks := .later }
def VecsLinearUptoCardSaid : Prop := Claim7.holds Tryz.pinned (.plain (OpenSpec.upto vecsLinearSpec)) vecsLinearUptoCard

/-- THE SECOND FORM's CARD OF 'assayerlaw04.VecsParts'. -/
def vecsPartsUptoCard : Claim7 := { stood := { row := vecsPartsUptoRow, standIns := [], harness := (true, "a4c727553f58f2ba2c4cabfcbf36e11b0ca3cb9b05d996235fb06b712ce86f0e"), looks := false }, kinds := [], alts := [], laidByText := true, laidKinds := [.data, .data, .pinned], laidTests := true, laidLooks := .later }
def VecsPartsUptoCardSaid : Prop := Claim7.holds Tryz.pinned (.plain (OpenSpec.upto vecsPartsSpec)) vecsPartsUptoCard

/-- THE SECOND FORM's CARD OF 'assayerlaw04.VecsTurned'. -/
def vecsTurnedUptoCard : Claim7 := { stood := { row := vecsTurnedUptoRow, standIns := [], harness := (true, "a4c727553f58f2ba2c4cabfcbf36e11b0ca3cb9b05d996235fb06b712ce86f0e"), looks := false }, kinds := [], alts := [], laidByText := true, laidKinds := [.data, .data, .pinned], laidTests := true, laidLooks := .later }
def VecsTurnedUptoCardSaid : Prop := Claim7.holds Tryz.pinned (.plain (OpenSpec.upto vecsTurnedSpec)) vecsTurnedUptoCard

/-- THE SECOND FORM's CARD OF 'assayerlaw04.VecsBack'. -/
def vecsBackUptoCard : Claim7 := { stood := { row := vecsBackUptoRow, standIns := [], harness := (true, "a4c727553f58f2ba2c4cabfcbf36e11b0ca3cb9b05d996235fb06b712ce86f0e"), looks := false }, kinds := [], alts := [], laidByText := true, laidKinds := [.data, .data, .pinned], laidTests := true, laidLooks := .later }
def VecsBackUptoCardSaid : Prop := Claim7.holds Tryz.pinned (.plain (OpenSpec.upto vecsBackSpec)) vecsBackUptoCard

/-- THE SECOND FORM's CARD OF 'assayerlaw04.VecsOdd'. -/
def vecsOddUptoCard : Claim7 := { stood := { row := vecsOddUptoRow, standIns := [], harness := (true, "a4c727553f58f2ba2c4cabfcbf36e11b0ca3cb9b05d996235fb06b712ce86f0e"), looks := false }, kinds := [], alts := [], laidByText := true, laidKinds := [.data, .data, .pinned], laidTests := true, laidLooks := .later }
def VecsOddUptoCardSaid : Prop := Claim7.holds Tryz.pinned (.plain (OpenSpec.upto vecsOddSpec)) vecsOddUptoCard
end Rows
end Go.Proofs.YthnhcbdecgkacaaGreatDoor
