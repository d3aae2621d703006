/-
  DERIVED. GIVEN WITH THE SEED: THE CARDS: each row of YtfadehkagbcjaaaGreatDoorRows.lean that lists a variable, with what it lists TIED to the program's text (the seventh form; the later family's looks); each row that meets fmt, with fmt's text TOLD by the authors' own Lean function (tested against real Go, not proved from fmt's source: count such statements apart). THE CARD IS WHAT COUNTS. Prove the row's statement (the work); the ties are given (YtfadehkagbcjaaaGreatDoorTie.lean); close each card by the builder's one call (the guide's Derived/Test/ToyasCard.lean, 'card_holds'). Laid BY PROGRAM, IN A SANDBOX (cutbox-door.mjs). By AI agents, Wed Nov 11 2026. No macro, syntax, notation, axiom, sorry.
-/
import Derived.Test.YtfadehkagbcjaaaGreatDoorRows
import GoSem.ClaimSeven
namespace Go.Proofs.YtfadehkagbcjaaaGreatDoor
namespace Rows

/-- THE TIED CARD OF 'assayerlaw02.IntsPairs'. -/
def intsPairsCard : Claim7 := { stood := { row := intsPairsRow, standIns := [], harness := (true, "70b298948a56a556c0ef1615e5c4f3348ec544ba9ee9e2969a86bcf028a1d15a"), looks := false }, kinds := [], alts := [], laidByText := true, laidKinds := [.data, .data, .data], laidTests := true, laidLooks := .later }
def IntsPairsCardSaid : Prop := Claim7.holds Tryz.pinned (.plain (OpenSpec.ofChange intsPairsSpec)) intsPairsCard

/-- THE TIED CARD OF 'assayerlaw09.NormsFits'. -/
def normsFitsCard : Claim7 := { stood := { row := normsFitsRow, standIns := [], harness := (true, "70b298948a56a556c0ef1615e5c4f3348ec544ba9ee9e2969a86bcf028a1d15a"), looks := false }, kinds := [], alts := [], laidByText := true, laidKinds := [.data], laidTests := true, laidLooks := .later }
def NormsFitsCardSaid : Prop := Claim7.holds Tryz.pinned (.plain (OpenSpec.ofChange normsFitsSpec)) normsFitsCard

/-- THE TIED CARD OF 'assayerlaw01.NatsDivs'. -/
def natsDivsCard : Claim7 := { stood := { row := natsDivsRow, standIns := [], harness := (true, "70b298948a56a556c0ef1615e5c4f3348ec544ba9ee9e2969a86bcf028a1d15a"), looks := false }, kinds := [], alts := [], laidByText := true, laidKinds := [.data, .data, .data], laidTests := true, laidLooks := .later }
def NatsDivsCardSaid : Prop := Claim7.holds Tryz.pinned (.plain (OpenSpec.ofChange natsDivsSpec)) natsDivsCard

/-- THE TIED CARD OF 'assayerlaw03.RatsMakes'. -/
def ratsMakesCard : Claim7 := { stood := { row := ratsMakesRow, standIns := [], harness := (true, "70b298948a56a556c0ef1615e5c4f3348ec544ba9ee9e2969a86bcf028a1d15a"), looks := false }, kinds := [], alts := [], laidByText := true, laidKinds := [.data, .data, .data], laidTests := true, laidLooks := .later }
def RatsMakesCardSaid : Prop := Claim7.holds Tryz.pinned (.plain (OpenSpec.ofChange ratsMakesSpec)) ratsMakesCard

/-- THE TIED CARD OF 'assayerlaw04.VecsAdds'. -/
def vecsAddsCard : Claim7 := { stood := { row := vecsAddsRow, standIns := [], harness := (true, "70b298948a56a556c0ef1615e5c4f3348ec544ba9ee9e2969a86bcf028a1d15a"), looks := false }, kinds := [], alts := [], laidByText := true, laidKinds := [.data, .data, .data], laidTests := true, laidLooks := .later }
def VecsAddsCardSaid : Prop := Claim7.holds Tryz.pinned (.plain (OpenSpec.ofChange vecsAddsSpec)) vecsAddsCard

/-- THE TIED CARD OF 'assayerlaw03.RatsPairs'. -/
def ratsPairsCard : Claim7 := { stood := { row := ratsPairsRow, standIns := [], harness := (true, "70b298948a56a556c0ef1615e5c4f3348ec544ba9ee9e2969a86bcf028a1d15a"), looks := false }, kinds := [], alts := [], laidByText := true, laidKinds := [.data, .data, .data], laidTests := true, laidLooks := .later }
def RatsPairsCardSaid : Prop := Claim7.holds Tryz.pinned (.plain (OpenSpec.ofChange ratsPairsSpec)) ratsPairsCard

/-- THE TIED CARD OF 'assayerlaw04.VecsDots'. -/
def vecsDotsCard : Claim7 := { stood := { row := vecsDotsRow, standIns := [], harness := (true, "70b298948a56a556c0ef1615e5c4f3348ec544ba9ee9e2969a86bcf028a1d15a"), looks := false }, kinds := [], alts := [], laidByText := true, laidKinds := [.data, .data, .data], laidTests := true, laidLooks := .later }
def VecsDotsCardSaid : Prop := Claim7.holds Tryz.pinned (.plain (OpenSpec.ofChange vecsDotsSpec)) vecsDotsCard

/-- THE TIED CARD OF 'assayerlaw01.NatsTexts'. -/
def natsTextsCard : Claim7 := { stood := { row := natsTextsRow, standIns := [], harness := (true, "70b298948a56a556c0ef1615e5c4f3348ec544ba9ee9e2969a86bcf028a1d15a"), looks := false }, kinds := [], alts := [], laidByText := true, laidKinds := [.data, .data, .data, .data, .pinned], laidTests := true, laidLooks := .later }
def NatsTextsCardSaid : Prop := Claim7.holds Tryz.pinned (.plain (OpenSpec.ofChange natsTextsSpec)) natsTextsCard

/-- THE TIED CARD OF 'assayerlaw02.IntsTexts'. -/
def intsTextsCard : Claim7 := { stood := { row := intsTextsRow, standIns := [], harness := (true, "70b298948a56a556c0ef1615e5c4f3348ec544ba9ee9e2969a86bcf028a1d15a"), looks := false }, kinds := [], alts := [], laidByText := true, laidKinds := [.data, .data, .data, .data, .pinned], laidTests := true, laidLooks := .later }
def IntsTextsCardSaid : Prop := Claim7.holds Tryz.pinned (.plain (OpenSpec.ofChange intsTextsSpec)) intsTextsCard

/-- THE TIED CARD OF 'assayerlaw03.RatsTexts'. -/
def ratsTextsCard : Claim7 := { stood := { row := ratsTextsRow, standIns := [], harness := (true, "70b298948a56a556c0ef1615e5c4f3348ec544ba9ee9e2969a86bcf028a1d15a"), looks := false }, kinds := [], alts := [], laidByText := true, laidKinds := [.data, .data, .data, .data, .pinned], laidTests := true, laidLooks := .later }
def RatsTextsCardSaid : Prop := Claim7.holds Tryz.pinned (.plain (OpenSpec.ofChange ratsTextsSpec)) ratsTextsCard

/-- THE SECOND FORM's CARD OF 'assayerlaw02.IntsPairs'. -/
def intsPairsUptoCard : Claim7 := { stood := { row := intsPairsUptoRow, standIns := [], harness := (true, "70b298948a56a556c0ef1615e5c4f3348ec544ba9ee9e2969a86bcf028a1d15a"), looks := false }, kinds := [], alts := [], laidByText := true, laidKinds := [.data, .data, .data], laidTests := true, laidLooks := .later }
def IntsPairsUptoCardSaid : Prop := Claim7.holds Tryz.pinned (.plain (OpenSpec.upto intsPairsSpec)) intsPairsUptoCard

/-- THE SECOND FORM's CARD OF 'assayerlaw09.NormsFits'. -/
def normsFitsUptoCard : Claim7 := { stood := { row := normsFitsUptoRow, standIns := [], harness := (true, "70b298948a56a556c0ef1615e5c4f3348ec544ba9ee9e2969a86bcf028a1d15a"), looks := false }, kinds := [], alts := [], laidByText := true, laidKinds := [.data], laidTests := true, laidLooks := .later }
def NormsFitsUptoCardSaid : Prop := Claim7.holds Tryz.pinned (.plain (OpenSpec.upto normsFitsSpec)) normsFitsUptoCard

/-- THE SECOND FORM's CARD OF 'assayerlaw01.NatsDivs'. -/
def natsDivsUptoCard : Claim7 := { stood := { row := natsDivsUptoRow, standIns := [], harness := (true, "70b298948a56a556c0ef1615e5c4f3348ec544ba9ee9e2969a86bcf028a1d15a"), looks := false }, kinds := [], alts := [], laidByText := true, laidKinds := [.data, .data, .data], laidTests := true, laidLooks := .later }
def NatsDivsUptoCardSaid : Prop := Claim7.holds Tryz.pinned (.plain (OpenSpec.upto natsDivsSpec)) natsDivsUptoCard

/-- THE SECOND FORM's CARD OF 'assayerlaw03.RatsMakes'. -/
def ratsMakesUptoCard : Claim7 := { stood := { row := ratsMakesUptoRow, standIns := [], harness := (true, "70b298948a56a556c0ef1615e5c4f3348ec544ba9ee9e2969a86bcf028a1d15a"), looks := false }, kinds := [], alts := [], laidByText := true, laidKinds := [.data, .data, .data], laidTests := true, laidLooks := .later }
def RatsMakesUptoCardSaid : Prop := Claim7.holds Tryz.pinned (.plain (OpenSpec.upto ratsMakesSpec)) ratsMakesUptoCard

/-- THE SECOND FORM's CARD OF 'assayerlaw04.VecsAdds'. -/
def vecsAddsUptoCard : Claim7 := { stood := { row := vecsAddsUptoRow, standIns := [], harness := (true, "70b298948a56a556c0ef1615e5c4f3348ec544ba9ee9e2969a86bcf028a1d15a"), looks := false }, kinds := [], alts := [], laidByText := true, laidKinds := [.data, .data, .data], laidTests := true, laidLooks := .later }
def VecsAddsUptoCardSaid : Prop := Claim7.holds Tryz.pinned (.plain (OpenSpec.upto vecsAddsSpec)) vecsAddsUptoCard

/-- THE SECOND FORM's CARD OF 'assayerlaw03.RatsPairs'. -/
def ratsPairsUptoCard : Claim7 := { stood := { row := ratsPairsUptoRow, standIns := [], harness := (true, "70b298948a56a556c0ef1615e5c4f3348ec544ba9ee9e2969a86bcf028a1d15a"), looks := false }, kinds := [], alts := [], laidByText := true, laidKinds := [.data, .data, .data], laidTests := true, laidLooks := .later }
def RatsPairsUptoCardSaid : Prop := Claim7.holds Tryz.pinned (.plain (OpenSpec.upto ratsPairsSpec)) ratsPairsUptoCard

/-- THE SECOND FORM's CARD OF 'assayerlaw04.VecsDots'. -/
def vecsDotsUptoCard : Claim7 := { stood := { row := vecsDotsUptoRow, standIns := [], harness := (true, "70b298948a56a556c0ef1615e5c4f3348ec544ba9ee9e2969a86bcf028a1d15a"), looks := false }, kinds := [], alts := [], laidByText := true, laidKinds := [.data, .data, .data], laidTests := true, laidLooks := .later }
def VecsDotsUptoCardSaid : Prop := Claim7.holds Tryz.pinned (.plain (OpenSpec.upto vecsDotsSpec)) vecsDotsUptoCard

/-- THE SECOND FORM's CARD OF 'assayerlaw01.NatsTexts'. -/
def natsTextsUptoCard : Claim7 := { stood := { row := natsTextsUptoRow, standIns := [], harness := (true, "70b298948a56a556c0ef1615e5c4f3348ec544ba9ee9e2969a86bcf028a1d15a"), looks := false }, kinds := [], alts := [], laidByText := true, laidKinds := [.data, .data, .data, .data, .pinned], laidTests := true, laidLooks := .later }
def NatsTextsUptoCardSaid : Prop := Claim7.holds Tryz.pinned (.plain (OpenSpec.upto natsTextsSpec)) natsTextsUptoCard

/-- THE SECOND FORM's CARD OF 'assayerlaw02.IntsTexts'. -/
def intsTextsUptoCard : Claim7 := { stood := { row := intsTextsUptoRow, standIns := [], harness := (true, "70b298948a56a556c0ef1615e5c4f3348ec544ba9ee9e2969a86bcf028a1d15a"), looks := false }, kinds := [], alts := [], laidByText := true, laidKinds := [.data, .data, .data, .data, .pinned], laidTests := true, laidLooks := .later }
def IntsTextsUptoCardSaid : Prop := Claim7.holds Tryz.pinned (.plain (OpenSpec.upto intsTextsSpec)) intsTextsUptoCard

/-- THE SECOND FORM's CARD OF 'assayerlaw03.RatsTexts'. -/
def ratsTextsUptoCard : Claim7 := { stood := { row := ratsTextsUptoRow, standIns := [], harness := (true, "70b298948a56a556c0ef1615e5c4f3348ec544ba9ee9e2969a86bcf028a1d15a"), looks := false }, kinds := [], alts := [], laidByText := true, laidKinds := [.data, .data, .data, .data, .pinned], laidTests := true, laidLooks := .later }
def RatsTextsUptoCardSaid : Prop := Claim7.holds Tryz.pinned (.plain (OpenSpec.upto ratsTextsSpec)) ratsTextsUptoCard
end Rows
end Go.Proofs.YtfadehkagbcjaaaGreatDoor
