/-
  DERIVED. GIVEN WITH THE SEED: THE CARDS: each row of YtnpfochbpdfcmaaDoorRows.lean that lists a variable, with what it lists TIED to the program's text (the seventh form; the later family's looks); each row that meets fmt, with fmt's text TOLD by the authors' own Lean function (tested against real Go, not proved from fmt's source: count such statements apart). THE CARD IS WHAT COUNTS. Prove the row's statement (the work); the ties are given (YtnpfochbpdfcmaaDoorTie.lean); close each card by the builder's one call (the guide's Derived/Test/ToyasCard.lean, 'card_holds'). Laid BY PROGRAM, IN A SANDBOX (cutbox-door.mjs). By AI agents, Wed Nov 11 2026. No macro, syntax, notation, axiom, sorry.
-/
import Derived.Test.YtnpfochbpdfcmaaDoorRows
import GoSem.ClaimSeven
namespace Go.Proofs.YtnpfochbpdfcmaaDoor
namespace Rows

/-- THE TIED CARD OF 'assayerlaw01.NatsSmall'. -/
def natsSmallCard : Claim7 := { stood := { row := natsSmallRow, standIns := [], harness := (true, "ef9a3e0c2ff179b65683e9d8f6f8abf1c9318f029f009181b54db621975bb8c5"), looks := false }, kinds := [], alts := [], laidByText := true, laidKinds := [.data, .data, .pinned], laidTests := true, laidLooks := .later }
def NatsSmallCardSaid : Prop := Claim7.holds Tryd.pinned (.plain (OpenSpec.ofChange natsSmallSpec)) natsSmallCard

/-- THE TIED CARD OF 'assayerlaw01.NatsNone'. -/
def natsNoneCard : Claim7 := { stood := { row := natsNoneRow, standIns := [], harness := (true, "ef9a3e0c2ff179b65683e9d8f6f8abf1c9318f029f009181b54db621975bb8c5"), looks := false }, kinds := [], alts := [], laidByText := true, laidKinds := [.data, .data, .pinned], laidTests := true, laidLooks := .later }
def NatsNoneCardSaid : Prop := Claim7.holds Tryd.pinned (.plain (OpenSpec.ofChange natsNoneSpec)) natsNoneCard

/-- THE TIED CARD OF 'assayerlaw01.NatsShift'. -/
def natsShiftCard : Claim7 := { stood := { row := natsShiftRow, standIns := [], harness := (true, "ef9a3e0c2ff179b65683e9d8f6f8abf1c9318f029f009181b54db621975bb8c5"), looks := false }, kinds := [], alts := [], laidByText := true, laidKinds := [.data, .data, .pinned], laidTests := true, laidLooks := .later }
def NatsShiftCardSaid : Prop := Claim7.holds Tryd.pinned (.plain (OpenSpec.ofChange natsShiftSpec)) natsShiftCard

/-- THE TIED CARD OF 'assayerlaw04.VecsScaled'. -/
def vecsScaledCard : Claim7 := { stood := { row := vecsScaledRow, standIns := [], harness := (true, "ef9a3e0c2ff179b65683e9d8f6f8abf1c9318f029f009181b54db621975bb8c5"), looks := false }, kinds := [], alts := [], laidByText := true, laidKinds := [.data, .data, .pinned], laidTests := true, laidLooks := .later }
def VecsScaledCardSaid : Prop := Claim7.holds Tryd.pinned (.plain (OpenSpec.ofChange vecsScaledSpec)) vecsScaledCard

/-- THE SECOND FORM's CARD OF 'assayerlaw01.NatsSmall'. -/
def natsSmallUptoCard : Claim7 := { stood := { row := natsSmallUptoRow, standIns := [], harness := (true, "ef9a3e0c2ff179b65683e9d8f6f8abf1c9318f029f009181b54db621975bb8c5"), looks := false }, kinds := [], alts := [], laidByText := true, laidKinds := [.data, .data, .pinned], laidTests := true, laidLooks := .later }
def NatsSmallUptoCardSaid : Prop := Claim7.holds Tryd.pinned (.plain (OpenSpec.upto natsSmallSpec)) natsSmallUptoCard

/-- THE SECOND FORM's CARD OF 'assayerlaw01.NatsNone'. -/
def natsNoneUptoCard : Claim7 := { stood := { row := natsNoneUptoRow, standIns := [], harness := (true, "ef9a3e0c2ff179b65683e9d8f6f8abf1c9318f029f009181b54db621975bb8c5"), looks := false }, kinds := [], alts := [], laidByText := true, laidKinds := [.data, .data, .pinned], laidTests := true, laidLooks := .later }
def NatsNoneUptoCardSaid : Prop := Claim7.holds Tryd.pinned (.plain (OpenSpec.upto natsNoneSpec)) natsNoneUptoCard

/-- THE SECOND FORM's CARD OF 'assayerlaw01.NatsShift'. -/
def natsShiftUptoCard : Claim7 := { stood := { row := natsShiftUptoRow, standIns := [], harness := (true, "ef9a3e0c2ff179b65683e9d8f6f8abf1c9318f029f009181b54db621975bb8c5"), looks := false }, kinds := [], alts := [], laidByText := true, laidKinds := [.data, .data, .pinned], laidTests := true, laidLooks := .later }
def NatsShiftUptoCardSaid : Prop := Claim7.holds Tryd.pinned (.plain (OpenSpec.upto natsShiftSpec)) natsShiftUptoCard

/-- THE SECOND FORM's CARD OF 'assayerlaw04.VecsScaled'. -/
def vecsScaledUptoCard : Claim7 := { stood := { row := vecsScaledUptoRow, standIns := [], harness := (true, "ef9a3e0c2ff179b65683e9d8f6f8abf1c9318f029f009181b54db621975bb8c5"), looks := false }, kinds := [], alts := [], laidByText := true, laidKinds := [.data, .data, .pinned], laidTests := true, laidLooks := .later }
def VecsScaledUptoCardSaid : Prop := Claim7.holds Tryd.pinned (.plain (OpenSpec.upto vecsScaledSpec)) vecsScaledUptoCard
end Rows
end Go.Proofs.YtnpfochbpdfcmaaDoor
