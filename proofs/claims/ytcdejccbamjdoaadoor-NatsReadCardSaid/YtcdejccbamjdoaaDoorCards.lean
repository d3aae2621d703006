/-
  DERIVED. GIVEN WITH THE SEED: THE CARDS: each row of YtcdejccbamjdoaaDoorRows.lean that lists a variable, with what it lists TIED to the program's text (the seventh form; the later family's looks); each row that meets fmt, with fmt's text TOLD by the authors' own Lean function (tested against real Go, not proved from fmt's source: count such statements apart). THE CARD IS WHAT COUNTS. Prove the row's statement (the work); the ties are given (YtcdejccbamjdoaaDoorTie.lean); close each card by the builder's one call (the guide's Derived/Test/ToyasCard.lean, 'card_holds'). Laid BY PROGRAM, IN A SANDBOX (cutbox-door.mjs). By AI agents, Wed Nov 11 2026. No macro, syntax, notation, axiom, sorry.
-/
import Derived.Test.YtcdejccbamjdoaaDoorRows
import GoSem.ClaimSeven
namespace Go.Proofs.YtcdejccbamjdoaaDoor
namespace Rows

/-- THE TIED CARD OF 'assayerlaw02.IntsRing'. -/
def intsRingCard : Claim7 := { stood := { row := intsRingRow, standIns := [], harness := (true, "185ab01d8cd6756a3d75bb5e0ab4ed37b0b33cbcedb449b350edb1def020c579"), looks := false }, kinds := [], alts := [], laidByText := true, laidKinds := [.data, .pinned], laidTests := true, laidLooks := .later }
def IntsRingCardSaid : Prop := Claim7.holds Tryd.pinned (.plain (OpenSpec.ofChange intsRingSpec)) intsRingCard

/-- THE TIED CARD OF 'assayerlaw02.IntsOrder'. -/
def intsOrderCard : Claim7 := { stood := { row := intsOrderRow, standIns := [], harness := (true, "185ab01d8cd6756a3d75bb5e0ab4ed37b0b33cbcedb449b350edb1def020c579"), looks := false }, kinds := [], alts := [], laidByText := true, laidKinds := [.data, .pinned], laidTests := true, laidLooks := .later }
def IntsOrderCardSaid : Prop := Claim7.holds Tryd.pinned (.plain (OpenSpec.ofChange intsOrderSpec)) intsOrderCard

/-- THE TIED CARD OF 'assayerlaw02.IntsTurned'. -/
def intsTurnedCard : Claim7 := { stood := { row := intsTurnedRow, standIns := [], harness := (true, "185ab01d8cd6756a3d75bb5e0ab4ed37b0b33cbcedb449b350edb1def020c579"), looks := false }, kinds := [], alts := [], laidByText := true, laidKinds := [.data, .pinned], laidTests := true, laidLooks := .later }
def IntsTurnedCardSaid : Prop := Claim7.holds Tryd.pinned (.plain (OpenSpec.ofChange intsTurnedSpec)) intsTurnedCard

/-- THE TIED CARD OF 'assayerlaw02.IntsRead'. -/
def intsReadCard : Claim7 := { stood := { row := intsReadRow, standIns := [], harness := (true, "185ab01d8cd6756a3d75bb5e0ab4ed37b0b33cbcedb449b350edb1def020c579"), looks := false }, kinds := [], alts := [], laidByText := true, laidKinds := [.data, .pinned], laidTests := true, laidLooks := .later }
def IntsReadCardSaid : Prop := Claim7.holds Tryd.pinned (.plain (OpenSpec.ofChange intsReadSpec)) intsReadCard

/-- THE TIED CARD OF 'assayerlaw02.IntsSmall'. -/
def intsSmallCard : Claim7 := { stood := { row := intsSmallRow, standIns := [], harness := (true, "185ab01d8cd6756a3d75bb5e0ab4ed37b0b33cbcedb449b350edb1def020c579"), looks := false }, kinds := [], alts := [], laidByText := true, laidKinds := [.data, .pinned], laidTests := true, laidLooks := .later }
def IntsSmallCardSaid : Prop := Claim7.holds Tryd.pinned (.plain (OpenSpec.ofChange intsSmallSpec)) intsSmallCard

/-- THE TIED CARD OF 'assayerlaw02.IntsAmounts'. -/
def intsAmountsCard : Claim7 := { stood := { row := intsAmountsRow, standIns := [], harness := (true, "185ab01d8cd6756a3d75bb5e0ab4ed37b0b33cbcedb449b350edb1def020c579"), looks := false }, kinds := [], alts := [], laidByText := true, laidKinds := [.data, .pinned], laidTests := true, laidLooks := .later }
def IntsAmountsCardSaid : Prop := Claim7.holds Tryd.pinned (.plain (OpenSpec.ofChange intsAmountsSpec)) intsAmountsCard

/-- THE TIED CARD OF 'assayerlaw01.NatsRing'. -/
def natsRingCard : Claim7 := { stood := { row := natsRingRow, standIns := [], harness := (true, "185ab01d8cd6756a3d75bb5e0ab4ed37b0b33cbcedb449b350edb1def020c579"), looks := false }, kinds := [], alts := [], laidByText := true, laidKinds := [.data, .data, .pinned], laidTests := true, laidLooks := .later }
def NatsRingCardSaid : Prop := Claim7.holds Tryd.pinned (.plain (OpenSpec.ofChange natsRingSpec)) natsRingCard

/-- THE TIED CARD OF 'assayerlaw01.NatsOften'. -/
def natsOftenCard : Claim7 := { stood := { row := natsOftenRow, standIns := [], harness := (true, "185ab01d8cd6756a3d75bb5e0ab4ed37b0b33cbcedb449b350edb1def020c579"), looks := false }, kinds := [], alts := [], laidByText := true, laidKinds := [.data, .data, .pinned], laidTests := true, laidLooks := .later }
def NatsOftenCardSaid : Prop := Claim7.holds Tryd.pinned (.plain (OpenSpec.ofChange natsOftenSpec)) natsOftenCard

/-- THE TIED CARD OF 'assayerlaw01.NatsUndone'. -/
def natsUndoneCard : Claim7 := { stood := { row := natsUndoneRow, standIns := [], harness := (true, "185ab01d8cd6756a3d75bb5e0ab4ed37b0b33cbcedb449b350edb1def020c579"), looks := false }, kinds := [], alts := [], laidByText := true, laidKinds := [.data, .data, .pinned], laidTests := true, laidLooks := .later }
def NatsUndoneCardSaid : Prop := Claim7.holds Tryd.pinned (.plain (OpenSpec.ofChange natsUndoneSpec)) natsUndoneCard

/-- THE TIED CARD OF 'assayerlaw01.NatsGreatest'. -/
def natsGreatestCard : Claim7 := { stood := { row := natsGreatestRow, standIns := [], harness := (true, "185ab01d8cd6756a3d75bb5e0ab4ed37b0b33cbcedb449b350edb1def020c579"), looks := false }, kinds := [], alts := [], laidByText := true, laidKinds := [.data, .data, .pinned], laidTests := true, laidLooks := .later }
def NatsGreatestCardSaid : Prop := Claim7.holds Tryd.pinned (.plain (OpenSpec.ofChange natsGreatestSpec)) natsGreatestCard

/-- THE TIED CARD OF 'assayerlaw01.NatsRead'. -/
def natsReadCard : Claim7 := { stood := { row := natsReadRow, standIns := [], harness := (true, "185ab01d8cd6756a3d75bb5e0ab4ed37b0b33cbcedb449b350edb1def020c579"), looks := false }, kinds := [], alts := [], laidByText := true, laidKinds := [.data, .data, .pinned], laidTests := true, laidLooks := .later }
def NatsReadCardSaid : Prop := Claim7.holds Tryd.pinned (.plain (OpenSpec.ofChange natsReadSpec)) natsReadCard

/-- THE TIED CARD OF 'assayerlaw01.NatsSmall'. -/
def natsSmallCard : Claim7 := { stood := { row := natsSmallRow, standIns := [], harness := (true, "185ab01d8cd6756a3d75bb5e0ab4ed37b0b33cbcedb449b350edb1def020c579"), looks := false }, kinds := [], alts := [], laidByText := true, laidKinds := [.data, .data, .pinned], laidTests := true, laidLooks := .later }
def NatsSmallCardSaid : Prop := Claim7.holds Tryd.pinned (.plain (OpenSpec.ofChange natsSmallSpec)) natsSmallCard

/-- THE TIED CARD OF 'assayerlaw01.NatsNone'. -/
def natsNoneCard : Claim7 := { stood := { row := natsNoneRow, standIns := [], harness := (true, "185ab01d8cd6756a3d75bb5e0ab4ed37b0b33cbcedb449b350edb1def020c579"), looks := false }, kinds := [], alts := [], laidByText := true, laidKinds := [.data, .data, .pinned], laidTests := true, laidLooks := .later }
def NatsNoneCardSaid : Prop := Claim7.holds Tryd.pinned (.plain (OpenSpec.ofChange natsNoneSpec)) natsNoneCard

/-- THE TIED CARD OF 'assayerlaw01.NatsShift'. -/
def natsShiftCard : Claim7 := { stood := { row := natsShiftRow, standIns := [], harness := (true, "185ab01d8cd6756a3d75bb5e0ab4ed37b0b33cbcedb449b350edb1def020c579"), looks := false }, kinds := [], alts := [], laidByText := true, laidKinds := [.data, .data, .pinned], laidTests := true, laidLooks := .later }
def NatsShiftCardSaid : Prop := Claim7.holds Tryd.pinned (.plain (OpenSpec.ofChange natsShiftSpec)) natsShiftCard

/-- THE SECOND FORM's CARD OF 'assayerlaw02.IntsRing'. -/
def intsRingUptoCard : Claim7 := { stood := { row := intsRingUptoRow, standIns := [], harness := (true, "185ab01d8cd6756a3d75bb5e0ab4ed37b0b33cbcedb449b350edb1def020c579"), looks := false }, kinds := [], alts := [], laidByText := true, laidKinds := [.data, .pinned], laidTests := true, laidLooks := .later }
def IntsRingUptoCardSaid : Prop := Claim7.holds Tryd.pinned (.plain (OpenSpec.upto intsRingSpec)) intsRingUptoCard

/-- THE SECOND FORM's CARD OF 'assayerlaw02.IntsOrder'. -/
def intsOrderUptoCard : Claim7 := { stood := { row := intsOrderUptoRow, standIns := [], harness := (true, "185ab01d8cd6756a3d75bb5e0ab4ed37b0b33cbcedb449b350edb1def020c579"), looks := false }, kinds := [], alts := [], laidByText := true, laidKinds := [.data, .pinned], laidTests := true, laidLooks := .later }
def IntsOrderUptoCardSaid : Prop := Claim7.holds Tryd.pinned (.plain (OpenSpec.upto intsOrderSpec)) intsOrderUptoCard

/-- THE SECOND FORM's CARD OF 'assayerlaw02.IntsTurned'. -/
def intsTurnedUptoCard : Claim7 := { stood := { row := intsTurnedUptoRow, standIns := [], harness := (true, "185ab01d8cd6756a3d75bb5e0ab4ed37b0b33cbcedb449b350edb1def020c579"), looks := false }, kinds := [], alts := [], laidByText := true, laidKinds := [.data, .pinned], laidTests := true, laidLooks := .later }
def IntsTurnedUptoCardSaid : Prop := Claim7.holds Tryd.pinned (.plain (OpenSpec.upto intsTurnedSpec)) intsTurnedUptoCard

/-- THE SECOND FORM's CARD OF 'assayerlaw02.IntsRead'. -/
def intsReadUptoCard : Claim7 := { stood := { row := intsReadUptoRow, standIns := [], harness := (true, "185ab01d8cd6756a3d75bb5e0ab4ed37b0b33cbcedb449b350edb1def020c579"), looks := false }, kinds := [], alts := [], laidByText := true, laidKinds := [.data, .pinned], laidTests := true, laidLooks := .later }
def IntsReadUptoCardSaid : Prop := Claim7.holds Tryd.pinned (.plain (OpenSpec.upto intsReadSpec)) intsReadUptoCard

/-- THE SECOND FORM's CARD OF 'assayerlaw02.IntsSmall'. -/
def intsSmallUptoCard : Claim7 := { stood := { row := intsSmallUptoRow, standIns := [], harness := (true, "185ab01d8cd6756a3d75bb5e0ab4ed37b0b33cbcedb449b350edb1def020c579"), looks := false }, kinds := [], alts := [], laidByText := true, laidKinds := [.data, .pinned], laidTests := true, laidLooks := .later }
def IntsSmallUptoCardSaid : Prop := Claim7.holds Tryd.pinned (.plain (OpenSpec.upto intsSmallSpec)) intsSmallUptoCard

/-- THE SECOND FORM's CARD OF 'assayerlaw02.IntsAmounts'. -/
def intsAmountsUptoCard : Claim7 := { stood := { row := intsAmountsUptoRow, standIns := [], harness := (true, "185ab01d8cd6756a3d75bb5e0ab4ed37b0b33cbcedb449b350edb1def020c579"), looks := false }, kinds := [], alts := [], laidByText := true, laidKinds := [.data, .pinned], laidTests := true, laidLooks := .later }
def IntsAmountsUptoCardSaid : Prop := Claim7.holds Tryd.pinned (.plain (OpenSpec.upto intsAmountsSpec)) intsAmountsUptoCard

/-- THE SECOND FORM's CARD OF 'assayerlaw01.NatsRing'. -/
def natsRingUptoCard : Claim7 := { stood := { row := natsRingUptoRow, standIns := [], harness := (true, "185ab01d8cd6756a3d75bb5e0ab4ed37b0b33cbcedb449b350edb1def020c579"), looks := false }, kinds := [], alts := [], laidByText := true, laidKinds := [.data, .data, .pinned], laidTests := true, laidLooks := .later }
def NatsRingUptoCardSaid : Prop := Claim7.holds Tryd.pinned (.plain (OpenSpec.upto natsRingSpec)) natsRingUptoCard

/-- THE SECOND FORM's CARD OF 'assayerlaw01.NatsOften'. -/
def natsOftenUptoCard : Claim7 := { stood := { row := natsOftenUptoRow, standIns := [], harness := (true, "185ab01d8cd6756a3d75bb5e0ab4ed37b0b33cbcedb449b350edb1def020c579"), looks := false }, kinds := [], alts := [], laidByText := true, laidKinds := [.data, .data, .pinned], laidTests := true, laidLooks := .later }
def NatsOftenUptoCardSaid : Prop := Claim7.holds Tryd.pinned (.plain (OpenSpec.upto natsOftenSpec)) natsOftenUptoCard

/-- THE SECOND FORM's CARD OF 'assayerlaw01.NatsUndone'. -/
def natsUndoneUptoCard : Claim7 := { stood := { row := natsUndoneUptoRow, standIns := [], harness := (true, "185ab01d8cd6756a3d75bb5e0ab4ed37b0b33cbcedb449b350edb1def020c579"), looks := false }, kinds := [], alts := [], laidByText := true, laidKinds := [.data, .data, .pinned], laidTests := true, laidLooks := .later }
def NatsUndoneUptoCardSaid : Prop := Claim7.holds Tryd.pinned (.plain (OpenSpec.upto natsUndoneSpec)) natsUndoneUptoCard

/-- THE SECOND FORM's CARD OF 'assayerlaw01.NatsGreatest'. -/
def natsGreatestUptoCard : Claim7 := { stood := { row := natsGreatestUptoRow, standIns := [], harness := (true, "185ab01d8cd6756a3d75bb5e0ab4ed37b0b33cbcedb449b350edb1def020c579"), looks := false }, kinds := [], alts := [], laidByText := true, laidKinds := [.data, .data, .pinned], laidTests := true, laidLooks := .later }
def NatsGreatestUptoCardSaid : Prop := Claim7.holds Tryd.pinned (.plain (OpenSpec.upto natsGreatestSpec)) natsGreatestUptoCard

/-- THE SECOND FORM's CARD OF 'assayerlaw01.NatsRead'. -/
def natsReadUptoCard : Claim7 := { stood := { row := natsReadUptoRow, standIns := [], harness := (true, "185ab01d8cd6756a3d75bb5e0ab4ed37b0b33cbcedb449b350edb1def020c579"), looks := false }, kinds := [], alts := [], laidByText := true, laidKinds := [.data, .data, .pinned], laidTests := true, laidLooks := .later }
def NatsReadUptoCardSaid : Prop := Claim7.holds Tryd.pinned (.plain (OpenSpec.upto natsReadSpec)) natsReadUptoCard

/-- THE SECOND FORM's CARD OF 'assayerlaw01.NatsSmall'. -/
def natsSmallUptoCard : Claim7 := { stood := { row := natsSmallUptoRow, standIns := [], harness := (true, "185ab01d8cd6756a3d75bb5e0ab4ed37b0b33cbcedb449b350edb1def020c579"), looks := false }, kinds := [], alts := [], laidByText := true, laidKinds := [.data, .data, .pinned], laidTests := true, laidLooks := .later }
def NatsSmallUptoCardSaid : Prop := Claim7.holds Tryd.pinned (.plain (OpenSpec.upto natsSmallSpec)) natsSmallUptoCard

/-- THE SECOND FORM's CARD OF 'assayerlaw01.NatsNone'. -/
def natsNoneUptoCard : Claim7 := { stood := { row := natsNoneUptoRow, standIns := [], harness := (true, "185ab01d8cd6756a3d75bb5e0ab4ed37b0b33cbcedb449b350edb1def020c579"), looks := false }, kinds := [], alts := [], laidByText := true, laidKinds := [.data, .data, .pinned], laidTests := true, laidLooks := .later }
def NatsNoneUptoCardSaid : Prop := Claim7.holds Tryd.pinned (.plain (OpenSpec.upto natsNoneSpec)) natsNoneUptoCard

/-- THE SECOND FORM's CARD OF 'assayerlaw01.NatsShift'. -/
def natsShiftUptoCard : Claim7 := { stood := { row := natsShiftUptoRow, standIns := [], harness := (true, "185ab01d8cd6756a3d75bb5e0ab4ed37b0b33cbcedb449b350edb1def020c579"), looks := false }, kinds := [], alts := [], laidByText := true, laidKinds := [.data, .data, .pinned], laidTests := true, laidLooks := .later }
def NatsShiftUptoCardSaid : Prop := Claim7.holds Tryd.pinned (.plain (OpenSpec.upto natsShiftSpec)) natsShiftUptoCard
end Rows
end Go.Proofs.YtcdejccbamjdoaaDoor
