/- laws of ints that compare texts: words. -/
import Derived.Test.YtkefmeddnncacaaGreatDoorRs
import Derived.Test.YtkefmeddnncacaaGreatDoorBm
set_option linter.unusedVariables false
set_option linter.unusedSimpArgs false
set_option maxRecDepth 100000
namespace Go.Proofs.YtkefmeddnncacaaGreatDoor
open Go.RowKit

def itxB (z : Int) : ByteArray := ⟨(bts (itxt z)).toArray⟩
def ipK (s : ByteArray) : Int := if isNum (isgn (byt s)).2 = true then if (isgn (byt s)).2.length ≤ 200 then if (isgn (byt s)).1 = true ∧ num (isgn (byt s)).2 = 0 then 4 else 0 else 3 else 4
def ipV (s : ByteArray) : Int := if isNum (isgn (byt s)).2 = true then if (isgn (byt s)).2.length ≤ 200 then if (isgn (byt s)).1 = true ∧ num (isgn (byt s)).2 = 0 then 0 else sgn (isgn (byt s)).1 (num (isgn (byt s)).2) else 0 else 0
theorem iq_Text {w : World} {v : Value} {z : Int} (h : IArg w v z) (hl : L z.natAbs ≤ 1000) :
    Calls Tryz.prog 101 #[v] w fun e w' => e = .returned (.string (itxB z)) ∧ Hid (Below w.heap.size w w') := qText_ok h (by omega)
theorem iq_TextV {w : World} {v : Value} {z : Int} (h : IArg w v z) (hl : L z.natAbs ≤ 1000) {t : ByteArray} (ht : itxB z = t) :
    Calls Tryz.prog 101 #[v] w fun e w' => ∃ u, e = .returned u ∧ Below w.heap.size w w' ∧ u = .string t := (iq_Text h hl).mono fun e w' ⟨q1, q2⟩ => ⟨_, q1, q2, by rw [ht]⟩
end Go.Proofs.YtkefmeddnncacaaGreatDoor
