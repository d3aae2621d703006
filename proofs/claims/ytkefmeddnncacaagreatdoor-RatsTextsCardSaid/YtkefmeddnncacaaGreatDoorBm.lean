/- laws of ints that compare: contracts as their regions ask. -/
import Derived.Test.YtkefmeddnncacaaGreatDoorBj
import Derived.Test.YtkefmeddnncacaaGreatDoorKA
set_option linter.unusedVariables false
set_option linter.unusedSimpArgs false
set_option maxRecDepth 100000
namespace Go.Proofs.YtkefmeddnncacaaGreatDoor
open Go.RowKit

theorem sameInt_yes {w : World} {v v' : Value} {z : Int} (h : ICan w v z) (h' : ICan w v' z) :
    Calls Tryz.prog 18 #[v, v'] w fun e w' => ∃ u, e = .returned u ∧ Below w.heap.size w w' ∧ u = .bool true :=
  (iSame_ok h h').mono fun e w' ⟨u, q1, q2, q3⟩ => ⟨u, q1, q2, by rw [q3]; simp⟩
end Go.Proofs.YtkefmeddnncacaaGreatDoor
