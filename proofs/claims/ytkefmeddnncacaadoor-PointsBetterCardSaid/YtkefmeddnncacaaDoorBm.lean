/- laws of ints that compare: contracts as their regions ask. -/
import Derived.Test.YtkefmeddnncacaaDoorBj
import Derived.Test.YtkefmeddnncacaaDoorKA
set_option linter.unusedVariables false
set_option linter.unusedSimpArgs false
set_option maxRecDepth 100000
namespace Go.Proofs.YtkefmeddnncacaaDoor
open Go.RowKit

theorem qCmp_eq {w : World} {v v' : Value} {x y : Int} (h : IArg w v x) (h' : IArg w v' y) (z1 : L x.natAbs ≤ 1000000) (z2 : L y.natAbs ≤ 1000000) {r : Int} (hr : cmpI x y = r) :
    Calls Tryd.prog 152 #[v, v'] w fun e w' => ∃ u, e = .returned u ∧ Below w.heap.size w w' ∧ u = .int .i64 r :=
  (qCmp_ok h h' z1 z2).mono fun e w' ⟨u, q1, q2, q3⟩ => ⟨u, q1, q2, by rw [q3, hr]⟩
end Go.Proofs.YtkefmeddnncacaaDoor
