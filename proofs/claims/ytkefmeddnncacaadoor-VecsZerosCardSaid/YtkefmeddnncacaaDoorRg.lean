/- the reference of ints: Sign, Neg. -/
import Derived.Test.YtkefmeddnncacaaDoorRf
import Derived.Deep.RegionHeld3
set_option linter.unusedVariables false
set_option linter.unusedSimpArgs false
set_option maxRecDepth 100000
namespace Go.Proofs.YtkefmeddnncacaaDoor
open Go.RowKit

theorem qsigned_R {w : World} {A : Option Addr} {n c : Nat} {b : Bool} {N B : Nat} {z : Int} (h : NatR N B w (.slice A n c)) (h1 : z.natAbs = N) (h2 : decide (z < 0) = (b && decide (N ≠ 0))) :
    Calls Tryd.prog 180 #[.bool b, .slice A n c] w fun e w' => ∃ A n c s, e = .returned (.agg #[.bool s, .slice A n c]) ∧ Below w.heap.size w w' ∧ IntR z B w' (.agg #[.bool s, .slice A n c]) :=
  (qsigned_ok (b := b) h.can).mono fun e w' ⟨e1, e2⟩ => ⟨A, n, c, _, e1, e2.out, (intR_of_parts h h1 h2).below e2.out⟩
end Go.Proofs.YtkefmeddnncacaaDoor
