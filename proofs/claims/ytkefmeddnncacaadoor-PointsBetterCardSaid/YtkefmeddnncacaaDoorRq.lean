/- the document's answer for rats: Of, Neg, Sub, Sign, Whole, Div, Make. -/
import Derived.Test.YtkefmeddnncacaaDoorRp
set_option linter.unusedVariables false
set_option linter.unusedSimpArgs false
set_option maxRecDepth 100000
namespace Go.Proofs.YtkefmeddnncacaaDoor
open Go.RowKit

def Fact.negR (p : Rat) (B : Nat) : Fact := ⟨fun v w => ∃ b A n c D m k, v = .agg #[.bool b, .slice A n c, .slice D m k] ∧ IntR (-p.num) B w (.agg #[.bool b, .slice A n c]) ∧ NatR p.den B w (.slice D m k), fun _ _ _ ⟨b, A, n, c, D, m, k, h1, h2, h3⟩ hb => ⟨b, A, n, c, D, m, k, h1, h2.below hb, h3.below hb⟩⟩
theorem ICan.sign {w : World} {b : Bool} {u : Value} {z : Int} (h : ICan w (.agg #[.bool b, u]) z) : decide (z < 0) = b := h.nat.2
end Go.Proofs.YtkefmeddnncacaaDoor
