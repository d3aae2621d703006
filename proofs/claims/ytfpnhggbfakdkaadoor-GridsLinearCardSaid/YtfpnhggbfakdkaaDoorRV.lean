/- The document's answer for vecs. -/
import Derived.Test.YtfpnhggbfakdkaaDoorVB
import Derived.Test.YtfpnhggbfakdkaaDoorBJ
import Derived.Deep.RegionLaw
import Derived.Test.YtfpnhggbfakdkaaDoorFR
import Derived.Test.YtfpnhggbfakdkaaDoorBY
/- the document's answer for vecs: Check, Zero, Scale. -/
set_option linter.unusedVariables false
set_option linter.unusedSimpArgs false
set_option maxRecDepth 100000
namespace Go.Proofs.YtfpnhggbfakdkaaDoor
open Go.RowKit

theorem Lst.le_ {α : Type} {E : World → Value → α → Prop} {w : World} {v : Value} {qs : List α} (h : Lst E w v qs) : qs.length ≤ 140737488355328 := by
  obtain ⟨_, _, _, _, e, _, h2, _, h4, _⟩ := h
  cases e
  omega
def zN (z : Int) : Nat := if 65536 < z then 0 else z.toNat
end Go.Proofs.YtfpnhggbfakdkaaDoor

/- the document's answer for vecs: Same, Dot, Add. -/
set_option linter.unusedVariables false
set_option linter.unusedSimpArgs false
set_option maxRecDepth 100000
namespace Go.Proofs.YtfpnhggbfakdkaaDoor
open Go.RowKit

end Go.Proofs.YtfpnhggbfakdkaaDoor

/- laws of vecs that compare: words; Zero of any number. -/
set_option linter.unusedVariables false
set_option linter.unusedSimpArgs false
set_option maxRecDepth 100000
namespace Go.Proofs.YtfpnhggbfakdkaaDoor
open Go.RowKit

end Go.Proofs.YtfpnhggbfakdkaaDoor
