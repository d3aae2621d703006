/- the document's answer for rats: Check, Fit, lowest, Of, times, Neg, Add, Sub, Mul, Sign, Cmp, Whole. -/
import Derived.Test.YtkefmeddnncacaaDoorBm
import Derived.Test.YtkefmeddnncacaaDoorBk
import Derived.Test.YtkefmeddnncacaaDoorRn
import Derived.Test.YtkefmeddnncacaaDoorKB
set_option linter.unusedVariables false
set_option linter.unusedSimpArgs false
set_option maxRecDepth 100000
namespace Go.Proofs.YtkefmeddnncacaaDoor
open Go.RowKit

end Go.Proofs.YtkefmeddnncacaaDoor
