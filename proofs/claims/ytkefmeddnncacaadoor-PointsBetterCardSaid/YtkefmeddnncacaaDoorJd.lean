/- the laws of ints: great. -/
import Derived.Test.YtkefmeddnncacaaDoorJb
set_option linter.unusedVariables false
set_option linter.unusedSimpArgs false
set_option maxRecDepth 100000
namespace Go.Proofs.YtkefmeddnncacaaDoor
open Go.RowKit

end Go.Proofs.YtkefmeddnncacaaDoor
