/- the laws of ints: contracts as the walks of regions ask. -/
import Derived.Test.YtkefmeddnncacaaDoorJa
set_option linter.unusedVariables false
set_option linter.unusedSimpArgs false
set_option maxRecDepth 100000
namespace Go.Proofs.YtkefmeddnncacaaDoor
open Go.RowKit

end Go.Proofs.YtkefmeddnncacaaDoor
