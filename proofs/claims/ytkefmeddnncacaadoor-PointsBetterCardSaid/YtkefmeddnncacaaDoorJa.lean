/- the laws of ints: some answers that the document fixes; small, same, great. -/
import Derived.Test.YtkefmeddnncacaaDoorNE
import Derived.Test.YtkefmeddnncacaaDoorIA
import Derived.Test.YtkefmeddnncacaaDoorIy
set_option linter.unusedVariables false
set_option linter.unusedSimpArgs false
set_option maxRecDepth 100000
namespace Go.Proofs.YtkefmeddnncacaaDoor
open Go.RowKit

end Go.Proofs.YtkefmeddnncacaaDoor
