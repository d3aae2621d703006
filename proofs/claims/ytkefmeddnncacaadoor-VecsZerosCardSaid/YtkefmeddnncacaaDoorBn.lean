/- laws of rats that compare: a fraction's twin, what is left of it, the Book of fractions. -/
import Derived.Test.YtkefmeddnncacaaDoorBm
import Derived.Test.YtkefmeddnncacaaDoorBk
import Derived.Test.YtkefmeddnncacaaDoorRr
set_option linter.unusedVariables false
set_option linter.unusedSimpArgs false
set_option maxRecDepth 100000
namespace Go.Proofs.YtkefmeddnncacaaDoor
open Go.RowKit

end Go.Proofs.YtkefmeddnncacaaDoor
