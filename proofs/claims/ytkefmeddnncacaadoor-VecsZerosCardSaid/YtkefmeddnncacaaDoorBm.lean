/- laws of ints that compare: contracts as their regions ask. -/
import Derived.Test.YtkefmeddnncacaaDoorBj
import Derived.Test.YtkefmeddnncacaaDoorKA
set_option linter.unusedVariables false
set_option linter.unusedSimpArgs false
set_option maxRecDepth 100000
namespace Go.Proofs.YtkefmeddnncacaaDoor
open Go.RowKit

end Go.Proofs.YtkefmeddnncacaaDoor
