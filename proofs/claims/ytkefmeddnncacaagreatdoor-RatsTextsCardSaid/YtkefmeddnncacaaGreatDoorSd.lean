/- law helpers: Beyond: are some sizes, taken together, too much? -/
import Derived.Test.YtkefmeddnncacaaGreatDoorND
set_option linter.unusedVariables false
set_option linter.unusedSimpArgs false
set_option maxRecDepth 100000
namespace Go.Proofs.YtkefmeddnncacaaGreatDoor
open Go.RowKit

end Go.Proofs.YtkefmeddnncacaaGreatDoor
