/- ints: Parse. -/
import Derived.Test.YtkefmeddnncacaaGreatDoorIA
set_option linter.unusedVariables false
set_option linter.unusedSimpArgs false
set_option maxRecDepth 100000
namespace Go.Proofs.YtkefmeddnncacaaGreatDoor
open Go.RowKit

end Go.Proofs.YtkefmeddnncacaaGreatDoor
