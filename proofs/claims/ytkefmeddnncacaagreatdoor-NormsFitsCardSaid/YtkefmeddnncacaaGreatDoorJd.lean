/- the laws of ints: great. -/
import Derived.Test.YtkefmeddnncacaaGreatDoorJb
set_option linter.unusedVariables false
set_option linter.unusedSimpArgs false
set_option maxRecDepth 100000
namespace Go.Proofs.YtkefmeddnncacaaGreatDoor
open Go.RowKit

end Go.Proofs.YtkefmeddnncacaaGreatDoor
