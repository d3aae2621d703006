/- the laws of ints: some answers that the document fixes; small, same, great. -/
import Derived.Test.YtkefmeddnncacaaGreatDoorNE
import Derived.Test.YtkefmeddnncacaaGreatDoorIA
import Derived.Test.YtkefmeddnncacaaGreatDoorIy
set_option linter.unusedVariables false
set_option linter.unusedSimpArgs false
set_option maxRecDepth 100000
namespace Go.Proofs.YtkefmeddnncacaaGreatDoor
open Go.RowKit

end Go.Proofs.YtkefmeddnncacaaGreatDoor
