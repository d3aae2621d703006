/- Some answers that the document fixes (nats). -/
import Derived.Test.YtkefmeddnncacaaGreatDoorND
import Derived.OwnWalk
/- the laws of nats: some answers that the document fixes. -/
set_option linter.unusedVariables false
set_option linter.unusedSimpArgs false
set_option maxRecDepth 100000
namespace Go.Proofs.YtkefmeddnncacaaGreatDoor
open Go.RowKit

end Go.Proofs.YtkefmeddnncacaaGreatDoor
