/- Some answers that the document fixes (nats). -/
import Derived.Test.YtfpnhggbfakdkaaDoorND
import Derived.OwnWalk
/- the laws of nats: some answers that the document fixes. -/
set_option linter.unusedVariables false
set_option linter.unusedSimpArgs false
set_option maxRecDepth 100000
namespace Go.Proofs.YtfpnhggbfakdkaaDoor
open Go.RowKit

end Go.Proofs.YtfpnhggbfakdkaaDoor
