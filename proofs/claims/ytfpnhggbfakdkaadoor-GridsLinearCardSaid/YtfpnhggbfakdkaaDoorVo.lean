/- vecs: some answers that the document fixes. -/
import Derived.Test.YtfpnhggbfakdkaaDoorVB
set_option linter.unusedVariables false
set_option linter.unusedSimpArgs false
set_option maxRecDepth 100000
namespace Go.Proofs.YtfpnhggbfakdkaaDoor
open Go.RowKit

end Go.Proofs.YtfpnhggbfakdkaaDoor
