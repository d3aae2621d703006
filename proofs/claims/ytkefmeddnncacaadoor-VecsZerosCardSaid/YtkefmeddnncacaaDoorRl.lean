/- the document's answer for nats: Div. -/
import Derived.Test.YtkefmeddnncacaaDoorRk
import Derived.Test.YtkefmeddnncacaaDoorNC
set_option linter.unusedVariables false
set_option linter.unusedSimpArgs false
set_option maxRecDepth 100000
namespace Go.Proofs.YtkefmeddnncacaaDoor
open Go.RowKit

end Go.Proofs.YtkefmeddnncacaaDoor
