/- the document's answer for nats: Digits, Number, Parse, Text. -/
import Derived.Test.YtkefmeddnncacaaDoorRm
import Derived.Test.YtkefmeddnncacaaDoorND
import Derived.Test.YtkefmeddnncacaaDoorLz
import Derived.Test.YtkefmeddnncacaaDoorIA
set_option linter.unusedVariables false
set_option linter.unusedSimpArgs false
set_option maxRecDepth 100000
namespace Go.Proofs.YtkefmeddnncacaaDoor
open Go.RowKit

end Go.Proofs.YtkefmeddnncacaaDoor
