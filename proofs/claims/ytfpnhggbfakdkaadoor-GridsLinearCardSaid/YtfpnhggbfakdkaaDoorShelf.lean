/- No contract of the library is wanted here. -/
import Derived.Test.YtfpnhggbfakdkaaDoorProg
import Derived.Shelf.Strings.OnBuilder
import Derived.Shelf.Strings.Trim
import Derived.Shelf.Slices.ReverseS
import Derived.Shelf.Strings.SlTrimAscii
import Derived.Shelf.Small.Wraps
namespace Go.Proofs
end Go.Proofs
