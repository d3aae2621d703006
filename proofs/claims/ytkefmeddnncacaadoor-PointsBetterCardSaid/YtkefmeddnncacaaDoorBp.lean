/- laws of rats that compare: Make, Of. -/
import Derived.Test.YtkefmeddnncacaaDoorBo
set_option linter.unusedVariables false
set_option linter.unusedSimpArgs false
set_option maxRecDepth 100000
namespace Go.Proofs.YtkefmeddnncacaaDoor
open Go.RowKit

def mkZ (b1 : Bool) (xs1 : List Nat) (b2 : Bool) (xs2 : List Nat) : Int := if (iok b1 xs1 && iok b2 xs2) = true then if iv b2 xs2 = 0 then 0 else (Rat.divInt (iv b1 xs1) (iv b2 xs2)).num else 0
def mkN (b1 : Bool) (xs1 : List Nat) (b2 : Bool) (xs2 : List Nat) : Nat := if (iok b1 xs1 && iok b2 xs2) = true then if iv b2 xs2 = 0 then 0 else (Rat.divInt (iv b1 xs1) (iv b2 xs2)).den else 0
def mkK (b1 : Bool) (xs1 : List Nat) (b2 : Bool) (xs2 : List Nat) : Int := if (iok b1 xs1 && iok b2 xs2) = true then if iv b2 xs2 = 0 then 10 else 0 else 1
section
variable {w : World} {v v' : Value} {b1 b2 : Bool} {xs1 xs2 : List Nat}
end
end Go.Proofs.YtkefmeddnncacaaDoor
