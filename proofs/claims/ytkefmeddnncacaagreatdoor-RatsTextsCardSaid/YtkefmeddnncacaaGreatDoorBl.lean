/- laws of nats that compare texts: words. -/
import Derived.Test.YtkefmeddnncacaaGreatDoorBk
import Derived.Test.YtkefmeddnncacaaGreatDoorRo
import Derived.Test.YtkefmeddnncacaaGreatDoorSd
import Derived.Test.YtkefmeddnncacaaGreatDoorNC
set_option linter.unusedVariables false
set_option linter.unusedSimpArgs false
set_option maxRecDepth 100000
namespace Go.Proofs.YtkefmeddnncacaaGreatDoor
open Go.RowKit

def backV (xs : List Nat) : Nat := if chk xs = true then if xs.length ≤ 2 then val xs else 0 else 0
def backK (xs : List Nat) : Int := if chk xs = true then if xs.length ≤ 2 then 0 else 3 else 1
def parsV (s : ByteArray) : Nat := if isNum (byt s) = true then if s.size ≤ 200 then num (byt s) else 0 else 0
def parsK (s : ByteArray) : Int := if isNum (byt s) = true then if s.size ≤ 200 then 0 else 3 else 4
def txtB (N : Nat) : ByteArray := ⟨(bts (txt N)).toArray⟩
end Go.Proofs.YtkefmeddnncacaaGreatDoor
