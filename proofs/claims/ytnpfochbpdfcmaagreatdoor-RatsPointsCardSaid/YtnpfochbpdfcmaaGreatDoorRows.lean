/-
  NARROWER THAN 'FOR EVERY INPUT', by the rows' own cells (each row's printed sentence says how): RatsRead: laid · RatsPoints: laid · RatsField: laid · RatsMade: laid · RatsUndone: laid · RatsFloors: laid · RatsSmall: laid · RatsBetween: laid · RatsOrder: laid · VecsLinear: laid · VecsParts: laid · VecsTurned: laid · VecsBack: laid · VecsOdd: laid.
  DERIVED. THE GIVEN ROWS OF THIS SEAT. 14 by the template 'for every input the law returns true; each argument reads behind the call as it read before'; 0 by the template 'total and deterministic' (their statements: YtnpfochbpdfcmaaGreatDoorTotals.lean).
  GIVEN WITH THE SEED: the statements are not yours to turn. If you find one false, say at which input.
  Laid BY PROGRAM, IN A SANDBOX (cutbox-rows.mjs): the forced cells as the released guide's own fill.sh prints them over the translation d8ff239fb0ebb345… (all of the seat's roots in one cut). By AI agents, Wed Nov 11 2026. No macro, syntax, notation, axiom, sorry.
-/
import Derived.Test.YtnpfochbpdfcmaaGreatDoorChecked
import GoSem.PinnedTables
import GoSem.Claim
import GoSem.ClaimJoined
import GoSem.ClaimMapViews
import Derived.JoinedTies
import Derived.KernelRfl
namespace Go.Proofs.YtnpfochbpdfcmaaGreatDoor
/- THE CELL 'sum', in the pinned program and in every row, IS THE sha256 OF THE DUMP (.gsa) THAT YtnpfochbpdfcmaaGreatDoorProg.lean LOADS. Nothing in Lean hashes anything: it is a label: what it is worth is what the hold of that sum in a sandbox is worth. -/
noncomputable def Tryz.pinned : Pinned := { name := "ytnpfochbpdfcmaagreatdoor", sum := "d8ff239fb0ebb3454755ed55a3d0d4e7e882f28a40ce1f27aeb6e08a7bccb94f", checked := Tryz.checked }
namespace Rows
def none {H : Type} : Left H := { results := [], args := [] }

/- WHAT THE LISTED PACKAGE-LEVEL VARIABLES READ AS WHEN THE CALL BEGINS. Each datum BY PROGRAM (the guide's laid-datum.mjs) off the statement by which the dump's own 'gosem.cut.vars' lays the variable. In a bare row this is a premise. The card (YtnpfochbpdfcmaaGreatDoorCards.lean) ties it to the program's text. -/
def laid_math_bits_deBruijn32tab {H : Type} : DataW H := .agg [.lit (.int .u8 0), .lit (.int .u8 1), .lit (.int .u8 28), .lit (.int .u8 2), .lit (.int .u8 29), .lit (.int .u8 14), .lit (.int .u8 24), .lit (.int .u8 3), .lit (.int .u8 30), .lit (.int .u8 22), .lit (.int .u8 20), .lit (.int .u8 15), .lit (.int .u8 25), .lit (.int .u8 17), .lit (.int .u8 4), .lit (.int .u8 8), .lit (.int .u8 31), .lit (.int .u8 27), .lit (.int .u8 13), .lit (.int .u8 23), .lit (.int .u8 21), .lit (.int .u8 19), .lit (.int .u8 16), .lit (.int .u8 7), .lit (.int .u8 26), .lit (.int .u8 12), .lit (.int .u8 18), .lit (.int .u8 6), .lit (.int .u8 11), .lit (.int .u8 5), .lit (.int .u8 10), .lit (.int .u8 9)]
def laid_unicode_utf8_acceptRanges {H : Type} : DataW H := .agg [.agg [.lit (.int .u8 128), .lit (.int .u8 191)], .agg [.lit (.int .u8 160), .lit (.int .u8 191)], .agg [.lit (.int .u8 128), .lit (.int .u8 159)], .agg [.lit (.int .u8 144), .lit (.int .u8 191)], .agg [.lit (.int .u8 128), .lit (.int .u8 143)], .agg [.lit (.int .u8 0), .lit (.int .u8 0)], .agg [.lit (.int .u8 0), .lit (.int .u8 0)], .agg [.lit (.int .u8 0), .lit (.int .u8 0)], .agg [.lit (.int .u8 0), .lit (.int .u8 0)], .agg [.lit (.int .u8 0), .lit (.int .u8 0)], .agg [.lit (.int .u8 0), .lit (.int .u8 0)], .agg [.lit (.int .u8 0), .lit (.int .u8 0)], .agg [.lit (.int .u8 0), .lit (.int .u8 0)], .agg [.lit (.int .u8 0), .lit (.int .u8 0)], .agg [.lit (.int .u8 0), .lit (.int .u8 0)], .agg [.lit (.int .u8 0), .lit (.int .u8 0)]]
/-- One of Go's own tables, pinned by name: the form's constant. -/
def laid_unicode_utf8_first : DataW Unit := Go.Pinned.utf8First

/-- 'assayerlaw03.RatsRead': WHATEVER THE INPUT: true; the input reads as it did. -/
def ratsReadSpec : ChangeSpec := { name := "ratsRead", fn := fun _ => fun
  | [d1, d2] => { results := [.lit (.bool true)], args := [d1, d2] }
  | _ => none }
def ratsReadRow : OpenClaim := { program := "ytnpfochbpdfcmaagreatdoor", sum := "d8ff239fb0ebb3454755ed55a3d0d4e7e882f28a40ce1f27aeb6e08a7bccb94f", func := "assayer/assayerlaw03.RatsRead", spec := "ratsRead", inPlace := ["internal/bytealg.IndexByteString", "internal/bytealg.IndexString", "internal/abi.NoEscape", "internal/bytealg.MakeNoZero"], unfollowed := true, recurses := true, named := ["math/bits.deBruijn32tab", "math/bits.overflowError", "internal/bytealg.MaxLen", "unicode/utf8.first", "unicode/utf8.acceptRanges"], apart := false, laid := [("math/bits.deBruijn32tab", laid_math_bits_deBruijn32tab), ("unicode/utf8.acceptRanges", laid_unicode_utf8_acceptRanges), ("unicode/utf8.first", laid_unicode_utf8_first)] }
def RatsReadSaid : Prop := ratsReadRow.holds Tryz.pinned (OpenSpec.ofChange ratsReadSpec)

/-- ITS FALSE NEIGHBOUR: 'it returns false'. Refute it at one input. -/
def ratsReadWrong : ChangeSpec := { name := "ratsRead", fn := fun _ => fun
  | [d1, d2] => { results := [.lit (.bool false)], args := [d1, d2] }
  | _ => none }
def RatsReadWrongFalsely : Prop := ratsReadRow.holds Tryz.pinned (OpenSpec.ofChange ratsReadWrong)

/-- 'assayerlaw03.RatsPoints': WHATEVER THE INPUT: true; the input reads as it did. -/
def ratsPointsSpec : ChangeSpec := { name := "ratsPoints", fn := fun _ => fun
  | [d1, d2, d3] => { results := [.lit (.bool true)], args := [d1, d2, d3] }
  | _ => none }
def ratsPointsRow : OpenClaim := { program := "ytnpfochbpdfcmaagreatdoor", sum := "d8ff239fb0ebb3454755ed55a3d0d4e7e882f28a40ce1f27aeb6e08a7bccb94f", func := "assayer/assayerlaw03.RatsPoints", spec := "ratsPoints", inPlace := ["internal/bytealg.IndexByteString", "internal/bytealg.IndexString", "internal/abi.NoEscape", "internal/bytealg.MakeNoZero"], unfollowed := true, recurses := true, named := ["internal/bytealg.MaxLen", "unicode/utf8.first", "unicode/utf8.acceptRanges", "math/bits.deBruijn32tab", "math/bits.overflowError"], apart := false, laid := [("math/bits.deBruijn32tab", laid_math_bits_deBruijn32tab), ("unicode/utf8.acceptRanges", laid_unicode_utf8_acceptRanges), ("unicode/utf8.first", laid_unicode_utf8_first)] }
def RatsPointsSaid : Prop := ratsPointsRow.holds Tryz.pinned (OpenSpec.ofChange ratsPointsSpec)

/-- ITS FALSE NEIGHBOUR: 'it returns false'. Refute it at one input. -/
def ratsPointsWrong : ChangeSpec := { name := "ratsPoints", fn := fun _ => fun
  | [d1, d2, d3] => { results := [.lit (.bool false)], args := [d1, d2, d3] }
  | _ => none }
def RatsPointsWrongFalsely : Prop := ratsPointsRow.holds Tryz.pinned (OpenSpec.ofChange ratsPointsWrong)

/-- 'assayerlaw03.RatsField': WHATEVER THE INPUT: true; the input reads as it did. -/
def ratsFieldSpec : ChangeSpec := { name := "ratsField", fn := fun _ => fun
  | [d1, d2, d3] => { results := [.lit (.bool true)], args := [d1, d2, d3] }
  | _ => none }
def ratsFieldRow : OpenClaim := { program := "ytnpfochbpdfcmaagreatdoor", sum := "d8ff239fb0ebb3454755ed55a3d0d4e7e882f28a40ce1f27aeb6e08a7bccb94f", func := "assayer/assayerlaw03.RatsField", spec := "ratsField", inPlace := ["internal/bytealg.IndexByteString", "internal/bytealg.IndexString", "internal/abi.NoEscape", "internal/bytealg.MakeNoZero"], unfollowed := true, recurses := true, named := ["math/bits.deBruijn32tab", "math/bits.overflowError", "internal/bytealg.MaxLen", "unicode/utf8.first", "unicode/utf8.acceptRanges"], apart := false, laid := [("math/bits.deBruijn32tab", laid_math_bits_deBruijn32tab), ("unicode/utf8.acceptRanges", laid_unicode_utf8_acceptRanges), ("unicode/utf8.first", laid_unicode_utf8_first)] }
def RatsFieldSaid : Prop := ratsFieldRow.holds Tryz.pinned (OpenSpec.ofChange ratsFieldSpec)

/-- ITS FALSE NEIGHBOUR: 'it returns false'. Refute it at one input. -/
def ratsFieldWrong : ChangeSpec := { name := "ratsField", fn := fun _ => fun
  | [d1, d2, d3] => { results := [.lit (.bool false)], args := [d1, d2, d3] }
  | _ => none }
def RatsFieldWrongFalsely : Prop := ratsFieldRow.holds Tryz.pinned (OpenSpec.ofChange ratsFieldWrong)

/-- 'assayerlaw03.RatsMade': WHATEVER THE INPUT: true; the input reads as it did. -/
def ratsMadeSpec : ChangeSpec := { name := "ratsMade", fn := fun _ => fun
  | [d1, d2, d3] => { results := [.lit (.bool true)], args := [d1, d2, d3] }
  | _ => none }
def ratsMadeRow : OpenClaim := { program := "ytnpfochbpdfcmaagreatdoor", sum := "d8ff239fb0ebb3454755ed55a3d0d4e7e882f28a40ce1f27aeb6e08a7bccb94f", func := "assayer/assayerlaw03.RatsMade", spec := "ratsMade", inPlace := ["internal/bytealg.IndexByteString", "internal/bytealg.IndexString", "internal/abi.NoEscape", "internal/bytealg.MakeNoZero"], unfollowed := true, recurses := true, named := ["math/bits.deBruijn32tab", "math/bits.overflowError", "internal/bytealg.MaxLen", "unicode/utf8.first", "unicode/utf8.acceptRanges"], apart := false, laid := [("math/bits.deBruijn32tab", laid_math_bits_deBruijn32tab), ("unicode/utf8.acceptRanges", laid_unicode_utf8_acceptRanges), ("unicode/utf8.first", laid_unicode_utf8_first)] }
def RatsMadeSaid : Prop := ratsMadeRow.holds Tryz.pinned (OpenSpec.ofChange ratsMadeSpec)

/-- ITS FALSE NEIGHBOUR: 'it returns false'. Refute it at one input. -/
def ratsMadeWrong : ChangeSpec := { name := "ratsMade", fn := fun _ => fun
  | [d1, d2, d3] => { results := [.lit (.bool false)], args := [d1, d2, d3] }
  | _ => none }
def RatsMadeWrongFalsely : Prop := ratsMadeRow.holds Tryz.pinned (OpenSpec.ofChange ratsMadeWrong)

/-- 'assayerlaw03.RatsUndone': WHATEVER THE INPUT: true; the input reads as it did. -/
def ratsUndoneSpec : ChangeSpec := { name := "ratsUndone", fn := fun _ => fun
  | [d1, d2] => { results := [.lit (.bool true)], args := [d1, d2] }
  | _ => none }
def ratsUndoneRow : OpenClaim := { program := "ytnpfochbpdfcmaagreatdoor", sum := "d8ff239fb0ebb3454755ed55a3d0d4e7e882f28a40ce1f27aeb6e08a7bccb94f", func := "assayer/assayerlaw03.RatsUndone", spec := "ratsUndone", inPlace := ["internal/bytealg.IndexByteString", "internal/bytealg.IndexString", "internal/abi.NoEscape", "internal/bytealg.MakeNoZero"], unfollowed := true, recurses := true, named := ["math/bits.deBruijn32tab", "math/bits.overflowError", "internal/bytealg.MaxLen", "unicode/utf8.first", "unicode/utf8.acceptRanges"], apart := false, laid := [("math/bits.deBruijn32tab", laid_math_bits_deBruijn32tab), ("unicode/utf8.acceptRanges", laid_unicode_utf8_acceptRanges), ("unicode/utf8.first", laid_unicode_utf8_first)] }
def RatsUndoneSaid : Prop := ratsUndoneRow.holds Tryz.pinned (OpenSpec.ofChange ratsUndoneSpec)

/-- ITS FALSE NEIGHBOUR: 'it returns false'. Refute it at one input. -/
def ratsUndoneWrong : ChangeSpec := { name := "ratsUndone", fn := fun _ => fun
  | [d1, d2] => { results := [.lit (.bool false)], args := [d1, d2] }
  | _ => none }
def RatsUndoneWrongFalsely : Prop := ratsUndoneRow.holds Tryz.pinned (OpenSpec.ofChange ratsUndoneWrong)

/-- 'assayerlaw03.RatsFloors': WHATEVER THE INPUT: true; the input reads as it did. -/
def ratsFloorsSpec : ChangeSpec := { name := "ratsFloors", fn := fun _ => fun
  | [d] => { results := [.lit (.bool true)], args := [d] }
  | _ => none }
def ratsFloorsRow : OpenClaim := { program := "ytnpfochbpdfcmaagreatdoor", sum := "d8ff239fb0ebb3454755ed55a3d0d4e7e882f28a40ce1f27aeb6e08a7bccb94f", func := "assayer/assayerlaw03.RatsFloors", spec := "ratsFloors", inPlace := ["internal/bytealg.IndexByteString", "internal/bytealg.IndexString", "internal/abi.NoEscape", "internal/bytealg.MakeNoZero"], unfollowed := true, recurses := true, named := ["math/bits.deBruijn32tab", "math/bits.overflowError", "internal/bytealg.MaxLen", "unicode/utf8.first", "unicode/utf8.acceptRanges"], apart := false, laid := [("math/bits.deBruijn32tab", laid_math_bits_deBruijn32tab), ("unicode/utf8.acceptRanges", laid_unicode_utf8_acceptRanges), ("unicode/utf8.first", laid_unicode_utf8_first)] }
def RatsFloorsSaid : Prop := ratsFloorsRow.holds Tryz.pinned (OpenSpec.ofChange ratsFloorsSpec)

/-- ITS FALSE NEIGHBOUR: 'it returns false'. Refute it at one input. -/
def ratsFloorsWrong : ChangeSpec := { name := "ratsFloors", fn := fun _ => fun
  | [d] => { results := [.lit (.bool false)], args := [d] }
  | _ => none }
def RatsFloorsWrongFalsely : Prop := ratsFloorsRow.holds Tryz.pinned (OpenSpec.ofChange ratsFloorsWrong)

/-- 'assayerlaw03.RatsSmall': WHATEVER THE INPUT: true; the input reads as it did. -/
def ratsSmallSpec : ChangeSpec := { name := "ratsSmall", fn := fun _ => fun
  | [d1, d2, d3] => { results := [.lit (.bool true)], args := [d1, d2, d3] }
  | _ => none }
def ratsSmallRow : OpenClaim := { program := "ytnpfochbpdfcmaagreatdoor", sum := "d8ff239fb0ebb3454755ed55a3d0d4e7e882f28a40ce1f27aeb6e08a7bccb94f", func := "assayer/assayerlaw03.RatsSmall", spec := "ratsSmall", inPlace := ["internal/bytealg.IndexByteString", "internal/bytealg.IndexString", "internal/abi.NoEscape", "internal/bytealg.MakeNoZero"], unfollowed := true, recurses := true, named := ["math/bits.deBruijn32tab", "math/bits.overflowError", "internal/bytealg.MaxLen", "unicode/utf8.first", "unicode/utf8.acceptRanges"], apart := false, laid := [("math/bits.deBruijn32tab", laid_math_bits_deBruijn32tab), ("unicode/utf8.acceptRanges", laid_unicode_utf8_acceptRanges), ("unicode/utf8.first", laid_unicode_utf8_first)] }
def RatsSmallSaid : Prop := ratsSmallRow.holds Tryz.pinned (OpenSpec.ofChange ratsSmallSpec)

/-- ITS FALSE NEIGHBOUR: 'it returns false'. Refute it at one input. -/
def ratsSmallWrong : ChangeSpec := { name := "ratsSmall", fn := fun _ => fun
  | [d1, d2, d3] => { results := [.lit (.bool false)], args := [d1, d2, d3] }
  | _ => none }
def RatsSmallWrongFalsely : Prop := ratsSmallRow.holds Tryz.pinned (OpenSpec.ofChange ratsSmallWrong)

/-- 'assayerlaw03.RatsBetween': WHATEVER THE INPUT: true; the input reads as it did. -/
def ratsBetweenSpec : ChangeSpec := { name := "ratsBetween", fn := fun _ => fun
  | [d1, d2, d3] => { results := [.lit (.bool true)], args := [d1, d2, d3] }
  | _ => none }
def ratsBetweenRow : OpenClaim := { program := "ytnpfochbpdfcmaagreatdoor", sum := "d8ff239fb0ebb3454755ed55a3d0d4e7e882f28a40ce1f27aeb6e08a7bccb94f", func := "assayer/assayerlaw03.RatsBetween", spec := "ratsBetween", inPlace := ["internal/bytealg.IndexByteString", "internal/bytealg.IndexString", "internal/abi.NoEscape", "internal/bytealg.MakeNoZero"], unfollowed := true, recurses := true, named := ["math/bits.deBruijn32tab", "math/bits.overflowError", "internal/bytealg.MaxLen", "unicode/utf8.first", "unicode/utf8.acceptRanges"], apart := false, laid := [("math/bits.deBruijn32tab", laid_math_bits_deBruijn32tab), ("unicode/utf8.acceptRanges", laid_unicode_utf8_acceptRanges), ("unicode/utf8.first", laid_unicode_utf8_first)] }
def RatsBetweenSaid : Prop := ratsBetweenRow.holds Tryz.pinned (OpenSpec.ofChange ratsBetweenSpec)

/-- ITS FALSE NEIGHBOUR: 'it returns false'. Refute it at one input. -/
def ratsBetweenWrong : ChangeSpec := { name := "ratsBetween", fn := fun _ => fun
  | [d1, d2, d3] => { results := [.lit (.bool false)], args := [d1, d2, d3] }
  | _ => none }
def RatsBetweenWrongFalsely : Prop := ratsBetweenRow.holds Tryz.pinned (OpenSpec.ofChange ratsBetweenWrong)

/-- 'assayerlaw03.RatsOrder': WHATEVER THE INPUT: true; the input reads as it did. -/
def ratsOrderSpec : ChangeSpec := { name := "ratsOrder", fn := fun _ => fun
  | [d1, d2, d3] => { results := [.lit (.bool true)], args := [d1, d2, d3] }
  | _ => none }
def ratsOrderRow : OpenClaim := { program := "ytnpfochbpdfcmaagreatdoor", sum := "d8ff239fb0ebb3454755ed55a3d0d4e7e882f28a40ce1f27aeb6e08a7bccb94f", func := "assayer/assayerlaw03.RatsOrder", spec := "ratsOrder", inPlace := ["internal/bytealg.IndexByteString", "internal/bytealg.IndexString", "internal/abi.NoEscape", "internal/bytealg.MakeNoZero"], unfollowed := true, recurses := true, named := ["math/bits.deBruijn32tab", "math/bits.overflowError", "internal/bytealg.MaxLen", "unicode/utf8.first", "unicode/utf8.acceptRanges"], apart := false, laid := [("math/bits.deBruijn32tab", laid_math_bits_deBruijn32tab), ("unicode/utf8.acceptRanges", laid_unicode_utf8_acceptRanges), ("unicode/utf8.first", laid_unicode_utf8_first)] }
def RatsOrderSaid : Prop := ratsOrderRow.holds Tryz.pinned (OpenSpec.ofChange ratsOrderSpec)

/-- ITS FALSE NEIGHBOUR: 'it returns false'. Refute it at one input. -/
def ratsOrderWrong : ChangeSpec := { name := "ratsOrder", fn := fun _ => fun
  | [d1, d2, d3] => { results := [.lit (.bool false)], args := [d1, d2, d3] }
  | _ => none }
def RatsOrderWrongFalsely : Prop := ratsOrderRow.holds Tryz.pinned (OpenSpec.ofChange ratsOrderWrong)

/-- 'assayerlaw04.VecsLinear': WHATEVER THE INPUT: true; the input reads as it did. -/
def vecsLinearSpec : ChangeSpec := { name := "vecsLinear", fn := fun _ => fun
  | [d] => { results := [.lit (.bool true)], args := [d] }
  | _ => none }
def vecsLinearRow : OpenClaim := { program := "ytnpfochbpdfcmaagreatdoor", sum := "d8ff239fb0ebb3454755ed55a3d0d4e7e882f28a40ce1f27aeb6e08a7bccb94f", func := "assayer/assayerlaw04.VecsLinear", spec := "vecsLinear", inPlace := ["internal/abi.NoEscape", "internal/bytealg.MakeNoZero", "internal/bytealg.IndexByteString", "internal/bytealg.IndexString"], unfollowed := true, recurses := true, named := ["math/bits.deBruijn32tab", "math/bits.overflowError", "unicode/utf8.first", "unicode/utf8.acceptRanges", "internal/bytealg.MaxLen"], apart := false, laid := [("math/bits.deBruijn32tab", laid_math_bits_deBruijn32tab), ("unicode/utf8.acceptRanges", laid_unicode_utf8_acceptRanges), ("unicode/utf8.first", laid_unicode_utf8_first)] }
def VecsLinearSaid : Prop := vecsLinearRow.holds Tryz.pinned (OpenSpec.ofChange vecsLinearSpec)

/-- ITS FALSE NEIGHBOUR: 'it returns false'. Refute it at one input. -/
def vecsLinearWrong : ChangeSpec := { name := "vecsLinear", fn := fun _ => fun
  | [d] => { results := [.lit (.bool false)], args := [d] }
  | _ => none }
def VecsLinearWrongFalsely : Prop := vecsLinearRow.holds Tryz.pinned (OpenSpec.ofChange vecsLinearWrong)

/-- 'assayerlaw04.VecsParts': WHATEVER THE INPUT: true; the input reads as it did. -/
def vecsPartsSpec : ChangeSpec := { name := "vecsParts", fn := fun _ => fun
  | [d1, d2, d3] => { results := [.lit (.bool true)], args := [d1, d2, d3] }
  | _ => none }
def vecsPartsRow : OpenClaim := { program := "ytnpfochbpdfcmaagreatdoor", sum := "d8ff239fb0ebb3454755ed55a3d0d4e7e882f28a40ce1f27aeb6e08a7bccb94f", func := "assayer/assayerlaw04.VecsParts", spec := "vecsParts", inPlace := ["internal/abi.NoEscape", "internal/bytealg.MakeNoZero", "internal/bytealg.IndexByteString", "internal/bytealg.IndexString"], unfollowed := true, recurses := true, named := ["math/bits.deBruijn32tab", "math/bits.overflowError", "unicode/utf8.first", "unicode/utf8.acceptRanges", "internal/bytealg.MaxLen"], apart := false, laid := [("math/bits.deBruijn32tab", laid_math_bits_deBruijn32tab), ("unicode/utf8.acceptRanges", laid_unicode_utf8_acceptRanges), ("unicode/utf8.first", laid_unicode_utf8_first)] }
def VecsPartsSaid : Prop := vecsPartsRow.holds Tryz.pinned (OpenSpec.ofChange vecsPartsSpec)

/-- ITS FALSE NEIGHBOUR: 'it returns false'. Refute it at one input. -/
def vecsPartsWrong : ChangeSpec := { name := "vecsParts", fn := fun _ => fun
  | [d1, d2, d3] => { results := [.lit (.bool false)], args := [d1, d2, d3] }
  | _ => none }
def VecsPartsWrongFalsely : Prop := vecsPartsRow.holds Tryz.pinned (OpenSpec.ofChange vecsPartsWrong)

/-- 'assayerlaw04.VecsTurned': WHATEVER THE INPUT: true; the input reads as it did. -/
def vecsTurnedSpec : ChangeSpec := { name := "vecsTurned", fn := fun _ => fun
  | [d1, d2] => { results := [.lit (.bool true)], args := [d1, d2] }
  | _ => none }
def vecsTurnedRow : OpenClaim := { program := "ytnpfochbpdfcmaagreatdoor", sum := "d8ff239fb0ebb3454755ed55a3d0d4e7e882f28a40ce1f27aeb6e08a7bccb94f", func := "assayer/assayerlaw04.VecsTurned", spec := "vecsTurned", inPlace := ["internal/abi.NoEscape", "internal/bytealg.MakeNoZero", "internal/bytealg.IndexByteString", "internal/bytealg.IndexString"], unfollowed := true, recurses := true, named := ["math/bits.deBruijn32tab", "math/bits.overflowError", "unicode/utf8.first", "unicode/utf8.acceptRanges", "internal/bytealg.MaxLen"], apart := false, laid := [("math/bits.deBruijn32tab", laid_math_bits_deBruijn32tab), ("unicode/utf8.acceptRanges", laid_unicode_utf8_acceptRanges), ("unicode/utf8.first", laid_unicode_utf8_first)] }
def VecsTurnedSaid : Prop := vecsTurnedRow.holds Tryz.pinned (OpenSpec.ofChange vecsTurnedSpec)

/-- ITS FALSE NEIGHBOUR: 'it returns false'. Refute it at one input. -/
def vecsTurnedWrong : ChangeSpec := { name := "vecsTurned", fn := fun _ => fun
  | [d1, d2] => { results := [.lit (.bool false)], args := [d1, d2] }
  | _ => none }
def VecsTurnedWrongFalsely : Prop := vecsTurnedRow.holds Tryz.pinned (OpenSpec.ofChange vecsTurnedWrong)

/-- 'assayerlaw04.VecsBack': WHATEVER THE INPUT: true; the input reads as it did. -/
def vecsBackSpec : ChangeSpec := { name := "vecsBack", fn := fun _ => fun
  | [d1, d2, d3] => { results := [.lit (.bool true)], args := [d1, d2, d3] }
  | _ => none }
def vecsBackRow : OpenClaim := { program := "ytnpfochbpdfcmaagreatdoor", sum := "d8ff239fb0ebb3454755ed55a3d0d4e7e882f28a40ce1f27aeb6e08a7bccb94f", func := "assayer/assayerlaw04.VecsBack", spec := "vecsBack", inPlace := ["internal/abi.NoEscape", "internal/bytealg.MakeNoZero", "internal/bytealg.IndexByteString", "internal/bytealg.IndexString"], unfollowed := true, recurses := true, named := ["math/bits.deBruijn32tab", "math/bits.overflowError", "unicode/utf8.first", "unicode/utf8.acceptRanges", "internal/bytealg.MaxLen"], apart := false, laid := [("math/bits.deBruijn32tab", laid_math_bits_deBruijn32tab), ("unicode/utf8.acceptRanges", laid_unicode_utf8_acceptRanges), ("unicode/utf8.first", laid_unicode_utf8_first)] }
def VecsBackSaid : Prop := vecsBackRow.holds Tryz.pinned (OpenSpec.ofChange vecsBackSpec)

/-- ITS FALSE NEIGHBOUR: 'it returns false'. Refute it at one input. -/
def vecsBackWrong : ChangeSpec := { name := "vecsBack", fn := fun _ => fun
  | [d1, d2, d3] => { results := [.lit (.bool false)], args := [d1, d2, d3] }
  | _ => none }
def VecsBackWrongFalsely : Prop := vecsBackRow.holds Tryz.pinned (OpenSpec.ofChange vecsBackWrong)

/-- 'assayerlaw04.VecsOdd': WHATEVER THE INPUT: true; the input reads as it did. -/
def vecsOddSpec : ChangeSpec := { name := "vecsOdd", fn := fun _ => fun
  | [d1, d2] => { results := [.lit (.bool true)], args := [d1, d2] }
  | _ => none }
def vecsOddRow : OpenClaim := { program := "ytnpfochbpdfcmaagreatdoor", sum := "d8ff239fb0ebb3454755ed55a3d0d4e7e882f28a40ce1f27aeb6e08a7bccb94f", func := "assayer/assayerlaw04.VecsOdd", spec := "vecsOdd", inPlace := ["internal/abi.NoEscape", "internal/bytealg.MakeNoZero", "internal/bytealg.IndexByteString", "internal/bytealg.IndexString"], unfollowed := true, recurses := true, named := ["math/bits.deBruijn32tab", "math/bits.overflowError", "unicode/utf8.first", "unicode/utf8.acceptRanges", "internal/bytealg.MaxLen"], apart := false, laid := [("math/bits.deBruijn32tab", laid_math_bits_deBruijn32tab), ("unicode/utf8.acceptRanges", laid_unicode_utf8_acceptRanges), ("unicode/utf8.first", laid_unicode_utf8_first)] }
def VecsOddSaid : Prop := vecsOddRow.holds Tryz.pinned (OpenSpec.ofChange vecsOddSpec)

/-- ITS FALSE NEIGHBOUR: 'it returns false'. Refute it at one input. -/
def vecsOddWrong : ChangeSpec := { name := "vecsOdd", fn := fun _ => fun
  | [d1, d2] => { results := [.lit (.bool false)], args := [d1, d2] }
  | _ => none }
def VecsOddWrongFalsely : Prop := vecsOddRow.holds Tryz.pinned (OpenSpec.ofChange vecsOddWrong)

/- THE SECOND FORM. 'bulk': how many values and letters a reading holds, each counted each time it is reached (what is shared counts as often as it is met; a slice's spare places count too). A statement '..UptoSaid' is the law's where the arguments, and the package variables that the reading takes, are together of bulk at most 1048576: NARROWER than '..Said'. Prove '..Said' where nothing that the law and all that it calls make is longer than what came in: it says more and counts as full. Else prove '..UptoSaid'. A law counts once. -/
mutual
def uptoBulk {H : Type} : DataW H → Nat
  | .lit (.string bytes) => bytes.length + 1
  | .lit _ => 1
  | .nil => 1
  | .ptr d => uptoBulk d + 1
  | .slice elems spare => uptoBulkAll elems + uptoBulkAll spare + 1
  | .agg parts => uptoBulkAll parts + 1
  | .iface _ d => uptoBulk d + 1
  | .map entries => uptoBulkEntries entries + 1
  | .held _ => 1
def uptoBulkAll {H : Type} : List (DataW H) → Nat
  | [] => 0
  | d :: r => uptoBulk d + uptoBulkAll r
def uptoBulkEntries {H : Type} : List (Lit × DataW H) → Nat
  | [] => 0
  | x :: r => uptoBulkEntry x + uptoBulkEntries r
def uptoBulkEntry {H : Type} : Lit × DataW H → Nat
  | (.string bytes, d) => bytes.length + uptoBulk d + 1
  | (_, d) => uptoBulk d + 1
 end
def uptoSmall : (H : Type) → List (DataW H) → Bool := fun _ ds => decide (uptoBulkAll ds ≤ 1048576)
def OpenSpec.upto (s : _root_.Go.ChangeSpec) : _root_.Go.OpenSpec := { _root_.Go.OpenSpec.ofChange s with cond := some uptoSmall }

/-- 'assayerlaw03.RatsRead', WHERE WHAT IT READS IS OF BULK AT MOST 1048576: true; the input reads as it did. -/
def ratsReadUptoRow : OpenClaim := { program := "ytnpfochbpdfcmaagreatdoor", sum := "d8ff239fb0ebb3454755ed55a3d0d4e7e882f28a40ce1f27aeb6e08a7bccb94f", func := "assayer/assayerlaw03.RatsRead", spec := "ratsRead", inPlace := ["internal/bytealg.IndexByteString", "internal/bytealg.IndexString", "internal/abi.NoEscape", "internal/bytealg.MakeNoZero"], unfollowed := true, recurses := true, named := ["math/bits.deBruijn32tab", "math/bits.overflowError", "internal/bytealg.MaxLen", "unicode/utf8.first", "unicode/utf8.acceptRanges"], apart := false, laid := [("math/bits.deBruijn32tab", laid_math_bits_deBruijn32tab), ("unicode/utf8.acceptRanges", laid_unicode_utf8_acceptRanges), ("unicode/utf8.first", laid_unicode_utf8_first)], narrowed := true }
def RatsReadUptoSaid : Prop := ratsReadUptoRow.holds Tryz.pinned (OpenSpec.upto ratsReadSpec)

/-- 'assayerlaw03.RatsPoints', WHERE WHAT IT READS IS OF BULK AT MOST 1048576: true; the input reads as it did. -/
def ratsPointsUptoRow : OpenClaim := { program := "ytnpfochbpdfcmaagreatdoor", sum := "d8ff239fb0ebb3454755ed55a3d0d4e7e882f28a40ce1f27aeb6e08a7bccb94f", func := "assayer/assayerlaw03.RatsPoints", spec := "ratsPoints", inPlace := ["internal/bytealg.IndexByteString", "internal/bytealg.IndexString", "internal/abi.NoEscape", "internal/bytealg.MakeNoZero"], unfollowed := true, recurses := true, named := ["internal/bytealg.MaxLen", "unicode/utf8.first", "unicode/utf8.acceptRanges", "math/bits.deBruijn32tab", "math/bits.overflowError"], apart := false, laid := [("math/bits.deBruijn32tab", laid_math_bits_deBruijn32tab), ("unicode/utf8.acceptRanges", laid_unicode_utf8_acceptRanges), ("unicode/utf8.first", laid_unicode_utf8_first)], narrowed := true }
def RatsPointsUptoSaid : Prop := ratsPointsUptoRow.holds Tryz.pinned (OpenSpec.upto ratsPointsSpec)

/-- 'assayerlaw03.RatsField', WHERE WHAT IT READS IS OF BULK AT MOST 1048576: true; the input reads as it did. -/
def ratsFieldUptoRow : OpenClaim := { program := "ytnpfochbpdfcmaagreatdoor", sum := "d8ff239fb0ebb3454755ed55a3d0d4e7e882f28a40ce1f27aeb6e08a7bccb94f", func := "assayer/assayerlaw03.RatsField", spec := "ratsField", inPlace := ["internal/bytealg.IndexByteString", "internal/bytealg.IndexString", "internal/abi.NoEscape", "internal/bytealg.MakeNoZero"], unfollowed := true, recurses := true, named := ["math/bits.deBruijn32tab", "math/bits.overflowError", "internal/bytealg.MaxLen", "unicode/utf8.first", "unicode/utf8.acceptRanges"], apart := false, laid := [("math/bits.deBruijn32tab", laid_math_bits_deBruijn32tab), ("unicode/utf8.acceptRanges", laid_unicode_utf8_acceptRanges), ("unicode/utf8.first", laid_unicode_utf8_first)], narrowed := true }
def RatsFieldUptoSaid : Prop := ratsFieldUptoRow.holds Tryz.pinned (OpenSpec.upto ratsFieldSpec)

/-- 'assayerlaw03.RatsMade', WHERE WHAT IT READS IS OF BULK AT MOST 1048576: true; the input reads as it did. -/
def ratsMadeUptoRow : OpenClaim := { program := "ytnpfochbpdfcmaagreatdoor", sum := "d8ff239fb0ebb3454755ed55a3d0d4e7e882f28a40ce1f27aeb6e08a7bccb94f", func := "assayer/assayerlaw03.RatsMade", spec := "ratsMade", inPlace := ["internal/bytealg.IndexByteString", "internal/bytealg.IndexString", "internal/abi.NoEscape", "internal/bytealg.MakeNoZero"], unfollowed := true, recurses := true, named := ["math/bits.deBruijn32tab", "math/bits.overflowError", "internal/bytealg.MaxLen", "unicode/utf8.first", "unicode/utf8.acceptRanges"], apart := false, laid := [("math/bits.deBruijn32tab", laid_math_bits_deBruijn32tab), ("unicode/utf8.acceptRanges", laid_unicode_utf8_acceptRanges), ("unicode/utf8.first", laid_unicode_utf8_first)], narrowed := true }
def RatsMadeUptoSaid : Prop := ratsMadeUptoRow.holds Tryz.pinned (OpenSpec.upto ratsMadeSpec)

/-- 'assayerlaw03.RatsUndone', WHERE WHAT IT READS IS OF BULK AT MOST 1048576: true; the input reads as it did. -/
def ratsUndoneUptoRow : OpenClaim := { program := "ytnpfochbpdfcmaagreatdoor", sum := "d8ff239fb0ebb3454755ed55a3d0d4e7e882f28a40ce1f27aeb6e08a7bccb94f", func := "assayer/assayerlaw03.RatsUndone", spec := "ratsUndone", inPlace := ["internal/bytealg.IndexByteString", "internal/bytealg.IndexString", "internal/abi.NoEscape", "internal/bytealg.MakeNoZero"], unfollowed := true, recurses := true, named := ["math/bits.deBruijn32tab", "math/bits.overflowError", "internal/bytealg.MaxLen", "unicode/utf8.first", "unicode/utf8.acceptRanges"], apart := false, laid := [("math/bits.deBruijn32tab", laid_math_bits_deBruijn32tab), ("unicode/utf8.acceptRanges", laid_unicode_utf8_acceptRanges), ("unicode/utf8.first", laid_unicode_utf8_first)], narrowed := true }
def RatsUndoneUptoSaid : Prop := ratsUndoneUptoRow.holds Tryz.pinned (OpenSpec.upto ratsUndoneSpec)

/-- 'assayerlaw03.RatsFloors', WHERE WHAT IT READS IS OF BULK AT MOST 1048576: true; the input reads as it did. -/
def ratsFloorsUptoRow : OpenClaim := { program := "ytnpfochbpdfcmaagreatdoor", sum := "d8ff239fb0ebb3454755ed55a3d0d4e7e882f28a40ce1f27aeb6e08a7bccb94f", func := "assayer/assayerlaw03.RatsFloors", spec := "ratsFloors", inPlace := ["internal/bytealg.IndexByteString", "internal/bytealg.IndexString", "internal/abi.NoEscape", "internal/bytealg.MakeNoZero"], unfollowed := true, recurses := true, named := ["math/bits.deBruijn32tab", "math/bits.overflowError", "internal/bytealg.MaxLen", "unicode/utf8.first", "unicode/utf8.acceptRanges"], apart := false, laid := [("math/bits.deBruijn32tab", laid_math_bits_deBruijn32tab), ("unicode/utf8.acceptRanges", laid_unicode_utf8_acceptRanges), ("unicode/utf8.first", laid_unicode_utf8_first)], narrowed := true }
def RatsFloorsUptoSaid : Prop := ratsFloorsUptoRow.holds Tryz.pinned (OpenSpec.upto ratsFloorsSpec)

/-- 'assayerlaw03.RatsSmall', WHERE WHAT IT READS IS OF BULK AT MOST 1048576: true; the input reads as it did. -/
def ratsSmallUptoRow : OpenClaim := { program := "ytnpfochbpdfcmaagreatdoor", sum := "d8ff239fb0ebb3454755ed55a3d0d4e7e882f28a40ce1f27aeb6e08a7bccb94f", func := "assayer/assayerlaw03.RatsSmall", spec := "ratsSmall", inPlace := ["internal/bytealg.IndexByteString", "internal/bytealg.IndexString", "internal/abi.NoEscape", "internal/bytealg.MakeNoZero"], unfollowed := true, recurses := true, named := ["math/bits.deBruijn32tab", "math/bits.overflowError", "internal/bytealg.MaxLen", "unicode/utf8.first", "unicode/utf8.acceptRanges"], apart := false, laid := [("math/bits.deBruijn32tab", laid_math_bits_deBruijn32tab), ("unicode/utf8.acceptRanges", laid_unicode_utf8_acceptRanges), ("unicode/utf8.first", laid_unicode_utf8_first)], narrowed := true }
def RatsSmallUptoSaid : Prop := ratsSmallUptoRow.holds Tryz.pinned (OpenSpec.upto ratsSmallSpec)

/-- 'assayerlaw03.RatsBetween', WHERE WHAT IT READS IS OF BULK AT MOST 1048576: true; the input reads as it did. -/
def ratsBetweenUptoRow : OpenClaim := { program := "ytnpfochbpdfcmaagreatdoor", sum := "d8ff239fb0ebb3454755ed55a3d0d4e7e882f28a40ce1f27aeb6e08a7bccb94f", func := "assayer/assayerlaw03.RatsBetween", spec := "ratsBetween", inPlace := ["internal/bytealg.IndexByteString", "internal/bytealg.IndexString", "internal/abi.NoEscape", "internal/bytealg.MakeNoZero"], unfollowed := true, recurses := true, named := ["math/bits.deBruijn32tab", "math/bits.overflowError", "internal/bytealg.MaxLen", "unicode/utf8.first", "unicode/utf8.acceptRanges"], apart := false, laid := [("math/bits.deBruijn32tab", laid_math_bits_deBruijn32tab), ("unicode/utf8.acceptRanges", laid_unicode_utf8_acceptRanges), ("unicode/utf8.first", laid_unicode_utf8_first)], narrowed := true }
def RatsBetweenUptoSaid : Prop := ratsBetweenUptoRow.holds Tryz.pinned (OpenSpec.upto ratsBetweenSpec)

/-- 'assayerlaw03.RatsOrder', WHERE WHAT IT READS IS OF BULK AT MOST 1048576: true; the input reads as it did. -/
def ratsOrderUptoRow : OpenClaim := { program := "ytnpfochbpdfcmaagreatdoor", sum := "d8ff239fb0ebb3454755ed55a3d0d4e7e882f28a40ce1f27aeb6e08a7bccb94f", func := "assayer/assayerlaw03.RatsOrder", spec := "ratsOrder", inPlace := ["internal/bytealg.IndexByteString", "internal/bytealg.IndexString", "internal/abi.NoEscape", "internal/bytealg.MakeNoZero"], unfollowed := true, recurses := true, named := ["math/bits.deBruijn32tab", "math/bits.overflowError", "internal/bytealg.MaxLen", "unicode/utf8.first", "unicode/utf8.acceptRanges"], apart := false, laid := [("math/bits.deBruijn32tab", laid_math_bits_deBruijn32tab), ("unicode/utf8.acceptRanges", laid_unicode_utf8_acceptRanges), ("unicode/utf8.first", laid_unicode_utf8_first)], narrowed := true }
def RatsOrderUptoSaid : Prop := ratsOrderUptoRow.holds Tryz.pinned (OpenSpec.upto ratsOrderSpec)

/-- 'assayerlaw04.VecsLinear', WHERE WHAT IT READS IS OF BULK AT MOST 1048576: true; the input reads as it did. -/
def vecsLinearUptoRow : OpenClaim := { program := "ytnpfochbpdfcmaagreatdoor", sum := "d8ff239fb0ebb3454755ed55a3d0d4e7e882f28a40ce1f27aeb6e08a7bccb94f", func := "assayer/assayerlaw04.VecsLinear", spec := "vecsLinear", inPlace := ["internal/abi.NoEscape", "internal/bytealg.MakeNoZero", "internal/bytealg.IndexByteString", "internal/bytealg.IndexString"], unfollowed := true, recurses := true, named := ["math/bits.deBruijn32tab", "math/bits.overflowError", "unicode/utf8.first", "unicode/utf8.acceptRanges", "internal/bytealg.MaxLen"], apart := false, laid := [("math/bits.deBruijn32tab", laid_math_bits_deBruijn32tab), ("unicode/utf8.acceptRanges", laid_unicode_utf8_acceptRanges), ("unicode/utf8.first", laid_unicode_utf8_first)], narrowed := true }
def VecsLinearUptoSaid : Prop := vecsLinearUptoRow.holds Tryz.pinned (OpenSpec.upto vecsLinearSpec)

/-- 'assayerlaw04.VecsParts', WHERE WHAT IT READS IS OF BULK AT MOST 1048576: true; the input reads as it did. -/
def vecsPartsUptoRow : OpenClaim := { program := "ytnpfochbpdfcmaagreatdoor", sum := "d8ff239fb0ebb3454755ed55a3d0d4e7e882f28a40ce1f27aeb6e08a7bccb94f", func := "assayer/assayerlaw04.VecsParts", spec := "vecsParts", inPlace := ["internal/abi.NoEscape", "internal/bytealg.MakeNoZero", "internal/bytealg.IndexByteString", "internal/bytealg.IndexString"], unfollowed := true, recurses := true, named := ["math/bits.deBruijn32tab", "math/bits.overflowError", "unicode/utf8.first", "unicode/utf8.acceptRanges", "internal/bytealg.MaxLen"], apart := false, laid := [("math/bits.deBruijn32tab", laid_math_bits_deBruijn32tab), ("unicode/utf8.acceptRanges", laid_unicode_utf8_acceptRanges), ("unicode/utf8.first", laid_unicode_utf8_first)], narrowed := true }
def VecsPartsUptoSaid : Prop := vecsPartsUptoRow.holds Tryz.pinned (OpenSpec.upto vecsPartsSpec)

/-- 'assayerlaw04.VecsTurned', WHERE WHAT IT READS IS OF BULK AT MOST 1048576: true; the input reads as it did. -/
def vecsTurnedUptoRow : OpenClaim := { program := "ytnpfochbpdfcmaagreatdoor", sum := "d8ff239fb0ebb3454755ed55a3d0d4e7e882f28a40ce1f27aeb6e08a7bccb94f", func := "assayer/assayerlaw04.VecsTurned", spec := "vecsTurned", inPlace := ["internal/abi.NoEscape", "internal/bytealg.MakeNoZero", "internal/bytealg.IndexByteString", "internal/bytealg.IndexString"], unfollowed := true, recurses := true, named := ["math/bits.deBruijn32tab", "math/bits.overflowError", "unicode/utf8.first", "unicode/utf8.acceptRanges", "internal/bytealg.MaxLen"], apart := false, laid := [("math/bits.deBruijn32tab", laid_math_bits_deBruijn32tab), ("unicode/utf8.acceptRanges", laid_unicode_utf8_acceptRanges), ("unicode/utf8.first", laid_unicode_utf8_first)], narrowed := true }
def VecsTurnedUptoSaid : Prop := vecsTurnedUptoRow.holds Tryz.pinned (OpenSpec.upto vecsTurnedSpec)

/-- 'assayerlaw04.VecsBack', WHERE WHAT IT READS IS OF BULK AT MOST 1048576: true; the input reads as it did. -/
def vecsBackUptoRow : OpenClaim := { program := "ytnpfochbpdfcmaagreatdoor", sum := "d8ff239fb0ebb3454755ed55a3d0d4e7e882f28a40ce1f27aeb6e08a7bccb94f", func := "assayer/assayerlaw04.VecsBack", spec := "vecsBack", inPlace := ["internal/abi.NoEscape", "internal/bytealg.MakeNoZero", "internal/bytealg.IndexByteString", "internal/bytealg.IndexString"], unfollowed := true, recurses := true, named := ["math/bits.deBruijn32tab", "math/bits.overflowError", "unicode/utf8.first", "unicode/utf8.acceptRanges", "internal/bytealg.MaxLen"], apart := false, laid := [("math/bits.deBruijn32tab", laid_math_bits_deBruijn32tab), ("unicode/utf8.acceptRanges", laid_unicode_utf8_acceptRanges), ("unicode/utf8.first", laid_unicode_utf8_first)], narrowed := true }
def VecsBackUptoSaid : Prop := vecsBackUptoRow.holds Tryz.pinned (OpenSpec.upto vecsBackSpec)

/-- 'assayerlaw04.VecsOdd', WHERE WHAT IT READS IS OF BULK AT MOST 1048576: true; the input reads as it did. -/
def vecsOddUptoRow : OpenClaim := { program := "ytnpfochbpdfcmaagreatdoor", sum := "d8ff239fb0ebb3454755ed55a3d0d4e7e882f28a40ce1f27aeb6e08a7bccb94f", func := "assayer/assayerlaw04.VecsOdd", spec := "vecsOdd", inPlace := ["internal/abi.NoEscape", "internal/bytealg.MakeNoZero", "internal/bytealg.IndexByteString", "internal/bytealg.IndexString"], unfollowed := true, recurses := true, named := ["math/bits.deBruijn32tab", "math/bits.overflowError", "unicode/utf8.first", "unicode/utf8.acceptRanges", "internal/bytealg.MaxLen"], apart := false, laid := [("math/bits.deBruijn32tab", laid_math_bits_deBruijn32tab), ("unicode/utf8.acceptRanges", laid_unicode_utf8_acceptRanges), ("unicode/utf8.first", laid_unicode_utf8_first)], narrowed := true }
def VecsOddUptoSaid : Prop := vecsOddUptoRow.holds Tryz.pinned (OpenSpec.upto vecsOddSpec)

end Rows
end Go.Proofs.YtnpfochbpdfcmaaGreatDoor
