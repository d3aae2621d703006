/-
  NARROWER THAN 'FOR EVERY INPUT', by the rows' own cells (each row's printed sentence says how): IntsRing: laid · IntsOrder: laid · IntsTurned: laid · IntsRead: laid · IntsSmall: laid · IntsAmounts: laid · NatsRing: laid · NatsOften: laid · NatsUndone: laid · NatsGreatest: laid · NatsRead: laid · NatsSmall: laid · NatsNone: laid · NatsShift: laid.
  DERIVED. THE GIVEN ROWS OF THIS SEAT. 14 by the template 'for every input the law returns true; each argument reads behind the call as it read before'; 0 by the template 'total and deterministic' (their statements: YtcdejccbamjdoaaDoorTotals.lean).
  GIVEN WITH THE SEED: the statements are not yours to turn. If you find one false, say at which input.
  Laid BY PROGRAM, IN A SANDBOX (cutbox-rows.mjs): the forced cells as the released guide's own fill.sh prints them over the translation 4a9a6ad5fe9da68f… (all of the seat's roots in one cut). By AI agents, Wed Nov 11 2026. No macro, syntax, notation, axiom, sorry.
-/
import Derived.Test.YtcdejccbamjdoaaDoorChecked
import GoSem.PinnedTables
import GoSem.Claim
import GoSem.ClaimJoined
import GoSem.ClaimMapViews
import Derived.JoinedTies
import Derived.KernelRfl
namespace Go.Proofs.YtcdejccbamjdoaaDoor
/- THE CELL 'sum', in the pinned program and in every row, IS THE sha256 OF THE DUMP (.gsa) THAT YtcdejccbamjdoaaDoorProg.lean LOADS. Nothing in Lean hashes anything: it is a label: what it is worth is what the hold of that sum in a sandbox is worth. -/
noncomputable def Tryd.pinned : Pinned := { name := "ytcdejccbamjdoaadoor", sum := "4a9a6ad5fe9da68fcb8cf09bf3d9f4e19704fd6b9287bf2de4f0449e98af0fad", checked := Tryd.checked }
namespace Rows
def none {H : Type} : Left H := { results := [], args := [] }

/- WHAT THE LISTED PACKAGE-LEVEL VARIABLES READ AS WHEN THE CALL BEGINS. Each datum BY PROGRAM (the guide's laid-datum.mjs) off the statement by which the dump's own 'gosem.cut.vars' lays the variable. In a bare row this is a premise. The card (YtcdejccbamjdoaaDoorCards.lean) ties it to the program's text. -/
def laid_unicode_utf8_acceptRanges {H : Type} : DataW H := .agg [.agg [.lit (.int .u8 128), .lit (.int .u8 191)], .agg [.lit (.int .u8 160), .lit (.int .u8 191)], .agg [.lit (.int .u8 128), .lit (.int .u8 159)], .agg [.lit (.int .u8 144), .lit (.int .u8 191)], .agg [.lit (.int .u8 128), .lit (.int .u8 143)], .agg [.lit (.int .u8 0), .lit (.int .u8 0)], .agg [.lit (.int .u8 0), .lit (.int .u8 0)], .agg [.lit (.int .u8 0), .lit (.int .u8 0)], .agg [.lit (.int .u8 0), .lit (.int .u8 0)], .agg [.lit (.int .u8 0), .lit (.int .u8 0)], .agg [.lit (.int .u8 0), .lit (.int .u8 0)], .agg [.lit (.int .u8 0), .lit (.int .u8 0)], .agg [.lit (.int .u8 0), .lit (.int .u8 0)], .agg [.lit (.int .u8 0), .lit (.int .u8 0)], .agg [.lit (.int .u8 0), .lit (.int .u8 0)], .agg [.lit (.int .u8 0), .lit (.int .u8 0)]]
/-- One of Go's own tables, pinned by name: the form's constant. -/
def laid_unicode_utf8_first : DataW Unit := Go.Pinned.utf8First
def laid_math_bits_deBruijn32tab {H : Type} : DataW H := .agg [.lit (.int .u8 0), .lit (.int .u8 1), .lit (.int .u8 28), .lit (.int .u8 2), .lit (.int .u8 29), .lit (.int .u8 14), .lit (.int .u8 24), .lit (.int .u8 3), .lit (.int .u8 30), .lit (.int .u8 22), .lit (.int .u8 20), .lit (.int .u8 15), .lit (.int .u8 25), .lit (.int .u8 17), .lit (.int .u8 4), .lit (.int .u8 8), .lit (.int .u8 31), .lit (.int .u8 27), .lit (.int .u8 13), .lit (.int .u8 23), .lit (.int .u8 21), .lit (.int .u8 19), .lit (.int .u8 16), .lit (.int .u8 7), .lit (.int .u8 26), .lit (.int .u8 12), .lit (.int .u8 18), .lit (.int .u8 6), .lit (.int .u8 11), .lit (.int .u8 5), .lit (.int .u8 10), .lit (.int .u8 9)]

/-- 'assayerlaw02.IntsRing': WHATEVER THE INPUT: true; the input reads as it did. -/
def intsRingSpec : ChangeSpec := { name := "intsRing", fn := fun _ => fun
  | [d1, d2, d3] => { results := [.lit (.bool true)], args := [d1, d2, d3] }
  | _ => none }
def intsRingRow : OpenClaim := { program := "ytcdejccbamjdoaadoor", sum := "4a9a6ad5fe9da68fcb8cf09bf3d9f4e19704fd6b9287bf2de4f0449e98af0fad", func := "assayer/assayerlaw02.IntsRing", spec := "intsRing", inPlace := ["internal/bytealg.IndexByteString", "internal/bytealg.IndexString", "internal/abi.NoEscape", "internal/bytealg.MakeNoZero"], unfollowed := true, recurses := true, named := ["unicode/utf8.first", "unicode/utf8.acceptRanges", "math/bits.overflowError", "internal/bytealg.MaxLen"], apart := false, laid := [("unicode/utf8.acceptRanges", laid_unicode_utf8_acceptRanges), ("unicode/utf8.first", laid_unicode_utf8_first)] }
def IntsRingSaid : Prop := intsRingRow.holds Tryd.pinned (OpenSpec.ofChange intsRingSpec)

/-- ITS FALSE NEIGHBOUR: 'it returns false'. Refute it at one input. -/
def intsRingWrong : ChangeSpec := { name := "intsRing", fn := fun _ => fun
  | [d1, d2, d3] => { results := [.lit (.bool false)], args := [d1, d2, d3] }
  | _ => none }
def IntsRingWrongFalsely : Prop := intsRingRow.holds Tryd.pinned (OpenSpec.ofChange intsRingWrong)

/-- 'assayerlaw02.IntsOrder': WHATEVER THE INPUT: true; the input reads as it did. -/
def intsOrderSpec : ChangeSpec := { name := "intsOrder", fn := fun _ => fun
  | [d1, d2, d3] => { results := [.lit (.bool true)], args := [d1, d2, d3] }
  | _ => none }
def intsOrderRow : OpenClaim := { program := "ytcdejccbamjdoaadoor", sum := "4a9a6ad5fe9da68fcb8cf09bf3d9f4e19704fd6b9287bf2de4f0449e98af0fad", func := "assayer/assayerlaw02.IntsOrder", spec := "intsOrder", inPlace := ["internal/bytealg.IndexByteString", "internal/bytealg.IndexString", "internal/abi.NoEscape", "internal/bytealg.MakeNoZero"], unfollowed := true, recurses := true, named := ["unicode/utf8.first", "unicode/utf8.acceptRanges", "math/bits.overflowError", "internal/bytealg.MaxLen"], apart := false, laid := [("unicode/utf8.acceptRanges", laid_unicode_utf8_acceptRanges), ("unicode/utf8.first", laid_unicode_utf8_first)] }
def IntsOrderSaid : Prop := intsOrderRow.holds Tryd.pinned (OpenSpec.ofChange intsOrderSpec)

/-- ITS FALSE NEIGHBOUR: 'it returns false'. Refute it at one input. -/
def intsOrderWrong : ChangeSpec := { name := "intsOrder", fn := fun _ => fun
  | [d1, d2, d3] => { results := [.lit (.bool false)], args := [d1, d2, d3] }
  | _ => none }
def IntsOrderWrongFalsely : Prop := intsOrderRow.holds Tryd.pinned (OpenSpec.ofChange intsOrderWrong)

/-- 'assayerlaw02.IntsTurned': WHATEVER THE INPUT: true; the input reads as it did. -/
def intsTurnedSpec : ChangeSpec := { name := "intsTurned", fn := fun _ => fun
  | [d1, d2] => { results := [.lit (.bool true)], args := [d1, d2] }
  | _ => none }
def intsTurnedRow : OpenClaim := { program := "ytcdejccbamjdoaadoor", sum := "4a9a6ad5fe9da68fcb8cf09bf3d9f4e19704fd6b9287bf2de4f0449e98af0fad", func := "assayer/assayerlaw02.IntsTurned", spec := "intsTurned", inPlace := ["internal/bytealg.IndexByteString", "internal/bytealg.IndexString", "internal/abi.NoEscape", "internal/bytealg.MakeNoZero"], unfollowed := true, recurses := true, named := ["unicode/utf8.first", "unicode/utf8.acceptRanges", "math/bits.overflowError", "internal/bytealg.MaxLen"], apart := false, laid := [("unicode/utf8.acceptRanges", laid_unicode_utf8_acceptRanges), ("unicode/utf8.first", laid_unicode_utf8_first)] }
def IntsTurnedSaid : Prop := intsTurnedRow.holds Tryd.pinned (OpenSpec.ofChange intsTurnedSpec)

/-- ITS FALSE NEIGHBOUR: 'it returns false'. Refute it at one input. -/
def intsTurnedWrong : ChangeSpec := { name := "intsTurned", fn := fun _ => fun
  | [d1, d2] => { results := [.lit (.bool false)], args := [d1, d2] }
  | _ => none }
def IntsTurnedWrongFalsely : Prop := intsTurnedRow.holds Tryd.pinned (OpenSpec.ofChange intsTurnedWrong)

/-- 'assayerlaw02.IntsRead': WHATEVER THE INPUT: true; the input reads as it did. -/
def intsReadSpec : ChangeSpec := { name := "intsRead", fn := fun _ => fun
  | [d1, d2] => { results := [.lit (.bool true)], args := [d1, d2] }
  | _ => none }
def intsReadRow : OpenClaim := { program := "ytcdejccbamjdoaadoor", sum := "4a9a6ad5fe9da68fcb8cf09bf3d9f4e19704fd6b9287bf2de4f0449e98af0fad", func := "assayer/assayerlaw02.IntsRead", spec := "intsRead", inPlace := ["internal/bytealg.IndexByteString", "internal/bytealg.IndexString", "internal/abi.NoEscape", "internal/bytealg.MakeNoZero"], unfollowed := true, recurses := true, named := ["unicode/utf8.first", "unicode/utf8.acceptRanges", "math/bits.overflowError", "internal/bytealg.MaxLen"], apart := false, laid := [("unicode/utf8.acceptRanges", laid_unicode_utf8_acceptRanges), ("unicode/utf8.first", laid_unicode_utf8_first)] }
def IntsReadSaid : Prop := intsReadRow.holds Tryd.pinned (OpenSpec.ofChange intsReadSpec)

/-- ITS FALSE NEIGHBOUR: 'it returns false'. Refute it at one input. -/
def intsReadWrong : ChangeSpec := { name := "intsRead", fn := fun _ => fun
  | [d1, d2] => { results := [.lit (.bool false)], args := [d1, d2] }
  | _ => none }
def IntsReadWrongFalsely : Prop := intsReadRow.holds Tryd.pinned (OpenSpec.ofChange intsReadWrong)

/-- 'assayerlaw02.IntsSmall': WHATEVER THE INPUT: true; the input reads as it did. -/
def intsSmallSpec : ChangeSpec := { name := "intsSmall", fn := fun _ => fun
  | [d1, d2, d3] => { results := [.lit (.bool true)], args := [d1, d2, d3] }
  | _ => none }
def intsSmallRow : OpenClaim := { program := "ytcdejccbamjdoaadoor", sum := "4a9a6ad5fe9da68fcb8cf09bf3d9f4e19704fd6b9287bf2de4f0449e98af0fad", func := "assayer/assayerlaw02.IntsSmall", spec := "intsSmall", inPlace := ["internal/bytealg.IndexByteString", "internal/bytealg.IndexString", "internal/abi.NoEscape", "internal/bytealg.MakeNoZero"], unfollowed := true, recurses := true, named := ["unicode/utf8.first", "unicode/utf8.acceptRanges", "math/bits.overflowError", "internal/bytealg.MaxLen"], apart := false, laid := [("unicode/utf8.acceptRanges", laid_unicode_utf8_acceptRanges), ("unicode/utf8.first", laid_unicode_utf8_first)] }
def IntsSmallSaid : Prop := intsSmallRow.holds Tryd.pinned (OpenSpec.ofChange intsSmallSpec)

/-- ITS FALSE NEIGHBOUR: 'it returns false'. Refute it at one input. -/
def intsSmallWrong : ChangeSpec := { name := "intsSmall", fn := fun _ => fun
  | [d1, d2, d3] => { results := [.lit (.bool false)], args := [d1, d2, d3] }
  | _ => none }
def IntsSmallWrongFalsely : Prop := intsSmallRow.holds Tryd.pinned (OpenSpec.ofChange intsSmallWrong)

/-- 'assayerlaw02.IntsAmounts': WHATEVER THE INPUT: true; the input reads as it did. -/
def intsAmountsSpec : ChangeSpec := { name := "intsAmounts", fn := fun _ => fun
  | [d1, d2] => { results := [.lit (.bool true)], args := [d1, d2] }
  | _ => none }
def intsAmountsRow : OpenClaim := { program := "ytcdejccbamjdoaadoor", sum := "4a9a6ad5fe9da68fcb8cf09bf3d9f4e19704fd6b9287bf2de4f0449e98af0fad", func := "assayer/assayerlaw02.IntsAmounts", spec := "intsAmounts", inPlace := ["internal/bytealg.IndexByteString", "internal/bytealg.IndexString", "internal/abi.NoEscape", "internal/bytealg.MakeNoZero"], unfollowed := true, recurses := true, named := ["unicode/utf8.first", "unicode/utf8.acceptRanges", "math/bits.overflowError", "internal/bytealg.MaxLen"], apart := false, laid := [("unicode/utf8.acceptRanges", laid_unicode_utf8_acceptRanges), ("unicode/utf8.first", laid_unicode_utf8_first)] }
def IntsAmountsSaid : Prop := intsAmountsRow.holds Tryd.pinned (OpenSpec.ofChange intsAmountsSpec)

/-- ITS FALSE NEIGHBOUR: 'it returns false'. Refute it at one input. -/
def intsAmountsWrong : ChangeSpec := { name := "intsAmounts", fn := fun _ => fun
  | [d1, d2] => { results := [.lit (.bool false)], args := [d1, d2] }
  | _ => none }
def IntsAmountsWrongFalsely : Prop := intsAmountsRow.holds Tryd.pinned (OpenSpec.ofChange intsAmountsWrong)

/-- 'assayerlaw01.NatsRing': WHATEVER THE INPUT: true; the input reads as it did. -/
def natsRingSpec : ChangeSpec := { name := "natsRing", fn := fun _ => fun
  | [d1, d2, d3] => { results := [.lit (.bool true)], args := [d1, d2, d3] }
  | _ => none }
def natsRingRow : OpenClaim := { program := "ytcdejccbamjdoaadoor", sum := "4a9a6ad5fe9da68fcb8cf09bf3d9f4e19704fd6b9287bf2de4f0449e98af0fad", func := "assayer/assayerlaw01.NatsRing", spec := "natsRing", inPlace := ["internal/bytealg.IndexByteString", "internal/bytealg.IndexString", "internal/abi.NoEscape", "internal/bytealg.MakeNoZero"], unfollowed := true, recurses := true, named := ["math/bits.overflowError", "unicode/utf8.first", "unicode/utf8.acceptRanges", "math/bits.deBruijn32tab", "internal/bytealg.MaxLen"], apart := false, laid := [("math/bits.deBruijn32tab", laid_math_bits_deBruijn32tab), ("unicode/utf8.acceptRanges", laid_unicode_utf8_acceptRanges), ("unicode/utf8.first", laid_unicode_utf8_first)] }
def NatsRingSaid : Prop := natsRingRow.holds Tryd.pinned (OpenSpec.ofChange natsRingSpec)

/-- ITS FALSE NEIGHBOUR: 'it returns false'. Refute it at one input. -/
def natsRingWrong : ChangeSpec := { name := "natsRing", fn := fun _ => fun
  | [d1, d2, d3] => { results := [.lit (.bool false)], args := [d1, d2, d3] }
  | _ => none }
def NatsRingWrongFalsely : Prop := natsRingRow.holds Tryd.pinned (OpenSpec.ofChange natsRingWrong)

/-- 'assayerlaw01.NatsOften': WHATEVER THE INPUT: true; the input reads as it did. -/
def natsOftenSpec : ChangeSpec := { name := "natsOften", fn := fun _ => fun
  | [d1, d2] => { results := [.lit (.bool true)], args := [d1, d2] }
  | _ => none }
def natsOftenRow : OpenClaim := { program := "ytcdejccbamjdoaadoor", sum := "4a9a6ad5fe9da68fcb8cf09bf3d9f4e19704fd6b9287bf2de4f0449e98af0fad", func := "assayer/assayerlaw01.NatsOften", spec := "natsOften", inPlace := ["internal/bytealg.IndexByteString", "internal/bytealg.IndexString", "internal/abi.NoEscape", "internal/bytealg.MakeNoZero"], unfollowed := true, recurses := true, named := ["math/bits.overflowError", "unicode/utf8.first", "unicode/utf8.acceptRanges", "math/bits.deBruijn32tab", "internal/bytealg.MaxLen"], apart := false, laid := [("math/bits.deBruijn32tab", laid_math_bits_deBruijn32tab), ("unicode/utf8.acceptRanges", laid_unicode_utf8_acceptRanges), ("unicode/utf8.first", laid_unicode_utf8_first)] }
def NatsOftenSaid : Prop := natsOftenRow.holds Tryd.pinned (OpenSpec.ofChange natsOftenSpec)

/-- ITS FALSE NEIGHBOUR: 'it returns false'. Refute it at one input. -/
def natsOftenWrong : ChangeSpec := { name := "natsOften", fn := fun _ => fun
  | [d1, d2] => { results := [.lit (.bool false)], args := [d1, d2] }
  | _ => none }
def NatsOftenWrongFalsely : Prop := natsOftenRow.holds Tryd.pinned (OpenSpec.ofChange natsOftenWrong)

/-- 'assayerlaw01.NatsUndone': WHATEVER THE INPUT: true; the input reads as it did. -/
def natsUndoneSpec : ChangeSpec := { name := "natsUndone", fn := fun _ => fun
  | [d1, d2] => { results := [.lit (.bool true)], args := [d1, d2] }
  | _ => none }
def natsUndoneRow : OpenClaim := { program := "ytcdejccbamjdoaadoor", sum := "4a9a6ad5fe9da68fcb8cf09bf3d9f4e19704fd6b9287bf2de4f0449e98af0fad", func := "assayer/assayerlaw01.NatsUndone", spec := "natsUndone", inPlace := ["internal/bytealg.IndexByteString", "internal/bytealg.IndexString", "internal/abi.NoEscape", "internal/bytealg.MakeNoZero"], unfollowed := true, recurses := true, named := ["math/bits.overflowError", "unicode/utf8.first", "unicode/utf8.acceptRanges", "math/bits.deBruijn32tab", "internal/bytealg.MaxLen"], apart := false, laid := [("math/bits.deBruijn32tab", laid_math_bits_deBruijn32tab), ("unicode/utf8.acceptRanges", laid_unicode_utf8_acceptRanges), ("unicode/utf8.first", laid_unicode_utf8_first)] }
def NatsUndoneSaid : Prop := natsUndoneRow.holds Tryd.pinned (OpenSpec.ofChange natsUndoneSpec)

/-- ITS FALSE NEIGHBOUR: 'it returns false'. Refute it at one input. -/
def natsUndoneWrong : ChangeSpec := { name := "natsUndone", fn := fun _ => fun
  | [d1, d2] => { results := [.lit (.bool false)], args := [d1, d2] }
  | _ => none }
def NatsUndoneWrongFalsely : Prop := natsUndoneRow.holds Tryd.pinned (OpenSpec.ofChange natsUndoneWrong)

/-- 'assayerlaw01.NatsGreatest': WHATEVER THE INPUT: true; the input reads as it did. -/
def natsGreatestSpec : ChangeSpec := { name := "natsGreatest", fn := fun _ => fun
  | [d1, d2, d3] => { results := [.lit (.bool true)], args := [d1, d2, d3] }
  | _ => none }
def natsGreatestRow : OpenClaim := { program := "ytcdejccbamjdoaadoor", sum := "4a9a6ad5fe9da68fcb8cf09bf3d9f4e19704fd6b9287bf2de4f0449e98af0fad", func := "assayer/assayerlaw01.NatsGreatest", spec := "natsGreatest", inPlace := ["internal/bytealg.IndexByteString", "internal/bytealg.IndexString", "internal/abi.NoEscape", "internal/bytealg.MakeNoZero"], unfollowed := true, recurses := true, named := ["math/bits.overflowError", "unicode/utf8.first", "unicode/utf8.acceptRanges", "math/bits.deBruijn32tab", "internal/bytealg.MaxLen"], apart := false, laid := [("math/bits.deBruijn32tab", laid_math_bits_deBruijn32tab), ("unicode/utf8.acceptRanges", laid_unicode_utf8_acceptRanges), ("unicode/utf8.first", laid_unicode_utf8_first)] }
def NatsGreatestSaid : Prop := natsGreatestRow.holds Tryd.pinned (OpenSpec.ofChange natsGreatestSpec)

/-- ITS FALSE NEIGHBOUR: 'it returns false'. Refute it at one input. -/
def natsGreatestWrong : ChangeSpec := { name := "natsGreatest", fn := fun _ => fun
  | [d1, d2, d3] => { results := [.lit (.bool false)], args := [d1, d2, d3] }
  | _ => none }
def NatsGreatestWrongFalsely : Prop := natsGreatestRow.holds Tryd.pinned (OpenSpec.ofChange natsGreatestWrong)

/-- 'assayerlaw01.NatsRead': WHATEVER THE INPUT: true; the input reads as it did. -/
def natsReadSpec : ChangeSpec := { name := "natsRead", fn := fun _ => fun
  | [d1, d2] => { results := [.lit (.bool true)], args := [d1, d2] }
  | _ => none }
def natsReadRow : OpenClaim := { program := "ytcdejccbamjdoaadoor", sum := "4a9a6ad5fe9da68fcb8cf09bf3d9f4e19704fd6b9287bf2de4f0449e98af0fad", func := "assayer/assayerlaw01.NatsRead", spec := "natsRead", inPlace := ["internal/bytealg.IndexByteString", "internal/bytealg.IndexString", "internal/abi.NoEscape", "internal/bytealg.MakeNoZero"], unfollowed := true, recurses := true, named := ["math/bits.overflowError", "unicode/utf8.first", "unicode/utf8.acceptRanges", "math/bits.deBruijn32tab", "internal/bytealg.MaxLen"], apart := false, laid := [("math/bits.deBruijn32tab", laid_math_bits_deBruijn32tab), ("unicode/utf8.acceptRanges", laid_unicode_utf8_acceptRanges), ("unicode/utf8.first", laid_unicode_utf8_first)] }
def NatsReadSaid : Prop := natsReadRow.holds Tryd.pinned (OpenSpec.ofChange natsReadSpec)

/-- ITS FALSE NEIGHBOUR: 'it returns false'. Refute it at one input. -/
def natsReadWrong : ChangeSpec := { name := "natsRead", fn := fun _ => fun
  | [d1, d2] => { results := [.lit (.bool false)], args := [d1, d2] }
  | _ => none }
def NatsReadWrongFalsely : Prop := natsReadRow.holds Tryd.pinned (OpenSpec.ofChange natsReadWrong)

/-- 'assayerlaw01.NatsSmall': WHATEVER THE INPUT: true; the input reads as it did. -/
def natsSmallSpec : ChangeSpec := { name := "natsSmall", fn := fun _ => fun
  | [d1, d2] => { results := [.lit (.bool true)], args := [d1, d2] }
  | _ => none }
def natsSmallRow : OpenClaim := { program := "ytcdejccbamjdoaadoor", sum := "4a9a6ad5fe9da68fcb8cf09bf3d9f4e19704fd6b9287bf2de4f0449e98af0fad", func := "assayer/assayerlaw01.NatsSmall", spec := "natsSmall", inPlace := ["internal/bytealg.IndexByteString", "internal/bytealg.IndexString", "internal/abi.NoEscape", "internal/bytealg.MakeNoZero"], unfollowed := true, recurses := true, named := ["math/bits.overflowError", "unicode/utf8.first", "unicode/utf8.acceptRanges", "math/bits.deBruijn32tab", "internal/bytealg.MaxLen"], apart := false, laid := [("math/bits.deBruijn32tab", laid_math_bits_deBruijn32tab), ("unicode/utf8.acceptRanges", laid_unicode_utf8_acceptRanges), ("unicode/utf8.first", laid_unicode_utf8_first)] }
def NatsSmallSaid : Prop := natsSmallRow.holds Tryd.pinned (OpenSpec.ofChange natsSmallSpec)

/-- ITS FALSE NEIGHBOUR: 'it returns false'. Refute it at one input. -/
def natsSmallWrong : ChangeSpec := { name := "natsSmall", fn := fun _ => fun
  | [d1, d2] => { results := [.lit (.bool false)], args := [d1, d2] }
  | _ => none }
def NatsSmallWrongFalsely : Prop := natsSmallRow.holds Tryd.pinned (OpenSpec.ofChange natsSmallWrong)

/-- 'assayerlaw01.NatsNone': WHATEVER THE INPUT: true; the input reads as it did. -/
def natsNoneSpec : ChangeSpec := { name := "natsNone", fn := fun _ => fun
  | [d1, d2] => { results := [.lit (.bool true)], args := [d1, d2] }
  | _ => none }
def natsNoneRow : OpenClaim := { program := "ytcdejccbamjdoaadoor", sum := "4a9a6ad5fe9da68fcb8cf09bf3d9f4e19704fd6b9287bf2de4f0449e98af0fad", func := "assayer/assayerlaw01.NatsNone", spec := "natsNone", inPlace := ["internal/bytealg.IndexByteString", "internal/bytealg.IndexString", "internal/abi.NoEscape", "internal/bytealg.MakeNoZero"], unfollowed := true, recurses := true, named := ["math/bits.overflowError", "unicode/utf8.first", "unicode/utf8.acceptRanges", "math/bits.deBruijn32tab", "internal/bytealg.MaxLen"], apart := false, laid := [("math/bits.deBruijn32tab", laid_math_bits_deBruijn32tab), ("unicode/utf8.acceptRanges", laid_unicode_utf8_acceptRanges), ("unicode/utf8.first", laid_unicode_utf8_first)] }
def NatsNoneSaid : Prop := natsNoneRow.holds Tryd.pinned (OpenSpec.ofChange natsNoneSpec)

/-- ITS FALSE NEIGHBOUR: 'it returns false'. Refute it at one input. -/
def natsNoneWrong : ChangeSpec := { name := "natsNone", fn := fun _ => fun
  | [d1, d2] => { results := [.lit (.bool false)], args := [d1, d2] }
  | _ => none }
def NatsNoneWrongFalsely : Prop := natsNoneRow.holds Tryd.pinned (OpenSpec.ofChange natsNoneWrong)

/-- 'assayerlaw01.NatsShift': WHATEVER THE INPUT: true; the input reads as it did. -/
def natsShiftSpec : ChangeSpec := { name := "natsShift", fn := fun _ => fun
  | [d1, d2] => { results := [.lit (.bool true)], args := [d1, d2] }
  | _ => none }
def natsShiftRow : OpenClaim := { program := "ytcdejccbamjdoaadoor", sum := "4a9a6ad5fe9da68fcb8cf09bf3d9f4e19704fd6b9287bf2de4f0449e98af0fad", func := "assayer/assayerlaw01.NatsShift", spec := "natsShift", inPlace := ["internal/bytealg.IndexByteString", "internal/bytealg.IndexString", "internal/abi.NoEscape", "internal/bytealg.MakeNoZero"], unfollowed := true, recurses := true, named := ["math/bits.overflowError", "unicode/utf8.first", "unicode/utf8.acceptRanges", "math/bits.deBruijn32tab", "internal/bytealg.MaxLen"], apart := false, laid := [("math/bits.deBruijn32tab", laid_math_bits_deBruijn32tab), ("unicode/utf8.acceptRanges", laid_unicode_utf8_acceptRanges), ("unicode/utf8.first", laid_unicode_utf8_first)] }
def NatsShiftSaid : Prop := natsShiftRow.holds Tryd.pinned (OpenSpec.ofChange natsShiftSpec)

/-- ITS FALSE NEIGHBOUR: 'it returns false'. Refute it at one input. -/
def natsShiftWrong : ChangeSpec := { name := "natsShift", fn := fun _ => fun
  | [d1, d2] => { results := [.lit (.bool false)], args := [d1, d2] }
  | _ => none }
def NatsShiftWrongFalsely : Prop := natsShiftRow.holds Tryd.pinned (OpenSpec.ofChange natsShiftWrong)

/- THE SECOND FORM. 'bulk': how many values and letters a reading holds, each counted each time it is reached (what is shared counts as often as it is met; a slice's spare places count too). A statement '..UptoSaid' is the law's where the arguments, and the package variables that the reading takes, are together of bulk at most 1048576: NARROWER than '..Said'. Prove '..Said' where nothing that the law and all that it calls make is longer than what came in: it says more and counts as full. Else prove '..UptoSaid'. A law counts once. -/
mutual
def uptoBulk {H : Type} : DataW H → Nat
  | .lit (.string bytes) => bytes.length + 1
  | .lit _ => 1
  | .nil => 1
  | .ptr d => uptoBulk d + 1
  | .slice elems spare => uptoBulkAll elems + uptoBulkAll spare + 1
  | .agg parts => uptoBulkAll parts + 1
  | .iface _ d => uptoBulk d + 1
  | .map entries => uptoBulkEntries entries + 1
  | .held _ => 1
def uptoBulkAll {H : Type} : List (DataW H) → Nat
  | [] => 0
  | d :: r => uptoBulk d + uptoBulkAll r
def uptoBulkEntries {H : Type} : List (Lit × DataW H) → Nat
  | [] => 0
  | x :: r => uptoBulkEntry x + uptoBulkEntries r
def uptoBulkEntry {H : Type} : Lit × DataW H → Nat
  | (.string bytes, d) => bytes.length + uptoBulk d + 1
  | (_, d) => uptoBulk d + 1
 end
def uptoSmall : (H : Type) → List (DataW H) → Bool := fun _ ds => decide (uptoBulkAll ds ≤ 1048576)
def OpenSpec.upto (s : _root_.Go.ChangeSpec) : _root_.Go.OpenSpec := { _root_.Go.OpenSpec.ofChange s with cond := some uptoSmall }

/-- 'assayerlaw02.IntsRing', WHERE WHAT IT READS IS OF BULK AT MOST 1048576: true; the input reads as it did. -/
def intsRingUptoRow : OpenClaim := { program := "ytcdejccbamjdoaadoor", sum := "4a9a6ad5fe9da68fcb8cf09bf3d9f4e19704fd6b9287bf2de4f0449e98af0fad", func := "assayer/assayerlaw02.IntsRing", spec := "intsRing", inPlace := ["internal/bytealg.IndexByteString", "internal/bytealg.IndexString", "internal/abi.NoEscape", "internal/bytealg.MakeNoZero"], unfollowed := true, recurses := true, named := ["unicode/utf8.first", "unicode/utf8.acceptRanges", "math/bits.overflowError", "internal/bytealg.MaxLen"], apart := false, laid := [("unicode/utf8.acceptRanges", laid_unicode_utf8_acceptRanges), ("unicode/utf8.first", laid_unicode_utf8_first)], narrowed := true }
def IntsRingUptoSaid : Prop := intsRingUptoRow.holds Tryd.pinned (OpenSpec.upto intsRingSpec)

/-- 'assayerlaw02.IntsOrder', WHERE WHAT IT READS IS OF BULK AT MOST 1048576: true; the input reads as it did. -/
def intsOrderUptoRow : OpenClaim := { program := "ytcdejccbamjdoaadoor", sum := "4a9a6ad5fe9da68fcb8cf09bf3d9f4e19704fd6b9287bf2de4f0449e98af0fad", func := "assayer/assayerlaw02.IntsOrder", spec := "intsOrder", inPlace := ["internal/bytealg.IndexByteString", "internal/bytealg.IndexString", "internal/abi.NoEscape", "internal/bytealg.MakeNoZero"], unfollowed := true, recurses := true, named := ["unicode/utf8.first", "unicode/utf8.acceptRanges", "math/bits.overflowError", "internal/bytealg.MaxLen"], apart := false, laid := [("unicode/utf8.acceptRanges", laid_unicode_utf8_acceptRanges), ("unicode/utf8.first", laid_unicode_utf8_first)], narrowed := true }
def IntsOrderUptoSaid : Prop := intsOrderUptoRow.holds Tryd.pinned (OpenSpec.upto intsOrderSpec)

/-- 'assayerlaw02.IntsTurned', WHERE WHAT IT READS IS OF BULK AT MOST 1048576: true; the input reads as it did. -/
def intsTurnedUptoRow : OpenClaim := { program := "ytcdejccbamjdoaadoor", sum := "4a9a6ad5fe9da68fcb8cf09bf3d9f4e19704fd6b9287bf2de4f0449e98af0fad", func := "assayer/assayerlaw02.IntsTurned", spec := "intsTurned", inPlace := ["internal/bytealg.IndexByteString", "internal/bytealg.IndexString", "internal/abi.NoEscape", "internal/bytealg.MakeNoZero"], unfollowed := true, recurses := true, named := ["unicode/utf8.first", "unicode/utf8.acceptRanges", "math/bits.overflowError", "internal/bytealg.MaxLen"], apart := false, laid := [("unicode/utf8.acceptRanges", laid_unicode_utf8_acceptRanges), ("unicode/utf8.first", laid_unicode_utf8_first)], narrowed := true }
def IntsTurnedUptoSaid : Prop := intsTurnedUptoRow.holds Tryd.pinned (OpenSpec.upto intsTurnedSpec)

/-- 'assayerlaw02.IntsRead', WHERE WHAT IT READS IS OF BULK AT MOST 1048576: true; the input reads as it did. -/
def intsReadUptoRow : OpenClaim := { program := "ytcdejccbamjdoaadoor", sum := "4a9a6ad5fe9da68fcb8cf09bf3d9f4e19704fd6b9287bf2de4f0449e98af0fad", func := "assayer/assayerlaw02.IntsRead", spec := "intsRead", inPlace := ["internal/bytealg.IndexByteString", "internal/bytealg.IndexString", "internal/abi.NoEscape", "internal/bytealg.MakeNoZero"], unfollowed := true, recurses := true, named := ["unicode/utf8.first", "unicode/utf8.acceptRanges", "math/bits.overflowError", "internal/bytealg.MaxLen"], apart := false, laid := [("unicode/utf8.acceptRanges", laid_unicode_utf8_acceptRanges), ("unicode/utf8.first", laid_unicode_utf8_first)], narrowed := true }
def IntsReadUptoSaid : Prop := intsReadUptoRow.holds Tryd.pinned (OpenSpec.upto intsReadSpec)

/-- 'assayerlaw02.IntsSmall', WHERE WHAT IT READS IS OF BULK AT MOST 1048576: true; the input reads as it did. -/
def intsSmallUptoRow : OpenClaim := { program := "ytcdejccbamjdoaadoor", sum := "4a9a6ad5fe9da68fcb8cf09bf3d9f4e19704fd6b9287bf2de4f0449e98af0fad", func := "assayer/assayerlaw02.IntsSmall", spec := "intsSmall", inPlace := ["internal/bytealg.IndexByteString", "internal/bytealg.IndexString", "internal/abi.NoEscape", "internal/bytealg.MakeNoZero"], unfollowed := true, recurses := true, named := ["unicode/utf8.first", "unicode/utf8.acceptRanges", "math/bits.overflowError", "internal/bytealg.MaxLen"], apart := false, laid := [("unicode/utf8.acceptRanges", laid_unicode_utf8_acceptRanges), ("unicode/utf8.first", laid_unicode_utf8_first)], narrowed := true }
def IntsSmallUptoSaid : Prop := intsSmallUptoRow.holds Tryd.pinned (OpenSpec.upto intsSmallSpec)

/-- 'assayerlaw02.IntsAmounts', WHERE WHAT IT READS IS OF BULK AT MOST 1048576: true; the input reads as it did. -/
def intsAmountsUptoRow : OpenClaim := { program := "ytcdejccbamjdoaadoor", sum := "4a9a6ad5fe9da68fcb8cf09bf3d9f4e19704fd6b9287bf2de4f0449e98af0fad", func := "assayer/assayerlaw02.IntsAmounts", spec := "intsAmounts", inPlace := ["internal/bytealg.IndexByteString", "internal/bytealg.IndexString", "internal/abi.NoEscape", "internal/bytealg.MakeNoZero"], unfollowed := true, recurses := true, named := ["unicode/utf8.first", "unicode/utf8.acceptRanges", "math/bits.overflowError", "internal/bytealg.MaxLen"], apart := false, laid := [("unicode/utf8.acceptRanges", laid_unicode_utf8_acceptRanges), ("unicode/utf8.first", laid_unicode_utf8_first)], narrowed := true }
def IntsAmountsUptoSaid : Prop := intsAmountsUptoRow.holds Tryd.pinned (OpenSpec.upto intsAmountsSpec)

/-- 'assayerlaw01.NatsRing', WHERE WHAT IT READS IS OF BULK AT MOST 1048576: true; the input reads as it did. -/
def natsRingUptoRow : OpenClaim := { program := "ytcdejccbamjdoaadoor", sum := "4a9a6ad5fe9da68fcb8cf09bf3d9f4e19704fd6b9287bf2de4f0449e98af0fad", func := "assayer/assayerlaw01.NatsRing", spec := "natsRing", inPlace := ["internal/bytealg.IndexByteString", "internal/bytealg.IndexString", "internal/abi.NoEscape", "internal/bytealg.MakeNoZero"], unfollowed := true, recurses := true, named := ["math/bits.overflowError", "unicode/utf8.first", "unicode/utf8.acceptRanges", "math/bits.deBruijn32tab", "internal/bytealg.MaxLen"], apart := false, laid := [("math/bits.deBruijn32tab", laid_math_bits_deBruijn32tab), ("unicode/utf8.acceptRanges", laid_unicode_utf8_acceptRanges), ("unicode/utf8.first", laid_unicode_utf8_first)], narrowed := true }
def NatsRingUptoSaid : Prop := natsRingUptoRow.holds Tryd.pinned (OpenSpec.upto natsRingSpec)

/-- 'assayerlaw01.NatsOften', WHERE WHAT IT READS IS OF BULK AT MOST 1048576: true; the input reads as it did. -/
def natsOftenUptoRow : OpenClaim := { program := "ytcdejccbamjdoaadoor", sum := "4a9a6ad5fe9da68fcb8cf09bf3d9f4e19704fd6b9287bf2de4f0449e98af0fad", func := "assayer/assayerlaw01.NatsOften", spec := "natsOften", inPlace := ["internal/bytealg.IndexByteString", "internal/bytealg.IndexString", "internal/abi.NoEscape", "internal/bytealg.MakeNoZero"], unfollowed := true, recurses := true, named := ["math/bits.overflowError", "unicode/utf8.first", "unicode/utf8.acceptRanges", "math/bits.deBruijn32tab", "internal/bytealg.MaxLen"], apart := false, laid := [("math/bits.deBruijn32tab", laid_math_bits_deBruijn32tab), ("unicode/utf8.acceptRanges", laid_unicode_utf8_acceptRanges), ("unicode/utf8.first", laid_unicode_utf8_first)], narrowed := true }
def NatsOftenUptoSaid : Prop := natsOftenUptoRow.holds Tryd.pinned (OpenSpec.upto natsOftenSpec)

/-- 'assayerlaw01.NatsUndone', WHERE WHAT IT READS IS OF BULK AT MOST 1048576: true; the input reads as it did. -/
def natsUndoneUptoRow : OpenClaim := { program := "ytcdejccbamjdoaadoor", sum := "4a9a6ad5fe9da68fcb8cf09bf3d9f4e19704fd6b9287bf2de4f0449e98af0fad", func := "assayer/assayerlaw01.NatsUndone", spec := "natsUndone", inPlace := ["internal/bytealg.IndexByteString", "internal/bytealg.IndexString", "internal/abi.NoEscape", "internal/bytealg.MakeNoZero"], unfollowed := true, recurses := true, named := ["math/bits.overflowError", "unicode/utf8.first", "unicode/utf8.acceptRanges", "math/bits.deBruijn32tab", "internal/bytealg.MaxLen"], apart := false, laid := [("math/bits.deBruijn32tab", laid_math_bits_deBruijn32tab), ("unicode/utf8.acceptRanges", laid_unicode_utf8_acceptRanges), ("unicode/utf8.first", laid_unicode_utf8_first)], narrowed := true }
def NatsUndoneUptoSaid : Prop := natsUndoneUptoRow.holds Tryd.pinned (OpenSpec.upto natsUndoneSpec)

/-- 'assayerlaw01.NatsGreatest', WHERE WHAT IT READS IS OF BULK AT MOST 1048576: true; the input reads as it did. -/
def natsGreatestUptoRow : OpenClaim := { program := "ytcdejccbamjdoaadoor", sum := "4a9a6ad5fe9da68fcb8cf09bf3d9f4e19704fd6b9287bf2de4f0449e98af0fad", func := "assayer/assayerlaw01.NatsGreatest", spec := "natsGreatest", inPlace := ["internal/bytealg.IndexByteString", "internal/bytealg.IndexString", "internal/abi.NoEscape", "internal/bytealg.MakeNoZero"], unfollowed := true, recurses := true, named := ["math/bits.overflowError", "unicode/utf8.first", "unicode/utf8.acceptRanges", "math/bits.deBruijn32tab", "internal/bytealg.MaxLen"], apart := false, laid := [("math/bits.deBruijn32tab", laid_math_bits_deBruijn32tab), ("unicode/utf8.acceptRanges", laid_unicode_utf8_acceptRanges), ("unicode/utf8.first", laid_unicode_utf8_first)], narrowed := true }
def NatsGreatestUptoSaid : Prop := natsGreatestUptoRow.holds Tryd.pinned (OpenSpec.upto natsGreatestSpec)

/-- 'assayerlaw01.NatsRead', WHERE WHAT IT READS IS OF BULK AT MOST 1048576: true; the input reads as it did. -/
def natsReadUptoRow : OpenClaim := { program := "ytcdejccbamjdoaadoor", sum := "4a9a6ad5fe9da68fcb8cf09bf3d9f4e19704fd6b9287bf2de4f0449e98af0fad", func := "assayer/assayerlaw01.NatsRead", spec := "natsRead", inPlace := ["internal/bytealg.IndexByteString", "internal/bytealg.IndexString", "internal/abi.NoEscape", "internal/bytealg.MakeNoZero"], unfollowed := true, recurses := true, named := ["math/bits.overflowError", "unicode/utf8.first", "unicode/utf8.acceptRanges", "math/bits.deBruijn32tab", "internal/bytealg.MaxLen"], apart := false, laid := [("math/bits.deBruijn32tab", laid_math_bits_deBruijn32tab), ("unicode/utf8.acceptRanges", laid_unicode_utf8_acceptRanges), ("unicode/utf8.first", laid_unicode_utf8_first)], narrowed := true }
def NatsReadUptoSaid : Prop := natsReadUptoRow.holds Tryd.pinned (OpenSpec.upto natsReadSpec)

/-- 'assayerlaw01.NatsSmall', WHERE WHAT IT READS IS OF BULK AT MOST 1048576: true; the input reads as it did. -/
def natsSmallUptoRow : OpenClaim := { program := "ytcdejccbamjdoaadoor", sum := "4a9a6ad5fe9da68fcb8cf09bf3d9f4e19704fd6b9287bf2de4f0449e98af0fad", func := "assayer/assayerlaw01.NatsSmall", spec := "natsSmall", inPlace := ["internal/bytealg.IndexByteString", "internal/bytealg.IndexString", "internal/abi.NoEscape", "internal/bytealg.MakeNoZero"], unfollowed := true, recurses := true, named := ["math/bits.overflowError", "unicode/utf8.first", "unicode/utf8.acceptRanges", "math/bits.deBruijn32tab", "internal/bytealg.MaxLen"], apart := false, laid := [("math/bits.deBruijn32tab", laid_math_bits_deBruijn32tab), ("unicode/utf8.acceptRanges", laid_unicode_utf8_acceptRanges), ("unicode/utf8.first", laid_unicode_utf8_first)], narrowed := true }
def NatsSmallUptoSaid : Prop := natsSmallUptoRow.holds Tryd.pinned (OpenSpec.upto natsSmallSpec)

/-- 'assayerlaw01.NatsNone', WHERE WHAT IT READS IS OF BULK AT MOST 1048576: true; the input reads as it did. -/
def natsNoneUptoRow : OpenClaim := { program := "ytcdejccbamjdoaadoor", sum := "4a9a6ad5fe9da68fcb8cf09bf3d9f4e19704fd6b9287bf2de4f0449e98af0fad", func := "assayer/assayerlaw01.NatsNone", spec := "natsNone", inPlace := ["internal/bytealg.IndexByteString", "internal/bytealg.IndexString", "internal/abi.NoEscape", "internal/bytealg.MakeNoZero"], unfollowed := true, recurses := true, named := ["math/bits.overflowError", "unicode/utf8.first", "unicode/utf8.acceptRanges", "math/bits.deBruijn32tab", "internal/bytealg.MaxLen"], apart := false, laid := [("math/bits.deBruijn32tab", laid_math_bits_deBruijn32tab), ("unicode/utf8.acceptRanges", laid_unicode_utf8_acceptRanges), ("unicode/utf8.first", laid_unicode_utf8_first)], narrowed := true }
def NatsNoneUptoSaid : Prop := natsNoneUptoRow.holds Tryd.pinned (OpenSpec.upto natsNoneSpec)

/-- 'assayerlaw01.NatsShift', WHERE WHAT IT READS IS OF BULK AT MOST 1048576: true; the input reads as it did. -/
def natsShiftUptoRow : OpenClaim := { program := "ytcdejccbamjdoaadoor", sum := "4a9a6ad5fe9da68fcb8cf09bf3d9f4e19704fd6b9287bf2de4f0449e98af0fad", func := "assayer/assayerlaw01.NatsShift", spec := "natsShift", inPlace := ["internal/bytealg.IndexByteString", "internal/bytealg.IndexString", "internal/abi.NoEscape", "internal/bytealg.MakeNoZero"], unfollowed := true, recurses := true, named := ["math/bits.overflowError", "unicode/utf8.first", "unicode/utf8.acceptRanges", "math/bits.deBruijn32tab", "internal/bytealg.MaxLen"], apart := false, laid := [("math/bits.deBruijn32tab", laid_math_bits_deBruijn32tab), ("unicode/utf8.acceptRanges", laid_unicode_utf8_acceptRanges), ("unicode/utf8.first", laid_unicode_utf8_first)], narrowed := true }
def NatsShiftUptoSaid : Prop := natsShiftUptoRow.holds Tryd.pinned (OpenSpec.upto natsShiftSpec)

end Rows
end Go.Proofs.YtcdejccbamjdoaaDoor
