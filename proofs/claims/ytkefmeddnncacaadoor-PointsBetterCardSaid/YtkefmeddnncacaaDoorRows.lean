/-
  NARROWER THAN 'FOR EVERY INPUT', by the rows' own cells (each row's printed sentence says how): VecsZeros: laid · PointsBetter: laid · GridsBack: laid · GridsSolved: laid · GridsLinear: laid · GridsDots: laid · GridsHangs: laid · GridsOnes: laid.
  DERIVED. THE GIVEN ROWS OF THIS SEAT. 8 by the template 'for every input the law returns true; each argument reads behind the call as it read before'; 0 by the template 'total and deterministic' (their statements: YtkefmeddnncacaaDoorTotals.lean).
  GIVEN WITH THE SEED: the statements are not yours to turn. If you find one false, say at which input.
  Laid BY PROGRAM, IN A SANDBOX (cutbox-rows.mjs): the forced cells as the released guide's own fill.sh prints them over the translation b7049bb7a343bdfb… (all of the seat's roots in one cut). By AI agents, Wed Nov 11 2026. No macro, syntax, notation, axiom, sorry.
-/
import Derived.Test.YtkefmeddnncacaaDoorChecked
import GoSem.Claim
import GoSem.ClaimJoined
import GoSem.ClaimMapViews
import Derived.JoinedTies
import Derived.KernelRfl
namespace Go.Proofs.YtkefmeddnncacaaDoor
/- THE CELL 'sum', in the pinned program and in every row, IS THE sha256 OF THE DUMP (.gsa) THAT YtkefmeddnncacaaDoorProg.lean LOADS. Nothing in Lean hashes anything: it is a label: what it is worth is what the hold of that sum in a sandbox is worth. -/
noncomputable def Tryd.pinned : Pinned := { name := "ytkefmeddnncacaadoor", sum := "b7049bb7a343bdfba6b7072c44719098b3acc794304311ce68026463bb3e313b", checked := Tryd.checked }
namespace Rows
def none {H : Type} : Left H := { results := [], args := [] }

/- WHAT THE LISTED PACKAGE-LEVEL VARIABLES READ AS WHEN THE CALL BEGINS. Each datum BY PROGRAM (the guide's laid-datum.mjs) off the statement by which the dump's own 'gosem.cut.vars' lays the variable. In a bare row this is a premise. The card (YtkefmeddnncacaaDoorCards.lean) ties it to the program's text. -/
def laid_math_bits_deBruijn32tab {H : Type} : DataW H := .agg [.lit (.int .u8 0), .lit (.int .u8 1), .lit (.int .u8 28), .lit (.int .u8 2), .lit (.int .u8 29), .lit (.int .u8 14), .lit (.int .u8 24), .lit (.int .u8 3), .lit (.int .u8 30), .lit (.int .u8 22), .lit (.int .u8 20), .lit (.int .u8 15), .lit (.int .u8 25), .lit (.int .u8 17), .lit (.int .u8 4), .lit (.int .u8 8), .lit (.int .u8 31), .lit (.int .u8 27), .lit (.int .u8 13), .lit (.int .u8 23), .lit (.int .u8 21), .lit (.int .u8 19), .lit (.int .u8 16), .lit (.int .u8 7), .lit (.int .u8 26), .lit (.int .u8 12), .lit (.int .u8 18), .lit (.int .u8 6), .lit (.int .u8 11), .lit (.int .u8 5), .lit (.int .u8 10), .lit (.int .u8 9)]
def laid_math_bits_deBruijn64tab {H : Type} : DataW H := .agg [.lit (.int .u8 0), .lit (.int .u8 1), .lit (.int .u8 56), .lit (.int .u8 2), .lit (.int .u8 57), .lit (.int .u8 49), .lit (.int .u8 28), .lit (.int .u8 3), .lit (.int .u8 61), .lit (.int .u8 58), .lit (.int .u8 42), .lit (.int .u8 50), .lit (.int .u8 38), .lit (.int .u8 29), .lit (.int .u8 17), .lit (.int .u8 4), .lit (.int .u8 62), .lit (.int .u8 47), .lit (.int .u8 59), .lit (.int .u8 36), .lit (.int .u8 45), .lit (.int .u8 43), .lit (.int .u8 51), .lit (.int .u8 22), .lit (.int .u8 53), .lit (.int .u8 39), .lit (.int .u8 33), .lit (.int .u8 30), .lit (.int .u8 24), .lit (.int .u8 18), .lit (.int .u8 12), .lit (.int .u8 5), .lit (.int .u8 63), .lit (.int .u8 55), .lit (.int .u8 48), .lit (.int .u8 27), .lit (.int .u8 60), .lit (.int .u8 41), .lit (.int .u8 37), .lit (.int .u8 16), .lit (.int .u8 46), .lit (.int .u8 35), .lit (.int .u8 44), .lit (.int .u8 21), .lit (.int .u8 52), .lit (.int .u8 32), .lit (.int .u8 23), .lit (.int .u8 11), .lit (.int .u8 54), .lit (.int .u8 26), .lit (.int .u8 40), .lit (.int .u8 15), .lit (.int .u8 34), .lit (.int .u8 20), .lit (.int .u8 31), .lit (.int .u8 10), .lit (.int .u8 25), .lit (.int .u8 14), .lit (.int .u8 19), .lit (.int .u8 9), .lit (.int .u8 13), .lit (.int .u8 8), .lit (.int .u8 7), .lit (.int .u8 6)]
def laid_internal_strconv_uint64pow10 {H : Type} : DataW H := .agg [.lit (.int .u64 1), .lit (.int .u64 10), .lit (.int .u64 100), .lit (.int .u64 1000), .lit (.int .u64 10000), .lit (.int .u64 100000), .lit (.int .u64 1000000), .lit (.int .u64 10000000), .lit (.int .u64 100000000), .lit (.int .u64 1000000000), .lit (.int .u64 10000000000), .lit (.int .u64 100000000000), .lit (.int .u64 1000000000000), .lit (.int .u64 10000000000000), .lit (.int .u64 100000000000000), .lit (.int .u64 1000000000000000), .lit (.int .u64 10000000000000000), .lit (.int .u64 100000000000000000), .lit (.int .u64 1000000000000000000), .lit (.int .u64 10000000000000000000)]

/-- 'assayerlaw04.VecsZeros': WHATEVER THE INPUT: true; the input reads as it did. -/
def vecsZerosSpec : ChangeSpec := { name := "vecsZeros", fn := fun _ => fun
  | [d] => { results := [.lit (.bool true)], args := [d] }
  | _ => none }
def vecsZerosRow : OpenClaim := { program := "ytkefmeddnncacaadoor", sum := "b7049bb7a343bdfba6b7072c44719098b3acc794304311ce68026463bb3e313b", func := "assayer/assayerlaw04.VecsZeros", spec := "vecsZeros", named := ["internal/strconv.uint64pow10", "math/bits.deBruijn32tab", "math/bits.deBruijn64tab"], apart := false, laid := [("math/bits.deBruijn32tab", laid_math_bits_deBruijn32tab), ("math/bits.deBruijn64tab", laid_math_bits_deBruijn64tab), ("internal/strconv.uint64pow10", laid_internal_strconv_uint64pow10)] }
def VecsZerosSaid : Prop := vecsZerosRow.holds Tryd.pinned (OpenSpec.ofChange vecsZerosSpec)

/-- ITS FALSE NEIGHBOUR: 'it returns false'. Refute it at one input. -/
def vecsZerosWrong : ChangeSpec := { name := "vecsZeros", fn := fun _ => fun
  | [d] => { results := [.lit (.bool false)], args := [d] }
  | _ => none }
def VecsZerosWrongFalsely : Prop := vecsZerosRow.holds Tryd.pinned (OpenSpec.ofChange vecsZerosWrong)

/-- 'assayerlaw08.PointsBetter': WHATEVER THE INPUT: true; the input reads as it did. -/
def pointsBetterSpec : ChangeSpec := { name := "pointsBetter", fn := fun _ => fun
  | [d1, d2, d3] => { results := [.lit (.bool true)], args := [d1, d2, d3] }
  | _ => none }
def pointsBetterRow : OpenClaim := { program := "ytkefmeddnncacaadoor", sum := "b7049bb7a343bdfba6b7072c44719098b3acc794304311ce68026463bb3e313b", func := "assayer/assayerlaw08.PointsBetter", spec := "pointsBetter", unfollowed := true, recurses := true, named := ["math/bits.deBruijn32tab"], apart := false, laid := [("math/bits.deBruijn32tab", laid_math_bits_deBruijn32tab)] }
def PointsBetterSaid : Prop := pointsBetterRow.holds Tryd.pinned (OpenSpec.ofChange pointsBetterSpec)

/-- ITS FALSE NEIGHBOUR: 'it returns false'. Refute it at one input. -/
def pointsBetterWrong : ChangeSpec := { name := "pointsBetter", fn := fun _ => fun
  | [d1, d2, d3] => { results := [.lit (.bool false)], args := [d1, d2, d3] }
  | _ => none }
def PointsBetterWrongFalsely : Prop := pointsBetterRow.holds Tryd.pinned (OpenSpec.ofChange pointsBetterWrong)

/-- 'assayerlaw05.GridsBack': WHATEVER THE INPUT: true; the input reads as it did. -/
def gridsBackSpec : ChangeSpec := { name := "gridsBack", fn := fun _ => fun
  | [d] => { results := [.lit (.bool true)], args := [d] }
  | _ => none }
def gridsBackRow : OpenClaim := { program := "ytkefmeddnncacaadoor", sum := "b7049bb7a343bdfba6b7072c44719098b3acc794304311ce68026463bb3e313b", func := "assayer/assayerlaw05.GridsBack", spec := "gridsBack", unfollowed := true, recurses := true, named := ["math/bits.deBruijn32tab", "math/bits.overflowError"], apart := false, laid := [("math/bits.deBruijn32tab", laid_math_bits_deBruijn32tab)] }
def GridsBackSaid : Prop := gridsBackRow.holds Tryd.pinned (OpenSpec.ofChange gridsBackSpec)

/-- ITS FALSE NEIGHBOUR: 'it returns false'. Refute it at one input. -/
def gridsBackWrong : ChangeSpec := { name := "gridsBack", fn := fun _ => fun
  | [d] => { results := [.lit (.bool false)], args := [d] }
  | _ => none }
def GridsBackWrongFalsely : Prop := gridsBackRow.holds Tryd.pinned (OpenSpec.ofChange gridsBackWrong)

/-- 'assayerlaw05.GridsSolved': WHATEVER THE INPUT: true; the input reads as it did. -/
def gridsSolvedSpec : ChangeSpec := { name := "gridsSolved", fn := fun _ => fun
  | [d1, d2] => { results := [.lit (.bool true)], args := [d1, d2] }
  | _ => none }
def gridsSolvedRow : OpenClaim := { program := "ytkefmeddnncacaadoor", sum := "b7049bb7a343bdfba6b7072c44719098b3acc794304311ce68026463bb3e313b", func := "assayer/assayerlaw05.GridsSolved", spec := "gridsSolved", unfollowed := true, recurses := true, named := ["math/bits.deBruijn32tab", "math/bits.overflowError"], apart := false, laid := [("math/bits.deBruijn32tab", laid_math_bits_deBruijn32tab)] }
def GridsSolvedSaid : Prop := gridsSolvedRow.holds Tryd.pinned (OpenSpec.ofChange gridsSolvedSpec)

/-- ITS FALSE NEIGHBOUR: 'it returns false'. Refute it at one input. -/
def gridsSolvedWrong : ChangeSpec := { name := "gridsSolved", fn := fun _ => fun
  | [d1, d2] => { results := [.lit (.bool false)], args := [d1, d2] }
  | _ => none }
def GridsSolvedWrongFalsely : Prop := gridsSolvedRow.holds Tryd.pinned (OpenSpec.ofChange gridsSolvedWrong)

/-- 'assayerlaw05.GridsLinear': WHATEVER THE INPUT: true; the input reads as it did. -/
def gridsLinearSpec : ChangeSpec := { name := "gridsLinear", fn := fun _ => fun
  | [d1, d2, d3] => { results := [.lit (.bool true)], args := [d1, d2, d3] }
  | _ => none }
def gridsLinearRow : OpenClaim := { program := "ytkefmeddnncacaadoor", sum := "b7049bb7a343bdfba6b7072c44719098b3acc794304311ce68026463bb3e313b", func := "assayer/assayerlaw05.GridsLinear", spec := "gridsLinear", unfollowed := true, recurses := true, named := ["math/bits.deBruijn32tab", "math/bits.overflowError"], apart := false, laid := [("math/bits.deBruijn32tab", laid_math_bits_deBruijn32tab)] }
def GridsLinearSaid : Prop := gridsLinearRow.holds Tryd.pinned (OpenSpec.ofChange gridsLinearSpec)

/-- ITS FALSE NEIGHBOUR: 'it returns false'. Refute it at one input. -/
def gridsLinearWrong : ChangeSpec := { name := "gridsLinear", fn := fun _ => fun
  | [d1, d2, d3] => { results := [.lit (.bool false)], args := [d1, d2, d3] }
  | _ => none }
def GridsLinearWrongFalsely : Prop := gridsLinearRow.holds Tryd.pinned (OpenSpec.ofChange gridsLinearWrong)

/-- 'assayerlaw05.GridsDots': WHATEVER THE INPUT: true; the input reads as it did. -/
def gridsDotsSpec : ChangeSpec := { name := "gridsDots", fn := fun _ => fun
  | [d1, d2, d3] => { results := [.lit (.bool true)], args := [d1, d2, d3] }
  | _ => none }
def gridsDotsRow : OpenClaim := { program := "ytkefmeddnncacaadoor", sum := "b7049bb7a343bdfba6b7072c44719098b3acc794304311ce68026463bb3e313b", func := "assayer/assayerlaw05.GridsDots", spec := "gridsDots", unfollowed := true, recurses := true, named := ["math/bits.deBruijn32tab", "math/bits.overflowError"], apart := false, laid := [("math/bits.deBruijn32tab", laid_math_bits_deBruijn32tab)] }
def GridsDotsSaid : Prop := gridsDotsRow.holds Tryd.pinned (OpenSpec.ofChange gridsDotsSpec)

/-- ITS FALSE NEIGHBOUR: 'it returns false'. Refute it at one input. -/
def gridsDotsWrong : ChangeSpec := { name := "gridsDots", fn := fun _ => fun
  | [d1, d2, d3] => { results := [.lit (.bool false)], args := [d1, d2, d3] }
  | _ => none }
def GridsDotsWrongFalsely : Prop := gridsDotsRow.holds Tryd.pinned (OpenSpec.ofChange gridsDotsWrong)

/-- 'assayerlaw05.GridsHangs': WHATEVER THE INPUT: true; the input reads as it did. -/
def gridsHangsSpec : ChangeSpec := { name := "gridsHangs", fn := fun _ => fun
  | [d1, d2, d3] => { results := [.lit (.bool true)], args := [d1, d2, d3] }
  | _ => none }
def gridsHangsRow : OpenClaim := { program := "ytkefmeddnncacaadoor", sum := "b7049bb7a343bdfba6b7072c44719098b3acc794304311ce68026463bb3e313b", func := "assayer/assayerlaw05.GridsHangs", spec := "gridsHangs", unfollowed := true, recurses := true, named := ["math/bits.deBruijn32tab", "math/bits.overflowError"], apart := false, laid := [("math/bits.deBruijn32tab", laid_math_bits_deBruijn32tab)] }
def GridsHangsSaid : Prop := gridsHangsRow.holds Tryd.pinned (OpenSpec.ofChange gridsHangsSpec)

/-- ITS FALSE NEIGHBOUR: 'it returns false'. Refute it at one input. -/
def gridsHangsWrong : ChangeSpec := { name := "gridsHangs", fn := fun _ => fun
  | [d1, d2, d3] => { results := [.lit (.bool false)], args := [d1, d2, d3] }
  | _ => none }
def GridsHangsWrongFalsely : Prop := gridsHangsRow.holds Tryd.pinned (OpenSpec.ofChange gridsHangsWrong)

/-- 'assayerlaw05.GridsOnes': WHATEVER THE INPUT: true; the input reads as it did. -/
def gridsOnesSpec : ChangeSpec := { name := "gridsOnes", fn := fun _ => fun
  | [d] => { results := [.lit (.bool true)], args := [d] }
  | _ => none }
def gridsOnesRow : OpenClaim := { program := "ytkefmeddnncacaadoor", sum := "b7049bb7a343bdfba6b7072c44719098b3acc794304311ce68026463bb3e313b", func := "assayer/assayerlaw05.GridsOnes", spec := "gridsOnes", unfollowed := true, recurses := true, named := ["math/bits.deBruijn32tab", "math/bits.overflowError"], apart := false, laid := [("math/bits.deBruijn32tab", laid_math_bits_deBruijn32tab)] }
def GridsOnesSaid : Prop := gridsOnesRow.holds Tryd.pinned (OpenSpec.ofChange gridsOnesSpec)

/-- ITS FALSE NEIGHBOUR: 'it returns false'. Refute it at one input. -/
def gridsOnesWrong : ChangeSpec := { name := "gridsOnes", fn := fun _ => fun
  | [d] => { results := [.lit (.bool false)], args := [d] }
  | _ => none }
def GridsOnesWrongFalsely : Prop := gridsOnesRow.holds Tryd.pinned (OpenSpec.ofChange gridsOnesWrong)

/- THE SECOND FORM. 'bulk': how many values and letters a reading holds, each counted each time it is reached (what is shared counts as often as it is met; a slice's spare places count too). A statement '..UptoSaid' is the law's where the arguments, and the package variables that the reading takes, are together of bulk at most 1048576: NARROWER than '..Said'. Prove '..Said' where nothing that the law and all that it calls make is longer than what came in: it says more and counts as full. Else prove '..UptoSaid'. A law counts once. -/
mutual
def uptoBulk {H : Type} : DataW H → Nat
  | .lit (.string bytes) => bytes.length + 1
  | .lit _ => 1
  | .nil => 1
  | .ptr d => uptoBulk d + 1
  | .slice elems spare => uptoBulkAll elems + uptoBulkAll spare + 1
  | .agg parts => uptoBulkAll parts + 1
  | .iface _ d => uptoBulk d + 1
  | .map entries => uptoBulkEntries entries + 1
  | .held _ => 1
def uptoBulkAll {H : Type} : List (DataW H) → Nat
  | [] => 0
  | d :: r => uptoBulk d + uptoBulkAll r
def uptoBulkEntries {H : Type} : List (Lit × DataW H) → Nat
  | [] => 0
  | x :: r => uptoBulkEntry x + uptoBulkEntries r
def uptoBulkEntry {H : Type} : Lit × DataW H → Nat
  | (.string bytes, d) => bytes.length + uptoBulk d + 1
  | (_, d) => uptoBulk d + 1
 end
def uptoSmall : (H : Type) → List (DataW H) → Bool := fun _ ds => decide (uptoBulkAll ds ≤ 1048576)
def OpenSpec.upto (s : _root_.Go.ChangeSpec) : _root_.Go.OpenSpec := { _root_.Go.OpenSpec.ofChange s with cond := some uptoSmall }

/-- 'assayerlaw04.VecsZeros', WHERE WHAT IT READS IS OF BULK AT MOST 1048576: true; the input reads as it did. -/
def vecsZerosUptoRow : OpenClaim := { program := "ytkefmeddnncacaadoor", sum := "b7049bb7a343bdfba6b7072c44719098b3acc794304311ce68026463bb3e313b", func := "assayer/assayerlaw04.VecsZeros", spec := "vecsZeros", named := ["internal/strconv.uint64pow10", "math/bits.deBruijn32tab", "math/bits.deBruijn64tab"], apart := false, laid := [("math/bits.deBruijn32tab", laid_math_bits_deBruijn32tab), ("math/bits.deBruijn64tab", laid_math_bits_deBruijn64tab), ("internal/strconv.uint64pow10", laid_internal_strconv_uint64pow10)], narrowed := true }
def VecsZerosUptoSaid : Prop := vecsZerosUptoRow.holds Tryd.pinned (OpenSpec.upto vecsZerosSpec)

/-- 'assayerlaw08.PointsBetter', WHERE WHAT IT READS IS OF BULK AT MOST 1048576: true; the input reads as it did. -/
def pointsBetterUptoRow : OpenClaim := { program := "ytkefmeddnncacaadoor", sum := "b7049bb7a343bdfba6b7072c44719098b3acc794304311ce68026463bb3e313b", func := "assayer/assayerlaw08.PointsBetter", spec := "pointsBetter", unfollowed := true, recurses := true, named := ["math/bits.deBruijn32tab"], apart := false, laid := [("math/bits.deBruijn32tab", laid_math_bits_deBruijn32tab)], narrowed := true }
def PointsBetterUptoSaid : Prop := pointsBetterUptoRow.holds Tryd.pinned (OpenSpec.upto pointsBetterSpec)

/-- 'assayerlaw05.GridsBack', WHERE WHAT IT READS IS OF BULK AT MOST 1048576: true; the input reads as it did. -/
def gridsBackUptoRow : OpenClaim := { program := "ytkefmeddnncacaadoor", sum := "b7049bb7a343bdfba6b7072c44719098b3acc794304311ce68026463bb3e313b", func := "assayer/assayerlaw05.GridsBack", spec := "gridsBack", unfollowed := true, recurses := true, named := ["math/bits.deBruijn32tab", "math/bits.overflowError"], apart := false, laid := [("math/bits.deBruijn32tab", laid_math_bits_deBruijn32tab)], narrowed := true }
def GridsBackUptoSaid : Prop := gridsBackUptoRow.holds Tryd.pinned (OpenSpec.upto gridsBackSpec)

/-- 'assayerlaw05.GridsSolved', WHERE WHAT IT READS IS OF BULK AT MOST 1048576: true; the input reads as it did. -/
def gridsSolvedUptoRow : OpenClaim := { program := "ytkefmeddnncacaadoor", sum := "b7049bb7a343bdfba6b7072c44719098b3acc794304311ce68026463bb3e313b", func := "assayer/assayerlaw05.GridsSolved", spec := "gridsSolved", unfollowed := true, recurses := true, named := ["math/bits.deBruijn32tab", "math/bits.overflowError"], apart := false, laid := [("math/bits.deBruijn32tab", laid_math_bits_deBruijn32tab)], narrowed := true }
def GridsSolvedUptoSaid : Prop := gridsSolvedUptoRow.holds Tryd.pinned (OpenSpec.upto gridsSolvedSpec)

/-- 'assayerlaw05.GridsLinear', WHERE WHAT IT READS IS OF BULK AT MOST 1048576: true; the input reads as it did. -/
def gridsLinearUptoRow : OpenClaim := { program := "ytkefmeddnncacaadoor", sum := "b7049bb7a343bdfba6b7072c44719098b3acc794304311ce68026463bb3e313b", func := "assayer/assayerlaw05.GridsLinear", spec := "gridsLinear", unfollowed := true, recurses := true, named := ["math/bits.deBruijn32tab", "math/bits.overflowError"], apart := false, laid := [("math/bits.deBruijn32tab", laid_math_bits_deBruijn32tab)], narrowed := true }
def GridsLinearUptoSaid : Prop := gridsLinearUptoRow.holds Tryd.pinned (OpenSpec.upto gridsLinearSpec)

/-- 'assayerlaw05.GridsDots', WHERE WHAT IT READS IS OF BULK AT MOST 1048576: true; the input reads as it did. -/
def gridsDotsUptoRow : OpenClaim := { program := "ytkefmeddnncacaadoor", sum := "b7049bb7a343bdfba6b7072c44719098b3acc794304311ce68026463bb3e313b", func := "assayer/assayerlaw05.GridsDots", spec := "gridsDots", unfollowed := true, recurses := true, named := ["math/bits.deBruijn32tab", "math/bits.overflowError"], apart := false, laid := [("math/bits.deBruijn32tab", laid_math_bits_deBruijn32tab)], narrowed := true }
def GridsDotsUptoSaid : Prop := gridsDotsUptoRow.holds Tryd.pinned (OpenSpec.upto gridsDotsSpec)

/-- 'assayerlaw05.GridsHangs', WHERE WHAT IT READS IS OF BULK AT MOST 1048576: true; the input reads as it did. -/
def gridsHangsUptoRow : OpenClaim := { program := "ytkefmeddnncacaadoor", sum := "b7049bb7a343bdfba6b7072c44719098b3acc794304311ce68026463bb3e313b", func := "assayer/assayerlaw05.GridsHangs", spec := "gridsHangs", unfollowed := true, recurses := true, named := ["math/bits.deBruijn32tab", "math/bits.overflowError"], apart := false, laid := [("math/bits.deBruijn32tab", laid_math_bits_deBruijn32tab)], narrowed := true }
def GridsHangsUptoSaid : Prop := gridsHangsUptoRow.holds Tryd.pinned (OpenSpec.upto gridsHangsSpec)

/-- 'assayerlaw05.GridsOnes', WHERE WHAT IT READS IS OF BULK AT MOST 1048576: true; the input reads as it did. -/
def gridsOnesUptoRow : OpenClaim := { program := "ytkefmeddnncacaadoor", sum := "b7049bb7a343bdfba6b7072c44719098b3acc794304311ce68026463bb3e313b", func := "assayer/assayerlaw05.GridsOnes", spec := "gridsOnes", unfollowed := true, recurses := true, named := ["math/bits.deBruijn32tab", "math/bits.overflowError"], apart := false, laid := [("math/bits.deBruijn32tab", laid_math_bits_deBruijn32tab)], narrowed := true }
def GridsOnesUptoSaid : Prop := gridsOnesUptoRow.holds Tryd.pinned (OpenSpec.upto gridsOnesSpec)

end Rows
end Go.Proofs.YtkefmeddnncacaaDoor
