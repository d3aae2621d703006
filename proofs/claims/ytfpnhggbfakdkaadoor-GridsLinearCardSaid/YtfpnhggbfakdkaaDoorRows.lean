/-
  NARROWER THAN 'FOR EVERY INPUT', by the rows' own cells (each row's printed sentence says how): GridsBack: laid · GridsSolved: laid · GridsLinear: laid · GridsDots: laid · GridsHangs: laid · GridsOnes: laid.
  DERIVED. THE GIVEN ROWS OF THIS SEAT. 6 by the template 'for every input the law returns true; each argument reads behind the call as it read before'; 0 by the template 'total and deterministic' (their statements: YtfpnhggbfakdkaaDoorTotals.lean).
  GIVEN WITH THE SEED: the statements are not yours to turn. If you find one false, say at which input.
  Laid BY PROGRAM, IN A SANDBOX (cutbox-rows.mjs): the forced cells as the released guide's own fill.sh prints them over the translation 78ffc18fb1a34ca2… (all of the seat's roots in one cut). By AI agents, Wed Nov 11 2026. No macro, syntax, notation, axiom, sorry.
-/
import Derived.Test.YtfpnhggbfakdkaaDoorChecked
import GoSem.Claim
import GoSem.ClaimJoined
import GoSem.ClaimMapViews
import Derived.JoinedTies
import Derived.KernelRfl
namespace Go.Proofs.YtfpnhggbfakdkaaDoor
/- THE CELL 'sum', in the pinned program and in every row, IS THE sha256 OF THE DUMP (.gsa) THAT YtfpnhggbfakdkaaDoorProg.lean LOADS. Nothing in Lean hashes anything: it is a label: what it is worth is what the hold of that sum in a sandbox is worth. -/
noncomputable def Tryd.pinned : Pinned := { name := "ytfpnhggbfakdkaadoor", sum := "78ffc18fb1a34ca241a600a03ac6979af160e33aa87dbda2c7656efee0322c76", checked := Tryd.checked }
namespace Rows
def none {H : Type} : Left H := { results := [], args := [] }

/- WHAT THE LISTED PACKAGE-LEVEL VARIABLES READ AS WHEN THE CALL BEGINS. Each datum BY PROGRAM (the guide's laid-datum.mjs) off the statement by which the dump's own 'gosem.cut.vars' lays the variable. In a bare row this is a premise. The card (YtfpnhggbfakdkaaDoorCards.lean) ties it to the program's text. -/
def laid_math_bits_deBruijn32tab {H : Type} : DataW H := .agg [.lit (.int .u8 0), .lit (.int .u8 1), .lit (.int .u8 28), .lit (.int .u8 2), .lit (.int .u8 29), .lit (.int .u8 14), .lit (.int .u8 24), .lit (.int .u8 3), .lit (.int .u8 30), .lit (.int .u8 22), .lit (.int .u8 20), .lit (.int .u8 15), .lit (.int .u8 25), .lit (.int .u8 17), .lit (.int .u8 4), .lit (.int .u8 8), .lit (.int .u8 31), .lit (.int .u8 27), .lit (.int .u8 13), .lit (.int .u8 23), .lit (.int .u8 21), .lit (.int .u8 19), .lit (.int .u8 16), .lit (.int .u8 7), .lit (.int .u8 26), .lit (.int .u8 12), .lit (.int .u8 18), .lit (.int .u8 6), .lit (.int .u8 11), .lit (.int .u8 5), .lit (.int .u8 10), .lit (.int .u8 9)]

/-- 'assayerlaw05.GridsBack': WHATEVER THE INPUT: true; the input reads as it did. -/
def gridsBackSpec : ChangeSpec := { name := "gridsBack", fn := fun _ => fun
  | [d] => { results := [.lit (.bool true)], args := [d] }
  | _ => none }
def gridsBackRow : OpenClaim := { program := "ytfpnhggbfakdkaadoor", sum := "78ffc18fb1a34ca241a600a03ac6979af160e33aa87dbda2c7656efee0322c76", func := "assayer/assayerlaw05.GridsBack", spec := "gridsBack", unfollowed := true, recurses := true, named := ["math/bits.deBruijn32tab", "math/bits.overflowError"], apart := false, laid := [("math/bits.deBruijn32tab", laid_math_bits_deBruijn32tab)] }
def GridsBackSaid : Prop := gridsBackRow.holds Tryd.pinned (OpenSpec.ofChange gridsBackSpec)

/-- ITS FALSE NEIGHBOUR: 'it returns false'. Refute it at one input. -/
def gridsBackWrong : ChangeSpec := { name := "gridsBack", fn := fun _ => fun
  | [d] => { results := [.lit (.bool false)], args := [d] }
  | _ => none }
def GridsBackWrongFalsely : Prop := gridsBackRow.holds Tryd.pinned (OpenSpec.ofChange gridsBackWrong)

/-- 'assayerlaw05.GridsSolved': WHATEVER THE INPUT: true; the input reads as it did. -/
def gridsSolvedSpec : ChangeSpec := { name := "gridsSolved", fn := fun _ => fun
  | [d1, d2] => { results := [.lit (.bool true)], args := [d1, d2] }
  | _ => none }
def gridsSolvedRow : OpenClaim := { program := "ytfpnhggbfakdkaadoor", sum := "78ffc18fb1a34ca241a600a03ac6979af160e33aa87dbda2c7656efee0322c76", func := "assayer/assayerlaw05.GridsSolved", spec := "gridsSolved", unfollowed := true, recurses := true, named := ["math/bits.deBruijn32tab", "math/bits.overflowError"], apart := false, laid := [("math/bits.deBruijn32tab", laid_math_bits_deBruijn32tab)] }
def GridsSolvedSaid : Prop := gridsSolvedRow.holds Tryd.pinned (OpenSpec.ofChange gridsSolvedSpec)

/-- ITS FALSE NEIGHBOUR: 'it returns false'. Refute it at one input. -/
def gridsSolvedWrong : ChangeSpec := { name := "gridsSolved", fn := fun _ => fun
  | [d1, d2] => { results := [.lit (.bool false)], args := [d1, d2] }
  | _ => none }
def GridsSolvedWrongFalsely : Prop := gridsSolvedRow.holds Tryd.pinned (OpenSpec.ofChange gridsSolvedWrong)

/-- 'assayerlaw05.GridsLinear': WHATEVER THE INPUT: true; the input reads as it did. -/
def gridsLinearSpec : ChangeSpec := { name := "gridsLinear", fn := fun _ => fun
  | [d1, d2, d3] => { results := [.lit (.bool true)], args := [d1, d2, d3] }
  | _ => none }
def gridsLinearRow : OpenClaim := { program := "ytfpnhggbfakdkaadoor", sum := "78ffc18fb1a34ca241a600a03ac6979af160e33aa87dbda2c7656efee0322c76", func := "assayer/assayerlaw05.GridsLinear", spec := "gridsLinear", unfollowed := true, recurses := true, named := ["math/bits.deBruijn32tab", "math/bits.overflowError"], apart := false, laid := [("math/bits.deBruijn32tab", laid_math_bits_deBruijn32tab)] }
def GridsLinearSaid : Prop := gridsLinearRow.holds Tryd.pinned (OpenSpec.ofChange gridsLinearSpec)

/-- ITS FALSE NEIGHBOUR: 'it returns false'. Refute it at one input. -/
def gridsLinearWrong : ChangeSpec := { name := "gridsLinear", fn := fun _ => fun
  | [d1, d2, d3] => { results := [.lit (.bool false)], args := [d1, d2, d3] }
  | _ => none }
def GridsLinearWrongFalsely : Prop := gridsLinearRow.holds Tryd.pinned (OpenSpec.ofChange gridsLinearWrong)

/-- 'assayerlaw05.GridsDots': WHATEVER THE INPUT: true; the input reads as it did. -/
def gridsDotsSpec : ChangeSpec := { name := "gridsDots", fn := fun _ => fun
  | [d1, d2, d3] => { results := [.lit (.bool true)], args := [d1, d2, d3] }
  | _ => none }
def gridsDotsRow : OpenClaim := { program := "ytfpnhggbfakdkaadoor", sum := "78ffc18fb1a34ca241a600a03ac6979af160e33aa87dbda2c7656efee0322c76", func := "assayer/assayerlaw05.GridsDots", spec := "gridsDots", unfollowed := true, recurses := true, named := ["math/bits.deBruijn32tab", "math/bits.overflowError"], apart := false, laid := [("math/bits.deBruijn32tab", laid_math_bits_deBruijn32tab)] }
def GridsDotsSaid : Prop := gridsDotsRow.holds Tryd.pinned (OpenSpec.ofChange gridsDotsSpec)

/-- ITS FALSE NEIGHBOUR: 'it returns false'. Refute it at one input. -/
def gridsDotsWrong : ChangeSpec := { name := "gridsDots", fn := fun _ => fun
  | [d1, d2, d3] => { results := [.lit (.bool false)], args := [d1, d2, d3] }
  | _ => none }
def GridsDotsWrongFalsely : Prop := gridsDotsRow.holds Tryd.pinned (OpenSpec.ofChange gridsDotsWrong)

/-- 'assayerlaw05.GridsHangs': WHATEVER THE INPUT: true; the input reads as it did. -/
def gridsHangsSpec : ChangeSpec := { name := "gridsHangs", fn := fun _ => fun
  | [d1, d2, d3] => { results := [.lit (.bool true)], args := [d1, d2, d3] }
  | _ => none }
def gridsHangsRow : OpenClaim := { program := "ytfpnhggbfakdkaadoor", sum := "78ffc18fb1a34ca241a600a03ac6979af160e33aa87dbda2c7656efee0322c76", func := "assayer/assayerlaw05.GridsHangs", spec := "gridsHangs", unfollowed := true, recurses := true, named := ["math/bits.deBruijn32tab", "math/bits.overflowError"], apart := false, laid := [("math/bits.deBruijn32tab", laid_math_bits_deBruijn32tab)] }
def GridsHangsSaid : Prop := gridsHangsRow.holds Tryd.pinned (OpenSpec.ofChange gridsHangsSpec)

/-- ITS FALSE NEIGHBOUR: 'it returns false'. Refute it at one input. -/
def gridsHangsWrong : ChangeSpec := { name := "gridsHangs", fn := fun _ => fun
  | [d1, d2, d3] => { results := [.lit (.bool false)], args := [d1, d2, d3] }
  | _ => none }
def GridsHangsWrongFalsely : Prop := gridsHangsRow.holds Tryd.pinned (OpenSpec.ofChange gridsHangsWrong)

/-- 'assayerlaw05.GridsOnes': WHATEVER THE INPUT: true; the input reads as it did. -/
def gridsOnesSpec : ChangeSpec := { name := "gridsOnes", fn := fun _ => fun
  | [d] => { results := [.lit (.bool true)], args := [d] }
  | _ => none }
def gridsOnesRow : OpenClaim := { program := "ytfpnhggbfakdkaadoor", sum := "78ffc18fb1a34ca241a600a03ac6979af160e33aa87dbda2c7656efee0322c76", func := "assayer/assayerlaw05.GridsOnes", spec := "gridsOnes", unfollowed := true, recurses := true, named := ["math/bits.deBruijn32tab", "math/bits.overflowError"], apart := false, laid := [("math/bits.deBruijn32tab", laid_math_bits_deBruijn32tab)] }
def GridsOnesSaid : Prop := gridsOnesRow.holds Tryd.pinned (OpenSpec.ofChange gridsOnesSpec)

/-- ITS FALSE NEIGHBOUR: 'it returns false'. Refute it at one input. -/
def gridsOnesWrong : ChangeSpec := { name := "gridsOnes", fn := fun _ => fun
  | [d] => { results := [.lit (.bool false)], args := [d] }
  | _ => none }
def GridsOnesWrongFalsely : Prop := gridsOnesRow.holds Tryd.pinned (OpenSpec.ofChange gridsOnesWrong)

/- THE SECOND FORM. 'bulk': how many values and letters a reading holds, each counted each time it is reached (what is shared counts as often as it is met; a slice's spare places count too). A statement '..UptoSaid' is the law's where the arguments, and the package variables that the reading takes, are together of bulk at most 1048576: NARROWER than '..Said'. Prove '..Said' where nothing that the law and all that it calls make is longer than what came in: it says more and counts as full. Else prove '..UptoSaid'. A law counts once. -/
mutual
def uptoBulk {H : Type} : DataW H → Nat
  | .lit (.string bytes) => bytes.length + 1
  | .lit _ => 1
  | .nil => 1
  | .ptr d => uptoBulk d + 1
  | .slice elems spare => uptoBulkAll elems + uptoBulkAll spare + 1
  | .agg parts => uptoBulkAll parts + 1
  | .iface _ d => uptoBulk d + 1
  | .map entries => uptoBulkEntries entries + 1
  | .held _ => 1
def uptoBulkAll {H : Type} : List (DataW H) → Nat
  | [] => 0
  | d :: r => uptoBulk d + uptoBulkAll r
def uptoBulkEntries {H : Type} : List (Lit × DataW H) → Nat
  | [] => 0
  | x :: r => uptoBulkEntry x + uptoBulkEntries r
def uptoBulkEntry {H : Type} : Lit × DataW H → Nat
  | (.string bytes, d) => bytes.length + uptoBulk d + 1
  | (_, d) => uptoBulk d + 1
 end
def uptoSmall : (H : Type) → List (DataW H) → Bool := fun _ ds => decide (uptoBulkAll ds ≤ 1048576)
def OpenSpec.upto (s : _root_.Go.ChangeSpec) : _root_.Go.OpenSpec := { _root_.Go.OpenSpec.ofChange s with cond := some uptoSmall }

/-- 'assayerlaw05.GridsBack', WHERE WHAT IT READS IS OF BULK AT MOST 1048576: true; the input reads as it did. -/
def gridsBackUptoRow : OpenClaim := { program := "ytfpnhggbfakdkaadoor", sum := "78ffc18fb1a34ca241a600a03ac6979af160e33aa87dbda2c7656efee0322c76", func := "assayer/assayerlaw05.GridsBack", spec := "gridsBack", unfollowed := true, recurses := true, named := ["math/bits.deBruijn32tab", "math/bits.overflowError"], apart := false, laid := [("math/bits.deBruijn32tab", laid_math_bits_deBruijn32tab)], narrowed := true }
def GridsBackUptoSaid : Prop := gridsBackUptoRow.holds Tryd.pinned (OpenSpec.upto gridsBackSpec)

/-- 'assayerlaw05.GridsSolved', WHERE WHAT IT READS IS OF BULK AT MOST 1048576: true; the input reads as it did. -/
def gridsSolvedUptoRow : OpenClaim := { program := "ytfpnhggbfakdkaadoor", sum := "78ffc18fb1a34ca241a600a03ac6979af160e33aa87dbda2c7656efee0322c76", func := "assayer/assayerlaw05.GridsSolved", spec := "gridsSolved", unfollowed := true, recurses := true, named := ["math/bits.deBruijn32tab", "math/bits.overflowError"], apart := false, laid := [("math/bits.deBruijn32tab", laid_math_bits_deBruijn32tab)], narrowed := true }
def GridsSolvedUptoSaid : Prop := gridsSolvedUptoRow.holds Tryd.pinned (OpenSpec.upto gridsSolvedSpec)

/-- 'assayerlaw05.GridsLinear', WHERE WHAT IT READS IS OF BULK AT MOST 1048576: true; the input reads as it did. -/
def gridsLinearUptoRow : OpenClaim := { program := "ytfpnhggbfakdkaadoor", sum := "78ffc18fb1a34ca241a600a03ac6979af160e33aa87dbda2c7656efee0322c76", func := "assayer/assayerlaw05.GridsLinear", spec := "gridsLinear", unfollowed := true, recurses := true, named := ["math/bits.deBruijn32tab", "math/bits.overflowError"], apart := false, laid := [("math/bits.deBruijn32tab", laid_math_bits_deBruijn32tab)], narrowed := true }
def GridsLinearUptoSaid : Prop := gridsLinearUptoRow.holds Tryd.pinned (OpenSpec.upto gridsLinearSpec)

/-- 'assayerlaw05.GridsDots', WHERE WHAT IT READS IS OF BULK AT MOST 1048576: true; the input reads as it did. -/
def gridsDotsUptoRow : OpenClaim := { program := "ytfpnhggbfakdkaadoor", sum := "78ffc18fb1a34ca241a600a03ac6979af160e33aa87dbda2c7656efee0322c76", func := "assayer/assayerlaw05.GridsDots", spec := "gridsDots", unfollowed := true, recurses := true, named := ["math/bits.deBruijn32tab", "math/bits.overflowError"], apart := false, laid := [("math/bits.deBruijn32tab", laid_math_bits_deBruijn32tab)], narrowed := true }
def GridsDotsUptoSaid : Prop := gridsDotsUptoRow.holds Tryd.pinned (OpenSpec.upto gridsDotsSpec)

/-- 'assayerlaw05.GridsHangs', WHERE WHAT IT READS IS OF BULK AT MOST 1048576: true; the input reads as it did. -/
def gridsHangsUptoRow : OpenClaim := { program := "ytfpnhggbfakdkaadoor", sum := "78ffc18fb1a34ca241a600a03ac6979af160e33aa87dbda2c7656efee0322c76", func := "assayer/assayerlaw05.GridsHangs", spec := "gridsHangs", unfollowed := true, recurses := true, named := ["math/bits.deBruijn32tab", "math/bits.overflowError"], apart := false, laid := [("math/bits.deBruijn32tab", laid_math_bits_deBruijn32tab)], narrowed := true }
def GridsHangsUptoSaid : Prop := gridsHangsUptoRow.holds Tryd.pinned (OpenSpec.upto gridsHangsSpec)

/-- 'assayerlaw05.GridsOnes', WHERE WHAT IT READS IS OF BULK AT MOST 1048576: true; the input reads as it did. -/
def gridsOnesUptoRow : OpenClaim := { program := "ytfpnhggbfakdkaadoor", sum := "78ffc18fb1a34ca241a600a03ac6979af160e33aa87dbda2c7656efee0322c76", func := "assayer/assayerlaw05.GridsOnes", spec := "gridsOnes", unfollowed := true, recurses := true, named := ["math/bits.deBruijn32tab", "math/bits.overflowError"], apart := false, laid := [("math/bits.deBruijn32tab", laid_math_bits_deBruijn32tab)], narrowed := true }
def GridsOnesUptoSaid : Prop := gridsOnesUptoRow.holds Tryd.pinned (OpenSpec.upto gridsOnesSpec)

end Rows
end Go.Proofs.YtfpnhggbfakdkaaDoor
