/- The frame of every law: the tables that the row lists, and a world that holds them. -/
import Derived.Test.YtnpfochbpdfcmaaGreatDoorFr
import Derived.Test.YtnpfochbpdfcmaaGreatDoorNB
set_option linter.unusedVariables false
set_option linter.unusedSimpArgs false
set_option maxRecDepth 100000
namespace Go.Proofs.YtnpfochbpdfcmaaGreatDoor
open Go.ChangeShapes Go.WideShapes Go.ChangeAt Go.RowKit

theorem gTab : Tryz.prog.globalNamed "math/bits.deBruijn32tab" = some 2 := by kernel_rfl
theorem gTabType : (Tryz.prog.globals[2]?).map (·.type) = some 176 := by kernel_rfl
theorem tab_of {W : World} {rest : List (String × DataW Unit)} (h : laidMet Tryz.prog (("math/bits.deBruijn32tab", Rows.laid_math_bits_deBruijn32tab) :: rest) W) : Tab W := by
  have T : Lib.TabIs Tryz.prog W "math/bits.deBruijn32tab" .u8 (Lib.deBruijn32tab.map fun (x : Nat) => (x : Int)) :=
    Lib.tabIs_of_head (n := 32) (e := 5) gTab gTabType (by kernel_rfl) (by kernel_rfl) (by kernel_rfl) (by kernel_rfl) h
  refine ⟨fun j hj => ?_⟩
  have := T.cell gTab j (by simpa [Lib.deBruijn32tab] using hj)
  rw [this, List.getD_eq_getElem?_getD, List.getElem?_map, List.getD_eq_getElem?_getD]
  have hj2 : j < Lib.deBruijn32tab.length := by simpa [Lib.deBruijn32tab] using hj
  rw [List.getElem?_eq_getElem hj2]
  rfl
/-- The cells of a datum. -/
def flatD : Nat → DataW Unit → List Value
  | 0, _ => []
  | _ + 1, .lit (.int k z) => [.int k z]
  | n + 1, .agg ds => ds.flatMap (flatD n)
  | _, _ => []
def layCells (d : DataW Unit) : Obj → Obj
  | .cells _ t fr => .cells (flatD 8 d).toArray t fr
  | o => o
def layAll (P : Program) : List (String × DataW Unit) → Array Obj → Array Obj
  | [], h => h
  | x :: l, h => layAll P l (match P.globalNamed x.1 with
    | some g => h.modify g (layCells x.2)
    | none => h)
/-- A world for the witness: the settled one, the listed tables holding what their initialisers lay. -/
noncomputable def laidWorld (l : List (String × DataW Unit)) (os : Os) : World :=
  { World.holding Tryz.prog os ⟨#[], #[], []⟩ with heap := layAll Tryz.prog l (World.holding Tryz.prog os ⟨#[], #[], []⟩).heap }
end Go.Proofs.YtnpfochbpdfcmaaGreatDoor
