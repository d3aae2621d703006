/- The document's answer for vecs. -/
import Derived.Test.YtkefmeddnncacaaDoorVB
import Derived.Test.YtkefmeddnncacaaDoorBo
import Derived.Test.YtkefmeddnncacaaDoorBp
import Derived.Deep.RegionLaw
import Derived.Test.YtkefmeddnncacaaDoorFR
import Derived.Test.YtkefmeddnncacaaDoorBY
/- the document's answer for vecs: Check, Zero, Scale. -/
set_option linter.unusedVariables false
set_option linter.unusedSimpArgs false
set_option maxRecDepth 100000
namespace Go.Proofs.YtkefmeddnncacaaDoor
open Go.RowKit

theorem Lst.le_ {α : Type} {E : World → Value → α → Prop} {w : World} {v : Value} {qs : List α} (h : Lst E w v qs) : qs.length ≤ 140737488355328 := by
  obtain ⟨_, _, _, _, e, _, h2, _, h4, _⟩ := h
  cases e
  omega
def zN (z : Int) : Nat := if 65536 < z then 0 else z.toNat
end Go.Proofs.YtkefmeddnncacaaDoor

/- the document's answer for vecs: Same, Dot, Add. -/
set_option linter.unusedVariables false
set_option linter.unusedSimpArgs false
set_option maxRecDepth 100000
namespace Go.Proofs.YtkefmeddnncacaaDoor
open Go.RowKit

end Go.Proofs.YtkefmeddnncacaaDoor

/- laws of vecs that compare: words; Zero of any number. -/
set_option linter.unusedVariables false
set_option linter.unusedSimpArgs false
set_option maxRecDepth 100000
namespace Go.Proofs.YtkefmeddnncacaaDoor
open Go.RowKit

theorem BookF.new {B : Nat} {w : World} (hB : B ≤ w.heap.size) : BookF B (w.alloc (.cells #[.int .i64 0, .slice none 0 0, .slice none 0 0, .slice none 0 0, .slice none 0 0, .slice none 0 0, .slice none 0 0, .slice none 0 0, .slice none 0 0, .slice none 0 0, .slice none 0 0, .slice none 0 0, .slice none 0 0] TBK)) w.heap.size 0 (.slice none 0 0) (.slice none 0 0) [] [] :=
  ⟨⟨Blk.new w TBK _, hB, rfl, .inl ⟨rfl, rfl⟩⟩, ⟨Blk.new w TBK _, hB, rfl, .inl ⟨rfl, rfl⟩⟩⟩
end Go.Proofs.YtkefmeddnncacaaDoor
