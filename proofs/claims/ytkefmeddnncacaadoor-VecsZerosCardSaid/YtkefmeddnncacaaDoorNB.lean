/- nats: Mul, shift, back, noughts, Gcd, short. -/
import Derived.Test.YtkefmeddnncacaaDoorNA
import Derived.Test.YtkefmeddnncacaaDoorLa
import Derived.Lib.TrailingZeros
import Derived.Deep.LoopGhost
/- nats: Mul. -/
set_option linter.unusedVariables false
set_option linter.unusedSimpArgs false
set_option maxRecDepth 100000
namespace Go.Proofs.YtkefmeddnncacaaDoor
open Go.RowKit

end Go.Proofs.YtkefmeddnncacaaDoor

/- nats: shift, back. -/
set_option linter.unusedVariables false
set_option linter.unusedSimpArgs false
set_option maxRecDepth 100000
namespace Go.Proofs.YtkefmeddnncacaaDoor
open Go.RowKit

end Go.Proofs.YtkefmeddnncacaaDoor

/- nats: back. -/
set_option linter.unusedVariables false
set_option linter.unusedSimpArgs false
set_option maxRecDepth 100000
namespace Go.Proofs.YtkefmeddnncacaaDoor
open Go.RowKit

theorem below_drewN {B : Nat} {w W : World} (h : Below B w W) (n : Nat) : Below B w (W.drewN n) := ⟨h.os, h.tape, h.output, h.size, h.block⟩
end Go.Proofs.YtkefmeddnncacaaDoor

/- nats: noughts. -/
set_option linter.unusedVariables false
set_option linter.unusedSimpArgs false
set_option maxRecDepth 100000
namespace Go.Proofs.YtkefmeddnncacaaDoor
open Go.RowKit

/-- The table of the library lies where it was laid. -/
structure Tab (w : World) : Prop where
  cell : ∀ j, j < 32 → w.cell? ⟨0, j, none⟩ = some (.int .u8 (Lib.deBruijn32tab.getD j 0 : Nat))
theorem Tab.below {w w' : World} (h : Tab w) (hb : Below w.heap.size w w') : Tab w' := ⟨fun j hj => cell_below hb (h.cell j hj)⟩
theorem Tab.drew {w : World} (h : Tab w) : Tab w.drew := ⟨h.cell⟩
theorem Tab.drewN {w : World} (h : Tab w) (n : Nat) : Tab (w.drewN n) := ⟨h.cell⟩

end Go.Proofs.YtkefmeddnncacaaDoor

/- nats: contracts at numbers that may be. -/
set_option linter.unusedVariables false
set_option linter.unusedSimpArgs false
set_option maxRecDepth 100000
namespace Go.Proofs.YtkefmeddnncacaaDoor
open Go.RowKit

/-- The value reads as the number N. -/
def Can (w : World) (v : Value) (N : Nat) : Prop := ∃ A c, v = .slice A (limbs N).length c ∧ (limbs N).length ≤ c ∧ Rd w A (limbs N).length (limbs N)
theorem NatR.can {N B : Nat} {w : World} {v : Value} (h : NatR N B w v) : Can w v N := by
  obtain ⟨A, c, e, r, f, l⟩ := h
  exact ⟨A, c, e, l, r⟩
theorem NatR.below {N B : Nat} {w w' : World} {v : Value} (h : NatR N B w v) (hb : Below w.heap.size w w') : NatR N B w' v := by
  obtain ⟨A, c, e, r, f, l⟩ := h
  exact ⟨A, c, e, r.below hb, f.below hb, l⟩
theorem Can.below {w w' : World} {v : Value} {N : Nat} (h : Can w v N) (hb : Below w.heap.size w w') : Can w' v N := by
  obtain ⟨A, c, e, l, r⟩ := h
  exact ⟨A, c, e, l, r.below hb⟩
/-- Numbers that a call may be asked for. -/
def Sm (N : Nat) : Prop := (limbs N).length ≤ 17592186044416
theorem limbs_len_mono {M N : Nat} (h : M ≤ N) : (limbs M).length ≤ (limbs N).length := limbs_length_le.2 (Nat.lt_of_le_of_lt h (limbs_length_le.1 (Nat.le_refl _)))
theorem Sm.mono {M N : Nat} (h : Sm N) (hl : M ≤ N) : Sm M := Nat.le_trans (limbs_len_mono hl) h
theorem is_zero_len {N : Nat} : (limbs N).length = 0 ↔ N = 0 := by rw [List.length_eq_zero_iff, limbs_eq_nil]

end Go.Proofs.YtkefmeddnncacaaDoor

/- nats: Gcd. -/
set_option linter.unusedVariables false
set_option linter.unusedSimpArgs false
set_option maxRecDepth 100000
namespace Go.Proofs.YtkefmeddnncacaaDoor
open Go.RowKit

end Go.Proofs.YtkefmeddnncacaaDoor

/- nats: short. -/
set_option linter.unusedVariables false
set_option linter.unusedSimpArgs false
set_option maxRecDepth 100000
namespace Go.Proofs.YtkefmeddnncacaaDoor
open Go.RowKit

end Go.Proofs.YtkefmeddnncacaaDoor
