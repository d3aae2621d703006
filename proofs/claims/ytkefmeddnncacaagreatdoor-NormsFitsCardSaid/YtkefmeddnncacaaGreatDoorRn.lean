/- the document's answer for nats: Digits, Number, Parse, Text. -/
import Derived.Test.YtkefmeddnncacaaGreatDoorRm
import Derived.Test.YtkefmeddnncacaaGreatDoorND
import Derived.Test.YtkefmeddnncacaaGreatDoorLz
import Derived.Test.YtkefmeddnncacaaGreatDoorIA
set_option linter.unusedVariables false
set_option linter.unusedSimpArgs false
set_option maxRecDepth 100000
namespace Go.Proofs.YtkefmeddnncacaaGreatDoor
open Go.RowKit

theorem kMul_can {w : World} {v v' : Value} {M N : Nat} (h : Can w v M) (h' : Can w v' N) (s : (limbs M).length ≤ 8796093022208) (s' : (limbs N).length ≤ 8796093022208) :
    Calls Tryz.prog 202 #[v, v'] w fun e w' => ∃ u, e = .returned u ∧ NatR (M * N) w.heap.size w' u ∧ Below w.heap.size w w' := by
  obtain ⟨A, c, rfl, l, r⟩ := h
  obtain ⟨A', c', rfl, l', r'⟩ := h'
  have := rMul_ok w A A' _ _ c c' _ _ r r' (is32_limbs M) (is32_limbs N) (by omega) (by omega) l l'
  rw [nv, if_pos (chk_limbs M), val_limbs, nv, if_pos (chk_limbs N), val_limbs] at this
  exact this
theorem kMul_F {w : World} {v v' : Value} {M N : Nat} (h : Can w v M) (h' : Can w v' N) (s : (limbs M).length ≤ 8796093022208) (s' : (limbs N).length ≤ 8796093022208) :
    Calls Tryz.prog 202 #[v, v'] w fun e w' => ∃ u, e = .returned u ∧ Below w.heap.size w w' ∧ Can w' u (M * N) :=
  (kMul_can h h' s s').mono fun e w' ⟨u, h1, h2, h3⟩ => ⟨u, h1, h3, h2.can⟩
end Go.Proofs.YtkefmeddnncacaaGreatDoor
