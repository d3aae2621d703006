/- nats: long, Div, Back. -/
import Derived.Test.YtkefmeddnncacaaDoorNB
import Derived.Test.YtkefmeddnncacaaDoorCa
import Derived.Test.YtkefmeddnncacaaDoorLa
import Derived.OwnWalk
/- nats: long. -/
set_option linter.unusedVariables false
set_option linter.unusedSimpArgs false
set_option maxRecDepth 100000
namespace Go.Proofs.YtkefmeddnncacaaDoor
open Go.RowKit

end Go.Proofs.YtkefmeddnncacaaDoor

/- nats: leading zeros. -/
set_option linter.unusedVariables false
set_option linter.unusedSimpArgs false
set_option maxRecDepth 100000
namespace Go.Proofs.YtkefmeddnncacaaDoor
open Go.RowKit

end Go.Proofs.YtkefmeddnncacaaDoor

/- nats: Div. -/
set_option linter.unusedVariables false
set_option linter.unusedSimpArgs false
set_option maxRecDepth 100000
namespace Go.Proofs.YtkefmeddnncacaaDoor
open Go.RowKit

/-- Nothing that the one may come to write is the other's. -/
def Sep (v u : Value) : Prop := ∀ A n c A' n' c', v = .slice A n c → u = .slice A' n' c' → c = 0 ∨ c' = 0 ∨ ∃ a a', A = some a ∧ A' = some a' ∧ a.block ≠ a'.block
theorem Sep.symm {v u : Value} (h : Sep v u) : Sep u v := fun A n c A' n' c' e e' => by
  rcases h A' n' c' A n c e' e with h1 | h1 | ⟨a, a', h1, h2, h3⟩
  · exact .inr (.inl h1)
  · exact .inl h1
  · exact .inr (.inr ⟨a', a, h2, h1, fun q => h3 q.symm⟩)
theorem sep_of {t t' : TypeId} {B : Nat} {w w' : World} {A A' : Option Addr} {n n' c c' : Nat} (h : Fr t B w A c) (h' : Fr t' w.heap.size w' A' c') : Sep (.slice A n c) (.slice A' n' c') := fun _ _ _ _ _ _ e e' => by
  cases e; cases e'
  rcases h with h | ⟨g, cs, e, hg, hk, hc⟩
  · exact .inl h
  · rcases h' with h' | ⟨g', cs', e', hg', hk', hc'⟩
    · exact .inr (.inl h')
    · exact .inr (.inr ⟨_, _, e, e', by have := hk.lt; show g ≠ g'; omega⟩)
theorem NatR.sep {M N B : Nat} {w w' : World} {v u : Value} (h : NatR M B w v) (h' : NatR N w.heap.size w' u) : Sep v u := by
  obtain ⟨A, c, rfl, _, f, _⟩ := h
  obtain ⟨A', c', rfl, _, f', _⟩ := h'
  exact sep_of f f'
theorem NatR.zero (B : Nat) (w : World) : NatR 0 B w (.slice none 0 0) := by
  refine ⟨none, 0, by rw [limbs_zero]; rfl, by rw [limbs_zero]; exact Rdk.nil _ _ _, .inl rfl, by rw [limbs_zero]; exact Nat.le_refl _⟩
theorem Sep.nil (v : Value) : Sep (.slice none 0 0) v := fun _ _ _ _ _ _ e _ => by cases e; exact .inl rfl
theorem can_of {w : World} {A : Option Addr} {n c : Nat} {xs : List Nat} (h : Rd w A n xs) (h32 : Is32 xs) (hc : chk xs = true) (hl : n ≤ c) : Can w (.slice A n c) (val xs) := by
  have e := limbs_val_chk h32 hc
  exact ⟨A, c, by rw [e, h.1], by rw [e, h.1]; exact hl, by rw [e, h.1]; exact h⟩
theorem addr0 (ad : Addr) : ad.add (1 - 1) = ad := by unfold Addr.add; split <;> simp_all
theorem div_shift (M N k : Nat) : M * 2 ^ k / (N * 2 ^ k) = M / N := Nat.mul_div_mul_right _ _ (Nat.pow_pos (by omega))
theorem mod_shift (M N k : Nat) : M * 2 ^ k % (N * 2 ^ k) / 2 ^ k = M % N := by
  rw [Nat.mul_mod_mul_right, Nat.mul_div_cancel _ (Nat.pow_pos (by omega))]
end Go.Proofs.YtkefmeddnncacaaDoor

/- nats: Back. -/
set_option linter.unusedVariables false
set_option linter.unusedSimpArgs false
set_option maxRecDepth 100000
namespace Go.Proofs.YtkefmeddnncacaaDoor
open Go.RowKit

end Go.Proofs.YtkefmeddnncacaaDoor
