/- Plain lemmas: what both can be divided by. No program in sight. -/
import Derived.Test.YtcdejccbamjdoaaDoorLm4
set_option linter.unusedVariables false
set_option linter.unusedSimpArgs false
namespace Go.Proofs.YtcdejccbamjdoaaDoor

theorem odd_coprime_two (a k : Nat) (h : a % 2 = 1) : Nat.Coprime (2 ^ k) a := by
  have : Nat.Coprime 2 a := by
    unfold Nat.Coprime
    have h1 : Nat.gcd 2 a ∣ 2 := Nat.gcd_dvd_left _ _
    have h2 : Nat.gcd 2 a ∣ a := Nat.gcd_dvd_right _ _
    have h3 := Nat.le_of_dvd (by omega) h1
    have h4 : Nat.gcd 2 a ≠ 0 := by intro e; rw [e] at h1; omega
    have h5 : Nat.gcd 2 a ≠ 2 := by intro e; rw [e] at h2; omega
    omega
  exact Nat.Coprime.pow_left k this
theorem gcd_strip {a b k : Nat} (h : a % 2 = 1) : Nat.gcd a (2 ^ k * b) = Nat.gcd a b := by
  rw [Nat.gcd_comm, Nat.Coprime.gcd_mul_left_cancel _ (odd_coprime_two a k h), Nat.gcd_comm]
/-- One step of the loop: of two odd ones, the greater less the less one, without its bits of 0. -/
theorem gcd_step {a b k o : Nat} (h : a % 2 = 1) (hab : a < b) (e : b - a = 2 ^ k * o) : Nat.gcd a o = Nat.gcd a b := by
  rw [← gcd_strip (k := k) h, ← e]
  have : b = b - a + a := by omega
  conv => rhs; rw [this]
  rw [Nat.gcd_add_self_right]
/-- The whole one, of what is left without bits of 0. -/
theorem gcd_whole {a b n m x y : Nat} (ha : a = 2 ^ n * (2 * x + 1)) (hb : b = 2 ^ m * (2 * y + 1)) : Nat.gcd a b = Nat.gcd (2 * x + 1) (2 * y + 1) * 2 ^ (min n m) := by
  rcases Nat.le_total n m with h | h
  · obtain ⟨d, rfl⟩ : ∃ d, m = n + d := ⟨m - n, by omega⟩
    rw [Nat.min_eq_left h, ha, hb, Nat.pow_add, Nat.mul_assoc, Nat.gcd_mul_left, gcd_strip (by omega), Nat.mul_comm]
  · obtain ⟨d, rfl⟩ : ∃ d, n = m + d := ⟨n - m, by omega⟩
    rw [Nat.min_eq_right h, ha, hb, Nat.pow_add, Nat.mul_assoc, Nat.gcd_mul_left, Nat.gcd_comm (2 ^ d * _), gcd_strip (by omega), Nat.gcd_comm, Nat.mul_comm]
theorem div_pow_odd {a n x : Nat} (h : a = 2 ^ n * (2 * x + 1)) : a / 2 ^ n = 2 * x + 1 := by
  rw [h, Nat.mul_div_cancel_left _ (Nat.pow_pos (by omega))]
theorem le_of_tz {a n x : Nat} (h : a = 2 ^ n * (2 * x + 1)) : 2 * x + 1 ≤ a := by
  rw [h]; exact Nat.le_mul_of_pos_left _ (Nat.pow_pos (by omega))
theorem cmpN_cases (a b : Nat) : (a < b ∧ cmpN a b = -1) ∨ (a = b ∧ cmpN a b = 0) ∨ (b < a ∧ cmpN a b = 1) := by
  unfold cmpN
  rcases Nat.lt_trichotomy a b with h | h | h
  · exact .inl ⟨h, by rw [if_pos h]⟩
  · exact .inr (.inl ⟨h, by rw [if_neg (by omega), if_pos h]⟩)
  · exact .inr (.inr ⟨h, by rw [if_neg (by omega), if_neg (by omega)]⟩)
end Go.Proofs.YtcdejccbamjdoaaDoor
