/- the laws of rats: small numbers, plain. -/
import Derived.Test.YtnpfochbpdfcmaaGreatDoorKm
set_option linter.unusedVariables false
set_option linter.unusedSimpArgs false
set_option maxRecDepth 100000
namespace Go.Proofs.YtnpfochbpdfcmaaGreatDoor
open Go.RowKit

section
variable {m n p q : Int}
theorem cast_pos (h : 1 ≤ p) : (0 : Rat) < (p : Rat) := by exact_mod_cast (show (0 : Int) < p by omega)
theorem cast_ne (h : 1 ≤ p) : (p : Rat) ≠ 0 := by exact_mod_cast (show p ≠ 0 by omega)
theorem small_lt (hp : 1 ≤ p) (hq : 1 ≤ q) : Rat.divInt m p < Rat.divInt n q ↔ m * q < n * p := by
  rw [Rat.divInt_eq_div, Rat.divInt_eq_div, Rat.div_lt_iff (cast_pos hp)]
  have h1 := cast_pos hq
  have h2 : (n : Rat) / (q : Rat) * (p : Rat) = ((n : Rat) * p) / q := by grind
  rw [h2, Rat.lt_div_iff h1, ← Rat.intCast_mul, ← Rat.intCast_mul]
  exact Rat.intCast_lt_intCast
theorem small_cmp (hp : 1 ≤ p) (hq : 1 ≤ q) {l : Bool} (hl : decide (m * q < n * p) = l) {c : Int} (hc : cmpQ (Rat.divInt m p) (Rat.divInt n q) = c) : (c == -1) = l := by
  subst hl hc
  unfold cmpQ
  by_cases h : Rat.divInt m p < Rat.divInt n q
  · rw [if_pos h, decide_eq_true ((small_lt hp hq).1 h)]; rfl
  · rw [if_neg h, decide_eq_false (fun z => h ((small_lt hp hq).2 z))]
    split <;> rfl
theorem small_add (hp : 1 ≤ p) (hq : 1 ≤ q) : Rat.divInt m p + Rat.divInt n q = Rat.divInt (m * q + n * p) (p * q) := Rat.divInt_add_divInt m n (by omega) (by omega)
theorem small_mul : Rat.divInt m p * Rat.divInt n q = Rat.divInt (m * n) (p * q) := Rat.divInt_mul_divInt m n
theorem small_div (hp : 1 ≤ p) (hq : 1 ≤ q) (hn : n ≠ 0) : Rat.divInt m p / Rat.divInt n q = Rat.divInt (m * q) (p * n) := by
  have h1 := cast_ne hp
  have h2 := cast_ne hq
  have h3 : (n : Rat) ≠ 0 := by exact_mod_cast hn
  rw [Rat.divInt_eq_div, Rat.divInt_eq_div, Rat.divInt_eq_div, Rat.intCast_mul, Rat.intCast_mul]
  grind
theorem small_ne (hq : 1 ≤ q) (hn : n ≠ 0) : Rat.divInt n q ≠ 0 := by
  intro e
  rw [Rat.divInt_eq_div] at e
  have h2 := cast_ne hq
  have h3 : (n : Rat) ≠ 0 := by exact_mod_cast hn
  grind
theorem small_zero : Rat.divInt 0 q = 0 := Rat.zero_divInt q
theorem small_one : ((m : Int) : Rat) = Rat.divInt m 1 := by rw [divInt_one]
theorem small_floor (hp : 1 ≤ p) : (Rat.divInt m p).floor = m / p := by
  apply Int.le_antisymm
  · rw [Int.le_ediv_iff_mul_le (by omega)]
    have h1 := Rat.floor_le (Rat.divInt m p)
    generalize (Rat.divInt m p).floor = f at *
    rw [Rat.divInt_eq_div] at h1
    refine Int.not_lt.1 fun h2 => ?_
    have h3 : (m : Rat) < ((f * p : Int) : Rat) := Rat.intCast_lt_intCast.2 h2
    rw [Rat.intCast_mul, ← Rat.div_lt_iff (cast_pos hp)] at h3
    exact absurd h1 (Rat.not_le.2 h3)
  · rw [Rat.le_floor_iff, Rat.divInt_eq_div]
    refine Rat.not_lt.1 fun h2 => ?_
    rw [Rat.div_lt_iff (cast_pos hp), ← Rat.intCast_mul, Rat.intCast_lt_intCast] at h2
    have := Int.ediv_mul_le m (show p ≠ 0 by omega)
    omega
theorem small_whole (hp : 1 ≤ p) : decide ((Rat.divInt m p).den = 1) = (m.tmod p == 0) := by
  have h : (Rat.divInt m p).den = 1 ↔ m.tmod p = 0 := by
    rw [den_one_iff, small_floor hp, Rat.divInt_eq_div]
    have hz := cast_ne hp
    have h1 : (((m / p : Int) : Rat) = (m : Rat) / p) ↔ m / p * p = m := by
      constructor
      · intro e
        have : ((m / p * p : Int) : Rat) = (m : Rat) := by rw [Rat.intCast_mul]; grind
        exact_mod_cast this
      · intro e
        have : ((m / p * p : Int) : Rat) = (m : Rat) := by rw [e]
        rw [Rat.intCast_mul] at this
        grind
    rw [h1, ← Int.dvd_iff_tmod_eq_zero]
    exact ⟨fun e => ⟨m / p, by rw [Int.mul_comm]; exact e.symm⟩, fun e => Int.ediv_mul_cancel e⟩
  rw [Bool.eq_iff_iff]
  simp [h]
/-- What the law makes of it. -/
theorem floor_neg (hp : 1 ≤ p) (h : m.tmod p < 0) : m.tdiv p - 1 = m / p := by
  have h1 := Int.mul_tdiv_add_tmod m p
  have h2 := Int.mul_ediv_add_emod m p
  have h3 := Int.emod_nonneg m (show p ≠ 0 by omega)
  have h4 := Int.emod_lt_of_pos m (show 0 < p by omega)
  have h5 : -p < m.tmod p := by
    have := Int.lt_tmod_of_pos m (show 0 < p by omega)
    omega
  generalize m.tdiv p = a at *
  generalize m / p = b at *
  generalize m.tmod p = r at *
  generalize m % p = s at *
  have e : p * (a - b - 1) = s - r - p := by rw [Int.mul_sub, Int.mul_sub]; omega
  have : a - b - 1 = 0 := by
    rcases Int.lt_trichotomy (a - b - 1) 0 with k | k | k
    · have : p * (a - b - 1) ≤ p * (-1) := Int.mul_le_mul_of_nonneg_left (by omega) (by omega)
      omega
    · exact k
    · have : p * 1 ≤ p * (a - b - 1) := Int.mul_le_mul_of_nonneg_left (by omega) (by omega)
      omega
  omega
theorem floor_pz (hp : 1 ≤ p) (h : ¬ m.tmod p < 0) : m.tdiv p = m / p := by
  have h1 := Int.mul_tdiv_add_tmod m p
  have h2 := Int.mul_ediv_add_emod m p
  have h3 := Int.emod_nonneg m (show p ≠ 0 by omega)
  have h4 := Int.emod_lt_of_pos m (show 0 < p by omega)
  have h5 : m.tmod p < p := Int.tmod_lt_of_pos m (show 0 < p by omega)
  generalize m.tdiv p = a at *
  generalize m / p = b at *
  generalize m.tmod p = r at *
  generalize m % p = s at *
  have e : p * (a - b) = s - r := by rw [Int.mul_sub]; omega
  have : a - b = 0 := by
    rcases Int.lt_trichotomy (a - b) 0 with k | k | k
    · have : p * (a - b) ≤ p * (-1) := Int.mul_le_mul_of_nonneg_left (by omega) (by omega)
      omega
    · exact k
    · have : p * 1 ≤ p * (a - b) := Int.mul_le_mul_of_nonneg_left (by omega) (by omega)
      omega
  omega
theorem prod_b {a b : Int} {x y : Nat} (ha : a.natAbs ≤ x) (hb : b.natAbs ≤ y) : (a * b).natAbs ≤ x * y := by rw [Int.natAbs_mul]; exact Nat.mul_le_mul ha hb
end
end Go.Proofs.YtnpfochbpdfcmaaGreatDoor
