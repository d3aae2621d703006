/- Plain lemmas: texts of numbers. No program in sight. -/
import Derived.Test.YtcdejccbamjdoaaDoorLd
set_option linter.unusedVariables false
set_option linter.unusedSimpArgs false
namespace Go.Proofs.YtcdejccbamjdoaaDoor

def bts (l : List Nat) : List UInt8 := l.map UInt8.ofNat
theorem bts_append (a b : List Nat) : bts (a ++ b) = bts a ++ bts b := List.map_append
theorem bts_drop {l : List Nat} (h : ∀ x ∈ l, x < 256) : (bts l).dropWhile (· == 48) = bts (l.dropWhile (· == 48)) := by
  induction l with
  | nil => rfl
  | cons x l ih =>
    have hx := h x (List.mem_cons_self ..)
    have e : (UInt8.ofNat x == 48) = (x == 48) := by
      rw [Bool.eq_iff_iff]
      simp only [beq_iff_eq]
      constructor
      · intro h1
        have : (UInt8.ofNat x).toNat = (48 : UInt8).toNat := by rw [h1]
        rw [UInt8.toNat_ofNat'] at this
        have h2 : (48 : UInt8).toNat = 48 := rfl
        omega
      · rintro rfl; rfl
    have ih := ih fun y hy => h y (List.mem_cons_of_mem _ hy)
    unfold bts at *
    rw [List.map_cons, List.dropWhile_cons, List.dropWhile_cons, e, ih]
    split <;> simp
/-- The pieces of nine digits, the lowest one first. -/
def pcs (j N : Nat) : List (List UInt8) := (List.range j).map fun i => bts (dig 9 (N / 10 ^ (9 * i)))
theorem pcs_succ (j N : Nat) : pcs (j + 1) N = pcs j N ++ [bts (dig 9 (N / 10 ^ (9 * j)))] := by
  unfold pcs; rw [List.range_succ, List.map_append]; rfl
theorem pcs_length (j N : Nat) : (pcs j N).length = j := by simp [pcs]
theorem pcs_flat (j N : Nat) : (pcs j N).reverse.flatten = bts (dig (9 * j) N) := by
  induction j with
  | zero => rfl
  | succ j ih =>
    rw [pcs_succ, List.reverse_append, List.flatten_append, ih, Nat.mul_succ, Nat.add_comm (9 * j) 9, dig_append, bts_append]
    simp
theorem pcs_end {j N n : Nat} (hN : N < 4294967296 ^ n) (hj : 2 * n ≤ j) : N / 10 ^ (9 * j) = 0 := by
  apply Nat.div_eq_of_lt
  refine Nat.lt_of_lt_of_le hN ?_
  rw [Nat.pow_mul]
  have a : (65536 : Nat) ^ j ≤ (10 ^ 9) ^ j := Nat.pow_le_pow_left (by omega) j
  refine Nat.le_trans ?_ a
  have b : (4294967296 : Nat) ^ n = 65536 ^ (2 * n) := by rw [Nat.pow_mul]
  rw [b]
  exact Nat.pow_le_pow_right (by omega) hj
theorem decs_lt {n : Nat} : ∀ x ∈ decs n, 48 ≤ x ∧ x < 58 := by
  induction n using Nat.strongRecOn with
  | ind n ih =>
    intro x hx
    by_cases h0 : n = 0
    · subst h0; rw [decs_zero] at hx; cases hx
    · rw [decs_pos h0] at hx
      rcases List.mem_append.1 hx with h | h
      · exact ih (n / 10) (by omega) x h
      · simp at h; omega
theorem pcs_trim {j N : Nat} (h : N / 10 ^ (9 * j) = 0) : ((pcs j N).reverse.flatten).dropWhile (· == 48) = bts (decs N) := by
  rw [pcs_flat, bts_drop (fun x hx => by have := dig_lt x hx; omega), trim_dig, Nat.mod_eq_of_lt]
  have := Nat.div_add_mod N (10 ^ (9 * j))
  have hp : 0 < 10 ^ (9 * j) := Nat.pow_pos (by omega)
  have := Nat.mod_lt N hp
  rw [h, Nat.mul_zero] at *
  omega
theorem div_nine (N j : Nat) : N / 10 ^ (9 * j) / 1000000000 = N / 10 ^ (9 * (j + 1)) := by
  rw [Nat.div_div_eq_div_mul, show (1000000000 : Nat) = 10 ^ 9 from rfl, ← Nat.pow_add, show 9 * j + 9 = 9 * (j + 1) from by omega]
theorem piece_mod (N j : Nat) : bts (dig 9 (N / 10 ^ (9 * j) % 1000000000)) = bts (dig 9 (N / 10 ^ (9 * j))) := by
  rw [show (1000000000 : Nat) = 10 ^ 9 from rfl, dig_mod 9 _ 9 (Nat.le_refl _)]
theorem pcs_flat_len (j N : Nat) : ((pcs j N).reverse.flatten).length = 9 * j := by rw [pcs_flat, bts, List.length_map, dig_length]
end Go.Proofs.YtcdejccbamjdoaaDoor
