/- Plain lemmas: decimal digits. No program in sight. -/
set_option linter.unusedVariables false
set_option linter.unusedSimpArgs false
namespace Go.Proofs.YtcdejccbamjdoaaDoor

/-- So many digits of a number, the lowest ones, as bytes, the highest first. -/
def dig : Nat → Nat → List Nat
  | 0, _ => []
  | k + 1, n => (48 + n / 10 ^ k % 10) :: dig k n
theorem dig_length (k n : Nat) : (dig k n).length = k := by
  induction k with
  | zero => rfl
  | succ k ih => simp [dig, ih]
theorem dig_lt {k n : Nat} : ∀ x ∈ dig k n, 48 ≤ x ∧ x < 58 := by
  induction k with
  | zero => intro x hx; cases hx
  | succ k ih =>
    intro x hx
    rcases List.mem_cons.1 hx with rfl | h
    · omega
    · exact ih x h
theorem dig_snoc (k n : Nat) : dig (k + 1) n = dig k (n / 10) ++ [48 + n % 10] := by
  induction k with
  | zero => simp [dig]
  | succ k ih =>
    rw [dig, ih, dig, Nat.div_div_eq_div_mul, Nat.pow_succ, Nat.mul_comm 10]
    rfl
theorem dig_append (a b n : Nat) : dig (a + b) n = dig a (n / 10 ^ b) ++ dig b n := by
  induction b generalizing n with
  | zero => simp [dig]
  | succ b ih =>
    rw [← Nat.add_assoc, dig_snoc, ih, dig_snoc b n, List.append_assoc, Nat.div_div_eq_div_mul, Nat.pow_succ, Nat.mul_comm 10]
theorem dig_mod (k n m : Nat) (h : k ≤ m) : dig k (n % 10 ^ m) = dig k n := by
  induction k with
  | zero => rfl
  | succ k ih =>
    rw [dig, dig, ih (by omega)]
    congr 2
    obtain ⟨d, rfl⟩ : ∃ d, m = k + 1 + d := ⟨m - (k + 1), by omega⟩
    rw [show k + 1 + d = k + (1 + d) from by omega, Nat.pow_add, Nat.mod_mul_right_div_self, Nat.pow_add, Nat.pow_one, Nat.mod_mul_right_mod]
/-- The digits, none of them needless; none of 0. -/
def decs (n : Nat) : List Nat := if h : n = 0 then [] else decs (n / 10) ++ [48 + n % 10]
decreasing_by omega
theorem decs_zero : decs 0 = [] := by rw [decs]; simp
theorem decs_pos {n : Nat} (h : n ≠ 0) : decs n = decs (n / 10) ++ [48 + n % 10] := by rw [decs, dif_neg h]
theorem dig_zero (k : Nat) : dig k 0 = List.replicate k 48 := by
  induction k with
  | zero => rfl
  | succ k ih => rw [dig, ih]; simp [List.replicate_succ]
theorem dropWhile_all {p : Nat → Bool} {l : List Nat} (h : ∀ x ∈ l, p x = true) : l.dropWhile p = [] := by
  induction l with
  | nil => rfl
  | cons x l ih => rw [List.dropWhile_cons, if_pos (h x (List.mem_cons_self ..)), ih fun y hy => h y (List.mem_cons_of_mem _ hy)]
theorem dropWhile_snoc {p : Nat → Bool} (l : List Nat) (x : Nat) : (l ++ [x]).dropWhile p = if l.dropWhile p = [] then (if p x then [] else [x]) else l.dropWhile p ++ [x] := by
  induction l with
  | nil => by_cases h : p x <;> simp [List.dropWhile_cons, h]
  | cons y l ih =>
    rw [List.cons_append, List.dropWhile_cons, List.dropWhile_cons]
    by_cases h : p y
    · rw [if_pos h, if_pos h, ih]
    · rw [if_neg h, if_neg h]; simp
theorem decs_eq_nil {n : Nat} : decs n = [] ↔ n = 0 := by
  constructor
  · intro h
    by_cases h0 : n = 0
    · exact h0
    · rw [decs_pos h0] at h; simp at h
  · rintro rfl; exact decs_zero
theorem trim_dig (k : Nat) : ∀ n, (dig k n).dropWhile (· == 48) = decs (n % 10 ^ k) := by
  induction k with
  | zero => intro n; rw [Nat.pow_zero, Nat.mod_one, decs_zero]; rfl
  | succ k ih =>
    intro n
    rw [dig_snoc, dropWhile_snoc, ih]
    have e : n % 10 ^ (k + 1) = n / 10 % 10 ^ k * 10 + n % 10 := by
      rw [Nat.pow_succ, Nat.mul_comm, Nat.mod_mul]; omega
    by_cases h0 : n / 10 % 10 ^ k = 0
    · rw [if_pos (decs_eq_nil.2 h0), e, h0]
      by_cases h1 : n % 10 = 0
      · rw [h1, decs_zero]; rfl
      · rw [if_neg (by simp; omega), decs_pos (by omega), show (0 * 10 + n % 10) / 10 = 0 from by omega, decs_zero]
        congr 2
        omega
    · rw [if_neg (fun q => h0 (decs_eq_nil.1 q)), e]
      generalize n / 10 % 10 ^ k = x at *
      rw [decs_pos (n := x * 10 + n % 10) (by omega), show (x * 10 + n % 10) / 10 = x from by omega, show (x * 10 + n % 10) % 10 = n % 10 from by omega]
theorem dig_put {i n : Nat} (hi : i < 9) (m : Nat) (hm : m = n / 10 ^ i) : (List.replicate (9 - i) 0 ++ dig i n).set (8 - i) (48 + m % 10) = List.replicate (9 - (i + 1)) 0 ++ dig (i + 1) n := by
  subst hm
  obtain ⟨k, hk⟩ : ∃ k, 9 - i = k + 1 := ⟨8 - i, by omega⟩
  rw [hk, show 8 - i = k from by omega, show 9 - (i + 1) = k from by omega, List.replicate_succ', List.append_assoc, List.set_append_right _ _ (by simp)]
  simp [dig]
/-- The text of a number. -/
def txt (n : Nat) : List Nat := if n = 0 then [48] else decs n
end Go.Proofs.YtcdejccbamjdoaaDoor
