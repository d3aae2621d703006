/- Plain lemmas: numbers as lists of parts of 32 bits, the lowest first. No program in sight. -/

set_option linter.unusedVariables false
set_option linter.unusedSimpArgs false
namespace Go.Proofs.YtcdejccbamjdoaaDoor

/-- The number that parts mean. -/
def val : List Nat → Nat
  | [] => 0
  | x :: xs => x + 4294967296 * val xs
/-- Each part has 32 bits. -/
def Is32 (xs : List Nat) : Prop := ∀ x ∈ xs, x < 4294967296
/-- May they be a number? (The last one is not 0.) -/
def chk (xs : List Nat) : Bool := decide (xs.getLastD 1 ≠ 0)
/-- Without parts of 0 at the end. -/
def strip : List Nat → List Nat
  | [] => []
  | x :: xs => if strip xs = [] ∧ x = 0 then [] else x :: strip xs
/-- A number's parts. -/
def limbs (n : Nat) : List Nat := if h : n = 0 then [] else (n % 4294967296) :: limbs (n / 4294967296)
termination_by n
decreasing_by omega
/-- What a list of parts is taken for: 0, if it may not be. -/
def nv (xs : List Nat) : Nat := if chk xs then val xs else 0

theorem limbs_zero : limbs 0 = [] := by rw [limbs]; simp
theorem limbs_pos {n : Nat} (h : n ≠ 0) : limbs n = (n % 4294967296) :: limbs (n / 4294967296) := by rw [limbs]; simp [h]
theorem limbs_small {n : Nat} (h : 0 < n) (h' : n < 4294967296) : limbs n = [n] := by
  rw [limbs_pos (by omega), Nat.mod_eq_of_lt h', Nat.div_eq_of_lt h', limbs_zero]
theorem limbs_eq_nil {n : Nat} : limbs n = [] ↔ n = 0 := by
  by_cases h : n = 0
  · simp [h, limbs_zero]
  · simp [h, limbs_pos h]

theorem is32_nil : Is32 [] := by intro x hx; simp at hx
theorem is32_cons {x : Nat} {xs : List Nat} : Is32 (x :: xs) ↔ x < 4294967296 ∧ Is32 xs := by simp [Is32]
theorem is32_append {xs ys : List Nat} : Is32 (xs ++ ys) ↔ Is32 xs ∧ Is32 ys := by
  constructor
  · intro h
    exact ⟨fun x hx => h x (by simp [hx]), fun x hx => h x (by simp [hx])⟩
  · rintro ⟨h, h'⟩ x hx
    rcases List.mem_append.1 hx with hx | hx
    · exact h x hx
    · exact h' x hx
theorem is32_take {xs : List Nat} (h : Is32 xs) (n : Nat) : Is32 (xs.take n) := fun x hx => h x (List.mem_of_mem_take hx)
theorem is32_drop {xs : List Nat} (h : Is32 xs) (n : Nat) : Is32 (xs.drop n) := fun x hx => h x (List.mem_of_mem_drop hx)
theorem is32_replicate (n : Nat) : Is32 (List.replicate n 0) := by
  intro x hx
  have := (List.mem_replicate.1 hx).2
  omega
theorem is32_set {xs : List Nat} (h : Is32 xs) (i v : Nat) (hv : v < 4294967296) : Is32 (xs.set i v) := by
  intro x hx
  rcases List.mem_or_eq_of_mem_set hx with hx | hx
  · exact h x hx
  · omega
theorem is32_get {xs : List Nat} (h : Is32 xs) (i : Nat) : xs.getD i 0 < 4294967296 := by
  rw [List.getD_eq_getElem?_getD]
  by_cases hi : i < xs.length
  · rw [List.getElem?_eq_getElem hi]; exact h _ (List.getElem_mem hi)
  · rw [List.getElem?_eq_none (by omega)]; simp
theorem getD_lt {xs : List Nat} {i : Nat} (h : i < xs.length) : xs.getD i 0 = xs[i] := by
  rw [List.getD_eq_getElem?_getD, List.getElem?_eq_getElem h]; rfl
theorem getD_ge {xs : List Nat} {i : Nat} (h : xs.length ≤ i) : xs.getD i 0 = 0 := by
  rw [List.getD_eq_getElem?_getD, List.getElem?_eq_none h]; rfl

theorem val_nil : val [] = 0 := rfl
theorem val_cons (x : Nat) (xs : List Nat) : val (x :: xs) = x + 4294967296 * val xs := rfl
theorem val_append (xs ys : List Nat) : val (xs ++ ys) = val xs + 4294967296 ^ xs.length * val ys := by
  induction xs with
  | nil => simp [val]
  | cons x xs ih =>
    simp only [List.cons_append, val, ih, List.length_cons, Nat.pow_succ]
    rw [Nat.mul_add, ← Nat.mul_assoc, Nat.mul_comm 4294967296 (4294967296 ^ xs.length)]
    omega
theorem val_replicate (n : Nat) : val (List.replicate n 0) = 0 := by
  induction n with
  | zero => rfl
  | succ n ih => simp [List.replicate_succ, val, ih]
theorem val_lt {xs : List Nat} (h : Is32 xs) : val xs < 4294967296 ^ xs.length := by
  induction xs with
  | nil => simp [val]
  | cons x xs ih =>
    obtain ⟨h1, h2⟩ := is32_cons.1 h
    have := ih h2
    simp only [val, List.length_cons, Nat.pow_succ]
    omega
theorem val_take_succ (xs : List Nat) (k : Nat) : val (xs.take (k + 1)) = val (xs.take k) + 4294967296 ^ k * xs.getD k 0 := by
  by_cases h : k < xs.length
  · rw [List.take_succ_eq_append_getElem h, val_append, List.length_take, Nat.min_eq_left (by omega), getD_lt h]
    simp [val]
  · rw [List.take_of_length_le (by omega), List.take_of_length_le (by omega), getD_ge (by omega)]; simp
theorem val_take_drop (xs : List Nat) (k : Nat) (h : k ≤ xs.length) : val xs = val (xs.take k) + 4294967296 ^ k * val (xs.drop k) := by
  have := val_append (xs.take k) (xs.drop k)
  rw [List.take_append_drop, List.length_take, Nat.min_eq_left h] at this
  exact this
theorem drop_getD (xs : List Nat) (k : Nat) (h : k < xs.length) : xs.drop k = xs.getD k 0 :: xs.drop (k + 1) := by
  rw [getD_lt h]; exact List.drop_eq_getElem_cons h
theorem val_set (xs : List Nat) (k v : Nat) (h : k < xs.length) : val (xs.set k v) + 4294967296 ^ k * xs.getD k 0 = val xs + 4294967296 ^ k * v := by
  have h1 := val_take_drop xs k (by omega)
  have h2 := val_take_drop (xs.set k v) k (by simp; omega)
  rw [drop_getD xs k h, val_cons] at h1
  rw [drop_getD _ k (by simpa using h), val_cons] at h2
  have e1 : (xs.set k v).take k = xs.take k := by
    rw [List.take_set_of_le (Nat.le_refl _)]
  have e2 : (xs.set k v).drop (k + 1) = xs.drop (k + 1) := by
    rw [List.drop_set_of_lt (by omega)]
  have e3 : (xs.set k v).getD k 0 = v := by
    rw [getD_lt (by simpa using h)]; simp
  rw [e1, e2, e3] at h2
  rw [h1, h2, Nat.mul_add, Nat.mul_add]
  omega

theorem strip_nil : strip [] = [] := rfl
theorem strip_cons (x : Nat) (xs : List Nat) : strip (x :: xs) = if strip xs = [] ∧ x = 0 then [] else x :: strip xs := rfl
theorem val_strip (xs : List Nat) : val (strip xs) = val xs := by
  induction xs with
  | nil => rfl
  | cons x xs ih =>
    rw [strip_cons]
    split
    · rename_i h
      rw [h.1] at ih
      simp only [val] at *
      omega
    · simp only [val, ih]
theorem strip_length_le (xs : List Nat) : (strip xs).length ≤ xs.length := by
  induction xs with
  | nil => simp [strip]
  | cons x xs ih => rw [strip_cons]; split <;> simp <;> omega
theorem strip_eq_take (xs : List Nat) : strip xs = xs.take (strip xs).length := by
  induction xs with
  | nil => simp [strip]
  | cons x xs ih =>
    rw [strip_cons]
    split
    · simp
    · simp only [List.length_cons, List.take_succ_cons]; rw [← ih]
theorem strip_zero (xs : List Nat) : strip (xs ++ [0]) = strip xs := by
  induction xs with
  | nil => simp [strip]
  | cons x xs ih => simp only [List.cons_append, strip, ih]
theorem strip_nz (xs : List Nat) {x : Nat} (h : x ≠ 0) : strip (xs ++ [x]) = xs ++ [x] := by
  induction xs with
  | nil => simp [strip, h]
  | cons y xs ih => simp only [List.cons_append, strip, ih]; rw [if_neg]; simp
theorem strip_replicate (n : Nat) : strip (List.replicate n 0) = [] := by
  induction n with
  | zero => rfl
  | succ n ih => simp [List.replicate_succ, strip, ih]
theorem strip_append_zeros (xs : List Nat) (n : Nat) : strip (xs ++ List.replicate n 0) = strip xs := by
  induction n with
  | zero => simp
  | succ n ih => rw [List.replicate_succ', ← List.append_assoc, strip_zero, ih]
theorem chk_nil : chk [] = true := by simp [chk]
theorem chk_snoc (xs : List Nat) (x : Nat) : chk (xs ++ [x]) = decide (x ≠ 0) := by simp [chk, List.getLastD_eq_getLast?]
theorem snoc_cases (xs : List Nat) : xs = [] ∨ ∃ ys y, xs = ys ++ [y] := by
  rcases List.eq_nil_or_concat xs with h | ⟨a, b, h⟩
  · exact .inl h
  · exact .inr ⟨a, b, by simpa using h⟩
theorem strip_of_chk {xs : List Nat} (h : chk xs = true) : strip xs = xs := by
  rcases snoc_cases xs with rfl | ⟨ys, y, rfl⟩
  · rfl
  · rw [chk_snoc] at h; exact strip_nz _ (by simpa using h)
theorem chk_strip (xs : List Nat) : chk (strip xs) = true := by
  suffices h : ∀ n (xs : List Nat), xs.length = n → chk (strip xs) = true from h _ xs rfl
  intro n
  induction n with
  | zero => intro xs h; rw [List.eq_nil_of_length_eq_zero h]; rfl
  | succ n ih =>
    intro xs h
    rcases snoc_cases xs with rfl | ⟨ys, y, rfl⟩
    · rfl
    · by_cases hy : y = 0
      · subst hy; rw [strip_zero]; exact ih _ (by simpa using h)
      · rw [strip_nz _ hy, chk_snoc]; simpa using hy
theorem strip_nil_iff (xs : List Nat) : strip xs = [] ↔ val xs = 0 := by
  induction xs with
  | nil => simp [strip, val]
  | cons x xs ih =>
    rw [strip_cons]
    constructor
    · intro h
      split at h
      · rename_i h'
        have := ih.1 h'.1
        simp [val, this, h'.2]
      · simp at h
    · intro h
      simp only [val] at h
      rw [if_pos ⟨ih.2 (by omega), by omega⟩]
theorem limbs_val {xs : List Nat} (h : Is32 xs) : limbs (val xs) = strip xs := by
  induction xs with
  | nil => simp [val, strip, limbs_zero]
  | cons x xs ih =>
    obtain ⟨h1, h2⟩ := is32_cons.1 h
    rw [strip_cons]
    split
    · rename_i h'
      have := (strip_nil_iff xs).1 h'.1
      simp [val, this, h'.2, limbs_zero]
    · rename_i h'
      have hne : val (x :: xs) ≠ 0 := by
        simp only [val]
        intro e
        exact h' ⟨(strip_nil_iff xs).2 (by omega), by omega⟩
      rw [limbs_pos hne]
      simp only [val]
      rw [show (x + 4294967296 * val xs) % 4294967296 = x from by omega, show (x + 4294967296 * val xs) / 4294967296 = val xs from by omega, ih h2]
theorem val_limbs (n : Nat) : val (limbs n) = n := by
  induction n using Nat.strongRecOn with
  | _ n ih =>
    by_cases h : n = 0
    · subst h; rw [limbs_zero]; rfl
    · rw [limbs_pos h, val_cons, ih _ (by omega)]; omega
theorem is32_limbs (n : Nat) : Is32 (limbs n) := by
  induction n using Nat.strongRecOn with
  | _ n ih =>
    by_cases h : n = 0
    · subst h; rw [limbs_zero]; exact is32_nil
    · rw [limbs_pos h]; exact is32_cons.2 ⟨by omega, ih _ (by omega)⟩
theorem chk_limbs (n : Nat) : chk (limbs n) = true := by
  have h := limbs_val (is32_limbs n)
  rw [val_limbs] at h
  rw [h]; exact chk_strip _
theorem nv_limbs (n : Nat) : nv (limbs n) = n := by simp [nv, chk_limbs, val_limbs]
theorem limbs_val_chk {xs : List Nat} (h : Is32 xs) (hc : chk xs = true) : limbs (val xs) = xs := by rw [limbs_val h, strip_of_chk hc]
theorem limbs_nv_chk {xs : List Nat} (h : Is32 xs) (hc : chk xs = true) : limbs (nv xs) = xs := by rw [nv, if_pos hc, limbs_val_chk h hc]
theorem nv_nil : nv [] = 0 := rfl
theorem limbs_length_le {n k : Nat} : (limbs n).length ≤ k ↔ n < 4294967296 ^ k := by
  induction k generalizing n with
  | zero =>
    constructor
    · intro h
      have h0 : limbs n = [] := List.eq_nil_of_length_eq_zero (by omega)
      have := limbs_eq_nil.1 h0
      simp [this]
    · intro h
      simp only [Nat.pow_zero] at h
      have : n = 0 := by omega
      subst this; rw [limbs_zero]; simp
  | succ k ih =>
    by_cases h : n = 0
    · subst h; rw [limbs_zero]; simp only [List.length_nil, Nat.zero_le, true_iff]; exact Nat.pow_pos (by omega)
    · rw [limbs_pos h]
      simp only [List.length_cons, Nat.add_le_add_iff_right]
      rw [ih, Nat.pow_succ]
      exact Nat.div_lt_iff_lt_mul (by omega)
theorem limbs_inj {m n : Nat} (h : limbs m = limbs n) : m = n := by rw [← val_limbs m, h, val_limbs]
theorem strip_eq_of_val {xs ys : List Nat} (hx : Is32 xs) (hy : Is32 ys) (h : val xs = val ys) : strip xs = strip ys := by rw [← limbs_val hx, ← limbs_val hy, h]
theorem nv_lt {xs : List Nat} (h : Is32 xs) : nv xs < 4294967296 ^ xs.length := by
  unfold nv
  split
  · exact val_lt h
  · exact Nat.pow_pos (by omega)
end Go.Proofs.YtcdejccbamjdoaaDoor
