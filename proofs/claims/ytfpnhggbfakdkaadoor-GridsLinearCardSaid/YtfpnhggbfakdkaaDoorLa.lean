/- Plain lemmas: numbers by parts, their digits, their sizes. No program in sight. -/

/- Plain lemmas: numbers as lists of parts of 32 bits, the lowest first. No program in sight. -/

set_option linter.unusedVariables false
set_option linter.unusedSimpArgs false
namespace Go.Proofs.YtfpnhggbfakdkaaDoor

/-- The number that parts mean. -/
def val : List Nat → Nat
  | [] => 0
  | x :: xs => x + 4294967296 * val xs
/-- Each part has 32 bits. -/
def Is32 (xs : List Nat) : Prop := ∀ x ∈ xs, x < 4294967296
/-- May they be a number? (The last one is not 0.) -/
def chk (xs : List Nat) : Bool := decide (xs.getLastD 1 ≠ 0)
/-- Without parts of 0 at the end. -/
def strip : List Nat → List Nat
  | [] => []
  | x :: xs => if strip xs = [] ∧ x = 0 then [] else x :: strip xs
/-- A number's parts. -/
def limbs (n : Nat) : List Nat := if h : n = 0 then [] else (n % 4294967296) :: limbs (n / 4294967296)
termination_by n
decreasing_by omega
/-- What a list of parts is taken for: 0, if it may not be. -/
def nv (xs : List Nat) : Nat := if chk xs then val xs else 0

theorem limbs_zero : limbs 0 = [] := by rw [limbs]; simp
theorem limbs_pos {n : Nat} (h : n ≠ 0) : limbs n = (n % 4294967296) :: limbs (n / 4294967296) := by rw [limbs]; simp [h]
theorem limbs_small {n : Nat} (h : 0 < n) (h' : n < 4294967296) : limbs n = [n] := by
  rw [limbs_pos (by omega), Nat.mod_eq_of_lt h', Nat.div_eq_of_lt h', limbs_zero]
theorem limbs_eq_nil {n : Nat} : limbs n = [] ↔ n = 0 := by
  by_cases h : n = 0
  · simp [h, limbs_zero]
  · simp [h, limbs_pos h]

theorem is32_nil : Is32 [] := by intro x hx; simp at hx
theorem is32_cons {x : Nat} {xs : List Nat} : Is32 (x :: xs) ↔ x < 4294967296 ∧ Is32 xs := by simp [Is32]
theorem is32_append {xs ys : List Nat} : Is32 (xs ++ ys) ↔ Is32 xs ∧ Is32 ys := by
  constructor
  · intro h
    exact ⟨fun x hx => h x (by simp [hx]), fun x hx => h x (by simp [hx])⟩
  · rintro ⟨h, h'⟩ x hx
    rcases List.mem_append.1 hx with hx | hx
    · exact h x hx
    · exact h' x hx
theorem is32_take {xs : List Nat} (h : Is32 xs) (n : Nat) : Is32 (xs.take n) := fun x hx => h x (List.mem_of_mem_take hx)
theorem is32_drop {xs : List Nat} (h : Is32 xs) (n : Nat) : Is32 (xs.drop n) := fun x hx => h x (List.mem_of_mem_drop hx)
theorem is32_replicate (n : Nat) : Is32 (List.replicate n 0) := by
  intro x hx
  have := (List.mem_replicate.1 hx).2
  omega
theorem is32_set {xs : List Nat} (h : Is32 xs) (i v : Nat) (hv : v < 4294967296) : Is32 (xs.set i v) := by
  intro x hx
  rcases List.mem_or_eq_of_mem_set hx with hx | hx
  · exact h x hx
  · omega
theorem is32_get {xs : List Nat} (h : Is32 xs) (i : Nat) : xs.getD i 0 < 4294967296 := by
  rw [List.getD_eq_getElem?_getD]
  by_cases hi : i < xs.length
  · rw [List.getElem?_eq_getElem hi]; exact h _ (List.getElem_mem hi)
  · rw [List.getElem?_eq_none (by omega)]; simp
theorem getD_lt {xs : List Nat} {i : Nat} (h : i < xs.length) : xs.getD i 0 = xs[i] := by
  rw [List.getD_eq_getElem?_getD, List.getElem?_eq_getElem h]; rfl
theorem getD_ge {xs : List Nat} {i : Nat} (h : xs.length ≤ i) : xs.getD i 0 = 0 := by
  rw [List.getD_eq_getElem?_getD, List.getElem?_eq_none h]; rfl

theorem val_nil : val [] = 0 := rfl
theorem val_cons (x : Nat) (xs : List Nat) : val (x :: xs) = x + 4294967296 * val xs := rfl
theorem val_append (xs ys : List Nat) : val (xs ++ ys) = val xs + 4294967296 ^ xs.length * val ys := by
  induction xs with
  | nil => simp [val]
  | cons x xs ih =>
    simp only [List.cons_append, val, ih, List.length_cons, Nat.pow_succ]
    rw [Nat.mul_add, ← Nat.mul_assoc, Nat.mul_comm 4294967296 (4294967296 ^ xs.length)]
    omega
theorem val_replicate (n : Nat) : val (List.replicate n 0) = 0 := by
  induction n with
  | zero => rfl
  | succ n ih => simp [List.replicate_succ, val, ih]
theorem val_lt {xs : List Nat} (h : Is32 xs) : val xs < 4294967296 ^ xs.length := by
  induction xs with
  | nil => simp [val]
  | cons x xs ih =>
    obtain ⟨h1, h2⟩ := is32_cons.1 h
    have := ih h2
    simp only [val, List.length_cons, Nat.pow_succ]
    omega
theorem val_take_succ (xs : List Nat) (k : Nat) : val (xs.take (k + 1)) = val (xs.take k) + 4294967296 ^ k * xs.getD k 0 := by
  by_cases h : k < xs.length
  · rw [List.take_succ_eq_append_getElem h, val_append, List.length_take, Nat.min_eq_left (by omega), getD_lt h]
    simp [val]
  · rw [List.take_of_length_le (by omega), List.take_of_length_le (by omega), getD_ge (by omega)]; simp
theorem val_take_drop (xs : List Nat) (k : Nat) (h : k ≤ xs.length) : val xs = val (xs.take k) + 4294967296 ^ k * val (xs.drop k) := by
  have := val_append (xs.take k) (xs.drop k)
  rw [List.take_append_drop, List.length_take, Nat.min_eq_left h] at this
  exact this
theorem drop_getD (xs : List Nat) (k : Nat) (h : k < xs.length) : xs.drop k = xs.getD k 0 :: xs.drop (k + 1) := by
  rw [getD_lt h]; exact List.drop_eq_getElem_cons h
theorem val_set (xs : List Nat) (k v : Nat) (h : k < xs.length) : val (xs.set k v) + 4294967296 ^ k * xs.getD k 0 = val xs + 4294967296 ^ k * v := by
  have h1 := val_take_drop xs k (by omega)
  have h2 := val_take_drop (xs.set k v) k (by simp; omega)
  rw [drop_getD xs k h, val_cons] at h1
  rw [drop_getD _ k (by simpa using h), val_cons] at h2
  have e1 : (xs.set k v).take k = xs.take k := by
    rw [List.take_set_of_le (Nat.le_refl _)]
  have e2 : (xs.set k v).drop (k + 1) = xs.drop (k + 1) := by
    rw [List.drop_set_of_lt (by omega)]
  have e3 : (xs.set k v).getD k 0 = v := by
    rw [getD_lt (by simpa using h)]; simp
  rw [e1, e2, e3] at h2
  rw [h1, h2, Nat.mul_add, Nat.mul_add]
  omega

theorem strip_cons (x : Nat) (xs : List Nat) : strip (x :: xs) = if strip xs = [] ∧ x = 0 then [] else x :: strip xs := rfl
theorem strip_length_le (xs : List Nat) : (strip xs).length ≤ xs.length := by
  induction xs with
  | nil => simp [strip]
  | cons x xs ih => rw [strip_cons]; split <;> simp <;> omega
theorem strip_eq_take (xs : List Nat) : strip xs = xs.take (strip xs).length := by
  induction xs with
  | nil => simp [strip]
  | cons x xs ih =>
    rw [strip_cons]
    split
    · simp
    · simp only [List.length_cons, List.take_succ_cons]; rw [← ih]
theorem strip_zero (xs : List Nat) : strip (xs ++ [0]) = strip xs := by
  induction xs with
  | nil => simp [strip]
  | cons x xs ih => simp only [List.cons_append, strip, ih]
theorem strip_nz (xs : List Nat) {x : Nat} (h : x ≠ 0) : strip (xs ++ [x]) = xs ++ [x] := by
  induction xs with
  | nil => simp [strip, h]
  | cons y xs ih => simp only [List.cons_append, strip, ih]; rw [if_neg]; simp
theorem chk_snoc (xs : List Nat) (x : Nat) : chk (xs ++ [x]) = decide (x ≠ 0) := by simp [chk, List.getLastD_eq_getLast?]
theorem snoc_cases (xs : List Nat) : xs = [] ∨ ∃ ys y, xs = ys ++ [y] := by
  rcases List.eq_nil_or_concat xs with h | ⟨a, b, h⟩
  · exact .inl h
  · exact .inr ⟨a, b, by simpa using h⟩
theorem strip_of_chk {xs : List Nat} (h : chk xs = true) : strip xs = xs := by
  rcases snoc_cases xs with rfl | ⟨ys, y, rfl⟩
  · rfl
  · rw [chk_snoc] at h; exact strip_nz _ (by simpa using h)
theorem chk_strip (xs : List Nat) : chk (strip xs) = true := by
  suffices h : ∀ n (xs : List Nat), xs.length = n → chk (strip xs) = true from h _ xs rfl
  intro n
  induction n with
  | zero => intro xs h; rw [List.eq_nil_of_length_eq_zero h]; rfl
  | succ n ih =>
    intro xs h
    rcases snoc_cases xs with rfl | ⟨ys, y, rfl⟩
    · rfl
    · by_cases hy : y = 0
      · subst hy; rw [strip_zero]; exact ih _ (by simpa using h)
      · rw [strip_nz _ hy, chk_snoc]; simpa using hy
theorem strip_nil_iff (xs : List Nat) : strip xs = [] ↔ val xs = 0 := by
  induction xs with
  | nil => simp [strip, val]
  | cons x xs ih =>
    rw [strip_cons]
    constructor
    · intro h
      split at h
      · rename_i h'
        have := ih.1 h'.1
        simp [val, this, h'.2]
      · simp at h
    · intro h
      simp only [val] at h
      rw [if_pos ⟨ih.2 (by omega), by omega⟩]
theorem limbs_val {xs : List Nat} (h : Is32 xs) : limbs (val xs) = strip xs := by
  induction xs with
  | nil => simp [val, strip, limbs_zero]
  | cons x xs ih =>
    obtain ⟨h1, h2⟩ := is32_cons.1 h
    rw [strip_cons]
    split
    · rename_i h'
      have := (strip_nil_iff xs).1 h'.1
      simp [val, this, h'.2, limbs_zero]
    · rename_i h'
      have hne : val (x :: xs) ≠ 0 := by
        simp only [val]
        intro e
        exact h' ⟨(strip_nil_iff xs).2 (by omega), by omega⟩
      rw [limbs_pos hne]
      simp only [val]
      rw [show (x + 4294967296 * val xs) % 4294967296 = x from by omega, show (x + 4294967296 * val xs) / 4294967296 = val xs from by omega, ih h2]
theorem val_limbs (n : Nat) : val (limbs n) = n := by
  induction n using Nat.strongRecOn with
  | _ n ih =>
    by_cases h : n = 0
    · subst h; rw [limbs_zero]; rfl
    · rw [limbs_pos h, val_cons, ih _ (by omega)]; omega
theorem is32_limbs (n : Nat) : Is32 (limbs n) := by
  induction n using Nat.strongRecOn with
  | _ n ih =>
    by_cases h : n = 0
    · subst h; rw [limbs_zero]; exact is32_nil
    · rw [limbs_pos h]; exact is32_cons.2 ⟨by omega, ih _ (by omega)⟩
theorem chk_limbs (n : Nat) : chk (limbs n) = true := by
  have h := limbs_val (is32_limbs n)
  rw [val_limbs] at h
  rw [h]; exact chk_strip _
theorem nv_limbs (n : Nat) : nv (limbs n) = n := by simp [nv, chk_limbs, val_limbs]
theorem limbs_val_chk {xs : List Nat} (h : Is32 xs) (hc : chk xs = true) : limbs (val xs) = xs := by rw [limbs_val h, strip_of_chk hc]
theorem limbs_length_le {n k : Nat} : (limbs n).length ≤ k ↔ n < 4294967296 ^ k := by
  induction k generalizing n with
  | zero =>
    constructor
    · intro h
      have h0 : limbs n = [] := List.eq_nil_of_length_eq_zero (by omega)
      have := limbs_eq_nil.1 h0
      simp [this]
    · intro h
      simp only [Nat.pow_zero] at h
      have : n = 0 := by omega
      subst this; rw [limbs_zero]; simp
  | succ k ih =>
    by_cases h : n = 0
    · subst h; rw [limbs_zero]; simp only [List.length_nil, Nat.zero_le, true_iff]; exact Nat.pow_pos (by omega)
    · rw [limbs_pos h]
      simp only [List.length_cons, Nat.add_le_add_iff_right]
      rw [ih, Nat.pow_succ]
      exact Nat.div_lt_iff_lt_mul (by omega)
end Go.Proofs.YtfpnhggbfakdkaaDoor

/- Plain lemmas: what the loops over parts keep. No program in sight. -/
set_option linter.unusedVariables false
set_option linter.unusedSimpArgs false
namespace Go.Proofs.YtfpnhggbfakdkaaDoor

theorem set_at (outs : List Nat) (d v k : Nat) (hk : outs.length = k) : (outs ++ List.replicate (d + 1) 0).set k v = (outs ++ [v]) ++ List.replicate d 0 := by
  subst hk
  rw [List.set_append_right _ _ (Nat.le_refl _)]
  simp [List.replicate_succ]

/-- Behind k rounds of a sum. -/
def AddInv (m k cy : Nat) (xs ys zs : List Nat) : Prop :=
  ∃ outs, zs = outs ++ List.replicate (m - k) 0 ∧ outs.length = k ∧ Is32 outs ∧ cy < 2 ∧ val outs + 4294967296 ^ k * cy = val (xs.take k) + val (ys.take k)
theorem AddInv.start (m : Nat) (xs ys : List Nat) : AddInv m 0 0 xs ys (List.replicate m 0) := ⟨[], by simp, rfl, is32_nil, by omega, by simp [val]⟩
theorem AddInv.len {m k cy : Nat} {xs ys zs : List Nat} (h : AddInv m k cy xs ys zs) (hk : k ≤ m) : zs.length = m := by
  obtain ⟨outs, rfl, h1, _⟩ := h
  simp; omega
theorem AddInv.cy {m k cy : Nat} {xs ys zs : List Nat} (h : AddInv m k cy xs ys zs) : cy < 2 := h.choose_spec.2.2.2.1
theorem AddInv.step {m k cy : Nat} {xs ys zs : List Nat} (h : AddInv m k cy xs ys zs) (hk : k < m) (hx : Is32 xs) (hy : Is32 ys) :
    AddInv m (k + 1) ((xs.getD k 0 + ys.getD k 0 + cy) / 4294967296) xs ys (zs.set k ((xs.getD k 0 + ys.getD k 0 + cy) % 4294967296)) := by
  obtain ⟨outs, rfl, h1, h2, h3, h4⟩ := h
  have a := is32_get hx k
  have b := is32_get hy k
  refine ⟨outs ++ [(xs.getD k 0 + ys.getD k 0 + cy) % 4294967296], ?_, by simp [h1], is32_append.2 ⟨h2, is32_cons.2 ⟨by omega, is32_nil⟩⟩, by omega, ?_⟩
  · rw [show m - k = m - (k + 1) + 1 from by omega]
    exact set_at _ _ _ _ h1
  · rw [val_append, h1, val_take_succ, val_take_succ, Nat.pow_succ]
    simp only [val]
    generalize 4294967296 ^ k = p at *
    generalize xs.getD k 0 = x at *
    generalize ys.getD k 0 = y at *
    have e : (x + y + cy) % 4294967296 + 4294967296 * ((x + y + cy) / 4294967296) = x + y + cy := Nat.mod_add_div _ _
    have : p * ((x + y + cy) % 4294967296) + p * 4294967296 * ((x + y + cy) / 4294967296) = p * x + p * y + p * cy := by
      rw [Nat.mul_assoc, ← Nat.mul_add, e, Nat.mul_add, Nat.mul_add]
    simp only [Nat.mul_zero, Nat.add_zero]
    omega
theorem carry_none {p a b o cy : Nat} (ha : a < p) (hb : b < p) (h : o + p * 4294967296 * cy = a + b) : cy = 0 := by
  rcases Nat.eq_zero_or_pos cy with h0 | h0
  · exact h0
  · exfalso
    have h1 : p * 4294967296 * 1 ≤ p * 4294967296 * cy := Nat.mul_le_mul_left _ h0
    omega
theorem AddInv.fin {m cy : Nat} {xs ys zs : List Nat} (h : AddInv m m cy xs ys zs) (hx : Is32 xs) (hy : Is32 ys) (h1 : xs.length < m) (h2 : ys.length < m) : Is32 zs ∧ val zs = val xs + val ys := by
  obtain ⟨outs, rfl, h3, h4, h5, h6⟩ := h
  rw [List.take_of_length_le (by omega), List.take_of_length_le (by omega)] at h6
  obtain ⟨q, rfl⟩ : ∃ q, m = q + 1 := ⟨m - 1, by omega⟩
  have a : val xs < 4294967296 ^ q := Nat.lt_of_lt_of_le (val_lt hx) (Nat.pow_le_pow_right (by omega) (by omega))
  have b : val ys < 4294967296 ^ q := Nat.lt_of_lt_of_le (val_lt hy) (Nat.pow_le_pow_right (by omega) (by omega))
  have c : cy = 0 := by
    rw [Nat.pow_succ] at h6
    exact carry_none a b h6
  subst c
  simp only [Nat.sub_self, List.replicate_zero, List.append_nil]
  rw [Nat.mul_zero, Nat.add_zero] at h6
  exact ⟨h4, h6⟩

/-- Behind k rounds of a difference. -/
def SubInv (m k cy : Nat) (xs ys zs : List Nat) : Prop :=
  ∃ outs, zs = outs ++ List.replicate (m - k) 0 ∧ outs.length = k ∧ Is32 outs ∧ cy < 2 ∧ val outs + val (ys.take k) = val (xs.take k) + 4294967296 ^ k * cy
theorem SubInv.start (m : Nat) (xs ys : List Nat) : SubInv m 0 0 xs ys (List.replicate m 0) := ⟨[], by simp, rfl, is32_nil, by omega, by simp [val]⟩
theorem SubInv.len {m k cy : Nat} {xs ys zs : List Nat} (h : SubInv m k cy xs ys zs) (hk : k ≤ m) : zs.length = m := by
  obtain ⟨outs, rfl, h1, _⟩ := h
  simp; omega
theorem SubInv.cy {m k cy : Nat} {xs ys zs : List Nat} (h : SubInv m k cy xs ys zs) : cy < 2 := h.choose_spec.2.2.2.1
/-- A digit of a difference; what is owed behind it. -/
def subd (x y z : Nat) : Nat := (x + 4294967296 + 4294967296 - y - z) % 4294967296
def subb (x y z : Nat) : Nat := if x < y + z then 1 else 0
theorem subd_lt (x y z : Nat) : subd x y z < 4294967296 := by unfold subd; omega
theorem subb_lt (x y z : Nat) : subb x y z < 2 := by unfold subb; split <;> omega
theorem sub_digit {x y z : Nat} (hx : x < 4294967296) (hy : y < 4294967296) (hz : z < 2) : subd x y z + y + z = x + 4294967296 * subb x y z := by
  unfold subd subb
  split <;> omega
theorem subd_int {x y z : Nat} (hx : x < 4294967296) (hy : y < 4294967296) (hz : z < 2) : ((x : Int) - y - z) % 4294967296 = (subd x y z : Nat) := by
  unfold subd
  omega
theorem dig_mul {p x y z d c : Nat} (e : d + y + z = x + 4294967296 * c) : p * d + p * y + p * z = p * x + p * 4294967296 * c := by
  rw [Nat.mul_assoc, ← Nat.mul_add, ← Nat.mul_add, e, Nat.mul_add]
theorem SubInv.step {m k cy : Nat} {xs ys zs : List Nat} (h : SubInv m k cy xs ys zs) (hk : k < m) (hx : Is32 xs) (hy : Is32 ys) :
    SubInv m (k + 1) (subb (xs.getD k 0) (ys.getD k 0) cy) xs ys (zs.set k (subd (xs.getD k 0) (ys.getD k 0) cy)) := by
  obtain ⟨outs, rfl, h1, h2, h3, h4⟩ := h
  have a := is32_get hx k
  have b := is32_get hy k
  refine ⟨outs ++ [subd (xs.getD k 0) (ys.getD k 0) cy], ?_, by simp [h1], is32_append.2 ⟨h2, is32_cons.2 ⟨subd_lt _ _ _, is32_nil⟩⟩, subb_lt _ _ _, ?_⟩
  · rw [show m - k = m - (k + 1) + 1 from by omega]
    exact set_at _ _ _ _ h1
  · rw [val_append, h1, val_take_succ, val_take_succ, Nat.pow_succ]
    simp only [val]
    have e := sub_digit a b h3
    generalize 4294967296 ^ k = p at *
    generalize subd (xs.getD k 0) (ys.getD k 0) cy = d at *
    generalize subb (xs.getD k 0) (ys.getD k 0) cy = c at *
    generalize xs.getD k 0 = x at *
    generalize ys.getD k 0 = y at *
    have := dig_mul (p := p) e
    rw [Nat.mul_zero, Nat.add_zero]
    omega
theorem borrow_none {p o a b cy : Nat} (ho : o < p) (hab : b ≤ a) (h : o + b = a + p * cy) : cy = 0 := by
  rcases Nat.eq_zero_or_pos cy with h0 | h0
  · exact h0
  · exfalso
    have h1 : p * 1 ≤ p * cy := Nat.mul_le_mul_left _ h0
    omega
theorem len_le_of_val {xs ys : List Nat} (hx : Is32 xs) (hy : Is32 ys) (hc : chk ys = true) (h : val ys ≤ val xs) : ys.length ≤ xs.length := by
  rw [← limbs_val_chk hy hc]
  exact limbs_length_le.2 (Nat.lt_of_le_of_lt h (val_lt hx))
theorem SubInv.fin {m cy : Nat} {xs ys zs : List Nat} (h : SubInv m m cy xs ys zs) (hm : xs.length = m) (hy : ys.length ≤ m) (hv : val ys ≤ val xs) : Is32 zs ∧ val zs = val xs - val ys := by
  obtain ⟨outs, rfl, h3, h4, h5, h6⟩ := h
  rw [List.take_of_length_le (by omega), List.take_of_length_le (by omega)] at h6
  have a : val outs < 4294967296 ^ m := by rw [← h3]; exact val_lt h4
  have c : cy = 0 := borrow_none a hv h6
  subst c
  simp only [Nat.sub_self, List.replicate_zero, List.append_nil]
  rw [Nat.mul_zero, Nat.add_zero] at h6
  exact ⟨h4, by omega⟩
/-- The uppermost bit. -/
theorem top_bit {n : Nat} (h : n < 4294967296) : n / 2147483648 = (n.testBit 31).toNat := by
  rw [Nat.testBit_eq_decide_div_mod_eq, show (2:Nat) ^ 31 = 2147483648 from rfl]
  have : n / 2147483648 = 0 ∨ n / 2147483648 = 1 := by omega
  rcases this with e | e <;> rw [e] <;> rfl
theorem bit_of {n : Nat} (h : n < 4294967296) : n.testBit 31 = decide (2147483648 ≤ n) := by
  rw [Nat.testBit_eq_decide_div_mod_eq, show (2:Nat) ^ 31 = 2147483648 from rfl, decide_eq_decide]
  omega
theorem sub_borrow {x y z d : Nat} (hx : x < 4294967296) (hy : y < 4294967296) (hz : z < 2) (hd : d = subd x y z) :
    ((4294967295 ^^^ x) &&& y ||| (4294967295 ^^^ (x ^^^ y)) &&& d) / 2147483648 = subb x y z := by
  have hd' : d < 4294967296 := by rw [hd]; exact subd_lt _ _ _
  have e := sub_digit hx hy hz
  rw [← hd] at e
  have hxy : x ^^^ y < 2 ^ 32 := Nat.xor_lt_two_pow hx hy
  have h1 : 4294967295 ^^^ x < 2 ^ 32 := Nat.xor_lt_two_pow (by decide) hx
  have h2 : 4294967295 ^^^ (x ^^^ y) < 2 ^ 32 := Nat.xor_lt_two_pow (by decide) hxy
  have h3 : ((4294967295 ^^^ x) &&& y ||| (4294967295 ^^^ (x ^^^ y)) &&& d) < 2 ^ 32 := Nat.or_lt_two_pow (Nat.and_lt_two_pow _ hy) (Nat.and_lt_two_pow _ hd')
  rw [top_bit h3]
  simp only [Nat.testBit_or, Nat.testBit_and, Nat.testBit_xor, bit_of hx, bit_of hy, bit_of hd', bit_of (show 4294967295 < 4294967296 by decide)]
  have hb := subb_lt x y z
  generalize subb x y z = c at *
  clear hd hxy h1 h2 h3
  by_cases a : 2147483648 ≤ x <;> by_cases b : 2147483648 ≤ y <;> by_cases k : 2147483648 ≤ d <;> simp [a, b, k] <;> omega

/-- The pairs of parts, the highest first: the first k of m. -/
def prs (m k : Nat) (xs ys : List Nat) : List (Nat × Nat) := (List.range k).map fun j => (xs.getD (m - 1 - j) 0, ys.getD (m - 1 - j) 0)
theorem prs_succ (m k : Nat) (xs ys : List Nat) : prs m (k + 1) xs ys = prs m k xs ys ++ [(xs.getD (m - 1 - k) 0, ys.getD (m - 1 - k) 0)] := by simp [prs, List.range_succ]
theorem prs_length (m k : Nat) (xs ys : List Nat) : (prs m k xs ys).length = k := by simp [prs]
/-- The order of two numbers. -/
def cmpN (a b : Nat) : Int := if a < b then -1 else if a = b then 0 else 1
/-- What the first pair that differs tells. -/
def cmpP (ps : List (Nat × Nat)) : Option (Nat × Nat) := ps.find? fun p => decide (p.1 ≠ p.2)
def cmpR : Option (Nat × Nat) → Int
  | none => 0
  | some p => if p.1 < p.2 then -1 else 1
theorem cmpP_hit {ps : List (Nat × Nat)} {x : Nat × Nat} (h : cmpP ps = none) (hx : x.1 ≠ x.2) : cmpP (ps ++ [x]) = some x := by
  unfold cmpP at *; rw [List.find?_append, h]; simp [hx]
theorem cmpP_miss {ps : List (Nat × Nat)} {x : Nat × Nat} (h : cmpP ps = none) (hx : x.1 = x.2) : cmpP (ps ++ [x]) = none := by
  unfold cmpP at *; rw [List.find?_append, h]; simp [hx]
theorem drop_val (xs : List Nat) (j : Nat) : val (xs.drop j) = xs.getD j 0 + 4294967296 * val (xs.drop (j + 1)) := by
  by_cases h : j < xs.length
  · rw [drop_getD xs j h, val_cons]
  · rw [List.drop_of_length_le (by omega), List.drop_of_length_le (by omega), getD_ge (by omega)]; rfl
theorem drop_lt_of {xs ys : List Nat} (hx : Is32 xs) (j : Nat) (h : val (xs.drop j) < val (ys.drop j)) : val xs < val ys := by
  induction j with
  | zero => simpa using h
  | succ j ih =>
    refine ih ?_
    rw [drop_val xs j, drop_val ys j]
    have := is32_get hx j
    omega
theorem cmpP_prs {xs ys : List Nat} (hx : Is32 xs) (hy : Is32 ys) (m k : Nat) (hk : k ≤ m) (h1 : xs.length ≤ m) (h2 : ys.length ≤ m) :
    (cmpP (prs m k xs ys) = none ∧ val (xs.drop (m - k)) = val (ys.drop (m - k))) ∨ (∃ p, cmpP (prs m k xs ys) = some p ∧ cmpR (some p) = cmpN (val xs) (val ys)) := by
  induction k with
  | zero => refine .inl ⟨rfl, ?_⟩; rw [Nat.sub_zero, List.drop_of_length_le h1, List.drop_of_length_le h2]
  | succ k ih =>
    rcases ih (by omega) with ⟨h, e⟩ | ⟨p, h, e⟩
    · rw [prs_succ]
      have ex := drop_val xs (m - (k + 1))
      have ey := drop_val ys (m - (k + 1))
      rw [show m - (k + 1) + 1 = m - k from by omega] at ex ey
      rw [show m - 1 - k = m - (k + 1) from by omega]
      by_cases hxy : xs.getD (m - (k + 1)) 0 = ys.getD (m - (k + 1)) 0
      · exact .inl ⟨cmpP_miss h hxy, by rw [ex, ey, hxy, e]⟩
      · refine .inr ⟨_, cmpP_hit h hxy, ?_⟩
        have b1 := is32_get hx (m - (k + 1))
        have b2 := is32_get hy (m - (k + 1))
        show (if (xs.getD (m - (k + 1)) 0) < (ys.getD (m - (k + 1)) 0) then (-1 : Int) else 1) = cmpN _ _
        unfold cmpN
        by_cases hlt : xs.getD (m - (k + 1)) 0 < ys.getD (m - (k + 1)) 0
        · rw [if_pos hlt, if_pos (drop_lt_of hx (m - (k + 1)) (by omega))]
        · have := drop_lt_of (xs := ys) (ys := xs) hy (m - (k + 1)) (by omega)
          rw [if_neg hlt, if_neg (by omega), if_neg (by omega)]
    · refine .inr ⟨p, ?_, e⟩
      rw [prs_succ]
      unfold cmpP at h ⊢
      rw [List.find?_append, h]; rfl
theorem cmpR_prs {xs ys : List Nat} (hx : Is32 xs) (hy : Is32 ys) (m : Nat) (h1 : xs.length ≤ m) (h2 : ys.length ≤ m) : cmpR (cmpP (prs m m xs ys)) = cmpN (val xs) (val ys) := by
  rcases cmpP_prs hx hy m m (Nat.le_refl _) h1 h2 with ⟨h, e⟩ | ⟨p, h, e⟩
  · rw [h]
    simp only [Nat.sub_self, List.drop_zero] at e
    unfold cmpN cmpR
    rw [if_neg (by omega), if_pos e]
  · rw [h]; exact e
theorem cmpP_prefix {ps qs : List (Nat × Nat)} {p : Nat × Nat} (h : cmpP ps = some p) : cmpP (ps ++ qs) = some p := by
  unfold cmpP at *
  rw [List.find?_append, h]; rfl
theorem prs_prefix (m k : Nat) (hk : k ≤ m) (xs ys : List Nat) : ∃ qs, prs m m xs ys = prs m k xs ys ++ qs := by
  obtain ⟨d, rfl⟩ : ∃ d, m = k + d := ⟨m - k, by omega⟩
  exact ⟨_, by rw [prs, List.range_add, List.map_append]; rfl⟩
end Go.Proofs.YtfpnhggbfakdkaaDoor

/- Plain lemmas: products, shifts. No program in sight. -/
set_option linter.unusedVariables false
set_option linter.unusedSimpArgs false
namespace Go.Proofs.YtfpnhggbfakdkaaDoor

theorem getD_set (zs : List Nat) (p v j : Nat) : (zs.set p v).getD j 0 = if j = p ∧ p < zs.length then v else zs.getD j 0 := by
  simp only [List.getD_eq_getElem?_getD, List.getElem?_set]
  by_cases h : p = j
  · subst h
    by_cases h2 : p < zs.length
    · simp [h2]
    · simp [h2]
  · have : ¬ (j = p ∧ p < zs.length) := fun e => h e.1.symm
    rw [if_neg h, if_neg this]

/-- Behind k rounds of the inner loop of a product. -/
structure MulIn (i k h x : Nat) (ys zs0 zs : List Nat) : Prop where
  len : zs.length = zs0.length
  is32 : Is32 zs
  hi : h < 4294967296
  far : ∀ j, i + k ≤ j → zs.getD j 0 = zs0.getD j 0
  eq : val zs + 4294967296 ^ (i + k) * h = val zs0 + 4294967296 ^ i * (x * val (ys.take k))
theorem MulIn.start {i x : Nat} {ys zs0 : List Nat} (h : Is32 zs0) : MulIn i 0 0 x ys zs0 zs0 := ⟨rfl, h, by omega, fun _ _ => rfl, by simp [val]⟩
theorem mul_room {x y h o : Nat} (hx : x < 4294967296) (hy : y < 4294967296) (hh : h < 4294967296) (ho : o < 4294967296) : h + (x * y + o) < 18446744073709551616 := by
  have : x * y ≤ 4294967295 * 4294967295 := Nat.mul_le_mul (by omega) (by omega)
  omega
theorem mul_join {v v' P o h q r T U X : Nat} (h1 : v' + P * o = v + P * r) (h2 : r + 4294967296 * q = h + (X + o)) (h3 : v + P * h = T + U) : v' + P * 4294967296 * q = T + (U + P * X) := by
  have a : P * r + P * 4294967296 * q = P * h + (P * X + P * o) := by
    rw [Nat.mul_assoc, ← Nat.mul_add, h2, Nat.mul_add, Nat.mul_add]
  omega
theorem MulIn.step {i k h x : Nat} {ys zs0 zs : List Nat} (H : MulIn i k h x ys zs0 zs) (hx : x < 4294967296) (hy : Is32 ys) (hl : i + k < zs0.length) :
    MulIn i (k + 1) ((h + (x * ys.getD k 0 + zs.getD (i + k) 0)) / 4294967296) x ys zs0 (zs.set (i + k) ((h + (x * ys.getD k 0 + zs.getD (i + k) 0)) % 4294967296)) := by
  have b := mul_room hx (is32_get hy k) H.hi (is32_get H.is32 (i + k))
  have e := Nat.mod_add_div (h + (x * ys.getD k 0 + zs.getD (i + k) 0)) 4294967296
  have vs := val_set zs (i + k) ((h + (x * ys.getD k 0 + zs.getD (i + k) 0)) % 4294967296) (by rw [H.len]; exact hl)
  refine ⟨by rw [List.length_set, H.len], is32_set H.is32 _ _ (Nat.mod_lt _ (by omega)), ?_, ?_, ?_⟩
  · exact Nat.div_lt_of_lt_mul (by omega)
  · intro j hj
    rw [getD_set, if_neg (by omega)]
    exact H.far j (by omega)
  · rw [val_take_succ, show i + (k + 1) = i + k + 1 from rfl, Nat.pow_succ]
    have h3 := H.eq
    rw [Nat.mul_add x, Nat.mul_add (4294967296 ^ i)]
    have : 4294967296 ^ i * (x * (4294967296 ^ k * ys.getD k 0)) = 4294967296 ^ (i + k) * (x * ys.getD k 0) := by
      rw [Nat.pow_add, Nat.mul_left_comm x, Nat.mul_assoc]
    rw [this]
    exact mul_join vs e h3
/-- Behind i rounds of the outer loop of a product. -/
structure MulOut (i : Nat) (xs ys zs : List Nat) : Prop where
  len : zs.length = xs.length + ys.length
  is32 : Is32 zs
  far : ∀ j, i + ys.length ≤ j → zs.getD j 0 = 0
  eq : val zs = val (xs.take i) * val ys
theorem MulOut.start (xs ys : List Nat) : MulOut 0 xs ys (List.replicate (xs.length + ys.length) 0) :=
  ⟨by simp, is32_replicate _, fun j _ => by
    by_cases h : j < xs.length + ys.length
    · rw [getD_lt (by simpa using h)]; simp
    · exact getD_ge (by simpa using h), by rw [val_replicate]; simp [val]⟩
theorem MulOut.step {i h : Nat} {xs ys zs0 zs : List Nat} (H : MulOut i xs ys zs0) (hi : i < xs.length) (K : MulIn i ys.length h (xs.getD i 0) ys zs0 zs) : MulOut (i + 1) xs ys (zs.set (i + ys.length) h) := by
  have hl : i + ys.length < zs.length := by rw [K.len, H.len]; omega
  refine ⟨by rw [List.length_set, K.len, H.len], is32_set K.is32 _ _ K.hi, ?_, ?_⟩
  · intro j hj
    rw [getD_set, if_neg (by omega), K.far j (by omega)]
    exact H.far j (by omega)
  · have vs := val_set zs (i + ys.length) h hl
    have z : zs.getD (i + ys.length) 0 = 0 := by rw [K.far _ (Nat.le_refl _)]; exact H.far _ (Nat.le_refl _)
    rw [z, Nat.mul_zero, Nat.add_zero] at vs
    rw [vs, K.eq, List.take_of_length_le (Nat.le_refl _), H.eq, val_take_succ, Nat.add_mul, Nat.mul_assoc]
theorem MulOut.fin {xs ys zs : List Nat} (H : MulOut xs.length xs ys zs) : val zs = val xs * val ys := by
  rw [H.eq, List.take_of_length_le (Nat.le_refl _)]
end Go.Proofs.YtfpnhggbfakdkaaDoor

/- Plain lemmas: shifts. No program in sight. -/
set_option linter.unusedVariables false
set_option linter.unusedSimpArgs false
namespace Go.Proofs.YtfpnhggbfakdkaaDoor

theorem val_zero_of_lt {zs : List Nat} {p : Nat} (h : ∀ j, p ≤ j → zs.getD j 0 = 0) : val (zs.drop p) = 0 := by
  suffices H : ∀ d p, zs.length ≤ p + d → (∀ j, p ≤ j → zs.getD j 0 = 0) → val (zs.drop p) = 0 from H zs.length p (by omega) h
  intro d
  induction d with
  | zero => intro p hp _; rw [List.drop_of_length_le (by omega)]; rfl
  | succ d ih =>
    intro p hp hz
    rw [drop_val, ih (p + 1) (by omega) (fun j hj => hz j (by omega)), hz p (Nat.le_refl _)]

/-- Behind k rounds of a shift to the left, by 32 times skip bits and a power s = 2^S, S < 32. -/
structure ShInv (k skip s : Nat) (xs zs : List Nat) : Prop where
  len : zs.length = xs.length + skip + 1
  is32 : Is32 zs
  low : zs.getD (k + skip) 0 < s
  far : ∀ j, k + skip < j → zs.getD j 0 = 0
  eq : val zs = 4294967296 ^ skip * s * val (xs.take k)
theorem ShInv.start {skip s : Nat} (xs : List Nat) (hs : 0 < s) : ShInv 0 skip s xs (List.replicate (xs.length + skip + 1) 0) := by
  have z : ∀ j, (List.replicate (xs.length + skip + 1) 0).getD j 0 = 0 := fun j => by
    by_cases h : j < xs.length + skip + 1
    · rw [getD_lt (by simpa using h)]; simp
    · exact getD_ge (by simpa using h)
  exact ⟨by simp, is32_replicate _, by rw [z]; exact hs, fun j _ => z j, by rw [val_replicate]; simp [val]⟩
theorem sh_join {v v1 v2 P o lo hi x s T : Nat} (h1 : v1 + P * o = v + P * (lo + o)) (h2 : v2 = v1 + P * 4294967296 * hi) (h3 : lo + 4294967296 * hi = x * s) : v2 = v + P * (x * s) := by
  rw [← h3, Nat.mul_add, ← Nat.mul_assoc]
  rw [Nat.mul_add] at h1
  omega
theorem lo_mod {x s c : Nat} (hsc : s * c = 4294967296) : (x * s) % 4294967296 % s = 0 := by
  rw [← hsc, Nat.mul_comm x s, Nat.mul_mod_mul_left, Nat.mul_mod_right]
theorem hi_lt {x s c : Nat} (hx : x < 4294967296) (hs : 0 < s) : (x * s) / 4294967296 < s := by
  exact Nat.div_lt_of_lt_mul (by rw [Nat.mul_comm x s, Nat.mul_comm 4294967296 s]; exact Nat.mul_lt_mul_of_pos_left hx hs)
theorem ShInv.step {k skip s c : Nat} {xs zs : List Nat} (H : ShInv k skip s xs zs) (hk : k < xs.length) (hx : Is32 xs) (hs : 0 < s) (hsc : s * c = 4294967296) :
    ShInv (k + 1) skip s xs ((zs.set (k + skip) ((xs.getD k 0 * s) % 4294967296 + zs.getD (k + skip) 0)).set (k + skip + 1) ((xs.getD k 0 * s) / 4294967296)) := by
  have bx := is32_get hx k
  have a1 := lo_mod (x := xs.getD k 0) hsc
  have a2 := hi_lt (c := c) bx hs
  have a3 := Nat.mod_add_div (xs.getD k 0 * s) 4294967296
  have low := H.low
  have hsB : s ≤ 4294967296 := by rw [← hsc]; exact Nat.le_mul_of_pos_right _ (by rcases Nat.eq_zero_or_pos c with h | h; · subst h; omega
                                                                                  · exact h)
  have lo32 : (xs.getD k 0 * s) % 4294967296 + zs.getD (k + skip) 0 < 4294967296 := by
    have hc : 0 < c := by rcases Nat.eq_zero_or_pos c with h | h; · subst h; omega
                          · exact h
    obtain ⟨q, hq⟩ := Nat.dvd_of_mod_eq_zero a1
    have hm := Nat.mod_lt (xs.getD k 0 * s) (show 0 < 4294967296 by omega)
    rw [hq] at hm ⊢
    have : q < c := by
      rw [← hsc] at hm
      exact Nat.lt_of_mul_lt_mul_left hm
    calc s * q + zs.getD (k + skip) 0 < s * q + s := by omega
      _ = s * (q + 1) := by rw [Nat.mul_add, Nat.mul_one]
      _ ≤ s * c := Nat.mul_le_mul_left _ this
      _ = 4294967296 := hsc
  generalize (xs.getD k 0 * s) % 4294967296 = lo at *
  generalize hhi : (xs.getD k 0 * s) / 4294967296 = hi at *
  have l1 : (zs.set (k + skip) (lo + zs.getD (k + skip) 0)).length = xs.length + skip + 1 := by rw [List.length_set, H.len]
  have v1 := val_set zs (k + skip) (lo + zs.getD (k + skip) 0) (by rw [H.len]; omega)
  have v2 := val_set (zs.set (k + skip) (lo + zs.getD (k + skip) 0)) (k + skip + 1) hi (by rw [l1]; omega)
  have z : (zs.set (k + skip) (lo + zs.getD (k + skip) 0)).getD (k + skip + 1) 0 = 0 := by
    rw [getD_set, if_neg (by omega)]; exact H.far _ (by omega)
  rw [z, Nat.mul_zero, Nat.add_zero, Nat.pow_succ] at v2
  refine ⟨by rw [List.length_set, l1], is32_set (is32_set H.is32 _ _ lo32) _ _ (by omega), ?_, ?_, ?_⟩
  · rw [show k + 1 + skip = k + skip + 1 from by omega, getD_set, if_pos ⟨rfl, by rw [l1]; omega⟩]
    exact a2
  · intro j hj
    rw [getD_set, if_neg (by omega), getD_set, if_neg (by omega)]
    exact H.far j (by omega)
  · rw [sh_join (T := 0) v1 v2 a3, H.eq, val_take_succ, Nat.mul_add]
    congr 1
    rw [Nat.pow_add, Nat.mul_comm (4294967296 ^ k), Nat.mul_assoc, Nat.mul_assoc, Nat.mul_comm (xs.getD k 0) s, Nat.mul_left_comm (4294967296 ^ k)]
theorem ShInv.fin {skip s : Nat} {xs zs : List Nat} (H : ShInv xs.length skip s xs zs) : val zs = val xs * (4294967296 ^ skip * s) := by
  rw [H.eq, List.take_of_length_le (Nat.le_refl _), Nat.mul_comm]
theorem pow_split (by_ : Nat) : 4294967296 ^ (by_ / 32) * 2 ^ (by_ % 32) = 2 ^ by_ := by
  rw [show (4294967296 : Nat) = 2 ^ 32 from rfl, ← Nat.pow_mul, ← Nat.pow_add, Nat.div_add_mod]
theorem pow_comp (S : Nat) (h : S < 32) : 2 ^ S * 2 ^ (32 - S) = 4294967296 := by
  rw [← Nat.pow_add, show S + (32 - S) = 32 from by omega]

/-- A digit of a number that is shifted to the right. -/
def bkd (x d1 s : Nat) : Nat := ((d1 * 4294967296 + x) / s) % 4294967296
theorem bk_digit {x v s c : Nat} (hx : x < 4294967296) (hs : 0 < s) (hsc : s * c = 4294967296) : (x + 4294967296 * v) / s = bkd x (v % 4294967296) s + 4294967296 * (v / s) := by
  have e1 : (x + 4294967296 * v) / s = x / s + c * v := by
    rw [← hsc, Nat.mul_assoc, Nat.add_mul_div_left _ _ hs]
  have e2 : (v % 4294967296 * 4294967296 + x) / s = x / s + c * (v % 4294967296) := by
    rw [Nat.add_comm, Nat.mul_comm (v % 4294967296)]
    conv => lhs; rw [show 4294967296 * (v % 4294967296) = s * (c * (v % 4294967296)) from by rw [← Nat.mul_assoc, hsc]]
    rw [Nat.add_mul_div_left _ _ hs]
  have xc : x / s < c := Nat.div_lt_of_lt_mul (by rw [hsc]; exact hx)
  unfold bkd
  rw [e1, e2]
  have hd : v % 4294967296 % s = v % s := by rw [← hsc, Nat.mod_mul_right_mod]
  have q1 := Nat.div_add_mod v s
  have q2 := Nat.div_add_mod (v % 4294967296) s
  rw [hd] at q2
  have rl := Nat.mod_lt v hs
  generalize v % s = r at *
  generalize v % 4294967296 = d1 at *
  have e3 : c * v = 4294967296 * (v / s) + c * r := by rw [← q1, Nat.mul_add, ← Nat.mul_assoc, Nat.mul_comm c s, hsc, q1]
  have e4 : c * d1 = 4294967296 * (d1 / s) + c * r := by rw [← q2, Nat.mul_add, ← Nat.mul_assoc, Nat.mul_comm c s, hsc, q2]
  have sm : x / s + c * r < 4294967296 := by
    have : c * r ≤ c * (s - 1) := Nat.mul_le_mul_left _ (by omega)
    have t : c * (s - 1) + c = 4294967296 := by rw [← hsc, Nat.mul_comm s c, ← Nat.mul_succ]; congr 1; omega
    omega
  rw [e3, e4]
  rw [show x / s + (4294967296 * (d1 / s) + c * r) = (x / s + c * r) + 4294967296 * (d1 / s) from by omega, Nat.add_mul_mod_self_left, Nat.mod_eq_of_lt sm]
  omega
/-- Behind k rounds of a shift to the right; ds: what is left behind the parts that go. -/
structure BkInv (m k s : Nat) (ds zs : List Nat) : Prop where
  out : ∃ outs, zs = outs ++ List.replicate (m - k) 0 ∧ outs.length = k ∧ Is32 outs ∧ val outs + 4294967296 ^ k * (val (ds.drop k) / s) = val ds / s
theorem BkInv.start (m s : Nat) (ds : List Nat) : BkInv m 0 s ds (List.replicate m 0) := ⟨[], by simp, rfl, is32_nil, by simp [val]⟩
theorem BkInv.len {m k s : Nat} {ds zs : List Nat} (h : BkInv m k s ds zs) (hk : k ≤ m) : zs.length = m := by
  obtain ⟨outs, rfl, h1, _⟩ := h.out
  simp; omega
theorem val_mod (ds : List Nat) (h : Is32 ds) : val ds % 4294967296 = ds.getD 0 0 := by
  cases ds with
  | nil => rfl
  | cons x xs =>
    rw [val_cons]
    have := (is32_cons.1 h).1
    show _ = x
    omega
theorem bk_join {o p q b T : Nat} (h : o + p * (b + 4294967296 * q) = T) : o + p * b + p * 4294967296 * q = T := by
  rw [Nat.mul_add, ← Nat.mul_assoc] at h
  omega
theorem BkInv.step {m k s c : Nat} {ds zs : List Nat} (H : BkInv m k s ds zs) (hk : k < m) (hx : Is32 ds) (hs : 0 < s) (hsc : s * c = 4294967296) :
    BkInv m (k + 1) s ds (zs.set k (bkd (ds.getD k 0) (ds.getD (k + 1) 0) s)) := by
  obtain ⟨outs, rfl, h1, h2, h3⟩ := H.out
  refine ⟨outs ++ [bkd (ds.getD k 0) (ds.getD (k + 1) 0) s], ?_, by simp [h1], is32_append.2 ⟨h2, is32_cons.2 ⟨Nat.mod_lt _ (by omega), is32_nil⟩⟩, ?_⟩
  · rw [show m - k = m - (k + 1) + 1 from by omega]
    exact set_at _ _ _ _ h1
  · rw [drop_val, bk_digit (is32_get hx k) hs hsc, val_mod _ (is32_drop hx _)] at h3
    have e : (ds.drop (k + 1)).getD 0 0 = ds.getD (k + 1) 0 := by simp [List.getD_eq_getElem?_getD, List.getElem?_drop]
    rw [e] at h3
    rw [val_append, h1, Nat.pow_succ, val_cons, val_nil, Nat.mul_zero, Nat.add_zero]
    exact bk_join h3
theorem BkInv.fin {s : Nat} {ds zs : List Nat} (H : BkInv ds.length ds.length s ds zs) : Is32 zs ∧ val zs = val ds / s := by
  obtain ⟨outs, rfl, h1, h2, h3⟩ := H.out
  rw [List.drop_length, val_nil, Nat.zero_div, Nat.mul_zero, Nat.add_zero] at h3
  rw [Nat.sub_self, List.replicate_zero, List.append_nil]
  exact ⟨h2, h3⟩
theorem val_drop (xs : List Nat) (h : Is32 xs) (k : Nat) : val (xs.drop k) = val xs / 4294967296 ^ k := by
  by_cases hk : k ≤ xs.length
  · have e := val_take_drop xs k hk
    have l := val_lt (is32_take h k)
    rw [List.length_take, Nat.min_eq_left hk] at l
    rw [e, Nat.add_mul_div_left _ _ (Nat.pow_pos (by omega)), Nat.div_eq_of_lt l, Nat.zero_add]
  · rw [List.drop_of_length_le (by omega), Nat.div_eq_of_lt]
    · rfl
    · exact Nat.lt_of_lt_of_le (val_lt h) (Nat.pow_le_pow_right (by omega) (by omega))
theorem back_val (xs : List Nat) (h : Is32 xs) (n : Nat) : val (xs.drop (n / 32)) / 2 ^ (n % 32) = val xs / 2 ^ n := by
  rw [val_drop xs h, Nat.div_div_eq_div_mul, pow_split]
end Go.Proofs.YtfpnhggbfakdkaaDoor

/- Plain lemmas: what both can be divided by. No program in sight. -/
set_option linter.unusedVariables false
set_option linter.unusedSimpArgs false
namespace Go.Proofs.YtfpnhggbfakdkaaDoor

theorem odd_coprime_two (a k : Nat) (h : a % 2 = 1) : Nat.Coprime (2 ^ k) a := by
  have : Nat.Coprime 2 a := by
    unfold Nat.Coprime
    have h1 : Nat.gcd 2 a ∣ 2 := Nat.gcd_dvd_left _ _
    have h2 : Nat.gcd 2 a ∣ a := Nat.gcd_dvd_right _ _
    have h3 := Nat.le_of_dvd (by omega) h1
    have h4 : Nat.gcd 2 a ≠ 0 := by intro e; rw [e] at h1; omega
    have h5 : Nat.gcd 2 a ≠ 2 := by intro e; rw [e] at h2; omega
    omega
  exact Nat.Coprime.pow_left k this
theorem gcd_strip {a b k : Nat} (h : a % 2 = 1) : Nat.gcd a (2 ^ k * b) = Nat.gcd a b := by
  rw [Nat.gcd_comm, Nat.Coprime.gcd_mul_left_cancel _ (odd_coprime_two a k h), Nat.gcd_comm]
/-- One step of the loop: of two odd ones, the greater less the less one, without its bits of 0. -/
theorem gcd_step {a b k o : Nat} (h : a % 2 = 1) (hab : a < b) (e : b - a = 2 ^ k * o) : Nat.gcd a o = Nat.gcd a b := by
  rw [← gcd_strip (k := k) h, ← e]
  have : b = b - a + a := by omega
  conv => rhs; rw [this]
  rw [Nat.gcd_add_self_right]
/-- The whole one, of what is left without bits of 0. -/
theorem gcd_whole {a b n m x y : Nat} (ha : a = 2 ^ n * (2 * x + 1)) (hb : b = 2 ^ m * (2 * y + 1)) : Nat.gcd a b = Nat.gcd (2 * x + 1) (2 * y + 1) * 2 ^ (min n m) := by
  rcases Nat.le_total n m with h | h
  · obtain ⟨d, rfl⟩ : ∃ d, m = n + d := ⟨m - n, by omega⟩
    rw [Nat.min_eq_left h, ha, hb, Nat.pow_add, Nat.mul_assoc, Nat.gcd_mul_left, gcd_strip (by omega), Nat.mul_comm]
  · obtain ⟨d, rfl⟩ : ∃ d, n = m + d := ⟨n - m, by omega⟩
    rw [Nat.min_eq_right h, ha, hb, Nat.pow_add, Nat.mul_assoc, Nat.gcd_mul_left, Nat.gcd_comm (2 ^ d * _), gcd_strip (by omega), Nat.gcd_comm, Nat.mul_comm]
theorem div_pow_odd {a n x : Nat} (h : a = 2 ^ n * (2 * x + 1)) : a / 2 ^ n = 2 * x + 1 := by
  rw [h, Nat.mul_div_cancel_left _ (Nat.pow_pos (by omega))]
theorem le_of_tz {a n x : Nat} (h : a = 2 ^ n * (2 * x + 1)) : 2 * x + 1 ≤ a := by
  rw [h]; exact Nat.le_mul_of_pos_left _ (Nat.pow_pos (by omega))
theorem cmpN_lt {a b : Nat} (h : a < b) : cmpN a b = -1 := by rw [cmpN, if_pos h]
theorem cmpN_cases (a b : Nat) : (a < b ∧ cmpN a b = -1) ∨ (a = b ∧ cmpN a b = 0) ∨ (b < a ∧ cmpN a b = 1) := by
  unfold cmpN
  rcases Nat.lt_trichotomy a b with h | h | h
  · exact .inl ⟨h, by rw [if_pos h]⟩
  · exact .inr (.inl ⟨h, by rw [if_neg (by omega), if_pos h]⟩)
  · exact .inr (.inr ⟨h, by rw [if_neg (by omega), if_neg (by omega)]⟩)
end Go.Proofs.YtfpnhggbfakdkaaDoor

/- Plain lemmas: by one part; by more parts. No program in sight. -/
set_option linter.unusedVariables false
set_option linter.unusedSimpArgs false
namespace Go.Proofs.YtfpnhggbfakdkaaDoor

theorem drop_set_far (zs : List Nat) (i v j : Nat) (h : i < j) : (zs.set i v).drop j = zs.drop j := List.drop_set_of_lt h
/-- By one part: the parts from i on are done. -/
structure ShortInv (i r by_ : Nat) (xs zs : List Nat) : Prop where
  len : zs.length = xs.length
  is32 : Is32 zs
  lt : r < by_
  eq : val (xs.drop i) = by_ * val (zs.drop i) + r
theorem ShortInv.start {by_ : Nat} (xs : List Nat) (hb : 0 < by_) : ShortInv xs.length 0 by_ xs (List.replicate xs.length 0) :=
  ⟨by simp, is32_replicate _, hb, by rw [List.drop_length]; simp [val]⟩
theorem short_room {r x b : Nat} (hr : r < b) (hx : x < 4294967296) : (r * 4294967296 + x) / b < 4294967296 := by
  apply Nat.div_lt_of_lt_mul
  calc r * 4294967296 + x < r * 4294967296 + 4294967296 := by omega
    _ = (r + 1) * 4294967296 := by omega
    _ ≤ b * 4294967296 := Nat.mul_le_mul_right _ hr
theorem short_join {x V b Z r q r' : Nat} (h : V = b * Z + r) (h1 : b * q + r' = r * 4294967296 + x) : x + 4294967296 * V = b * (q + 4294967296 * Z) + r' := by
  rw [h, Nat.mul_add, Nat.mul_add, Nat.mul_left_comm b 4294967296]
  omega
theorem ShortInv.step {i r b : Nat} {xs zs : List Nat} (H : ShortInv (i + 1) r b xs zs) (hi : i < xs.length) (hx : Is32 xs) :
    ShortInv i ((r * 4294967296 + xs.getD i 0) % b) b xs (zs.set i ((r * 4294967296 + xs.getD i 0) / b)) := by
  have hb : 0 < b := Nat.lt_of_le_of_lt (Nat.zero_le _) H.lt
  have hq := short_room H.lt (is32_get hx i)
  refine ⟨by rw [List.length_set, H.len], is32_set H.is32 _ _ hq, Nat.mod_lt _ hb, ?_⟩
  rw [drop_val xs, drop_val (zs.set i _), getD_set, if_pos ⟨rfl, by rw [H.len]; exact hi⟩, drop_set_far _ _ _ _ (Nat.lt_succ_self i)]
  exact short_join H.eq (Nat.div_add_mod _ _)
theorem ShortInv.fin {r b : Nat} {xs zs : List Nat} (H : ShortInv 0 r b xs zs) : val zs = val xs / b ∧ r = val xs % b := by
  have e := H.eq
  rw [List.drop_zero, List.drop_zero] at e
  have h := H.lt
  constructor
  · rw [e, Nat.mul_add_div (by omega), Nat.div_eq_of_lt h, Nat.add_zero]
  · rw [e, Nat.mul_add_mod, Nat.mod_eq_of_lt h]
end Go.Proofs.YtfpnhggbfakdkaaDoor

/- Plain lemmas: division by more parts. No program in sight. -/
set_option linter.unusedVariables false
set_option linter.unusedSimpArgs false
namespace Go.Proofs.YtfpnhggbfakdkaaDoor

/-! ### how often, by the uppermost parts -/
/-- Numbers of a step: U by V; top, h: their uppermost parts; u0, l: the next ones; E: the weight of what is left. -/
structure GSet (U V E top u0 h l : Nat) : Prop where
  h0 : 0 < h
  l32 : l < 4294967296
  u32 : u0 < 4294967296
  v1 : E * (l + 4294967296 * h) ≤ V
  v2 : V < E * (l + 4294967296 * h) + E
  u1 : E * (u0 + 4294967296 * top) ≤ U
  u2 : U < E * (u0 + 4294967296 * top) + E
  lt : U < 4294967296 * V
theorem GSet.start {U V E top u0 h l : Nat} (S : GSet U V E top u0 h l) : U < (min (top / h) 4294967295 + 1) * V := by
  rcases Nat.le_total (top / h) 4294967295 with c | c
  · rw [Nat.min_eq_left c]
    have a : top + 1 ≤ (top / h + 1) * h := by
      have := Nat.div_add_mod top h
      have := Nat.mod_lt top S.h0
      have e : (top / h + 1) * h = h * (top / h) + h := by rw [Nat.add_mul, Nat.mul_comm, Nat.one_mul]
      omega
    have b : E * (4294967296 * (top + 1)) ≤ E * (4294967296 * ((top / h + 1) * h)) := Nat.mul_le_mul_left _ (Nat.mul_le_mul_left _ a)
    have d : E * (u0 + 4294967296 * top) + E ≤ E * (4294967296 * (top + 1)) := by
      have : u0 + 4294967296 * top + 1 ≤ 4294967296 * (top + 1) := by have := S.u32; omega
      calc E * (u0 + 4294967296 * top) + E = E * (u0 + 4294967296 * top + 1) := (Nat.mul_add_one _ _).symm
        _ ≤ _ := Nat.mul_le_mul_left _ this
    have f : E * (4294967296 * ((top / h + 1) * h)) ≤ (top / h + 1) * V := by
      have : E * (4294967296 * h) ≤ V := Nat.le_trans (Nat.mul_le_mul_left _ (by omega)) S.v1
      calc E * (4294967296 * ((top / h + 1) * h)) = (top / h + 1) * (E * (4294967296 * h)) := by
            rw [Nat.mul_left_comm 4294967296, Nat.mul_left_comm E]
        _ ≤ _ := Nat.mul_le_mul_left _ this
    have := S.u2
    omega
  · rw [Nat.min_eq_right c]
    exact S.lt
/-- The test says that it is too often. -/
theorem GSet.less {U V E top u0 h l g over : Nat} (S : GSet U V E top u0 h l) (ho : top = over + g * h) (hc : over * 4294967296 + u0 < g * l) : U < g * V := by
  have a : u0 + 4294967296 * top + 1 ≤ g * (l + 4294967296 * h) := by
    rw [Nat.mul_add, Nat.mul_left_comm g, ho, Nat.mul_add]
    omega
  have b : E * (u0 + 4294967296 * top) + E ≤ E * (g * (l + 4294967296 * h)) := by
    calc E * (u0 + 4294967296 * top) + E = E * (u0 + 4294967296 * top + 1) := (Nat.mul_add_one _ _).symm
      _ ≤ _ := Nat.mul_le_mul_left _ a
  have d : E * (g * (l + 4294967296 * h)) ≤ g * V := by
    rw [Nat.mul_left_comm]
    exact Nat.mul_le_mul_left _ S.v1
  have := S.u2
  omega
/-- The test says no. -/
theorem GSet.enough {U V E top u0 h l g over : Nat} (S : GSet U V E top u0 h l) (hg : g < 4294967296) (ho : top = over + g * h) (hc : 4294967296 ≤ over ∨ g * l ≤ over * 4294967296 + u0) : g * V < U + V := by
  have hc' : g * l ≤ over * 4294967296 + u0 := by
    rcases hc with h1 | h1
    · have : g * l ≤ 4294967295 * 4294967295 := Nat.mul_le_mul (by omega) (by have := S.l32; omega)
      have : 4294967296 * 4294967296 ≤ over * 4294967296 := Nat.mul_le_mul_right _ h1
      omega
    · exact h1
  have a : g * (l + 4294967296 * h) ≤ u0 + 4294967296 * top := by
    rw [Nat.mul_add, Nat.mul_left_comm g, ho, Nat.mul_add]
    omega
  have b : E * (g * (l + 4294967296 * h)) ≤ U := Nat.le_trans (Nat.mul_le_mul_left _ a) S.u1
  obtain ⟨v', hv⟩ : ∃ v', V = E * (l + 4294967296 * h) + v' := ⟨V - E * (l + 4294967296 * h), by have := S.v1; omega⟩
  have hv2 : v' < E := by have := S.v2; omega
  have d : g * v' ≤ 4294967295 * E := Nat.mul_le_mul (by omega) (by omega)
  have e : E * 4294967296 ≤ V := by
    refine Nat.le_trans (Nat.mul_le_mul_left _ ?_) S.v1
    have := S.h0
    omega
  have f : g * V = E * (g * (l + 4294967296 * h)) + g * v' := by rw [hv, Nat.mul_add, Nat.mul_left_comm]
  omega

/-! ### the parts -/
theorem take_far {rs rs' : List Nat} {i : Nat} (hl : rs'.length = rs.length) (h : ∀ j, j < i → rs'.getD j 0 = rs.getD j 0) : rs'.take i = rs.take i := by
  apply List.ext_getElem
  · simp [hl]
  · intro j h1 h2
    simp only [List.length_take] at h1 h2
    have := h j (by omega)
    rw [getD_lt (by omega), getD_lt (by omega)] at this
    simpa using this
/-- Behind k rounds of taking so often off. -/
structure MsInv (i k o g : Nat) (bs rs0 rs : List Nat) : Prop where
  len : rs.length = rs0.length
  is32 : Is32 rs
  le : o ≤ g
  low : ∀ j, j < i → rs.getD j 0 = rs0.getD j 0
  far : ∀ j, i + k ≤ j → rs.getD j 0 = rs0.getD j 0
  eq : val rs + 4294967296 ^ i * (g * val (bs.take k)) = val rs0 + 4294967296 ^ (i + k) * o
theorem MsInv.start {i g : Nat} {bs rs0 : List Nat} (h : Is32 rs0) : MsInv i 0 0 g bs rs0 rs0 := ⟨rfl, h, Nat.zero_le _, fun _ _ => rfl, fun _ _ => rfl, by simp [val]⟩
/-- What is owed behind a part; the part. -/
def msb (p d : Nat) : Nat := p / 4294967296 + (if d < p % 4294967296 then 1 else 0)
def msd (p d : Nat) : Nat := (d + 4294967296 - p % 4294967296) % 4294967296
theorem ms_digit {p d : Nat} (hd : d < 4294967296) : msd p d + p = d + 4294967296 * msb p d ∧ msd p d < 4294967296 := by
  unfold msd msb
  have := Nat.mod_add_div p 4294967296
  split <;> omega
theorem ms_owed {g y o d : Nat} (hy : y < 4294967296) (ho : o ≤ g) : msb (g * y + o) d ≤ g := by
  have a : g * y + o ≤ g * 4294967296 := by
    have : g * y + g ≤ g * 4294967296 := by rw [← Nat.mul_succ]; exact Nat.mul_le_mul_left _ hy
    omega
  generalize g * y + o = p at *
  unfold msb
  have := Nat.mod_add_div p 4294967296
  split <;> omega
theorem ms_join {v v' P d d' o o' T T' X B : Nat} (h1 : v' + P * d = v + P * d') (h2 : d' + (X + o) = d + B * o') (h3 : v + T = T' + P * o) : v' + (T + P * X) = T' + P * B * o' := by
  have a : P * d' + (P * X + P * o) = P * d + P * B * o' := by rw [Nat.mul_assoc, ← Nat.mul_add, ← Nat.mul_add, h2, Nat.mul_add]
  omega
theorem MsInv.step {i k o g : Nat} {bs rs0 rs : List Nat} (H : MsInv i k o g bs rs0 rs) (hb : Is32 bs) (hl : i + k < rs0.length) :
    MsInv i (k + 1) (msb (g * bs.getD k 0 + o) (rs.getD (i + k) 0)) g bs rs0 (rs.set (i + k) (msd (g * bs.getD k 0 + o) (rs.getD (i + k) 0))) := by
  obtain ⟨e1, e2⟩ := ms_digit (p := g * bs.getD k 0 + o) (is32_get H.is32 (i + k))
  have vs := val_set rs (i + k) (msd (g * bs.getD k 0 + o) (rs.getD (i + k) 0)) (by rw [H.len]; exact hl)
  refine ⟨by rw [List.length_set, H.len], is32_set H.is32 _ _ e2, ms_owed (is32_get hb k) H.le, ?_, ?_, ?_⟩
  · intro j hj
    rw [getD_set, if_neg (by omega)]
    exact H.low j hj
  · intro j hj
    rw [getD_set, if_neg (by omega)]
    exact H.far j (by omega)
  · rw [val_take_succ, show i + (k + 1) = i + k + 1 from rfl, Nat.pow_succ, Nat.mul_add g, Nat.mul_add (4294967296 ^ i)]
    have : 4294967296 ^ i * (g * (4294967296 ^ k * bs.getD k 0)) = 4294967296 ^ (i + k) * (g * bs.getD k 0) := by
      rw [Nat.pow_add, Nat.mul_left_comm g, Nat.mul_assoc]
    rw [this]
    exact ms_join vs e1 H.eq
/-- Behind k rounds of giving back. -/
structure AbInv (i k cy : Nat) (bs rs0 rs : List Nat) : Prop where
  len : rs.length = rs0.length
  is32 : Is32 rs
  lt : cy < 2
  low : ∀ j, j < i → rs.getD j 0 = rs0.getD j 0
  far : ∀ j, i + k ≤ j → rs.getD j 0 = rs0.getD j 0
  eq : val rs + 4294967296 ^ (i + k) * cy = val rs0 + 4294967296 ^ i * val (bs.take k)
theorem AbInv.start {i : Nat} {bs rs0 : List Nat} (h : Is32 rs0) : AbInv i 0 0 bs rs0 rs0 := ⟨rfl, h, by omega, fun _ _ => rfl, fun _ _ => rfl, by simp [val]⟩
theorem ab_join {v v' P d d' y c c' T T' B : Nat} (h1 : v' + P * d = v + P * d') (h2 : d' + B * c' = d + y + c) (h3 : v + P * c = T + T') : v' + P * B * c' = T + (T' + P * y) := by
  have a : P * d' + P * B * c' = P * d + P * y + P * c := by rw [Nat.mul_assoc, ← Nat.mul_add, h2, Nat.mul_add, Nat.mul_add]
  omega
theorem AbInv.step {i k cy : Nat} {bs rs0 rs : List Nat} (H : AbInv i k cy bs rs0 rs) (hb : Is32 bs) (hl : i + k < rs0.length) :
    AbInv i (k + 1) ((rs.getD (i + k) 0 + bs.getD k 0 + cy) / 4294967296) bs rs0 (rs.set (i + k) ((rs.getD (i + k) 0 + bs.getD k 0 + cy) % 4294967296)) := by
  have e1 := Nat.mod_add_div (rs.getD (i + k) 0 + bs.getD k 0 + cy) 4294967296
  have b1 := is32_get H.is32 (i + k)
  have b2 := is32_get hb k
  have b3 := H.lt
  have vs := val_set rs (i + k) ((rs.getD (i + k) 0 + bs.getD k 0 + cy) % 4294967296) (by rw [H.len]; exact hl)
  refine ⟨by rw [List.length_set, H.len], is32_set H.is32 _ _ (Nat.mod_lt _ (by omega)), by omega, ?_, ?_, ?_⟩
  · intro j hj
    rw [getD_set, if_neg (by omega)]
    exact H.low j hj
  · intro j hj
    rw [getD_set, if_neg (by omega)]
    exact H.far j (by omega)
  · rw [val_take_succ, show i + (k + 1) = i + k + 1 from rfl, Nat.pow_succ, Nat.mul_add (4294967296 ^ i)]
    have : 4294967296 ^ i * (4294967296 ^ k * bs.getD k 0) = 4294967296 ^ (i + k) * bs.getD k 0 := by rw [Nat.pow_add, Nat.mul_assoc]
    rw [this]
    exact ab_join vs e1 H.eq

/-- Behind the steps from i on: rs: what is left; zs: how often. -/
structure LgInv (i : Nat) (as bs rs zs : List Nat) : Prop where
  len : rs.length = as.length
  zlen : zs.length + bs.length = as.length
  r32 : Is32 rs
  z32 : Is32 zs
  lt : val (rs.drop i) < val bs
  eq : val as = val rs + val bs * (4294967296 ^ i * val (zs.drop i))
theorem val_cut (rs : List Nat) (i : Nat) : val rs = val (rs.take i) + 4294967296 ^ i * val (rs.drop i) := by
  by_cases h : i ≤ rs.length
  · exact val_take_drop rs i h
  · rw [List.drop_of_length_le (by omega), List.take_of_length_le (by omega)]; simp [val]
theorem drop_zero_of_lt {rs : List Nat} {i n : Nat} (h : val (rs.drop i) < 4294967296 ^ n) : val (rs.drop (i + n)) = 0 := by
  have e := val_cut (rs.drop i) n
  rw [List.drop_drop] at e
  rcases Nat.eq_zero_or_pos (val (rs.drop (i + n))) with h0 | h0
  · exact h0
  · exfalso
    have : 4294967296 ^ n * 1 ≤ 4294967296 ^ n * val (rs.drop (i + n)) := Nat.mul_le_mul_left _ h0
    omega
/-- What is left, and how often, of one step, from what the rounds leave. -/
theorem lg_one {Lw t o P gV U V : Nat} (h : Lw + P * t + gV = U + P * o) (h1 : U < gV + V) (hV : V ≤ P) (ht : o ≤ t) : t = o ∧ U = gV + Lw ∧ Lw < V := by
  obtain ⟨d, rfl⟩ : ∃ d, t = o + d := ⟨t - o, by omega⟩
  rw [Nat.mul_add] at h
  rcases Nat.eq_zero_or_pos d with h0 | h0
  · subst h0
    simp only [Nat.mul_zero, Nat.add_zero] at h
    exact ⟨rfl, by omega, by omega⟩
  · have : P * 1 ≤ P * d := Nat.mul_le_mul_left _ h0
    omega
theorem lg_two {Lw Lw' t o P gV U V cy : Nat} (h : Lw + P * t + gV = U + P * o) (h2 : gV < U + V) (hV : V ≤ P) (hL : Lw < P) (hL' : Lw' < P) (ht : t < o) (hb : Lw' + P * cy = Lw + V) : U + V = gV + Lw' ∧ Lw' < V := by
  obtain ⟨d, rfl⟩ : ∃ d, o = t + (d + 1) := ⟨o - t - 1, by omega⟩
  rw [Nat.mul_add, Nat.mul_add, Nat.mul_one] at h
  have e : Lw' + P * cy = U + V - gV + P * (d + 1) := by rw [Nat.mul_add, Nat.mul_one]; omega
  have hU : U < gV := by omega
  have hlt : U + V - gV < P := by omega
  have m1 : (Lw' + P * cy) % P = Lw' := by rw [Nat.add_mul_mod_self_left, Nat.mod_eq_of_lt hL']
  have m2 : (U + V - gV + P * (d + 1)) % P = U + V - gV := by rw [Nat.add_mul_mod_self_left, Nat.mod_eq_of_lt hlt]
  rw [e, m2] at m1
  omega
end Go.Proofs.YtfpnhggbfakdkaaDoor

/- Plain lemmas: a step of the division by more parts. No program in sight. -/
set_option linter.unusedVariables false
set_option linter.unusedSimpArgs false
namespace Go.Proofs.YtfpnhggbfakdkaaDoor

theorem getD_of_val_zero {xs : List Nat} (h : val xs = 0) : ∀ j, xs.getD j 0 = 0 := by
  induction xs with
  | nil => intro j; rfl
  | cons x xs ih =>
    rw [val_cons] at h
    intro j
    cases j with
    | zero => show x = 0; omega
    | succ j => exact ih (by omega) j
theorem getD_drop' (xs : List Nat) (k j : Nat) : (xs.drop k).getD j 0 = xs.getD (k + j) 0 := by
  simp [List.getD_eq_getElem?_getD, List.getElem?_drop]
theorem drop_far {rs rs' : List Nat} {p : Nat} (h : val (rs.drop p) = 0) (hf : ∀ j, p ≤ j → rs'.getD j 0 = rs.getD j 0) : val (rs'.drop p) = 0 := by
  apply val_zero_of_lt
  intro j hj
  rw [hf j hj]
  have := getD_of_val_zero h (j - p)
  rw [getD_drop', show p + (j - p) = j from by omega] at this
  exact this
theorem val_win (rs : List Nat) (i n : Nat) : val (rs.drop i) = val ((rs.drop i).take n) + 4294967296 ^ n * val (rs.drop (i + n)) := by
  have := val_cut (rs.drop i) n
  rw [List.drop_drop] at this
  exact this
theorem win_lt {rs : List Nat} (h : Is32 rs) (i n : Nat) : val ((rs.drop i).take n) < 4294967296 ^ n := by
  refine Nat.lt_of_lt_of_le (val_lt (is32_take (is32_drop h i) n)) (Nat.pow_le_pow_right (by omega) ?_)
  rw [List.length_take]; omega
theorem set_win (rs : List Nat) (i n v : Nat) : ((rs.set (i + n) v).drop i).take n = (rs.drop i).take n := by
  apply List.ext_getElem
  · simp
  · intro j h1 h2
    simp only [List.length_take, List.length_drop, List.length_set] at h1 h2
    simp only [List.getElem_take, List.getElem_drop, List.getElem_set]
    rw [if_neg (by omega)]
theorem set_zero_win {rs : List Nat} {i n : Nat} (hl : i + n < rs.length) (h0 : val (rs.drop (i + n + 1)) = 0) : val ((rs.set (i + n) 0).drop i) = val ((rs.drop i).take n) := by
  rw [val_win _ i n, set_win, drop_val, getD_set, if_pos ⟨rfl, hl⟩, drop_set_far _ _ _ _ (Nat.lt_succ_self _), h0]
  simp
theorem top_of {rs : List Nat} {p : Nat} (h0 : val (rs.drop (p + 1)) = 0) : val (rs.drop p) = rs.getD p 0 := by
  rw [drop_val, h0]; simp
theorem take_set_far (rs : List Nat) (i p v : Nat) (h : i ≤ p) : (rs.set p v).take i = rs.take i := List.take_set_of_le h

section
variable {i g o : Nat} {as bs rs zs rs2 : List Nat}
theorem lg_setup (H : LgInv (i + 1) as bs rs zs) (hb : Is32 bs) (M : MsInv i bs.length o g bs rs rs2) :
    val ((rs2.drop i).take bs.length) + 4294967296 ^ bs.length * rs2.getD (i + bs.length) 0 + g * val bs = val (rs.drop i) + 4294967296 ^ bs.length * o ∧ val (rs2.drop (i + bs.length + 1)) = 0 := by
  have z1 : val (rs.drop (i + bs.length + 1)) = 0 := by
    have := drop_zero_of_lt (rs := rs) (i := i + 1) (n := bs.length) (Nat.lt_trans H.lt (val_lt hb))
    rw [show i + bs.length + 1 = i + 1 + bs.length from by omega]
    exact this
  have z2 := drop_far z1 (rs' := rs2) (fun j hj => M.far j (by omega))
  refine ⟨?_, z2⟩
  have e := M.eq
  rw [List.take_of_length_le (Nat.le_refl _), val_cut rs2 i, val_cut rs i, take_far M.len M.low, Nat.pow_add, Nat.mul_assoc (4294967296 ^ i)] at e
  have e2 : 4294967296 ^ i * (val (rs2.drop i) + g * val bs) = 4294967296 ^ i * (val (rs.drop i) + 4294967296 ^ bs.length * o) := by
    rw [Nat.mul_add, Nat.mul_add]
    omega
  have e3 := Nat.eq_of_mul_eq_mul_left (Nat.pow_pos (by omega)) e2
  rw [val_win rs2 i bs.length, top_of z2] at e3
  exact e3
theorem lg_end {g' : Nat} {rs' : List Nat} (H : LgInv (i + 1) as bs rs zs) (hb : Is32 bs) (hi : i < zs.length) (hg : g' < 4294967296) (hl : rs'.length = rs.length) (h32 : Is32 rs') (hlow : ∀ j, j < i → rs'.getD j 0 = rs.getD j 0)
    (hz : val (rs'.drop (i + bs.length + 1)) = 0) (hU : val (rs.drop i) = g' * val bs + val ((rs'.drop i).take bs.length)) (hR : val ((rs'.drop i).take bs.length) < val bs) : LgInv i as bs (rs'.set (i + bs.length) 0) (zs.set i g') := by
  have ln : i + bs.length < rs'.length := by rw [hl, H.len, ← H.zlen]; omega
  have w := set_zero_win ln hz
  refine ⟨by rw [List.length_set, hl, H.len], by rw [List.length_set]; exact H.zlen, is32_set h32 _ _ (by omega), is32_set H.z32 _ _ hg, by rw [w]; exact hR, ?_⟩
  rw [H.eq, val_cut rs i, val_cut (rs'.set (i + bs.length) 0) i, take_set_far _ _ _ _ (by omega), take_far hl hlow, w, hU, drop_val (zs.set i g'), getD_set, if_pos ⟨rfl, hi⟩, drop_set_far _ _ _ _ (Nat.lt_succ_self i), Nat.pow_succ]
  generalize 4294967296 ^ i = p
  generalize val bs = V
  generalize val ((rs'.drop i).take bs.length) = R
  generalize val (zs.drop (i + 1)) = Z
  have a1 : p * (g' * V + R) = V * (p * g') + p * R := by rw [Nat.mul_add, Nat.mul_left_comm V p g', Nat.mul_comm V g']
  have a2 : V * (p * (g' + 4294967296 * Z)) = V * (p * g') + V * (p * 4294967296 * Z) := by rw [Nat.mul_add, Nat.mul_add, Nat.mul_assoc]
  rw [a1, a2]
  omega
/-- It was not too often. -/
theorem LgInv.yes (H : LgInv (i + 1) as bs rs zs) (hb : Is32 bs) (hi : i < zs.length) (M : MsInv i bs.length o g bs rs rs2) (hg : g < 4294967296) (h1 : val (rs.drop i) < (g + 1) * val bs) (ht : o ≤ rs2.getD (i + bs.length) 0) :
    LgInv i as bs (rs2.set (i + bs.length) 0) (zs.set i g) := by
  obtain ⟨e, z⟩ := lg_setup H hb M
  obtain ⟨_, hU, hR⟩ := lg_one e (by rw [Nat.add_mul, Nat.one_mul] at h1; exact h1) (Nat.le_of_lt (val_lt hb)) ht
  exact lg_end H hb hi hg M.len M.is32 M.low z hU hR
/-- It was, once. -/
theorem LgInv.no {cy : Nat} {rs3 : List Nat} (H : LgInv (i + 1) as bs rs zs) (hb : Is32 bs) (hi : i < zs.length) (M : MsInv i bs.length o g bs rs rs2) (hg : g < 4294967296) (h2 : g * val bs < val (rs.drop i) + val bs) (ht : rs2.getD (i + bs.length) 0 < o) (A : AbInv i bs.length cy bs rs2 rs3) :
    LgInv i as bs (rs3.set (i + bs.length) 0) (zs.set i (g - 1)) ∧ 0 < g := by
  obtain ⟨e, z⟩ := lg_setup H hb M
  have z3 := drop_far z (rs' := rs3) (fun j hj => A.far j (by omega))
  have ea := A.eq
  rw [List.take_of_length_le (Nat.le_refl _), val_cut rs3 i, val_cut rs2 i, take_far A.len A.low, Nat.pow_add, Nat.mul_assoc (4294967296 ^ i)] at ea
  have ea2 : 4294967296 ^ i * (val (rs3.drop i) + 4294967296 ^ bs.length * cy) = 4294967296 ^ i * (val (rs2.drop i) + val bs) := by
    rw [Nat.mul_add, Nat.mul_add]
    omega
  have ea3 := Nat.eq_of_mul_eq_mul_left (Nat.pow_pos (by omega)) ea2
  rw [val_win rs3 i bs.length, val_win rs2 i bs.length, top_of z3, top_of z, A.far _ (Nat.le_refl _)] at ea3
  have ea4 : val ((rs3.drop i).take bs.length) + 4294967296 ^ bs.length * cy = val ((rs2.drop i).take bs.length) + val bs := by omega
  obtain ⟨hU, hR⟩ := lg_two e h2 (Nat.le_of_lt (val_lt hb)) (win_lt M.is32 _ _) (win_lt A.is32 _ _) ht ea4
  have g0 : 0 < g := by
    rcases Nat.eq_zero_or_pos g with h0 | h0
    · subst h0; omega
    · exact h0
  refine ⟨lg_end H hb hi (by omega) (A.len.trans M.len) A.is32 (fun j hj => (A.low j hj).trans (M.low j hj)) z3 ?_ hR, g0⟩
  obtain ⟨k, rfl⟩ : ∃ k, g = k + 1 := ⟨g - 1, by omega⟩
  rw [Nat.add_sub_cancel]
  rw [Nat.add_mul, Nat.one_mul] at hU
  omega
end
theorem LgInv.fin {as bs rs zs : List Nat} (H : LgInv 0 as bs rs zs) : val zs = val as / val bs ∧ val rs = val as % val bs := by
  have e := H.eq
  have h := H.lt
  rw [List.drop_zero] at h
  rw [Nat.pow_zero, Nat.one_mul, List.drop_zero, Nat.add_comm] at e
  constructor
  · rw [e, Nat.mul_add_div (by omega), Nat.div_eq_of_lt h, Nat.add_zero]
  · rw [e, Nat.mul_add_mod, Nat.mod_eq_of_lt h]
/-- The numbers of a step, from the parts. -/
theorem gset_of {i : Nat} {as bs rs zs : List Nat} (H : LgInv (i + 1) as bs rs zs) (hb : Is32 bs) (hn : 2 ≤ bs.length) (hc : chk bs = true) (hi : i < zs.length) :
    GSet (val (rs.drop i)) (val bs) (4294967296 ^ (bs.length - 2)) (rs.getD (i + bs.length) 0 * 4294967296 + rs.getD (i + (bs.length - 1)) 0) (rs.getD (i + (bs.length - 2)) 0) (bs.getD (bs.length - 1) 0) (bs.getD (bs.length - 2) 0) := by
  obtain ⟨m, hm⟩ : ∃ m, bs.length = m + 2 := ⟨bs.length - 2, by omega⟩
  rw [hm, show m + 2 - 2 = m from by omega, show m + 2 - 1 = m + 1 from by omega]
  have z1 : val (rs.drop (i + m + 2 + 1)) = 0 := by
    have := drop_zero_of_lt (rs := rs) (i := i + 1) (n := bs.length) (Nat.lt_trans H.lt (val_lt hb))
    rw [hm] at this
    rw [show i + m + 2 + 1 = i + 1 + (m + 2) from by omega]
    exact this
  have vV := val_cut bs m
  rw [drop_val bs m, top_of (rs := bs) (p := m + 1) (by rw [List.drop_of_length_le (by omega)]; rfl)] at vV
  have vU := val_win rs i m
  rw [drop_val rs (i + m), drop_val rs (i + m + 1), top_of (rs := rs) (p := i + m + 1 + 1) z1] at vU
  have lV : val (bs.take m) < 4294967296 ^ m := Nat.lt_of_lt_of_le (val_lt (is32_take hb m)) (Nat.pow_le_pow_right (by omega) (by rw [List.length_take]; omega))
  have lU := win_lt H.r32 i m
  have hh : bs.getD (m + 1) 0 ≠ 0 := by
    rcases snoc_cases bs with rfl | ⟨ys, y, rfl⟩
    · simp at hm
    · rw [chk_snoc] at hc
      have : ys.length = m + 1 := by simp at hm; omega
      rw [List.getD_eq_getElem?_getD, List.getElem?_append_right (by omega), this]
      simpa using hc
  have tV : val (rs.drop i) < 4294967296 * val bs := by
    rw [drop_val]
    have a := is32_get H.r32 i
    have b := H.lt
    have : 4294967296 * (val (rs.drop (i + 1)) + 1) ≤ 4294967296 * val bs := Nat.mul_le_mul_left _ b
    omega
  refine ⟨by omega, is32_get hb _, is32_get H.r32 _, ?_, ?_, ?_, ?_, tV⟩
  · rw [vV]; exact Nat.le_add_left _ _
  · rw [vV]; omega
  · rw [vU, show i + (m + 1) = i + m + 1 from by omega, show i + (m + 2) = i + m + 1 + 1 from by omega, Nat.add_comm (rs.getD (i + m + 1 + 1) 0 * 4294967296), Nat.mul_comm (rs.getD (i + m + 1 + 1) 0)]
    exact Nat.le_add_left _ _
  · rw [vU, show i + (m + 1) = i + m + 1 from by omega, show i + (m + 2) = i + m + 1 + 1 from by omega, Nat.add_comm (rs.getD (i + m + 1 + 1) 0 * 4294967296), Nat.mul_comm (rs.getD (i + m + 1 + 1) 0)]
    omega
theorem LgInv.start {as bs : List Nat} (ha : Is32 as) (hb : Is32 bs) (hc : chk bs = true) (hn : 1 ≤ bs.length) (hl : bs.length ≤ as.length) : LgInv (as.length + 1 - bs.length) (as ++ [0]) bs (as ++ [0]) (List.replicate (as.length + 1 - bs.length) 0) := by
  have hi : as.length + 1 - bs.length ≤ as.length := by omega
  refine ⟨rfl, by simp; omega, is32_append.2 ⟨ha, is32_cons.2 ⟨by omega, is32_nil⟩⟩, is32_replicate _, ?_, ?_⟩
  · rw [List.drop_append_of_le_length hi, val_append]
    have l := val_lt (is32_drop ha (as.length + 1 - bs.length))
    rw [List.length_drop] at l
    have hv : 4294967296 ^ (bs.length - 1) ≤ val bs := by
      refine Nat.le_of_not_lt fun h => ?_
      have := limbs_length_le.2 h
      rw [limbs_val_chk hb hc] at this
      omega
    rw [show as.length - (as.length + 1 - bs.length) = bs.length - 1 from by omega] at l
    rw [val_cons, val_nil, Nat.mul_zero, Nat.add_zero]
    omega
  · have : (List.replicate (as.length + 1 - bs.length) 0).drop (as.length + 1 - bs.length) = [] := by simp
    rw [this, val_nil, Nat.mul_zero, Nat.mul_zero, Nat.add_zero]
end Go.Proofs.YtfpnhggbfakdkaaDoor

/- Plain lemmas: decimal digits. No program in sight. -/
set_option linter.unusedVariables false
set_option linter.unusedSimpArgs false
namespace Go.Proofs.YtfpnhggbfakdkaaDoor

/-- So many digits of a number, the lowest ones, as bytes, the highest first. -/
def dig : Nat → Nat → List Nat
  | 0, _ => []
  | k + 1, n => (48 + n / 10 ^ k % 10) :: dig k n
/-- The digits, none of them needless; none of 0. -/
def decs (n : Nat) : List Nat := if h : n = 0 then [] else decs (n / 10) ++ [48 + n % 10]
decreasing_by omega
/-- The text of a number. -/
def txt (n : Nat) : List Nat := if n = 0 then [48] else decs n
end Go.Proofs.YtfpnhggbfakdkaaDoor

/- Plain lemmas: texts of numbers. No program in sight. -/
set_option linter.unusedVariables false
set_option linter.unusedSimpArgs false
namespace Go.Proofs.YtfpnhggbfakdkaaDoor

def bts (l : List Nat) : List UInt8 := l.map UInt8.ofNat
/-- The pieces of nine digits, the lowest one first. -/
def pcs (j N : Nat) : List (List UInt8) := (List.range j).map fun i => bts (dig 9 (N / 10 ^ (9 * i)))
end Go.Proofs.YtfpnhggbfakdkaaDoor

/- Plain lemmas: the number of a text. No program in sight. -/
set_option linter.unusedVariables false
set_option linter.unusedSimpArgs false
namespace Go.Proofs.YtfpnhggbfakdkaaDoor

def num (l : List Nat) : Nat := l.foldl (fun a c => a * 10 + (c - 48)) 0
def isDig (c : Nat) : Bool := decide (48 ≤ c) && decide (c < 58)
/-- A text is a number's: digits, one at least, none of 0 ahead of others. -/
def isNum (l : List Nat) : Bool := !l.isEmpty && l.all isDig && !(decide (1 < l.length) && l.head? == some 48)
end Go.Proofs.YtfpnhggbfakdkaaDoor

/- Plain lemmas: how many parts a number has. No program in sight. -/
set_option linter.unusedVariables false
set_option linter.unusedSimpArgs false
namespace Go.Proofs.YtfpnhggbfakdkaaDoor

/-- How many parts. -/
def L (N : Nat) : Nat := (limbs N).length
theorem L_le {N k : Nat} : L N ≤ k ↔ N < 4294967296 ^ k := limbs_length_le
theorem L_mono {M N : Nat} (h : M ≤ N) : L M ≤ L N := limbs_length_le.2 (Nat.lt_of_le_of_lt h (limbs_length_le.1 (Nat.le_refl _)))
theorem L_add {M N k : Nat} (h : L M ≤ k) (h' : L N ≤ k) : L (M + N) ≤ k + 1 := by
  rw [L_le] at *
  rw [Nat.pow_succ]
  have : 0 < 4294967296 ^ k := Nat.pow_pos (by omega)
  generalize 4294967296 ^ k = p at *
  omega
theorem L_mul {M N k k' : Nat} (h : L M ≤ k) (h' : L N ≤ k') : L (M * N) ≤ k + k' := by
  rw [L_le] at *
  rw [Nat.pow_add]
  exact Nat.mul_lt_mul'' h h'
theorem L_small {N : Nat} (h : N < 4294967296) : L N ≤ 1 := by rw [L_le, Nat.pow_one]; exact h
theorem L_zero : L 0 = 0 := by rw [L, limbs_zero]; rfl
theorem L_add2 {M N k k' m : Nat} (h : L M ≤ k) (h' : L N ≤ k') (hm : max k k' < m) : L (M + N) ≤ m :=
  Nat.le_trans (L_add (Nat.le_trans h (Nat.le_max_left k k')) (Nat.le_trans h' (Nat.le_max_right k k'))) hm
theorem L_mul2 {M N k k' m : Nat} (h : L M ≤ k) (h' : L N ≤ k') (hm : k + k' ≤ m) : L (M * N) ≤ m := Nat.le_trans (L_mul h h') hm
theorem L_up {N k m : Nat} (h : L N ≤ k) (hm : k ≤ m) : L N ≤ m := Nat.le_trans h hm
theorem L_div {M N k : Nat} (h : L M ≤ k) : L (M / N) ≤ k := Nat.le_trans (L_mono (Nat.div_le_self M N)) h
theorem L_gcd {M N k : Nat} (h : L M ≤ k) (h' : L N ≤ k) : L (Nat.gcd M N) ≤ k := by
  rcases Nat.eq_zero_or_pos M with h0 | h0
  · subst h0
    rw [Nat.gcd_zero_left]
    exact h'
  · exact Nat.le_trans (L_mono (Nat.gcd_le_left _ h0)) h
theorem L_val {xs : List Nat} (h : Is32 xs) : L (val xs) ≤ xs.length := L_le.2 (val_lt h)
end Go.Proofs.YtfpnhggbfakdkaaDoor
