/- Plain lemmas: what the loops over parts keep. No program in sight. -/
import Derived.Test.YtcdejccbamjdoaaDoorLm
set_option linter.unusedVariables false
set_option linter.unusedSimpArgs false
namespace Go.Proofs.YtcdejccbamjdoaaDoor

theorem set_at (outs : List Nat) (d v k : Nat) (hk : outs.length = k) : (outs ++ List.replicate (d + 1) 0).set k v = (outs ++ [v]) ++ List.replicate d 0 := by
  subst hk
  rw [List.set_append_right _ _ (Nat.le_refl _)]
  simp [List.replicate_succ]

/-- Behind k rounds of a sum. -/
def AddInv (m k cy : Nat) (xs ys zs : List Nat) : Prop :=
  ∃ outs, zs = outs ++ List.replicate (m - k) 0 ∧ outs.length = k ∧ Is32 outs ∧ cy < 2 ∧ val outs + 4294967296 ^ k * cy = val (xs.take k) + val (ys.take k)
theorem AddInv.start (m : Nat) (xs ys : List Nat) : AddInv m 0 0 xs ys (List.replicate m 0) := ⟨[], by simp, rfl, is32_nil, by omega, by simp [val]⟩
theorem AddInv.len {m k cy : Nat} {xs ys zs : List Nat} (h : AddInv m k cy xs ys zs) (hk : k ≤ m) : zs.length = m := by
  obtain ⟨outs, rfl, h1, _⟩ := h
  simp; omega
theorem AddInv.cy {m k cy : Nat} {xs ys zs : List Nat} (h : AddInv m k cy xs ys zs) : cy < 2 := h.choose_spec.2.2.2.1
theorem AddInv.step {m k cy : Nat} {xs ys zs : List Nat} (h : AddInv m k cy xs ys zs) (hk : k < m) (hx : Is32 xs) (hy : Is32 ys) :
    AddInv m (k + 1) ((xs.getD k 0 + ys.getD k 0 + cy) / 4294967296) xs ys (zs.set k ((xs.getD k 0 + ys.getD k 0 + cy) % 4294967296)) := by
  obtain ⟨outs, rfl, h1, h2, h3, h4⟩ := h
  have a := is32_get hx k
  have b := is32_get hy k
  refine ⟨outs ++ [(xs.getD k 0 + ys.getD k 0 + cy) % 4294967296], ?_, by simp [h1], is32_append.2 ⟨h2, is32_cons.2 ⟨by omega, is32_nil⟩⟩, by omega, ?_⟩
  · rw [show m - k = m - (k + 1) + 1 from by omega]
    exact set_at _ _ _ _ h1
  · rw [val_append, h1, val_take_succ, val_take_succ, Nat.pow_succ]
    simp only [val]
    generalize 4294967296 ^ k = p at *
    generalize xs.getD k 0 = x at *
    generalize ys.getD k 0 = y at *
    have e : (x + y + cy) % 4294967296 + 4294967296 * ((x + y + cy) / 4294967296) = x + y + cy := Nat.mod_add_div _ _
    have : p * ((x + y + cy) % 4294967296) + p * 4294967296 * ((x + y + cy) / 4294967296) = p * x + p * y + p * cy := by
      rw [Nat.mul_assoc, ← Nat.mul_add, e, Nat.mul_add, Nat.mul_add]
    simp only [Nat.mul_zero, Nat.add_zero]
    omega
theorem carry_none {p a b o cy : Nat} (ha : a < p) (hb : b < p) (h : o + p * 4294967296 * cy = a + b) : cy = 0 := by
  rcases Nat.eq_zero_or_pos cy with h0 | h0
  · exact h0
  · exfalso
    have h1 : p * 4294967296 * 1 ≤ p * 4294967296 * cy := Nat.mul_le_mul_left _ h0
    omega
theorem AddInv.fin {m cy : Nat} {xs ys zs : List Nat} (h : AddInv m m cy xs ys zs) (hx : Is32 xs) (hy : Is32 ys) (h1 : xs.length < m) (h2 : ys.length < m) : Is32 zs ∧ val zs = val xs + val ys := by
  obtain ⟨outs, rfl, h3, h4, h5, h6⟩ := h
  rw [List.take_of_length_le (by omega), List.take_of_length_le (by omega)] at h6
  obtain ⟨q, rfl⟩ : ∃ q, m = q + 1 := ⟨m - 1, by omega⟩
  have a : val xs < 4294967296 ^ q := Nat.lt_of_lt_of_le (val_lt hx) (Nat.pow_le_pow_right (by omega) (by omega))
  have b : val ys < 4294967296 ^ q := Nat.lt_of_lt_of_le (val_lt hy) (Nat.pow_le_pow_right (by omega) (by omega))
  have c : cy = 0 := by
    rw [Nat.pow_succ] at h6
    exact carry_none a b h6
  subst c
  simp only [Nat.sub_self, List.replicate_zero, List.append_nil]
  rw [Nat.mul_zero, Nat.add_zero] at h6
  exact ⟨h4, h6⟩

/-- Behind k rounds of a difference. -/
def SubInv (m k cy : Nat) (xs ys zs : List Nat) : Prop :=
  ∃ outs, zs = outs ++ List.replicate (m - k) 0 ∧ outs.length = k ∧ Is32 outs ∧ cy < 2 ∧ val outs + val (ys.take k) = val (xs.take k) + 4294967296 ^ k * cy
theorem SubInv.start (m : Nat) (xs ys : List Nat) : SubInv m 0 0 xs ys (List.replicate m 0) := ⟨[], by simp, rfl, is32_nil, by omega, by simp [val]⟩
theorem SubInv.len {m k cy : Nat} {xs ys zs : List Nat} (h : SubInv m k cy xs ys zs) (hk : k ≤ m) : zs.length = m := by
  obtain ⟨outs, rfl, h1, _⟩ := h
  simp; omega
theorem SubInv.cy {m k cy : Nat} {xs ys zs : List Nat} (h : SubInv m k cy xs ys zs) : cy < 2 := h.choose_spec.2.2.2.1
/-- A digit of a difference; what is owed behind it. -/
def subd (x y z : Nat) : Nat := (x + 4294967296 + 4294967296 - y - z) % 4294967296
def subb (x y z : Nat) : Nat := if x < y + z then 1 else 0
theorem subd_lt (x y z : Nat) : subd x y z < 4294967296 := by unfold subd; omega
theorem subb_lt (x y z : Nat) : subb x y z < 2 := by unfold subb; split <;> omega
theorem sub_digit {x y z : Nat} (hx : x < 4294967296) (hy : y < 4294967296) (hz : z < 2) : subd x y z + y + z = x + 4294967296 * subb x y z := by
  unfold subd subb
  split <;> omega
theorem subd_int {x y z : Nat} (hx : x < 4294967296) (hy : y < 4294967296) (hz : z < 2) : ((x : Int) - y - z) % 4294967296 = (subd x y z : Nat) := by
  unfold subd
  omega
theorem dig_mul {p x y z d c : Nat} (e : d + y + z = x + 4294967296 * c) : p * d + p * y + p * z = p * x + p * 4294967296 * c := by
  rw [Nat.mul_assoc, ← Nat.mul_add, ← Nat.mul_add, e, Nat.mul_add]
theorem sub_join {p d y x c o a b cy : Nat} (h4 : o + b = a + p * cy) (e : p * d + p * y + p * cy = p * x + p * 4294967296 * c) : o + p * d + (b + p * y) = a + p * x + p * 4294967296 * c := by omega
theorem SubInv.step {m k cy : Nat} {xs ys zs : List Nat} (h : SubInv m k cy xs ys zs) (hk : k < m) (hx : Is32 xs) (hy : Is32 ys) :
    SubInv m (k + 1) (subb (xs.getD k 0) (ys.getD k 0) cy) xs ys (zs.set k (subd (xs.getD k 0) (ys.getD k 0) cy)) := by
  obtain ⟨outs, rfl, h1, h2, h3, h4⟩ := h
  have a := is32_get hx k
  have b := is32_get hy k
  refine ⟨outs ++ [subd (xs.getD k 0) (ys.getD k 0) cy], ?_, by simp [h1], is32_append.2 ⟨h2, is32_cons.2 ⟨subd_lt _ _ _, is32_nil⟩⟩, subb_lt _ _ _, ?_⟩
  · rw [show m - k = m - (k + 1) + 1 from by omega]
    exact set_at _ _ _ _ h1
  · rw [val_append, h1, val_take_succ, val_take_succ, Nat.pow_succ]
    simp only [val]
    have e := sub_digit a b h3
    generalize 4294967296 ^ k = p at *
    generalize subd (xs.getD k 0) (ys.getD k 0) cy = d at *
    generalize subb (xs.getD k 0) (ys.getD k 0) cy = c at *
    generalize xs.getD k 0 = x at *
    generalize ys.getD k 0 = y at *
    have := dig_mul (p := p) e
    rw [Nat.mul_zero, Nat.add_zero]
    omega
theorem borrow_none {p o a b cy : Nat} (ho : o < p) (hab : b ≤ a) (h : o + b = a + p * cy) : cy = 0 := by
  rcases Nat.eq_zero_or_pos cy with h0 | h0
  · exact h0
  · exfalso
    have h1 : p * 1 ≤ p * cy := Nat.mul_le_mul_left _ h0
    omega
theorem len_le_of_val {xs ys : List Nat} (hx : Is32 xs) (hy : Is32 ys) (hc : chk ys = true) (h : val ys ≤ val xs) : ys.length ≤ xs.length := by
  rw [← limbs_val_chk hy hc]
  exact limbs_length_le.2 (Nat.lt_of_le_of_lt h (val_lt hx))
theorem SubInv.fin {m cy : Nat} {xs ys zs : List Nat} (h : SubInv m m cy xs ys zs) (hm : xs.length = m) (hy : ys.length ≤ m) (hv : val ys ≤ val xs) : Is32 zs ∧ val zs = val xs - val ys := by
  obtain ⟨outs, rfl, h3, h4, h5, h6⟩ := h
  rw [List.take_of_length_le (by omega), List.take_of_length_le (by omega)] at h6
  have a : val outs < 4294967296 ^ m := by rw [← h3]; exact val_lt h4
  have c : cy = 0 := borrow_none a hv h6
  subst c
  simp only [Nat.sub_self, List.replicate_zero, List.append_nil]
  rw [Nat.mul_zero, Nat.add_zero] at h6
  exact ⟨h4, by omega⟩
/-- The uppermost bit. -/
theorem top_bit {n : Nat} (h : n < 4294967296) : n / 2147483648 = (n.testBit 31).toNat := by
  rw [Nat.testBit_eq_decide_div_mod_eq, show (2:Nat) ^ 31 = 2147483648 from rfl]
  have : n / 2147483648 = 0 ∨ n / 2147483648 = 1 := by omega
  rcases this with e | e <;> rw [e] <;> rfl
theorem bit_of {n : Nat} (h : n < 4294967296) : n.testBit 31 = decide (2147483648 ≤ n) := by
  rw [Nat.testBit_eq_decide_div_mod_eq, show (2:Nat) ^ 31 = 2147483648 from rfl, decide_eq_decide]
  omega
theorem sub_borrow {x y z d : Nat} (hx : x < 4294967296) (hy : y < 4294967296) (hz : z < 2) (hd : d = subd x y z) :
    ((4294967295 ^^^ x) &&& y ||| (4294967295 ^^^ (x ^^^ y)) &&& d) / 2147483648 = subb x y z := by
  have hd' : d < 4294967296 := by rw [hd]; exact subd_lt _ _ _
  have e := sub_digit hx hy hz
  rw [← hd] at e
  have hxy : x ^^^ y < 2 ^ 32 := Nat.xor_lt_two_pow hx hy
  have h1 : 4294967295 ^^^ x < 2 ^ 32 := Nat.xor_lt_two_pow (by decide) hx
  have h2 : 4294967295 ^^^ (x ^^^ y) < 2 ^ 32 := Nat.xor_lt_two_pow (by decide) hxy
  have h3 : ((4294967295 ^^^ x) &&& y ||| (4294967295 ^^^ (x ^^^ y)) &&& d) < 2 ^ 32 := Nat.or_lt_two_pow (Nat.and_lt_two_pow _ hy) (Nat.and_lt_two_pow _ hd')
  rw [top_bit h3]
  simp only [Nat.testBit_or, Nat.testBit_and, Nat.testBit_xor, bit_of hx, bit_of hy, bit_of hd', bit_of (show 4294967295 < 4294967296 by decide)]
  have hb := subb_lt x y z
  generalize subb x y z = c at *
  clear hd hxy h1 h2 h3
  by_cases a : 2147483648 ≤ x <;> by_cases b : 2147483648 ≤ y <;> by_cases k : 2147483648 ≤ d <;> simp [a, b, k] <;> omega

/-- The pairs of parts, the highest first: the first k of m. -/
def prs (m k : Nat) (xs ys : List Nat) : List (Nat × Nat) := (List.range k).map fun j => (xs.getD (m - 1 - j) 0, ys.getD (m - 1 - j) 0)
theorem prs_succ (m k : Nat) (xs ys : List Nat) : prs m (k + 1) xs ys = prs m k xs ys ++ [(xs.getD (m - 1 - k) 0, ys.getD (m - 1 - k) 0)] := by simp [prs, List.range_succ]
theorem prs_length (m k : Nat) (xs ys : List Nat) : (prs m k xs ys).length = k := by simp [prs]
/-- The order of two numbers. -/
def cmpN (a b : Nat) : Int := if a < b then -1 else if a = b then 0 else 1
/-- What the first pair that differs tells. -/
def cmpP (ps : List (Nat × Nat)) : Option (Nat × Nat) := ps.find? fun p => decide (p.1 ≠ p.2)
def cmpR : Option (Nat × Nat) → Int
  | none => 0
  | some p => if p.1 < p.2 then -1 else 1
theorem cmpP_hit {ps : List (Nat × Nat)} {x : Nat × Nat} (h : cmpP ps = none) (hx : x.1 ≠ x.2) : cmpP (ps ++ [x]) = some x := by
  unfold cmpP at *; rw [List.find?_append, h]; simp [hx]
theorem cmpP_miss {ps : List (Nat × Nat)} {x : Nat × Nat} (h : cmpP ps = none) (hx : x.1 = x.2) : cmpP (ps ++ [x]) = none := by
  unfold cmpP at *; rw [List.find?_append, h]; simp [hx]
theorem drop_val (xs : List Nat) (j : Nat) : val (xs.drop j) = xs.getD j 0 + 4294967296 * val (xs.drop (j + 1)) := by
  by_cases h : j < xs.length
  · rw [drop_getD xs j h, val_cons]
  · rw [List.drop_of_length_le (by omega), List.drop_of_length_le (by omega), getD_ge (by omega)]; rfl
theorem drop_lt_of {xs ys : List Nat} (hx : Is32 xs) (j : Nat) (h : val (xs.drop j) < val (ys.drop j)) : val xs < val ys := by
  induction j with
  | zero => simpa using h
  | succ j ih =>
    refine ih ?_
    rw [drop_val xs j, drop_val ys j]
    have := is32_get hx j
    omega
theorem cmpP_prs {xs ys : List Nat} (hx : Is32 xs) (hy : Is32 ys) (m k : Nat) (hk : k ≤ m) (h1 : xs.length ≤ m) (h2 : ys.length ≤ m) :
    (cmpP (prs m k xs ys) = none ∧ val (xs.drop (m - k)) = val (ys.drop (m - k))) ∨ (∃ p, cmpP (prs m k xs ys) = some p ∧ cmpR (some p) = cmpN (val xs) (val ys)) := by
  induction k with
  | zero => refine .inl ⟨rfl, ?_⟩; rw [Nat.sub_zero, List.drop_of_length_le h1, List.drop_of_length_le h2]
  | succ k ih =>
    rcases ih (by omega) with ⟨h, e⟩ | ⟨p, h, e⟩
    · rw [prs_succ]
      have ex := drop_val xs (m - (k + 1))
      have ey := drop_val ys (m - (k + 1))
      rw [show m - (k + 1) + 1 = m - k from by omega] at ex ey
      rw [show m - 1 - k = m - (k + 1) from by omega]
      by_cases hxy : xs.getD (m - (k + 1)) 0 = ys.getD (m - (k + 1)) 0
      · exact .inl ⟨cmpP_miss h hxy, by rw [ex, ey, hxy, e]⟩
      · refine .inr ⟨_, cmpP_hit h hxy, ?_⟩
        have b1 := is32_get hx (m - (k + 1))
        have b2 := is32_get hy (m - (k + 1))
        show (if (xs.getD (m - (k + 1)) 0) < (ys.getD (m - (k + 1)) 0) then (-1 : Int) else 1) = cmpN _ _
        unfold cmpN
        by_cases hlt : xs.getD (m - (k + 1)) 0 < ys.getD (m - (k + 1)) 0
        · rw [if_pos hlt, if_pos (drop_lt_of hx (m - (k + 1)) (by omega))]
        · have := drop_lt_of (xs := ys) (ys := xs) hy (m - (k + 1)) (by omega)
          rw [if_neg hlt, if_neg (by omega), if_neg (by omega)]
    · refine .inr ⟨p, ?_, e⟩
      rw [prs_succ]
      unfold cmpP at h ⊢
      rw [List.find?_append, h]; rfl
theorem cmpR_prs {xs ys : List Nat} (hx : Is32 xs) (hy : Is32 ys) (m : Nat) (h1 : xs.length ≤ m) (h2 : ys.length ≤ m) : cmpR (cmpP (prs m m xs ys)) = cmpN (val xs) (val ys) := by
  rcases cmpP_prs hx hy m m (Nat.le_refl _) h1 h2 with ⟨h, e⟩ | ⟨p, h, e⟩
  · rw [h]
    simp only [Nat.sub_self, List.drop_zero] at e
    unfold cmpN cmpR
    rw [if_neg (by omega), if_pos e]
  · rw [h]; exact e
theorem cmpP_prefix {ps qs : List (Nat × Nat)} {p : Nat × Nat} (h : cmpP ps = some p) : cmpP (ps ++ qs) = some p := by
  unfold cmpP at *
  rw [List.find?_append, h]; rfl
theorem prs_prefix (m k : Nat) (hk : k ≤ m) (xs ys : List Nat) : ∃ qs, prs m m xs ys = prs m k xs ys ++ qs := by
  obtain ⟨d, rfl⟩ : ∃ d, m = k + d := ⟨m - k, by omega⟩
  exact ⟨_, by rw [prs, List.range_add, List.map_append]; rfl⟩
end Go.Proofs.YtcdejccbamjdoaaDoor
