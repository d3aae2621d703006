/- Plain lemmas: whole numbers and fractions as they are told; their texts; lists of fractions. -/
import Derived.Test.YtkefmeddnncacaaDoorLa
import Derived.Lib.IndexMore
import Derived.Lib.Repeat
/- Plain lemmas: whole numbers and fractions as they are told: a sign and parts. No program in sight. -/
set_option linter.unusedVariables false
set_option linter.unusedSimpArgs false
namespace Go.Proofs.YtkefmeddnncacaaDoor

/-! ### whole numbers -/
/-- A sign and an amount. -/
def sgn (b : Bool) (n : Nat) : Int := if b then -(n : Int) else n
theorem sgn_abs (b : Bool) (n : Nat) : (sgn b n).natAbs = n := by cases b <;> simp [sgn]
theorem sgn_neg (b : Bool) (n : Nat) : decide (sgn b n < 0) = (b && decide (n ≠ 0)) := by
  cases b
  · simp only [sgn, Bool.false_and, decide_eq_false_iff_not]; simp
  · rw [Bool.eq_iff_iff]; simp [sgn]; omega
theorem sgn_self (z : Int) : sgn (decide (z < 0)) z.natAbs = z := by
  unfold sgn
  split
  · next h => have h := of_decide_eq_true h; omega
  · next h => simp only [decide_eq_true_eq] at h; omega
/-- May a whole number of a sign and parts be? -/
def iok (b : Bool) (xs : List Nat) : Bool := chk xs && (!b || !xs.isEmpty)
/-- Its number, or 0. -/
def iv (b : Bool) (xs : List Nat) : Int := if iok b xs then sgn b (val xs) else 0
theorem iok_chk {b : Bool} {xs : List Nat} (h : iok b xs = true) : chk xs = true := by
  simp [iok] at h; exact h.1
theorem iv_ok {b : Bool} {xs : List Nat} (h : iok b xs = true) : iv b xs = sgn b (val xs) := by rw [iv, if_pos h]
theorem iv_no {b : Bool} {xs : List Nat} (h : iok b xs = false) : iv b xs = 0 := by rw [iv, if_neg (by rw [h]; decide)]
theorem val_ne_zero {xs : List Nat} (h : chk xs = true) (hn : xs ≠ []) : val xs ≠ 0 := fun e => hn (by
  have := (strip_nil_iff xs).2 e
  rwa [strip_of_chk h] at this)
theorem iok_neg {b : Bool} {xs : List Nat} (h : iok b xs = true) : decide (iv b xs < 0) = b := by
  rw [iv_ok h, sgn_neg]
  cases b
  · rfl
  · simp [iok] at h
    simpa using val_ne_zero h.1 h.2
theorem iok_abs {b : Bool} {xs : List Nat} (h : iok b xs = true) : (iv b xs).natAbs = val xs := by rw [iv_ok h, sgn_abs]
theorem iok_self (z : Int) : iok (decide (z < 0)) (limbs z.natAbs) = true := by
  simp only [iok, chk_limbs, Bool.true_and, Bool.or_eq_true, Bool.not_eq_true', decide_eq_false_iff_not, List.isEmpty_eq_false_iff, ne_eq, limbs_eq_nil]
  omega
theorem iv_self (z : Int) : iv (decide (z < 0)) (limbs z.natAbs) = z := by rw [iv_ok (iok_self z), val_limbs, sgn_self]
theorem iv_L {b : Bool} {xs : List Nat} (h : Is32 xs) : L (iv b xs).natAbs ≤ xs.length := by
  cases hk : iok b xs
  · rw [iv_no hk]; show L 0 ≤ _; rw [L_zero]; omega
  · rw [iok_abs hk]; exact L_val h
theorem Z_sub {a b : Int} {k k' m : Nat} (h : L a.natAbs ≤ k) (h' : L b.natAbs ≤ k') (hm : max k k' < m) : L (a - b).natAbs ≤ m :=
  Nat.le_trans (L_mono (show (a - b).natAbs ≤ a.natAbs + b.natAbs by omega)) (L_add2 h h' hm)
theorem Z_mul {a b : Int} {k k' m : Nat} (h : L a.natAbs ≤ k) (h' : L b.natAbs ≤ k') (hm : k + k' ≤ m) : L (a * b).natAbs ≤ m := by
  rw [Int.natAbs_mul]; exact L_mul2 h h' hm
theorem Z_neg {a : Int} {k : Nat} (h : L a.natAbs ≤ k) : L (-a).natAbs ≤ k := by rw [Int.natAbs_neg]; exact h
/-- Below 0, 0, above 0. -/
def cmpI (a b : Int) : Int := if a < b then -1 else if a = b then 0 else 1
theorem cmpI_lt {a b : Int} (h : a < b) : cmpI a b = -1 := by rw [cmpI, if_pos h]
theorem cmpI_eq (a : Int) : cmpI a a = 0 := by rw [cmpI, if_neg (by omega), if_pos rfl]
theorem cmpI_gt {a b : Int} (h : b < a) : cmpI a b = 1 := by rw [cmpI, if_neg (by omega), if_neg (by omega)]
/-! ### fractions -/
/-- May a fraction of a sign and parts, and parts, be? -/
def rok (b : Bool) (xs ys : List Nat) : Bool := iok b xs && chk ys && !ys.isEmpty && decide (Nat.gcd (nv xs) (nv ys) = 1)
/-- Its number, or 0. -/
def rv (b : Bool) (xs ys : List Nat) : Rat := if rok b xs ys then mkRat (iv b xs) (val ys) else 0
theorem rok_parts {b : Bool} {xs ys : List Nat} (h : rok b xs ys = true) : iok b xs = true ∧ chk ys = true ∧ val ys ≠ 0 ∧ Nat.gcd (val xs) (val ys) = 1 := by
  simp only [rok, Bool.and_eq_true, Bool.not_eq_true', decide_eq_true_eq] at h
  obtain ⟨⟨⟨h1, h2⟩, h3⟩, h4⟩ := h
  refine ⟨h1, h2, val_ne_zero h2 (by simpa using h3), ?_⟩
  rwa [nv, if_pos (iok_chk h1), nv, if_pos h2] at h4
theorem mkRat_low {z : Int} {d : Nat} (hd : d ≠ 0) (h : Nat.gcd z.natAbs d = 1) : (mkRat z d).num = z ∧ (mkRat z d).den = d := by
  rw [Rat.num_mkRat, if_neg hd, Rat.den_mkRat, if_neg hd, Nat.gcd_comm, h]
  simp
theorem rv_ok {b : Bool} {xs ys : List Nat} (h : rok b xs ys = true) : (rv b xs ys).num = iv b xs ∧ (rv b xs ys).den = val ys := by
  obtain ⟨h1, h2, h3, h4⟩ := rok_parts h
  rw [rv, if_pos h]
  exact mkRat_low h3 (by rw [iok_abs h1]; exact h4)
theorem rv_no {b : Bool} {xs ys : List Nat} (h : rok b xs ys = false) : rv b xs ys = 0 := by rw [rv, if_neg (by rw [h]; decide)]
theorem rok_self (q : Rat) : rok (decide (q.num < 0)) (limbs q.num.natAbs) (limbs q.den) = true := by
  simp only [rok, iok_self, chk_limbs, Bool.true_and, Bool.and_eq_true, Bool.not_eq_true', List.isEmpty_eq_false_iff, ne_eq, limbs_eq_nil, decide_eq_true_eq, nv_limbs]
  exact ⟨q.den_nz, q.reduced⟩
theorem rv_self (q : Rat) : rv (decide (q.num < 0)) (limbs q.num.natAbs) (limbs q.den) = q := by
  rw [rv, if_pos (rok_self q), iv_self, val_limbs, Rat.mkRat_self]
/-- Not more parts than so many, above and below. -/
def H (q : Rat) (k : Nat) : Prop := L q.num.natAbs ≤ k ∧ L q.den ≤ k
theorem H.up {q : Rat} {k m : Nat} (h : H q k) (hm : k ≤ m) : H q m := ⟨Nat.le_trans h.1 hm, Nat.le_trans h.2 hm⟩
theorem H_cross {a b : Rat} {k k' m : Nat} (h : H a k) (h' : H b k') (hm : k + k' ≤ m) : L (a.num * (b.den : Int)).natAbs ≤ m ∧ L (b.num * (a.den : Int)).natAbs ≤ m ∧ L (a.den * b.den) ≤ m := by
  refine ⟨?_, ?_, L_mul2 h.2 h'.2 hm⟩
  · exact Z_mul h.1 (by simpa using h'.2) hm
  · exact Z_mul h'.1 (by simpa using h.2) (by omega)
theorem H_zero {k : Nat} (hk : 1 ≤ k) : H 0 k := ⟨by show L 0 ≤ _; rw [L_zero]; omega, Nat.le_trans (L_small (N := 1) (by omega)) hk⟩
theorem H_rv {b : Bool} {xs ys : List Nat} {k : Nat} (h : Is32 xs) (h' : Is32 ys) (hx : xs.length ≤ k) (hy : ys.length ≤ k) (hk : 1 ≤ k) : H (rv b xs ys) k := by
  cases hr : rok b xs ys
  · rw [rv_no hr]; exact H_zero hk
  · obtain ⟨e1, e2⟩ := rv_ok hr
    exact ⟨by rw [e1]; exact Nat.le_trans (iv_L h) hx, by rw [e2]; exact Nat.le_trans (L_val h') hy⟩
/-- Below 0, 0, above 0. -/
def cmpQ (a b : Rat) : Int := if a < b then -1 else if a = b then 0 else 1
theorem cmpQ_lt {a b : Rat} (h : a < b) : cmpQ a b = -1 := by rw [cmpQ, if_pos h]
theorem cmpQ_eq (a : Rat) : cmpQ a a = 0 := by rw [cmpQ, if_neg Rat.lt_irrefl, if_pos rfl]
theorem cmpQ_gt {a b : Rat} (h : b < a) : cmpQ a b = 1 := by
  rw [cmpQ, if_neg, if_neg]
  · intro e; subst e; exact Rat.lt_irrefl h
  · rw [Rat.not_lt]; exact Rat.le_of_lt h
theorem rat_tri (a b : Rat) : a < b ∨ a = b ∨ b < a := by
  by_cases h : a < b
  · exact .inl h
  · rw [Rat.not_lt, Rat.le_iff_lt_or_eq] at h
    rcases h with h | h
    · exact .inr (.inr h)
    · exact .inr (.inl h.symm)
theorem cmpQ_cross (a b : Rat) : cmpI (a.num * b.den) (b.num * a.den) = cmpQ a b := by
  rcases rat_tri a b with h | h | h
  · rw [cmpQ_lt h, cmpI_lt ((Rat.lt_iff a b).1 h)]
  · subst h; rw [cmpQ_eq, cmpI_eq]
  · rw [cmpQ_gt h, cmpI_gt ((Rat.lt_iff b a).1 h)]
end Go.Proofs.YtkefmeddnncacaaDoor

/- Plain lemmas: a fraction's text. No program in sight. -/
set_option linter.unusedVariables false
set_option linter.unusedSimpArgs false
namespace Go.Proofs.YtkefmeddnncacaaDoor

/-! ### a text that is cut at a sign -/
/-- A text cut at the first sign of a kind: what is ahead, what is behind, was there one. -/
def scut (c : Nat) (l : List Nat) : List Nat × List Nat × Bool := if l.contains c then (l.takeWhile (· != c), (l.dropWhile (· != c)).drop 1, true) else (l, [], false)
/-! ### a fraction's text -/
def isDigs (l : List Nat) : Bool := !l.isEmpty && l.all isDig
/-- The digits above, and those below, or none where the text is not in form. -/
def rsplit (l : List Nat) : Option (List Nat × List Nat) :=
  if (scut 46 l).2.2 then
    if isNum (scut 46 l).1 && isDigs (scut 46 l).2.1 then some ((scut 46 l).1 ++ (scut 46 l).2.1, 49 :: List.replicate (min (scut 46 l).2.1.length 200) 48) else none
  else
    if isNum (scut 47 l).1 && isNum (if (scut 47 l).2.2 then (scut 47 l).2.1 else [49]) && !decide ((if (scut 47 l).2.2 then (scut 47 l).2.1 else [49]) = [48]) then some ((scut 47 l).1, if (scut 47 l).2.2 then (scut 47 l).2.1 else [49]) else none
/-- A sign and digits, as a fraction, or an error's number. -/
def rmake (neg : Bool) : Option (List Nat × List Nat) → Rat ⊕ Int
  | none => .inr 4
  | some (a, d) => if neg && decide (num a = 0) then .inr 4 else if 200 < a.length ∨ 200 < d.length then .inr 3 else .inl (mkRat (sgn neg (num a)) (num d))

end Go.Proofs.YtkefmeddnncacaaDoor

/- Plain lemmas: lists of fractions, place by place. No program in sight. -/
set_option linter.unusedVariables false
set_option linter.unusedSimpArgs false
namespace Go.Proofs.YtkefmeddnncacaaDoor

/-- The sum of the products, from the left. -/
def dotA (s : Rat) : List (Rat × Rat) → Rat
  | [] => s
  | x :: l => dotA (s + x.1 * x.2) l
def dot (a b : List Rat) : Rat := dotA 0 (a.zip b)
/-- Each one of the first list and the one in its place, so many times. -/
def axpy (a b : List Rat) (t : Rat) : List Rat := (a.zip b).map fun x => x.1 + x.2 * t
end Go.Proofs.YtkefmeddnncacaaDoor
