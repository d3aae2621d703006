/- Plain lemmas: whole numbers and fractions as they are told; their texts; lists of fractions. -/
import Derived.Test.YtfpnhggbfakdkaaDoorLa
import Derived.Lib.IndexMore
import Derived.Lib.Repeat
/- Plain lemmas: whole numbers and fractions as they are told: a sign and parts. No program in sight. -/
set_option linter.unusedVariables false
set_option linter.unusedSimpArgs false
namespace Go.Proofs.YtfpnhggbfakdkaaDoor

/-! ### whole numbers -/
/-- A sign and an amount. -/
def sgn (b : Bool) (n : Nat) : Int := if b then -(n : Int) else n
theorem sgn_abs (b : Bool) (n : Nat) : (sgn b n).natAbs = n := by cases b <;> simp [sgn]
theorem sgn_neg (b : Bool) (n : Nat) : decide (sgn b n < 0) = (b && decide (n ≠ 0)) := by
  cases b
  · simp only [sgn, Bool.false_and, decide_eq_false_iff_not]; simp
  · rw [Bool.eq_iff_iff]; simp [sgn]; omega
theorem sgn_self (z : Int) : sgn (decide (z < 0)) z.natAbs = z := by
  unfold sgn
  split
  · next h => have h := of_decide_eq_true h; omega
  · next h => simp only [decide_eq_true_eq] at h; omega
/-- May a whole number of a sign and parts be? -/
def iok (b : Bool) (xs : List Nat) : Bool := chk xs && (!b || !xs.isEmpty)
/-- Its number, or 0. -/
def iv (b : Bool) (xs : List Nat) : Int := if iok b xs then sgn b (val xs) else 0
theorem iok_chk {b : Bool} {xs : List Nat} (h : iok b xs = true) : chk xs = true := by
  simp [iok] at h; exact h.1
theorem iv_ok {b : Bool} {xs : List Nat} (h : iok b xs = true) : iv b xs = sgn b (val xs) := by rw [iv, if_pos h]
theorem iv_no {b : Bool} {xs : List Nat} (h : iok b xs = false) : iv b xs = 0 := by rw [iv, if_neg (by rw [h]; decide)]
theorem val_ne_zero {xs : List Nat} (h : chk xs = true) (hn : xs ≠ []) : val xs ≠ 0 := fun e => hn (by
  have := (strip_nil_iff xs).2 e
  rwa [strip_of_chk h] at this)
theorem iok_neg {b : Bool} {xs : List Nat} (h : iok b xs = true) : decide (iv b xs < 0) = b := by
  rw [iv_ok h, sgn_neg]
  cases b
  · rfl
  · simp [iok] at h
    simpa using val_ne_zero h.1 h.2
theorem iok_abs {b : Bool} {xs : List Nat} (h : iok b xs = true) : (iv b xs).natAbs = val xs := by rw [iv_ok h, sgn_abs]
theorem iok_self (z : Int) : iok (decide (z < 0)) (limbs z.natAbs) = true := by
  simp only [iok, chk_limbs, Bool.true_and, Bool.or_eq_true, Bool.not_eq_true', decide_eq_false_iff_not, List.isEmpty_eq_false_iff, ne_eq, limbs_eq_nil]
  omega
theorem iv_self (z : Int) : iv (decide (z < 0)) (limbs z.natAbs) = z := by rw [iv_ok (iok_self z), val_limbs, sgn_self]
theorem iv_L {b : Bool} {xs : List Nat} (h : Is32 xs) : L (iv b xs).natAbs ≤ xs.length := by
  cases hk : iok b xs
  · rw [iv_no hk]; show L 0 ≤ _; rw [L_zero]; omega
  · rw [iok_abs hk]; exact L_val h
theorem natAbs_add_le {a b : Int} : (a + b).natAbs ≤ a.natAbs + b.natAbs := by omega
theorem Z_add {a b : Int} {k k' m : Nat} (h : L a.natAbs ≤ k) (h' : L b.natAbs ≤ k') (hm : max k k' < m) : L (a + b).natAbs ≤ m :=
  Nat.le_trans (L_mono natAbs_add_le) (L_add2 h h' hm)
theorem Z_sub {a b : Int} {k k' m : Nat} (h : L a.natAbs ≤ k) (h' : L b.natAbs ≤ k') (hm : max k k' < m) : L (a - b).natAbs ≤ m :=
  Nat.le_trans (L_mono (show (a - b).natAbs ≤ a.natAbs + b.natAbs by omega)) (L_add2 h h' hm)
theorem Z_mul {a b : Int} {k k' m : Nat} (h : L a.natAbs ≤ k) (h' : L b.natAbs ≤ k') (hm : k + k' ≤ m) : L (a * b).natAbs ≤ m := by
  rw [Int.natAbs_mul]; exact L_mul2 h h' hm
theorem Z_neg {a : Int} {k : Nat} (h : L a.natAbs ≤ k) : L (-a).natAbs ≤ k := by rw [Int.natAbs_neg]; exact h
/-- Below 0, 0, above 0. -/
def cmpI (a b : Int) : Int := if a < b then -1 else if a = b then 0 else 1
theorem cmpI_lt {a b : Int} (h : a < b) : cmpI a b = -1 := by rw [cmpI, if_pos h]
theorem cmpI_eq (a : Int) : cmpI a a = 0 := by rw [cmpI, if_neg (by omega), if_pos rfl]
theorem cmpI_gt {a b : Int} (h : b < a) : cmpI a b = 1 := by rw [cmpI, if_neg (by omega), if_neg (by omega)]
/-! ### fractions -/
/-- May a fraction of a sign and parts, and parts, be? -/
def rok (b : Bool) (xs ys : List Nat) : Bool := iok b xs && chk ys && !ys.isEmpty && decide (Nat.gcd (nv xs) (nv ys) = 1)
/-- Its number, or 0. -/
def rv (b : Bool) (xs ys : List Nat) : Rat := if rok b xs ys then mkRat (iv b xs) (val ys) else 0
theorem rok_parts {b : Bool} {xs ys : List Nat} (h : rok b xs ys = true) : iok b xs = true ∧ chk ys = true ∧ val ys ≠ 0 ∧ Nat.gcd (val xs) (val ys) = 1 := by
  simp only [rok, Bool.and_eq_true, Bool.not_eq_true', decide_eq_true_eq] at h
  obtain ⟨⟨⟨h1, h2⟩, h3⟩, h4⟩ := h
  refine ⟨h1, h2, val_ne_zero h2 (by simpa using h3), ?_⟩
  rwa [nv, if_pos (iok_chk h1), nv, if_pos h2] at h4
theorem mkRat_low {z : Int} {d : Nat} (hd : d ≠ 0) (h : Nat.gcd z.natAbs d = 1) : (mkRat z d).num = z ∧ (mkRat z d).den = d := by
  rw [Rat.num_mkRat, if_neg hd, Rat.den_mkRat, if_neg hd, Nat.gcd_comm, h]
  simp
theorem rv_ok {b : Bool} {xs ys : List Nat} (h : rok b xs ys = true) : (rv b xs ys).num = iv b xs ∧ (rv b xs ys).den = val ys := by
  obtain ⟨h1, h2, h3, h4⟩ := rok_parts h
  rw [rv, if_pos h]
  exact mkRat_low h3 (by rw [iok_abs h1]; exact h4)
theorem rv_no {b : Bool} {xs ys : List Nat} (h : rok b xs ys = false) : rv b xs ys = 0 := by rw [rv, if_neg (by rw [h]; decide)]
theorem rok_self (q : Rat) : rok (decide (q.num < 0)) (limbs q.num.natAbs) (limbs q.den) = true := by
  simp only [rok, iok_self, chk_limbs, Bool.true_and, Bool.and_eq_true, Bool.not_eq_true', List.isEmpty_eq_false_iff, ne_eq, limbs_eq_nil, decide_eq_true_eq, nv_limbs]
  exact ⟨q.den_nz, q.reduced⟩
theorem rv_self (q : Rat) : rv (decide (q.num < 0)) (limbs q.num.natAbs) (limbs q.den) = q := by
  rw [rv, if_pos (rok_self q), iv_self, val_limbs, Rat.mkRat_self]
/-- Not more parts than so many, above and below. -/
def H (q : Rat) (k : Nat) : Prop := L q.num.natAbs ≤ k ∧ L q.den ≤ k
theorem H.up {q : Rat} {k m : Nat} (h : H q k) (hm : k ≤ m) : H q m := ⟨Nat.le_trans h.1 hm, Nat.le_trans h.2 hm⟩
theorem natAbs_div (z : Int) (g : Nat) (h : g ∣ z.natAbs) : (z / (g : Int)).natAbs = z.natAbs / g := by
  rw [Int.natAbs_ediv_of_dvd (Int.ofNat_dvd_left.2 h)]; simp
theorem mk_num_abs {z : Int} {d : Nat} (hd : d ≠ 0) : (mkRat z d).num.natAbs = z.natAbs / Nat.gcd z.natAbs d := by
  rw [Rat.num_mkRat, if_neg hd, Nat.gcd_comm, natAbs_div _ _ (Nat.gcd_dvd_left _ _)]
theorem mk_den {z : Int} {d : Nat} (hd : d ≠ 0) : (mkRat z d).den = d / Nat.gcd z.natAbs d := by rw [Rat.den_mkRat, if_neg hd, Nat.gcd_comm]
theorem H_mk {z : Int} {d k : Nat} (hd : d ≠ 0) (h : L z.natAbs ≤ k) (h' : L d ≤ k) : H (mkRat z d) k :=
  ⟨by rw [mk_num_abs hd]; exact L_div h, by rw [mk_den hd]; exact L_div h'⟩
theorem mk_neg {z : Int} {d : Nat} (hd : d ≠ 0) : decide ((mkRat z d).num < 0) = decide (z < 0) := by
  rw [decide_eq_decide, Rat.num_mkRat, if_neg hd]
  have hg : 0 < Nat.gcd d z.natAbs := Nat.gcd_pos_of_pos_left _ (Nat.pos_of_ne_zero hd)
  have hdv : ((Nat.gcd d z.natAbs : Nat) : Int) ∣ z := Int.ofNat_dvd_left.2 (Nat.gcd_dvd_right _ _)
  generalize Nat.gcd d z.natAbs = g at *
  obtain ⟨c, rfl⟩ := hdv
  have hg' : (0 : Int) < g := by omega
  rw [Int.mul_ediv_cancel_left _ (by omega)]
  constructor
  · intro h; exact Int.mul_neg_of_pos_of_neg hg' h
  · intro h
    rcases Int.lt_or_le c 0 with h1 | h1
    · exact h1
    · have := Int.mul_nonneg (Int.le_of_lt hg') h1; omega
theorem H_cross {a b : Rat} {k k' m : Nat} (h : H a k) (h' : H b k') (hm : k + k' ≤ m) : L (a.num * (b.den : Int)).natAbs ≤ m ∧ L (b.num * (a.den : Int)).natAbs ≤ m ∧ L (a.den * b.den) ≤ m := by
  refine ⟨?_, ?_, L_mul2 h.2 h'.2 hm⟩
  · exact Z_mul h.1 (by simpa using h'.2) hm
  · exact Z_mul h'.1 (by simpa using h.2) (by omega)
theorem H_add {a b : Rat} {k k' m : Nat} (h : H a k) (h' : H b k') (hm : k + k' < m) : H (a + b) m := by
  rw [Rat.add_def']
  obtain ⟨h1, h2, h3⟩ := H_cross h h' (Nat.le_refl _)
  exact H_mk (Nat.mul_ne_zero a.den_nz b.den_nz) (Z_add h1 h2 (by omega)) (by omega)
theorem H_sub {a b : Rat} {k k' m : Nat} (h : H a k) (h' : H b k') (hm : k + k' < m) : H (a - b) m := by
  rw [Rat.sub_def']
  obtain ⟨h1, h2, h3⟩ := H_cross h h' (Nat.le_refl _)
  exact H_mk (Nat.mul_ne_zero a.den_nz b.den_nz) (Z_sub h1 h2 (by omega)) (by omega)
theorem H_mul {a b : Rat} {k k' m : Nat} (h : H a k) (h' : H b k') (hm : k + k' ≤ m) : H (a * b) m := by
  rw [Rat.mul_def']
  exact H_mk (Nat.mul_ne_zero a.den_nz b.den_nz) (Z_mul h.1 h'.1 hm) (L_mul2 h.2 h'.2 hm)
theorem H_inv {a : Rat} {k : Nat} (h : H a k) (hk : 1 ≤ k) : H a⁻¹ k := by
  refine ⟨?_, ?_⟩
  · rw [Rat.num_inv, Int.natAbs_mul]
    have h2 := h.2
    rcases Int.lt_trichotomy a.num 0 with h0 | h0 | h0
    · rw [Int.sign_eq_neg_one_of_neg h0]; simpa using h2
    · rw [h0]; show L (0 * _) ≤ _; rw [Nat.zero_mul, L_zero]; omega
    · rw [Int.sign_eq_one_of_pos h0]; simpa using h2
  · rw [Rat.den_inv]
    split
    · exact Nat.le_trans (L_small (by omega)) hk
    · exact h.1
theorem H_div {a b : Rat} {k k' m : Nat} (h : H a k) (h' : H b k') (hk : 1 ≤ k') (hm : k + k' ≤ m) : H (a / b) m := by
  rw [Rat.div_def]; exact H_mul h (H_inv h' hk) hm
theorem H_int {z : Int} {k : Nat} (h : L z.natAbs ≤ k) (hk : 1 ≤ k) : H (z : Rat) k := ⟨h, Nat.le_trans (L_small (N := 1) (by omega)) hk⟩
theorem H_zero {k : Nat} (hk : 1 ≤ k) : H 0 k := ⟨by show L 0 ≤ _; rw [L_zero]; omega, Nat.le_trans (L_small (N := 1) (by omega)) hk⟩
theorem H_rv {b : Bool} {xs ys : List Nat} {k : Nat} (h : Is32 xs) (h' : Is32 ys) (hx : xs.length ≤ k) (hy : ys.length ≤ k) (hk : 1 ≤ k) : H (rv b xs ys) k := by
  cases hr : rok b xs ys
  · rw [rv_no hr]; exact H_zero hk
  · obtain ⟨e1, e2⟩ := rv_ok hr
    exact ⟨by rw [e1]; exact Nat.le_trans (iv_L h) hx, by rw [e2]; exact Nat.le_trans (L_val h') hy⟩
/-- Below 0, 0, above 0. -/
def cmpQ (a b : Rat) : Int := if a < b then -1 else if a = b then 0 else 1
theorem cmpQ_lt {a b : Rat} (h : a < b) : cmpQ a b = -1 := by rw [cmpQ, if_pos h]
theorem cmpQ_eq (a : Rat) : cmpQ a a = 0 := by rw [cmpQ, if_neg Rat.lt_irrefl, if_pos rfl]
theorem cmpQ_gt {a b : Rat} (h : b < a) : cmpQ a b = 1 := by
  rw [cmpQ, if_neg, if_neg]
  · intro e; subst e; exact Rat.lt_irrefl h
  · rw [Rat.not_lt]; exact Rat.le_of_lt h
theorem rat_tri (a b : Rat) : a < b ∨ a = b ∨ b < a := by
  by_cases h : a < b
  · exact .inl h
  · rw [Rat.not_lt, Rat.le_iff_lt_or_eq] at h
    rcases h with h | h
    · exact .inr (.inr h)
    · exact .inr (.inl h.symm)
theorem cmpQ_cross (a b : Rat) : cmpI (a.num * b.den) (b.num * a.den) = cmpQ a b := by
  rcases rat_tri a b with h | h | h
  · rw [cmpQ_lt h, cmpI_lt ((Rat.lt_iff a b).1 h)]
  · subst h; rw [cmpQ_eq, cmpI_eq]
  · rw [cmpQ_gt h, cmpI_gt ((Rat.lt_iff b a).1 h)]
theorem cmpQ_zero (a : Rat) : cmpI a.num 0 = cmpQ a 0 := by
  have := cmpQ_cross a 0
  simpa using this
theorem make_pos {n d : Int} (h : 0 < d) : Rat.divInt n d = mkRat n d.natAbs := by
  obtain ⟨k, rfl⟩ := Int.eq_ofNat_of_zero_le (Int.le_of_lt h)
  rw [Rat.divInt_ofNat]; simp
theorem make_neg {n d : Int} (h : d < 0) : Rat.divInt n d = mkRat (-n) d.natAbs := by
  have : d = -((d.natAbs : Nat) : Int) := by omega
  conv => lhs; rw [this]
  rw [Rat.divInt_neg', Rat.divInt_ofNat]
theorem div_cross (a b : Rat) : Rat.divInt (a.num * b.den) (b.num * a.den) = a / b := by
  rw [Rat.div_def, Rat.inv_def]
  conv => rhs; rw [← Rat.num_divInt_den a]
  rw [Rat.divInt_mul_divInt, Int.mul_comm b.num]
end Go.Proofs.YtfpnhggbfakdkaaDoor

/- Plain lemmas: a fraction's text. No program in sight. -/
set_option linter.unusedVariables false
set_option linter.unusedSimpArgs false
namespace Go.Proofs.YtfpnhggbfakdkaaDoor

/-! ### a text that is cut at a sign -/
/-- A text cut at the first sign of a kind: what is ahead, what is behind, was there one. -/
def scut (c : Nat) (l : List Nat) : List Nat × List Nat × Bool := if l.contains c then (l.takeWhile (· != c), (l.dropWhile (· != c)).drop 1, true) else (l, [], false)
/-! ### a fraction's text -/
def isDigs (l : List Nat) : Bool := !l.isEmpty && l.all isDig
/-- The digits above, and those below, or none where the text is not in form. -/
def rsplit (l : List Nat) : Option (List Nat × List Nat) :=
  if (scut 46 l).2.2 then
    if isNum (scut 46 l).1 && isDigs (scut 46 l).2.1 then some ((scut 46 l).1 ++ (scut 46 l).2.1, 49 :: List.replicate (min (scut 46 l).2.1.length 200) 48) else none
  else
    if isNum (scut 47 l).1 && isNum (if (scut 47 l).2.2 then (scut 47 l).2.1 else [49]) && !decide ((if (scut 47 l).2.2 then (scut 47 l).2.1 else [49]) = [48]) then some ((scut 47 l).1, if (scut 47 l).2.2 then (scut 47 l).2.1 else [49]) else none
/-- A sign and digits, as a fraction, or an error's number. -/
def rmake (neg : Bool) : Option (List Nat × List Nat) → Rat ⊕ Int
  | none => .inr 4
  | some (a, d) => if neg && decide (num a = 0) then .inr 4 else if 200 < a.length ∨ 200 < d.length then .inr 3 else .inl (mkRat (sgn neg (num a)) (num d))

end Go.Proofs.YtfpnhggbfakdkaaDoor

/- Plain lemmas: lists of fractions, place by place. No program in sight. -/
set_option linter.unusedVariables false
set_option linter.unusedSimpArgs false
namespace Go.Proofs.YtfpnhggbfakdkaaDoor

/-- The sum of the products, from the left. -/
def dotA (s : Rat) : List (Rat × Rat) → Rat
  | [] => s
  | x :: l => dotA (s + x.1 * x.2) l
def dot (a b : List Rat) : Rat := dotA 0 (a.zip b)
/-- Each one of the first list and the one in its place, so many times. -/
def axpy (a b : List Rat) (t : Rat) : List Rat := (a.zip b).map fun x => x.1 + x.2 * t
theorem dotA_snoc (s : Rat) (l : List (Rat × Rat)) (x : Rat × Rat) : dotA s (l ++ [x]) = dotA s l + x.1 * x.2 := by
  induction l generalizing s with
  | nil => rfl
  | cons y l ih => exact ih _
theorem dotA_add (s t : Rat) (l : List (Rat × Rat)) : dotA (s + t) l = s + dotA t l := by
  induction l generalizing t with
  | nil => rfl
  | cons y l ih =>
    show dotA (s + t + y.1 * y.2) l = s + dotA (t + y.1 * y.2) l
    rw [← ih, Rat.add_assoc]
theorem dotA_eq (s : Rat) (l : List (Rat × Rat)) : dotA s l = s + dotA 0 l := by
  have := dotA_add s 0 l
  rwa [Rat.add_zero] at this
theorem dot_cons (x y : Rat) (a b : List Rat) : dot (x :: a) (y :: b) = x * y + dot a b := by
  show dotA (0 + x * y) (a.zip b) = _
  rw [dotA_eq, Rat.zero_add]; rfl
theorem dot_comm (a b : List Rat) : dot a b = dot b a := by
  induction a generalizing b with
  | nil => cases b <;> rfl
  | cons x a ih =>
    cases b with
    | nil => rfl
    | cons y b => rw [dot_cons, dot_cons, ih, Rat.mul_comm]
theorem axpy_cons (x y : Rat) (a b : List Rat) (t : Rat) : axpy (x :: a) (y :: b) t = (x + y * t) :: axpy a b t := rfl
theorem axpy_length (a b : List Rat) (t : Rat) (h : a.length = b.length) : (axpy a b t).length = a.length := by simp [axpy, h]
theorem dot_axpy (a b c : List Rat) (t : Rat) (h1 : a.length = b.length) (h2 : a.length = c.length) : dot (axpy a b t) c = dot a c + t * dot b c := by
  induction a generalizing b c with
  | nil =>
    cases b with
    | nil => show (0 : Rat) = 0 + t * 0; grind
    | cons y b => simp at h1
  | cons x a ih =>
    cases b with
    | nil => simp at h1
    | cons y b =>
      cases c with
      | nil => simp at h2
      | cons z c =>
        rw [axpy_cons, dot_cons, dot_cons, dot_cons, ih b c (by simpa using h1) (by simpa using h2)]
        grind
/-- Sizes: the sum of so many products. -/
theorem H_dotA {s : Rat} {k m : Nat} {l : List (Rat × Rat)} (hs : H s m) (hl : ∀ x ∈ l, H x.1 k ∧ H x.2 k) (hm : m + l.length * (2 * k + 1) ≤ 100000000000) : H (dotA s l) (m + l.length * (2 * k + 1)) := by
  induction l generalizing s m with
  | nil => simpa [dotA] using hs
  | cons x l ih =>
    obtain ⟨h1, h2⟩ := hl x List.mem_cons_self
    rw [List.length_cons, Nat.add_mul, Nat.one_mul] at hm ⊢
    have hp : H (x.1 * x.2) (k + k) := H_mul h1 h2 (by omega)
    have := ih (s := s + x.1 * x.2) (m := m + (k + k) + 1) (H_add hs hp (by omega)) (fun y hy => hl y (List.mem_cons_of_mem _ hy)) (by omega)
    exact this.up (by omega)
end Go.Proofs.YtfpnhggbfakdkaaDoor
