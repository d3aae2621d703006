/- Plain lemmas: whole numbers and fractions as they are told; their texts; lists of fractions. -/
import Derived.Test.YtkefmeddnncacaaGreatDoorLa
import Derived.Lib.IndexMore
import Derived.Lib.Repeat
/- Plain lemmas: whole numbers and fractions as they are told: a sign and parts. No program in sight. -/
set_option linter.unusedVariables false
set_option linter.unusedSimpArgs false
namespace Go.Proofs.YtkefmeddnncacaaGreatDoor

/-! ### whole numbers -/
/-- A sign and an amount. -/
def sgn (b : Bool) (n : Nat) : Int := if b then -(n : Int) else n
theorem sgn_abs (b : Bool) (n : Nat) : (sgn b n).natAbs = n := by cases b <;> simp [sgn]
theorem sgn_neg (b : Bool) (n : Nat) : decide (sgn b n < 0) = (b && decide (n ≠ 0)) := by
  cases b
  · simp only [sgn, Bool.false_and, decide_eq_false_iff_not]; simp
  · rw [Bool.eq_iff_iff]; simp [sgn]; omega
theorem sgn_self (z : Int) : sgn (decide (z < 0)) z.natAbs = z := by
  unfold sgn
  split
  · next h => have h := of_decide_eq_true h; omega
  · next h => simp only [decide_eq_true_eq] at h; omega
/-- May a whole number of a sign and parts be? -/
def iok (b : Bool) (xs : List Nat) : Bool := chk xs && (!b || !xs.isEmpty)
/-- Its number, or 0. -/
def iv (b : Bool) (xs : List Nat) : Int := if iok b xs then sgn b (val xs) else 0
theorem iok_chk {b : Bool} {xs : List Nat} (h : iok b xs = true) : chk xs = true := by
  simp [iok] at h; exact h.1
theorem iv_ok {b : Bool} {xs : List Nat} (h : iok b xs = true) : iv b xs = sgn b (val xs) := by rw [iv, if_pos h]
theorem iv_no {b : Bool} {xs : List Nat} (h : iok b xs = false) : iv b xs = 0 := by rw [iv, if_neg (by rw [h]; decide)]
theorem val_ne_zero {xs : List Nat} (h : chk xs = true) (hn : xs ≠ []) : val xs ≠ 0 := fun e => hn (by
  have := (strip_nil_iff xs).2 e
  rwa [strip_of_chk h] at this)
theorem iok_neg {b : Bool} {xs : List Nat} (h : iok b xs = true) : decide (iv b xs < 0) = b := by
  rw [iv_ok h, sgn_neg]
  cases b
  · rfl
  · simp [iok] at h
    simpa using val_ne_zero h.1 h.2
theorem iok_abs {b : Bool} {xs : List Nat} (h : iok b xs = true) : (iv b xs).natAbs = val xs := by rw [iv_ok h, sgn_abs]
theorem iok_self (z : Int) : iok (decide (z < 0)) (limbs z.natAbs) = true := by
  simp only [iok, chk_limbs, Bool.true_and, Bool.or_eq_true, Bool.not_eq_true', decide_eq_false_iff_not, List.isEmpty_eq_false_iff, ne_eq, limbs_eq_nil]
  omega
theorem iv_self (z : Int) : iv (decide (z < 0)) (limbs z.natAbs) = z := by rw [iv_ok (iok_self z), val_limbs, sgn_self]
theorem iv_L {b : Bool} {xs : List Nat} (h : Is32 xs) : L (iv b xs).natAbs ≤ xs.length := by
  cases hk : iok b xs
  · rw [iv_no hk]; show L 0 ≤ _; rw [L_zero]; omega
  · rw [iok_abs hk]; exact L_val h
theorem Z_neg {a : Int} {k : Nat} (h : L a.natAbs ≤ k) : L (-a).natAbs ≤ k := by rw [Int.natAbs_neg]; exact h
/-- Below 0, 0, above 0. -/
def cmpI (a b : Int) : Int := if a < b then -1 else if a = b then 0 else 1
/-! ### fractions -/
/-- May a fraction of a sign and parts, and parts, be? -/
def rok (b : Bool) (xs ys : List Nat) : Bool := iok b xs && chk ys && !ys.isEmpty && decide (Nat.gcd (nv xs) (nv ys) = 1)
/-- Its number, or 0. -/
def rv (b : Bool) (xs ys : List Nat) : Rat := if rok b xs ys then mkRat (iv b xs) (val ys) else 0
theorem rok_parts {b : Bool} {xs ys : List Nat} (h : rok b xs ys = true) : iok b xs = true ∧ chk ys = true ∧ val ys ≠ 0 ∧ Nat.gcd (val xs) (val ys) = 1 := by
  simp only [rok, Bool.and_eq_true, Bool.not_eq_true', decide_eq_true_eq] at h
  obtain ⟨⟨⟨h1, h2⟩, h3⟩, h4⟩ := h
  refine ⟨h1, h2, val_ne_zero h2 (by simpa using h3), ?_⟩
  rwa [nv, if_pos (iok_chk h1), nv, if_pos h2] at h4
theorem mkRat_low {z : Int} {d : Nat} (hd : d ≠ 0) (h : Nat.gcd z.natAbs d = 1) : (mkRat z d).num = z ∧ (mkRat z d).den = d := by
  rw [Rat.num_mkRat, if_neg hd, Rat.den_mkRat, if_neg hd, Nat.gcd_comm, h]
  simp
theorem rv_ok {b : Bool} {xs ys : List Nat} (h : rok b xs ys = true) : (rv b xs ys).num = iv b xs ∧ (rv b xs ys).den = val ys := by
  obtain ⟨h1, h2, h3, h4⟩ := rok_parts h
  rw [rv, if_pos h]
  exact mkRat_low h3 (by rw [iok_abs h1]; exact h4)
theorem rv_no {b : Bool} {xs ys : List Nat} (h : rok b xs ys = false) : rv b xs ys = 0 := by rw [rv, if_neg (by rw [h]; decide)]
theorem rok_self (q : Rat) : rok (decide (q.num < 0)) (limbs q.num.natAbs) (limbs q.den) = true := by
  simp only [rok, iok_self, chk_limbs, Bool.true_and, Bool.and_eq_true, Bool.not_eq_true', List.isEmpty_eq_false_iff, ne_eq, limbs_eq_nil, decide_eq_true_eq, nv_limbs]
  exact ⟨q.den_nz, q.reduced⟩
theorem rv_self (q : Rat) : rv (decide (q.num < 0)) (limbs q.num.natAbs) (limbs q.den) = q := by
  rw [rv, if_pos (rok_self q), iv_self, val_limbs, Rat.mkRat_self]
/-- Not more parts than so many, above and below. -/
def H (q : Rat) (k : Nat) : Prop := L q.num.natAbs ≤ k ∧ L q.den ≤ k
theorem H.up {q : Rat} {k m : Nat} (h : H q k) (hm : k ≤ m) : H q m := ⟨Nat.le_trans h.1 hm, Nat.le_trans h.2 hm⟩
theorem natAbs_div (z : Int) (g : Nat) (h : g ∣ z.natAbs) : (z / (g : Int)).natAbs = z.natAbs / g := by
  rw [Int.natAbs_ediv_of_dvd (Int.ofNat_dvd_left.2 h)]; simp
theorem mk_num_abs {z : Int} {d : Nat} (hd : d ≠ 0) : (mkRat z d).num.natAbs = z.natAbs / Nat.gcd z.natAbs d := by
  rw [Rat.num_mkRat, if_neg hd, Nat.gcd_comm, natAbs_div _ _ (Nat.gcd_dvd_left _ _)]
theorem mk_den {z : Int} {d : Nat} (hd : d ≠ 0) : (mkRat z d).den = d / Nat.gcd z.natAbs d := by rw [Rat.den_mkRat, if_neg hd, Nat.gcd_comm]
theorem mk_neg {z : Int} {d : Nat} (hd : d ≠ 0) : decide ((mkRat z d).num < 0) = decide (z < 0) := by
  rw [decide_eq_decide, Rat.num_mkRat, if_neg hd]
  have hg : 0 < Nat.gcd d z.natAbs := Nat.gcd_pos_of_pos_left _ (Nat.pos_of_ne_zero hd)
  have hdv : ((Nat.gcd d z.natAbs : Nat) : Int) ∣ z := Int.ofNat_dvd_left.2 (Nat.gcd_dvd_right _ _)
  generalize Nat.gcd d z.natAbs = g at *
  obtain ⟨c, rfl⟩ := hdv
  have hg' : (0 : Int) < g := by omega
  rw [Int.mul_ediv_cancel_left _ (by omega)]
  constructor
  · intro h; exact Int.mul_neg_of_pos_of_neg hg' h
  · intro h
    rcases Int.lt_or_le c 0 with h1 | h1
    · exact h1
    · have := Int.mul_nonneg (Int.le_of_lt hg') h1; omega
theorem H_zero {k : Nat} (hk : 1 ≤ k) : H 0 k := ⟨by show L 0 ≤ _; rw [L_zero]; omega, Nat.le_trans (L_small (N := 1) (by omega)) hk⟩
theorem H_rv {b : Bool} {xs ys : List Nat} {k : Nat} (h : Is32 xs) (h' : Is32 ys) (hx : xs.length ≤ k) (hy : ys.length ≤ k) (hk : 1 ≤ k) : H (rv b xs ys) k := by
  cases hr : rok b xs ys
  · rw [rv_no hr]; exact H_zero hk
  · obtain ⟨e1, e2⟩ := rv_ok hr
    exact ⟨by rw [e1]; exact Nat.le_trans (iv_L h) hx, by rw [e2]; exact Nat.le_trans (L_val h') hy⟩
/-- Below 0, 0, above 0. -/
def cmpQ (a b : Rat) : Int := if a < b then -1 else if a = b then 0 else 1
/-- The greatest whole number that is not greater, out of the quotient of amounts. -/
theorem floor_parts (a : Rat) : a.floor = if a.num < 0 then (if a.num.natAbs % a.den = 0 then -((a.num.natAbs / a.den : Nat) : Int) else -((a.num.natAbs / a.den : Nat) : Int) - 1) else ((a.num.natAbs / a.den : Nat) : Int) := by
  rw [Rat.floor_def]
  have hd := a.den_pos
  generalize a.den = d at *
  generalize a.num = n at *
  clear a
  split
  · next h =>
    obtain ⟨m, rfl⟩ : ∃ m : Nat, n = -(m : Int) := ⟨n.natAbs, by omega⟩
    simp only [Int.natAbs_neg, Int.natAbs_natCast]
    have e := Nat.div_add_mod m d
    have hm := Nat.mod_lt m hd
    generalize m / d = q at *
    generalize m % d = r at *
    subst e
    split
    · next h0 =>
      subst h0
      rw [Nat.add_zero, Int.natCast_mul, ← Int.mul_neg, Int.mul_ediv_cancel_left _ (by omega)]
    · next h0 =>
      rw [show -((d * q + r : Nat) : Int) = ((d : Int) - r) + d * (-(q : Int) - 1) from by rw [Int.natCast_add, Int.natCast_mul, Int.mul_sub, Int.mul_neg]; omega]
      rw [Int.add_mul_ediv_left _ _ (by omega), Int.ediv_eq_zero_of_lt (by omega) (by omega)]
      omega
  · next h =>
    obtain ⟨m, rfl⟩ := Int.eq_ofNat_of_zero_le (Int.not_lt.1 h)
    simp
end Go.Proofs.YtkefmeddnncacaaGreatDoor

/- Plain lemmas: a fraction's text. No program in sight. -/
set_option linter.unusedVariables false
set_option linter.unusedSimpArgs false
namespace Go.Proofs.YtkefmeddnncacaaGreatDoor

/-! ### a text that is cut at a sign -/
theorem ix_one : ∀ (l : List UInt8) (c : UInt8), Lib.index l [c] = if l.contains c then ((l.takeWhile (· != c)).length : Int) else -1
  | [], c => by simp [Lib.index]
  | b :: l, c => by
    have ih := ix_one l c
    by_cases h : b = c
    · subst h
      simp [Lib.index, List.isPrefixOf]
    · have h1 : (c == b) = false := by simpa using fun e => h e.symm
      have h2 : (b != c) = true := by simpa using h
      have h3 : [c].isPrefixOf (b :: l) = false := by simp [List.isPrefixOf, h1]
      rw [Lib.index, h3, ih, List.contains_cons, h1, List.takeWhile_cons, h2]
      cases hc : l.contains c
      · simp
      · simp only [Bool.false_or, if_true, List.length_cons, Bool.false_eq_true, if_false]
        rw [if_neg]
        · omega
        · simp only [beq_iff_eq]; omega
theorem take_tw {α : Type} (p : α → Bool) : ∀ l : List α, l.take (l.takeWhile p).length = l.takeWhile p
  | [] => rfl
  | a :: l => by
    rw [List.takeWhile_cons]
    cases p a
    · rfl
    · simp [take_tw p l]
theorem drop_tw {α : Type} (p : α → Bool) : ∀ l : List α, l.drop ((l.takeWhile p).length + 1) = (l.dropWhile p).drop 1
  | [] => rfl
  | a :: l => by
    rw [List.takeWhile_cons, List.dropWhile_cons]
    cases p a
    · rfl
    · simp only [if_true, List.length_cons, List.drop_succ_cons]; exact drop_tw p l
theorem cut_one (l : List UInt8) (c : UInt8) : Lib.cut l [c] = if l.contains c then (l.takeWhile (· != c), (l.dropWhile (· != c)).drop 1, true) else (l, [], false) := by
  unfold Lib.cut
  rw [ix_one]
  cases l.contains c
  · rfl
  · simp only [if_true, List.length_singleton]
    rw [if_pos (by omega), Int.toNat_natCast, take_tw, drop_tw]
/-- A text cut at the first sign of a kind: what is ahead, what is behind, was there one. -/
def scut (c : Nat) (l : List Nat) : List Nat × List Nat × Bool := if l.contains c then (l.takeWhile (· != c), (l.dropWhile (· != c)).drop 1, true) else (l, [], false)
theorem cut_map (l : List UInt8) (c : UInt8) : ((Lib.cut l [c]).1.map UInt8.toNat, (Lib.cut l [c]).2.1.map UInt8.toNat, (Lib.cut l [c]).2.2) = scut c.toNat (l.map UInt8.toNat) := by
  rw [cut_one, scut]
  have hc : ∀ b : UInt8, (b.toNat != c.toNat) = (b != c) := fun b => by
    rw [Bool.eq_iff_iff]; simp [UInt8.toNat_inj]
  have h1 : (l.map UInt8.toNat).contains c.toNat = l.contains c := by
    rw [Bool.eq_iff_iff, List.contains_iff_mem, List.contains_iff_mem, List.mem_map]
    exact ⟨fun ⟨b, hb, e⟩ => by rw [← UInt8.toNat_inj.1 e]; exact hb, fun h => ⟨c, h, rfl⟩⟩
  rw [h1]
  cases l.contains c
  · rfl
  · simp only [if_true]
    rw [List.takeWhile_map, List.dropWhile_map, List.map_drop]
    simp only [Function.comp_def, hc]

/-! ### a fraction's text -/
def isDigs (l : List Nat) : Bool := !l.isEmpty && l.all isDig
/-- The digits above, and those below, or none where the text is not in form. -/
def rsplit (l : List Nat) : Option (List Nat × List Nat) :=
  if (scut 46 l).2.2 then
    if isNum (scut 46 l).1 && isDigs (scut 46 l).2.1 then some ((scut 46 l).1 ++ (scut 46 l).2.1, 49 :: List.replicate (min (scut 46 l).2.1.length 200) 48) else none
  else
    if isNum (scut 47 l).1 && isNum (if (scut 47 l).2.2 then (scut 47 l).2.1 else [49]) && !decide ((if (scut 47 l).2.2 then (scut 47 l).2.1 else [49]) = [48]) then some ((scut 47 l).1, if (scut 47 l).2.2 then (scut 47 l).2.1 else [49]) else none
/-- A sign and digits, as a fraction, or an error's number. -/
def rmake (neg : Bool) : Option (List Nat × List Nat) → Rat ⊕ Int
  | none => .inr 4
  | some (a, d) => if neg && decide (num a = 0) then .inr 4 else if 200 < a.length ∨ 200 < d.length then .inr 3 else .inl (mkRat (sgn neg (num a)) (num d))

theorem num_cons0 (l : List Nat) : num (48 :: l) = num l := rfl
theorem num_drop0 : ∀ l : List Nat, num (l.dropWhile (· == 48)) = num l
  | [] => rfl
  | a :: l => by
    rw [List.dropWhile_cons]
    by_cases h : a = 48
    · subst h; simp only [BEq.rfl, if_true]; rw [num_drop0 l, num_cons0]
    · rw [if_neg (by simpa using h)]
theorem drop0_nil {l : List Nat} : l.dropWhile (· == 48) = [] ↔ ∀ x ∈ l, x = 48 := by
  induction l with
  | nil => simp
  | cons a l ih =>
    rw [List.dropWhile_cons]
    by_cases h : a = 48
    · subst h; simp [ih]
    · rw [if_neg (by simpa using h)]; simp [h]
theorem drop0_head (l : List Nat) : (l.dropWhile (· == 48)).head? ≠ some 48 := by
  induction l with
  | nil => simp
  | cons a l ih =>
    rw [List.dropWhile_cons]
    by_cases h : a = 48
    · subst h; simpa using ih
    · rw [if_neg (by simpa using h)]; simp [h]
theorem drop0_num {l : List Nat} (h : ∀ x ∈ l, isDig x = true) (hne : l.dropWhile (· == 48) ≠ []) : isNum (l.dropWhile (· == 48)) = true := by
  have h1 : (l.dropWhile (· == 48)).all isDig = true := List.all_eq_true.2 fun x hx => h x ((List.dropWhile_sublist _).subset hx)
  have h2 : (l.dropWhile (· == 48)).isEmpty = false := by simpa using hne
  have h3 := drop0_head l
  have h4 : ((l.dropWhile (· == 48)).head? == some 48) = false := by simpa using h3
  simp [isNum, h1, h2, h4]
theorem num0_iff {l : List Nat} (h : ∀ x ∈ l, isDig x = true) : num l = 0 ↔ ∀ x ∈ l, x = 48 := by
  constructor
  · intro h0
    rw [← drop0_nil]
    cases hd : l.dropWhile (· == 48) with
    | nil => rfl
    | cons a r =>
      exfalso
      have hn := drop0_num h (by rw [hd]; simp)
      have e := txt_num hn
      rw [num_drop0, h0, hd] at e
      have h3 := drop0_head l
      rw [hd, ← e] at h3
      exact h3 rfl
  · intro h0
    rw [← num_drop0, drop0_nil.2 h0]; rfl
theorem isDigs_all {l : List Nat} (h : isDigs l = true) : ∀ x ∈ l, isDig x = true := by
  simp only [isDigs, Bool.and_eq_true] at h
  exact List.all_eq_true.1 h.2
theorem isNum_all {l : List Nat} (h : isNum l = true) : ∀ x ∈ l, isDig x = true := by
  simp only [isNum, Bool.and_eq_true] at h
  exact List.all_eq_true.1 h.1.2
theorem isNum_digs {l : List Nat} (h : isNum l = true) : isDigs l = true := by
  simp only [isNum, Bool.and_eq_true] at h
  simp [isDigs, h.1]
theorem dig58 {l : List Nat} (h : ∀ x ∈ l, isDig x = true) : ∀ x ∈ l, x < 58 := fun x hx => by
  have := h x hx
  simp [isDig] at this
  omega
theorem num_replicate (k : Nat) : num (49 :: List.replicate k 48) = 10 ^ k := by
  induction k with
  | zero => rfl
  | succ k ih =>
    rw [List.replicate_succ', ← List.cons_append, num_snoc, ih, Nat.pow_succ]
    omega
theorem pow10_all (k : Nat) : ∀ x ∈ 49 :: List.replicate k 48, isDig x = true := by
  intro x hx
  rcases List.mem_cons.1 hx with e | hx
  · subst e; rfl
  · rw [List.eq_of_mem_replicate hx]; rfl
theorem rsplit_all {l a d : List Nat} (h : rsplit l = some (a, d)) : (∀ x ∈ a, isDig x = true) ∧ (∀ x ∈ d, isDig x = true) ∧ num d ≠ 0 := by
  unfold rsplit at h
  split at h
  · split at h
    · next h1 =>
      simp only [Bool.and_eq_true] at h1
      simp only [Option.some.injEq, Prod.mk.injEq] at h
      obtain ⟨rfl, rfl⟩ := h
      refine ⟨fun x hx => ?_, pow10_all _, ?_⟩
      · rcases List.mem_append.1 hx with hx | hx
        · exact isNum_all h1.1 x hx
        · exact isDigs_all h1.2 x hx
      · rw [num_replicate]
        exact Nat.ne_of_gt (Nat.pow_pos (by omega))
    · cases h
  · generalize (if (scut 47 l).2.2 then (scut 47 l).2.1 else [49]) = d' at *
    split at h
    · next h1 =>
      simp only [Bool.and_eq_true, Bool.not_eq_true', decide_eq_false_iff_not] at h1
      simp only [Option.some.injEq, Prod.mk.injEq] at h
      obtain ⟨rfl, rfl⟩ := h
      refine ⟨isNum_all h1.1.1, isNum_all h1.1.2, fun e => h1.2 ?_⟩
      have := txt_num h1.1.2
      rw [e] at this
      exact this.symm
    · cases h
end Go.Proofs.YtkefmeddnncacaaGreatDoor

/- Plain lemmas: lists of fractions, place by place. No program in sight. -/
set_option linter.unusedVariables false
set_option linter.unusedSimpArgs false
namespace Go.Proofs.YtkefmeddnncacaaGreatDoor

/-- The sum of the products, from the left. -/
def dotA (s : Rat) : List (Rat × Rat) → Rat
  | [] => s
  | x :: l => dotA (s + x.1 * x.2) l
def dot (a b : List Rat) : Rat := dotA 0 (a.zip b)
/-- Each one of the first list and the one in its place, so many times. -/
def axpy (a b : List Rat) (t : Rat) : List Rat := (a.zip b).map fun x => x.1 + x.2 * t
end Go.Proofs.YtkefmeddnncacaaGreatDoor
