/- the laws of rats: digits with a point among them, plain. -/
import Derived.Test.YtnpfochbpdfcmaaGreatDoorKl
import Derived.Test.YtnpfochbpdfcmaaGreatDoorKm
set_option linter.unusedVariables false
set_option linter.unusedSimpArgs false
set_option maxRecDepth 100000
namespace Go.Proofs.YtnpfochbpdfcmaaGreatDoor
open Go.RowKit

theorem num_from (l : List Nat) : ∀ a : Nat, l.foldl (fun a c => a * 10 + (c - 48)) a = a * 10 ^ l.length + num l := by
  induction l with
  | nil => intro a; simp [num]
  | cons c l ih =>
    intro a
    have h2 : num (c :: l) = (0 * 10 + (c - 48)) * 10 ^ l.length + num l := ih (0 * 10 + (c - 48))
    rw [List.foldl_cons, ih, h2, List.length_cons, Nat.pow_succ, Nat.zero_mul, Nat.zero_add, Nat.add_mul]
    generalize 10 ^ l.length = P
    rw [Nat.mul_assoc a 10 P, Nat.mul_comm 10 P]
    omega
theorem num_cons (c : Nat) (l : List Nat) : num (c :: l) = (c - 48) * 10 ^ l.length + num l := by
  have := num_from l (0 * 10 + (c - 48))
  rw [num, List.foldl_cons, this, Nat.zero_mul, Nat.zero_add]
theorem num_zeros (l : List Nat) (i : Nat) : num (l ++ List.replicate i 48) = num l * 10 ^ i := by
  induction i with
  | zero => simp
  | succ i ih =>
    rw [List.replicate_succ', ← List.append_assoc, num_snoc, ih, Nat.pow_succ, Nat.mul_assoc]
    omega
/-- The text so far: its digits, beside what is left of the number. -/
def PtI (n k mm : Nat) (l : List Nat) : Prop := (∀ x ∈ l, isDig x = true) ∧ num l + mm * 10 ^ l.length = n ∧ l.length ≤ 10 ∧ (mm = 0 → l.length ≤ k + 1 ∨ l.head? ≠ some 48)
theorem pt_start (n k : Nat) : PtI n k n [] := ⟨by simp, by simp [num], by simp, fun _ => .inl (by simp)⟩
theorem pt_step {n k mm : Nat} {l : List Nat} (hn : n < 4294967296) (hk : k ≤ 9) (h : PtI n k mm l) (hc : 0 < mm ∨ l.length ≤ k) : PtI n k (mm / 10) ((48 + mm % 10) :: l) := by
  obtain ⟨h1, h2, h3, h4⟩ := h
  refine ⟨?_, ?_, ?_, ?_⟩
  · intro x hx
    rcases List.mem_cons.1 hx with e | hx
    · subst e; simp [isDig]; omega
    · exact h1 x hx
  · rw [num_cons, List.length_cons, Nat.pow_succ, ← h2]
    generalize 10 ^ l.length = P
    have e : mm * P = (10 * (mm / 10) + mm % 10) * P := by rw [Nat.div_add_mod]
    rw [e, Nat.add_mul, show 48 + mm % 10 - 48 = mm % 10 by omega, show mm / 10 * (P * 10) = 10 * (mm / 10) * P by rw [Nat.mul_comm P 10, ← Nat.mul_assoc, Nat.mul_comm (mm / 10) 10]]
    omega
  · rw [List.length_cons]
    rcases Nat.eq_zero_or_pos mm with h0 | h0
    · rcases hc with hc | hc <;> omega
    · have h5 : 10 ^ l.length < 10 ^ 10 := by
        have : 1 * 10 ^ l.length ≤ mm * 10 ^ l.length := Nat.mul_le_mul_right _ h0
        have h6 : (10 : Nat) ^ 10 = 10000000000 := by decide
        rw [h6]
        generalize 10 ^ l.length = P at *
        omega
      have := (Nat.pow_lt_pow_iff_right (by decide : 1 < 10)).1 h5
      omega
  · intro h0
    rw [List.length_cons]
    rcases Nat.eq_zero_or_pos mm with h5 | h5
    · rcases hc with hc | hc
      · omega
      · exact .inl (by omega)
    · refine .inr ?_
      simp only [List.head?_cons, ne_eq, Option.some.injEq]
      omega
section
variable {n k : Nat} {l : List Nat}
theorem pt_ahead (h : PtI n k 0 l) (hk : k < l.length) (h1 : 1 ≤ k) : isNum (l.take (l.length - k)) = true := by
  obtain ⟨d, _, _, h4⟩ := h
  have hall : (l.take (l.length - k)).all isDig = true := List.all_eq_true.2 fun x hx => d x (List.mem_of_mem_take hx)
  have hl : (l.take (l.length - k)).length = l.length - k := by rw [List.length_take]; omega
  have hne : (l.take (l.length - k)).isEmpty = false := by
    rw [List.isEmpty_eq_false_iff]
    intro e
    rw [e] at hl
    simp at hl
    omega
  have h0 : (decide (1 < (l.take (l.length - k)).length) && (l.take (l.length - k)).head? == some 48) = false := by
    rw [hl]
    rcases h4 rfl with h5 | h5
    · rw [decide_eq_false (by omega)]; rfl
    · have : (l.take (l.length - k)).head? = l.head? := by
        cases l with
        | nil => exact absurd hk (Nat.not_lt_zero _)
        | cons a r =>
          rw [show (a :: r).length - k = ((a :: r).length - k - 1) + 1 by omega, List.take_succ_cons]
          rfl
      rw [this]
      have h6 : (l.head? == some 48) = false := by simpa using h5
      rw [h6, Bool.and_false]
  unfold isNum
  rw [hall, hne, h0]
  rfl
/-- The text: a point ahead of the last k digits, and so many noughts. -/
def ptT (l : List Nat) (k i : Nat) : List Nat := l.take (l.length - k) ++ 46 :: l.drop (l.length - k) ++ List.replicate i 48
theorem pt_split (h : PtI n k 0 l) (hk : k < l.length) (h1 : 1 ≤ k) (h9 : k ≤ 9) {i : Nat} (hi : i ≤ 20) : rsplit (ptT l k i) = some (l ++ List.replicate i 48, 49 :: List.replicate (k + i) 48) := by
  have d := h.1
  have e : ptT l k i = l.take (l.length - k) ++ 46 :: (l.drop (l.length - k) ++ List.replicate i 48) := by
    rw [ptT, List.append_assoc, List.cons_append]
  have hc : scut 46 (ptT l k i) = (l.take (l.length - k), l.drop (l.length - k) ++ List.replicate i 48, true) := by
    rw [e]
    exact scut_some (dig_ne (fun x hx => d x (List.mem_of_mem_take hx)) rfl)
  have hl : (l.drop (l.length - k) ++ List.replicate i 48).length = k + i := by simp; omega
  have hd : isDigs (l.drop (l.length - k) ++ List.replicate i 48) = true := by
    have h2 : (l.drop (l.length - k) ++ List.replicate i 48).all isDig = true := List.all_eq_true.2 fun x hx => by
      rcases List.mem_append.1 hx with hx | hx
      · exact d x (List.mem_of_mem_drop hx)
      · rw [List.eq_of_mem_replicate hx]; rfl
    have h3 : (l.drop (l.length - k) ++ List.replicate i 48).isEmpty = false := by
      rw [List.isEmpty_eq_false_iff]
      intro e
      rw [e] at hl
      simp at hl
      omega
    simp only [isDigs, h2, h3]; rfl
  unfold rsplit
  rw [hc]
  simp only [if_true]
  rw [pt_ahead h hk h1, hd, hl, Nat.min_eq_left (by omega)]
  simp only [Bool.and_self, if_true]
  rw [← List.append_assoc, List.take_append_drop]
theorem pt_isgn (h : PtI n k 0 l) (hk : k < l.length) (i : Nat) : isgn (ptT l k i) = (false, ptT l k i) := by
  unfold isgn
  have : (ptT l k i).head? ≠ some 45 := by
    cases l with
    | nil => simp at hk
    | cons a r =>
      unfold ptT
      rw [show (a :: r).length - k = ((a :: r).length - k - 1) + 1 by omega, List.take_succ_cons]
      simp only [List.cons_append, List.head?_cons, ne_eq, Option.some.injEq]
      intro e
      have := h.1 a List.mem_cons_self
      rw [e] at this
      cases this
  rw [if_neg this]
theorem mkRat_divInt (z : Int) (d : Nat) : mkRat z d = Rat.divInt z (d : Int) := rfl
theorem pt_mk (z : Int) (i : Nat) : mkRat (z * ((10 ^ i : Nat) : Int)) (10 ^ (k + i)) = Rat.divInt z ((10 ^ k : Nat) : Int) := by
  rw [mkRat_divInt, Nat.pow_add, Int.natCast_mul]
  exact Rat.divInt_mul_right (by have := Nat.pow_pos (n := i) (show 0 < 10 by decide); omega)
theorem pt_num (h : PtI n k 0 l) : num l = n := by have := h.2.1; omega
theorem pt_yes (h : PtI n k 0 l) (hk : k < l.length) (h1 : 1 ≤ k) (h9 : k ≤ 9) {i : Nat} (hi : i ≤ 20) : rmake (isgn (ptT l k i)).1 (rsplit (isgn (ptT l k i)).2) = .inl (Rat.divInt (n : Int) ((10 ^ k : Nat) : Int)) := by
  rw [pt_isgn h hk]
  show rmake false (rsplit (ptT l k i)) = _
  rw [pt_split h hk h1 h9 hi]
  have := h.2.2.1
  simp only [rmake]
  rw [if_neg (by simp), if_neg (by simp; omega), num_zeros, num_replicate, pt_num h]
  show Sum.inl (mkRat ((n * 10 ^ i : Nat) : Int) _) = _
  rw [Int.natCast_mul, pt_mk]
theorem pt_neg (h : PtI n k 0 l) (hk : k < l.length) (h1 : 1 ≤ k) (h9 : k ≤ 9) {i : Nat} (hi : i ≤ 20) (hn : n ≠ 0) : rmake (isgn (45 :: ptT l k i)).1 (rsplit (isgn (45 :: ptT l k i)).2) = .inl (Rat.divInt (-(n : Int)) ((10 ^ k : Nat) : Int)) := by
  show rmake true (rsplit (ptT l k i)) = _
  rw [pt_split h hk h1 h9 hi]
  have := h.2.2.1
  have hp := Nat.pow_pos (n := i) (show 0 < 10 by decide)
  have hz : n * 10 ^ i ≠ 0 := Nat.mul_ne_zero hn (by omega)
  simp only [rmake]
  rw [num_zeros, num_replicate, pt_num h, decide_eq_false hz, if_neg (by simp), if_neg (by simp; omega)]
  show Sum.inl (mkRat (-((n * 10 ^ i : Nat) : Int)) _) = _
  rw [Int.natCast_mul, ← Int.neg_mul, pt_mk]
theorem pt_none (h : PtI 0 k 0 l) (hk : k < l.length) (h1 : 1 ≤ k) (h9 : k ≤ 9) {i : Nat} (hi : i ≤ 20) : rmake (isgn (45 :: ptT l k i)).1 (rsplit (isgn (45 :: ptT l k i)).2) = .inr 4 := by
  show rmake true (rsplit (ptT l k i)) = _
  rw [pt_split h hk h1 h9 hi]
  simp only [rmake]
  rw [num_zeros, pt_num h, Nat.zero_mul]
  rfl
theorem ptT_zero (l : List Nat) (k : Nat) : ptT l k 0 = l.take (l.length - k) ++ 46 :: l.drop (l.length - k) := by simp [ptT]
theorem ptT_succ (l : List Nat) (k i : Nat) : ptT l k (i + 1) = ptT l k i ++ [48] := by
  unfold ptT
  rw [List.replicate_succ', ← List.append_assoc]
end
end Go.Proofs.YtnpfochbpdfcmaaGreatDoor
