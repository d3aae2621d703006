/- Plain lemmas: the number of a text. No program in sight. -/
import Derived.Test.YtcdejccbamjdoaaDoorLe
import Derived.Test.YtcdejccbamjdoaaDoorLm
set_option linter.unusedVariables false
set_option linter.unusedSimpArgs false
namespace Go.Proofs.YtcdejccbamjdoaaDoor

theorem snoc_ind {P : List Nat → Prop} (h0 : P []) (h1 : ∀ l c, P l → P (l ++ [c])) (l : List Nat) : P l := by
  have : ∀ n (l : List Nat), l.length = n → P l := by
    intro n
    induction n with
    | zero => intro l hl; rw [List.eq_nil_of_length_eq_zero hl]; exact h0
    | succ n ih =>
      intro l hl
      have hne : l ≠ [] := by intro q; subst q; simp at hl
      rw [← List.dropLast_concat_getLast hne]
      exact h1 _ _ (ih _ (by rw [List.length_dropLast, hl]; rfl))
  exact this l.length l rfl
def num (l : List Nat) : Nat := l.foldl (fun a c => a * 10 + (c - 48)) 0
def isDig (c : Nat) : Bool := decide (48 ≤ c) && decide (c < 58)
theorem num_snoc (l : List Nat) (c : Nat) : num (l ++ [c]) = num l * 10 + (c - 48) := by simp [num]
theorem num_lt (l : List Nat) (h : ∀ c ∈ l, c < 58) : num l < 10 ^ l.length := by
  revert h
  refine snoc_ind (P := fun l => (∀ c ∈ l, c < 58) → num l < 10 ^ l.length) ?_ ?_ l
  · intro _; simp [num]
  · intro l c ih h
    rw [num_snoc, List.length_append, List.length_singleton, Nat.pow_succ]
    have := ih fun x hx => h x (List.mem_append_left _ hx)
    have := h c (by simp)
    omega
/-- A text is a number's: digits, one at least, none of 0 ahead of others. -/
def isNum (l : List Nat) : Bool := !l.isEmpty && l.all isDig && !(decide (1 < l.length) && l.head? == some 48)
theorem num_decs : ∀ n, num (decs n) = n := by
  intro n
  induction n using Nat.strongRecOn with
  | ind n ih =>
    by_cases h : n = 0
    · subst h; rw [decs_zero]; rfl
    · rw [decs_pos h, num_snoc, ih _ (by omega)]; omega
theorem num_txt (n : Nat) : num (txt n) = n := by
  unfold txt
  split
  · next h => subst h; rfl
  · exact num_decs n
theorem decs_num_head (l : List Nat) (h : ∀ c ∈ l, isDig c = true) (h0 : l.head? ≠ some 48) : decs (num l) = l := by
  revert h h0
  refine snoc_ind (P := fun l => (∀ c ∈ l, isDig c = true) → l.head? ≠ some 48 → decs (num l) = l) ?_ ?_ l
  · intro _ _; exact decs_zero
  · intro l c ih h h0
    have hc := h c (by simp)
    simp [isDig] at hc
    by_cases hl : l = []
    · subst hl
      have : c ≠ 48 := by simpa using h0
      rw [num_snoc]
      simp only [num, List.foldl_nil, List.nil_append]
      rw [decs_pos (by omega), show (0 * 10 + (c - 48)) / 10 = 0 from by omega, decs_zero]
      simp; omega
    · have h1 : l.head? ≠ some 48 := by
        cases l with
        | nil => exact absurd rfl hl
        | cons a b => simpa using h0
      have e := ih (fun x hx => h x (List.mem_append_left _ hx)) h1
      have hn : num l ≠ 0 := by
        intro q
        rw [q, decs_zero] at e
        exact hl e.symm
      rw [num_snoc, decs_pos (by omega), show (num l * 10 + (c - 48)) / 10 = num l from by omega, e]
      congr 2
      omega
theorem txt_num {l : List Nat} (h : isNum l = true) : txt (num l) = l := by
  simp only [isNum, Bool.and_eq_true, Bool.not_eq_true', List.all_eq_true, Bool.and_eq_false_iff, decide_eq_false_iff_not] at h
  obtain ⟨⟨h1, h2⟩, h3⟩ := h
  rcases l with _ | ⟨a, l⟩
  · simp at h1
  · by_cases ha : a = 48
    · subst ha
      have : l = [] := by
        rcases h3 with h3 | h3
        · simp at h3
          rcases l with _ | ⟨b, l⟩
          · rfl
          · simp at h3
        · simp at h3
      subst this
      rfl
    · have e := decs_num_head (a :: l) h2 (by simpa using ha)
      unfold txt
      rw [if_neg, e]
      intro q
      rw [q, decs_zero] at e
      cases e
theorem isNum_txt (n : Nat) : isNum (txt n) = true := by
  unfold txt
  split
  · rfl
  · next h =>
    have h1 : decs n ≠ [] := fun q => h (decs_eq_nil.1 q)
    have h2 : (decs n).all isDig = true := by
      rw [List.all_eq_true]
      intro x hx
      have := decs_lt x hx
      simp [isDig]; omega
    have h3 : (decs n).head? ≠ some 48 := by
      clear h1 h2
      induction n using Nat.strongRecOn with
      | ind n ih =>
        rw [decs_pos h]
        by_cases h0 : n / 10 = 0
        · rw [h0, decs_zero]; simp; omega
        · have e := ih (n / 10) (by omega) h0
          have h4 : decs (n / 10) ≠ [] := fun q => h0 (decs_eq_nil.1 q)
          cases hd : decs (n / 10) with
          | nil => exact absurd hd h4
          | cons a b => rw [hd] at e; simpa using e
    simp only [isNum, h2, Bool.and_true, Bool.and_eq_true, Bool.not_eq_true', Bool.and_eq_false_iff]
    refine ⟨by cases hd : decs n with | nil => exact absurd hd h1 | cons a b => rfl, .inr (by simpa using h3)⟩
end Go.Proofs.YtcdejccbamjdoaaDoor
