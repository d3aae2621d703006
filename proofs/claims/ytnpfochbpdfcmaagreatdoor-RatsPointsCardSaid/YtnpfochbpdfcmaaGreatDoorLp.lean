/- Plain lemmas: a fraction's text. No program in sight. -/
import Derived.Test.YtnpfochbpdfcmaaGreatDoorLr
import Derived.Test.YtnpfochbpdfcmaaGreatDoorLa
import Derived.Lib.IndexMore
import Derived.Lib.Repeat
set_option linter.unusedVariables false
set_option linter.unusedSimpArgs false
namespace Go.Proofs.YtnpfochbpdfcmaaGreatDoor

/-! ### a text that is cut at a sign -/
theorem ix_one : ∀ (l : List UInt8) (c : UInt8), Lib.index l [c] = if l.contains c then ((l.takeWhile (· != c)).length : Int) else -1
  | [], c => by simp [Lib.index]
  | b :: l, c => by
    have ih := ix_one l c
    by_cases h : b = c
    · subst h
      simp [Lib.index, List.isPrefixOf]
    · have h1 : (c == b) = false := by simpa using fun e => h e.symm
      have h2 : (b != c) = true := by simpa using h
      have h3 : [c].isPrefixOf (b :: l) = false := by simp [List.isPrefixOf, h1]
      rw [Lib.index, h3, ih, List.contains_cons, h1, List.takeWhile_cons, h2]
      cases hc : l.contains c
      · simp
      · simp only [Bool.false_or, if_true, List.length_cons, Bool.false_eq_true, if_false]
        rw [if_neg]
        · omega
        · simp only [beq_iff_eq]; omega
theorem take_tw {α : Type} (p : α → Bool) : ∀ l : List α, l.take (l.takeWhile p).length = l.takeWhile p
  | [] => rfl
  | a :: l => by
    rw [List.takeWhile_cons]
    cases p a
    · rfl
    · simp [take_tw p l]
theorem drop_tw {α : Type} (p : α → Bool) : ∀ l : List α, l.drop ((l.takeWhile p).length + 1) = (l.dropWhile p).drop 1
  | [] => rfl
  | a :: l => by
    rw [List.takeWhile_cons, List.dropWhile_cons]
    cases p a
    · rfl
    · simp only [if_true, List.length_cons, List.drop_succ_cons]; exact drop_tw p l
theorem cut_one (l : List UInt8) (c : UInt8) : Lib.cut l [c] = if l.contains c then (l.takeWhile (· != c), (l.dropWhile (· != c)).drop 1, true) else (l, [], false) := by
  unfold Lib.cut
  rw [ix_one]
  cases l.contains c
  · rfl
  · simp only [if_true, List.length_singleton]
    rw [if_pos (by omega), Int.toNat_natCast, take_tw, drop_tw]
/-- A text cut at the first sign of a kind: what is ahead, what is behind, was there one. -/
def scut (c : Nat) (l : List Nat) : List Nat × List Nat × Bool := if l.contains c then (l.takeWhile (· != c), (l.dropWhile (· != c)).drop 1, true) else (l, [], false)
theorem cut_map (l : List UInt8) (c : UInt8) : ((Lib.cut l [c]).1.map UInt8.toNat, (Lib.cut l [c]).2.1.map UInt8.toNat, (Lib.cut l [c]).2.2) = scut c.toNat (l.map UInt8.toNat) := by
  rw [cut_one, scut]
  have hc : ∀ b : UInt8, (b.toNat != c.toNat) = (b != c) := fun b => by
    rw [Bool.eq_iff_iff]; simp [UInt8.toNat_inj]
  have h1 : (l.map UInt8.toNat).contains c.toNat = l.contains c := by
    rw [Bool.eq_iff_iff, List.contains_iff_mem, List.contains_iff_mem, List.mem_map]
    exact ⟨fun ⟨b, hb, e⟩ => by rw [← UInt8.toNat_inj.1 e]; exact hb, fun h => ⟨c, h, rfl⟩⟩
  rw [h1]
  cases l.contains c
  · rfl
  · simp only [if_true]
    rw [List.takeWhile_map, List.dropWhile_map, List.map_drop]
    simp only [Function.comp_def, hc]

/-! ### a fraction's text -/
def isDigs (l : List Nat) : Bool := !l.isEmpty && l.all isDig
/-- The digits above, and those below, or none where the text is not in form. -/
def rsplit (l : List Nat) : Option (List Nat × List Nat) :=
  if (scut 46 l).2.2 then
    if isNum (scut 46 l).1 && isDigs (scut 46 l).2.1 then some ((scut 46 l).1 ++ (scut 46 l).2.1, 49 :: List.replicate (min (scut 46 l).2.1.length 200) 48) else none
  else
    if isNum (scut 47 l).1 && isNum (if (scut 47 l).2.2 then (scut 47 l).2.1 else [49]) && !decide ((if (scut 47 l).2.2 then (scut 47 l).2.1 else [49]) = [48]) then some ((scut 47 l).1, if (scut 47 l).2.2 then (scut 47 l).2.1 else [49]) else none
/-- A sign and digits, as a fraction, or an error's number. -/
def rmake (neg : Bool) : Option (List Nat × List Nat) → Rat ⊕ Int
  | none => .inr 4
  | some (a, d) => if neg && decide (num a = 0) then .inr 4 else if 200 < a.length ∨ 200 < d.length then .inr 3 else .inl (mkRat (sgn neg (num a)) (num d))

theorem num_cons0 (l : List Nat) : num (48 :: l) = num l := rfl
theorem num_drop0 : ∀ l : List Nat, num (l.dropWhile (· == 48)) = num l
  | [] => rfl
  | a :: l => by
    rw [List.dropWhile_cons]
    by_cases h : a = 48
    · subst h; simp only [BEq.rfl, if_true]; rw [num_drop0 l, num_cons0]
    · rw [if_neg (by simpa using h)]
theorem drop0_nil {l : List Nat} : l.dropWhile (· == 48) = [] ↔ ∀ x ∈ l, x = 48 := by
  induction l with
  | nil => simp
  | cons a l ih =>
    rw [List.dropWhile_cons]
    by_cases h : a = 48
    · subst h; simp [ih]
    · rw [if_neg (by simpa using h)]; simp [h]
theorem drop0_head (l : List Nat) : (l.dropWhile (· == 48)).head? ≠ some 48 := by
  induction l with
  | nil => simp
  | cons a l ih =>
    rw [List.dropWhile_cons]
    by_cases h : a = 48
    · subst h; simpa using ih
    · rw [if_neg (by simpa using h)]; simp [h]
theorem drop0_num {l : List Nat} (h : ∀ x ∈ l, isDig x = true) (hne : l.dropWhile (· == 48) ≠ []) : isNum (l.dropWhile (· == 48)) = true := by
  have h1 : (l.dropWhile (· == 48)).all isDig = true := List.all_eq_true.2 fun x hx => h x ((List.dropWhile_sublist _).subset hx)
  have h2 : (l.dropWhile (· == 48)).isEmpty = false := by simpa using hne
  have h3 := drop0_head l
  have h4 : ((l.dropWhile (· == 48)).head? == some 48) = false := by simpa using h3
  simp [isNum, h1, h2, h4]
theorem num0_iff {l : List Nat} (h : ∀ x ∈ l, isDig x = true) : num l = 0 ↔ ∀ x ∈ l, x = 48 := by
  constructor
  · intro h0
    rw [← drop0_nil]
    cases hd : l.dropWhile (· == 48) with
    | nil => rfl
    | cons a r =>
      exfalso
      have hn := drop0_num h (by rw [hd]; simp)
      have e := txt_num hn
      rw [num_drop0, h0, hd] at e
      have h3 := drop0_head l
      rw [hd, ← e] at h3
      exact h3 rfl
  · intro h0
    rw [← num_drop0, drop0_nil.2 h0]; rfl
theorem isDigs_all {l : List Nat} (h : isDigs l = true) : ∀ x ∈ l, isDig x = true := by
  simp only [isDigs, Bool.and_eq_true] at h
  exact List.all_eq_true.1 h.2
theorem isNum_all {l : List Nat} (h : isNum l = true) : ∀ x ∈ l, isDig x = true := by
  simp only [isNum, Bool.and_eq_true] at h
  exact List.all_eq_true.1 h.1.2
theorem isNum_digs {l : List Nat} (h : isNum l = true) : isDigs l = true := by
  simp only [isNum, Bool.and_eq_true] at h
  simp [isDigs, h.1]
theorem dig58 {l : List Nat} (h : ∀ x ∈ l, isDig x = true) : ∀ x ∈ l, x < 58 := fun x hx => by
  have := h x hx
  simp [isDig] at this
  omega
theorem num_replicate (k : Nat) : num (49 :: List.replicate k 48) = 10 ^ k := by
  induction k with
  | zero => rfl
  | succ k ih =>
    rw [List.replicate_succ', ← List.cons_append, num_snoc, ih, Nat.pow_succ]
    omega
theorem pow10_all (k : Nat) : ∀ x ∈ 49 :: List.replicate k 48, isDig x = true := by
  intro x hx
  rcases List.mem_cons.1 hx with e | hx
  · subst e; rfl
  · rw [List.eq_of_mem_replicate hx]; rfl
theorem rsplit_all {l a d : List Nat} (h : rsplit l = some (a, d)) : (∀ x ∈ a, isDig x = true) ∧ (∀ x ∈ d, isDig x = true) ∧ num d ≠ 0 := by
  unfold rsplit at h
  split at h
  · split at h
    · next h1 =>
      simp only [Bool.and_eq_true] at h1
      simp only [Option.some.injEq, Prod.mk.injEq] at h
      obtain ⟨rfl, rfl⟩ := h
      refine ⟨fun x hx => ?_, pow10_all _, ?_⟩
      · rcases List.mem_append.1 hx with hx | hx
        · exact isNum_all h1.1 x hx
        · exact isDigs_all h1.2 x hx
      · rw [num_replicate]
        exact Nat.ne_of_gt (Nat.pow_pos (by omega))
    · cases h
  · generalize (if (scut 47 l).2.2 then (scut 47 l).2.1 else [49]) = d' at *
    split at h
    · next h1 =>
      simp only [Bool.and_eq_true, Bool.not_eq_true', decide_eq_false_iff_not] at h1
      simp only [Option.some.injEq, Prod.mk.injEq] at h
      obtain ⟨rfl, rfl⟩ := h
      refine ⟨isNum_all h1.1.1, isNum_all h1.1.2, fun e => h1.2 ?_⟩
      have := txt_num h1.1.2
      rw [e] at this
      exact this.symm
    · cases h
end Go.Proofs.YtnpfochbpdfcmaaGreatDoor
