/- Plain lemmas: a fraction's text is read as it. -/
import Derived.Test.YtnpfochbpdfcmaaGreatDoorKk
set_option linter.unusedVariables false
set_option linter.unusedSimpArgs false
set_option maxRecDepth 100000
namespace Go.Proofs.YtnpfochbpdfcmaaGreatDoor
open Go.RowKit

theorem txt_dig (n : Nat) : ∀ x ∈ txt n, isDig x = true := isNum_all (isNum_txt n)
theorem txt_ne (n : Nat) : txt n ≠ [] := by
  have := isNum_txt n
  intro h; rw [h] at this; cases this
theorem dig_ne {l : List Nat} (h : ∀ x ∈ l, isDig x = true) {c : Nat} (hc : isDig c = false) : l.contains c = false := by
  rw [List.contains_eq_mem, decide_eq_false_iff_not]
  intro hm
  rw [h c hm] at hc; cases hc
theorem isgn_itxt (z : Int) (r : List Nat) : isgn (itxt z ++ r) = (decide (z < 0), txt z.natAbs ++ r) := by
  unfold isgn itxt
  by_cases hz : z < 0
  · rw [if_pos hz]
    simp [hz]
  · rw [if_neg hz]
    have h : (txt z.natAbs ++ r).head? ≠ some 45 := by
      cases ht : txt z.natAbs with
      | nil => exact absurd ht (txt_ne _)
      | cons a l =>
        have := txt_dig z.natAbs a (by rw [ht]; exact List.mem_cons_self)
        simp only [List.cons_append, List.head?_cons, ne_eq, Option.some.injEq]
        intro e; subst e; cases this
    rw [if_neg h]
    simp [hz]
theorem scut_none {c : Nat} {l : List Nat} (h : l.contains c = false) : scut c l = (l, [], false) := by
  unfold scut; rw [if_neg (by rw [h]; decide)]
theorem scut_some {c : Nat} {a b : List Nat} (h : a.contains c = false) : scut c (a ++ c :: b) = (a, b, true) := by
  have hp : ∀ x ∈ a, (x != c) = true := fun x hx => by
    rw [bne_iff_ne]
    intro e; subst e
    rw [List.contains_iff_mem.2 hx] at h; cases h
  unfold scut
  rw [if_pos (by simp), List.takeWhile_append_of_pos hp, List.dropWhile_append_of_pos hp]
  simp
theorem txt_one_len : (txt 1).length = 1 := by rw [txt_one [49] 1 (by decide) rfl]; rfl
theorem mk_self (q : Rat) : mkRat (sgn (decide (q.num < 0)) q.num.natAbs) q.den = q := by rw [sgn_self, Rat.mkRat_self]
theorem neg_num (q : Rat) : (decide (q.num < 0) && decide (num (txt q.num.natAbs) = 0)) = false := by
  rw [num_txt]
  by_cases h : q.num < 0
  · simp only [h, decide_true, Bool.true_and, decide_eq_false_iff_not]; omega
  · simp [h]
/-- A fraction's text is read as it, if its digits are not too many. -/
theorem parse_rtxt (q : Rat) : rmake (isgn (rtxt q)).1 (rsplit (isgn (rtxt q)).2) = if 200 < (txt q.num.natAbs).length ∨ 200 < (txt q.den).length then .inr 3 else .inl q := by
  unfold rtxt
  rw [isgn_itxt]
  have d46 : ∀ n, (txt n).contains 46 = false := fun n => dig_ne (txt_dig n) rfl
  have d47 : ∀ n, (txt n).contains 47 = false := fun n => dig_ne (txt_dig n) rfl
  by_cases h1 : q.den = 1
  · rw [if_pos h1, List.append_nil]
    have e : rsplit (txt q.num.natAbs) = some (txt q.num.natAbs, [49]) := by
      rw [rsplit_B (scut_none (d46 _)) (scut_none (d47 _)) [49] rfl, isNum_txt]; rfl
    simp only [e, rmake]
    rw [neg_num, if_neg (by decide), h1, txt_one_len]
    have e2 := mk_self q
    rw [h1] at e2
    rw [num_txt]
    simp only [List.length_singleton]
    split
    · rfl
    · show Sum.inl (mkRat (sgn (decide (q.num < 0)) q.num.natAbs) (num [49])) = _
      rw [show num [49] = 1 from rfl, e2]
  · rw [if_neg h1]
    have c46 : (txt q.num.natAbs ++ 47 :: txt q.den).contains 46 = false := by
      rw [List.contains_eq_mem, decide_eq_false_iff_not]
      intro hm
      rcases List.mem_append.1 hm with hm | hm
      · have := txt_dig _ _ hm; cases this
      · rcases List.mem_cons.1 hm with hm | hm
        · cases hm
        · have := txt_dig _ _ hm; cases this
    have hd : txt q.den ≠ [48] := fun e => by
      have := num_txt q.den
      rw [e] at this
      exact q.den_nz this.symm
    have e : rsplit (txt q.num.natAbs ++ 47 :: txt q.den) = some (txt q.num.natAbs, txt q.den) := by
      rw [rsplit_B (scut_none c46) (scut_some (d47 _)) (txt q.den) rfl, isNum_txt, isNum_txt]; simp [hd]
    simp only [e, rmake]
    rw [neg_num, if_neg (by decide), num_txt, num_txt, mk_self]
theorem txt_len10 {n m : Nat} (h : n < 10 ^ m) (hm : 1 ≤ m) : (txt n).length ≤ m := by
  unfold txt
  split
  · simpa using hm
  · exact decs_len m n h
theorem dig_lt10 {l : List Nat} (h : ∀ x ∈ l, isDig x = true) (hl : l.length ≤ 200) : num l < 10 ^ 200 :=
  Nat.lt_of_lt_of_le (num_lt l (dig58 h)) (Nat.pow_le_pow_right (by decide) hl)
/-- What was read has not too many digits. -/
theorem rmake_ok {b : Bool} {l : List Nat} {q : Rat} (h : rmake b (rsplit l) = .inl q) : (txt q.num.natAbs).length ≤ 200 ∧ (txt q.den).length ≤ 200 ∧ H q 30 := by
  cases hs : rsplit l with
  | none => rw [hs] at h; cases h
  | some p =>
    obtain ⟨a, d⟩ := p
    obtain ⟨ha, hd, hn⟩ := rsplit_all hs
    rw [hs] at h
    simp only [rmake] at h
    split at h
    · cases h
    · split at h
      · cases h
      · next hl =>
        simp only [Sum.inl.injEq] at h
        subst h
        have l1 := dig_lt10 ha (by omega)
        have l2 := dig_lt10 hd (by omega)
        have e1 : (mkRat (sgn b (num a)) (num d)).num.natAbs ≤ num a := by
          rw [mk_num_abs hn, sgn_abs]; exact Nat.div_le_self _ _
        have e2 : (mkRat (sgn b (num a)) (num d)).den ≤ num d := by
          rw [mk_den hn]; exact Nat.div_le_self _ _
        have k : (10 : Nat) ^ 200 ≤ 4294967296 ^ 30 := by decide +kernel
        exact ⟨txt_len10 (Nat.lt_of_le_of_lt e1 l1) (by decide), txt_len10 (Nat.lt_of_le_of_lt e2 l2) (by decide),
          L_le.2 (Nat.lt_of_le_of_lt e1 (Nat.lt_of_lt_of_le l1 k)), L_le.2 (Nat.lt_of_le_of_lt e2 (Nat.lt_of_lt_of_le l2 k))⟩
theorem rmake_code {b : Bool} {o : Option (List Nat × List Nat)} {c : Int} (h : rmake b o = .inr c) : c = 4 ∨ c = 3 := by
  unfold rmake at h
  split at h
  · simp only [Sum.inr.injEq] at h; exact .inl h.symm
  · split at h
    · simp only [Sum.inr.injEq] at h; exact .inl h.symm
    · split at h
      · simp only [Sum.inr.injEq] at h; exact .inr h.symm
      · cases h
theorem rtxt_zero : rtxt 0 = [48] := by
  rw [rtxt, show (0 : Rat).num = 0 from rfl, show (0 : Rat).den = 1 from rfl, if_pos rfl, itxt, if_neg (by decide), List.append_nil]
  exact txt_one [48] 0 (by decide) rfl
theorem rtxt_bytes (q : Rat) {k : Nat} (h : H q k) : ∃ t : ByteArray, byt t = rtxt q ∧ t.size = (rtxt q).length ∧ t.size ≤ 20 * k + 4 := by
  have hb : ∀ x ∈ rtxt q, x < 256 := fun x hx => by
    have hd : ∀ n, ∀ x ∈ txt n, x < 256 := fun n x hx => by have := dig58 (txt_dig n) x hx; omega
    unfold rtxt itxt at hx
    rcases List.mem_append.1 hx with hx | hx
    · split at hx
      · rcases List.mem_cons.1 hx with hx | hx
        · omega
        · exact hd _ x hx
      · exact hd _ x hx
    · split at hx
      · cases hx
      · rcases List.mem_cons.1 hx with hx | hx
        · omega
        · exact hd _ x hx
  have e : byt ⟨(bts (rtxt q)).toArray⟩ = rtxt q := by
    show ((bts (rtxt q)).toArray.toList).map UInt8.toNat = rtxt q
    rw [List.toList_toArray]
    unfold bts
    rw [List.map_map]
    conv => rhs; rw [← List.map_id (rtxt q)]
    apply List.map_congr_left
    intro x hx
    simp [Nat.mod_eq_of_lt (hb x hx)]
  refine ⟨_, e, by rw [← byt_length, e], ?_⟩
  rw [← byt_length, e]
  have h1 := itxt_len h.1
  have h2 := txt_len h.2
  unfold rtxt
  rw [List.length_append]
  split
  · simp; omega
  · rw [List.length_cons]; omega
theorem txt_le_rtxt (q : Rat) : (txt q.num.natAbs).length ≤ (rtxt q).length ∧ (q.den ≠ 1 → (txt q.den).length ≤ (rtxt q).length) := by
  unfold rtxt itxt
  constructor
  · rw [List.length_append]
    split
    · rw [List.length_cons]; omega
    · omega
  · intro h
    rw [if_neg h, List.length_append, List.length_cons]; omega
theorem parse_short {q : Rat} (h : (rtxt q).length ≤ 200) : rmake (isgn (rtxt q)).1 (rsplit (isgn (rtxt q)).2) = .inl q := by
  obtain ⟨h1, h2⟩ := txt_le_rtxt q
  rw [parse_rtxt, if_neg]
  rintro (h3 | h3)
  · omega
  · by_cases hd : q.den = 1
    · rw [hd, txt_one_len] at h3; omega
    · have := h2 hd; omega
end Go.Proofs.YtnpfochbpdfcmaaGreatDoor
