/- Plain lemmas: a fraction's text is read as it. -/
import Derived.Test.YtkefmeddnncacaaGreatDoorKB
set_option linter.unusedVariables false
set_option linter.unusedSimpArgs false
set_option maxRecDepth 100000
namespace Go.Proofs.YtkefmeddnncacaaGreatDoor
open Go.RowKit

theorem txt_len10 {n m : Nat} (h : n < 10 ^ m) (hm : 1 ≤ m) : (txt n).length ≤ m := by
  unfold txt
  split
  · simpa using hm
  · exact decs_len m n h
theorem dig_lt10 {l : List Nat} (h : ∀ x ∈ l, isDig x = true) (hl : l.length ≤ 200) : num l < 10 ^ 200 :=
  Nat.lt_of_lt_of_le (num_lt l (dig58 h)) (Nat.pow_le_pow_right (by decide) hl)
/-- What was read has not too many digits. -/
theorem rmake_ok {b : Bool} {l : List Nat} {q : Rat} (h : rmake b (rsplit l) = .inl q) : (txt q.num.natAbs).length ≤ 200 ∧ (txt q.den).length ≤ 200 ∧ H q 30 := by
  cases hs : rsplit l with
  | none => rw [hs] at h; cases h
  | some p =>
    obtain ⟨a, d⟩ := p
    obtain ⟨ha, hd, hn⟩ := rsplit_all hs
    rw [hs] at h
    simp only [rmake] at h
    split at h
    · cases h
    · split at h
      · cases h
      · next hl =>
        simp only [Sum.inl.injEq] at h
        subst h
        have l1 := dig_lt10 ha (by omega)
        have l2 := dig_lt10 hd (by omega)
        have e1 : (mkRat (sgn b (num a)) (num d)).num.natAbs ≤ num a := by
          rw [mk_num_abs hn, sgn_abs]; exact Nat.div_le_self _ _
        have e2 : (mkRat (sgn b (num a)) (num d)).den ≤ num d := by
          rw [mk_den hn]; exact Nat.div_le_self _ _
        have k : (10 : Nat) ^ 200 ≤ 4294967296 ^ 30 := by decide +kernel
        exact ⟨txt_len10 (Nat.lt_of_le_of_lt e1 l1) (by decide), txt_len10 (Nat.lt_of_le_of_lt e2 l2) (by decide),
          L_le.2 (Nat.lt_of_le_of_lt e1 (Nat.lt_of_lt_of_le l1 k)), L_le.2 (Nat.lt_of_le_of_lt e2 (Nat.lt_of_lt_of_le l2 k))⟩
end Go.Proofs.YtkefmeddnncacaaGreatDoor
