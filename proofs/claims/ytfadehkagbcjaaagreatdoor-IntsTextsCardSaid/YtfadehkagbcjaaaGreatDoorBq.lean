/- laws of ints that compare texts: words. -/
import Derived.Test.YtfadehkagbcjaaaGreatDoorRs
import Derived.Test.YtfadehkagbcjaaaGreatDoorBm
set_option linter.unusedVariables false
set_option linter.unusedSimpArgs false
set_option maxRecDepth 100000
namespace Go.Proofs.YtfadehkagbcjaaaGreatDoor
open Go.RowKit

def itxB (z : Int) : ByteArray := ⟨(bts (itxt z)).toArray⟩
def ipK (s : ByteArray) : Int := if isNum (isgn (byt s)).2 = true then if (isgn (byt s)).2.length ≤ 200 then if (isgn (byt s)).1 = true ∧ num (isgn (byt s)).2 = 0 then 4 else 0 else 3 else 4
def ipV (s : ByteArray) : Int := if isNum (isgn (byt s)).2 = true then if (isgn (byt s)).2.length ≤ 200 then if (isgn (byt s)).1 = true ∧ num (isgn (byt s)).2 = 0 then 0 else sgn (isgn (byt s)).1 (num (isgn (byt s)).2) else 0 else 0
theorem intR_zero (B : Nat) (w : World) : IntR 0 B w (.agg #[.bool false, .slice none 0 0]) := ⟨_, rfl, NatR.zero _ _⟩
theorem ipars_post {w w' : World} {e : Ending} {s : ByteArray} (h : if isNum (isgn (byt s)).2 = true then
        if (isgn (byt s)).2.length ≤ 200 then
          if (isgn (byt s)).1 = true ∧ num (isgn (byt s)).2 = 0 then e = .returned (.tuple #[.agg #[.bool false, .slice none 0 0], .int .i64 4])
          else ∃ v, e = .returned (.tuple #[v, .int .i64 0]) ∧ IntR (sgn (isgn (byt s)).1 (num (isgn (byt s)).2)) w.heap.size w' v
        else e = .returned (.tuple #[.agg #[.bool false, .slice none 0 0], .int .i64 3])
      else e = .returned (.tuple #[.agg #[.bool false, .slice none 0 0], .int .i64 4])) :
    ∃ q A n c, e = .returned (.tuple #[.agg #[.bool q, .slice A n c], .int .i64 (ipK s)]) ∧ IntR (ipV s) w.heap.size w' (.agg #[.bool q, .slice A n c]) := by
  unfold ipK ipV
  by_cases h1 : isNum (isgn (byt s)).2 = true
  · rw [if_pos h1] at h ⊢
    rw [if_pos h1]
    by_cases h2 : (isgn (byt s)).2.length ≤ 200
    · rw [if_pos h2] at h ⊢
      rw [if_pos h2]
      by_cases h3 : (isgn (byt s)).1 = true ∧ num (isgn (byt s)).2 = 0
      · rw [if_pos h3] at h ⊢
        rw [if_pos h3]
        exact ⟨_, _, _, _, h, intR_zero _ _⟩
      · rw [if_neg h3] at h ⊢
        rw [if_neg h3]
        obtain ⟨v, e1, r⟩ := h
        obtain ⟨q, A, n, c, rfl⟩ := r.slice
        exact ⟨q, A, n, c, e1, r⟩
    · rw [if_neg h2] at h ⊢
      rw [if_neg h2]
      exact ⟨_, _, _, _, h, intR_zero _ _⟩
  · rw [if_neg h1] at h ⊢
    rw [if_neg h1]
    exact ⟨_, _, _, _, h, intR_zero _ _⟩
set_option exponentiation.threshold 600 in
theorem L_ipV (s : ByteArray) : L (ipV s).natAbs ≤ 400 := by
  unfold ipV
  have h0 : L (0 : Int).natAbs ≤ 400 := by show L 0 ≤ _; rw [L_zero]; omega
  split
  · next h1 =>
    split
    · next h2 =>
      split
      · exact h0
      · rw [sgn_abs]
        have hd : ∀ c ∈ (isgn (byt s)).2, c < 58 := fun c hc => by
          unfold isNum at h1
          simp only [Bool.and_eq_true] at h1
          have := List.all_eq_true.1 h1.1.2 c hc
          simp [isDig] at this
          omega
        refine limbs_length_le.2 (Nat.lt_of_lt_of_le (num_lt _ hd) ?_)
        exact Nat.le_trans (Nat.pow_le_pow_right (by omega) h2) (Nat.le_trans (Nat.pow_le_pow_left (by omega : 10 ≤ 4294967296) 200) (Nat.pow_le_pow_right (by omega) (by omega)))
    · exact h0
  · exact h0
theorem L_i64 {n : Int} (h0 : -9223372036854775808 ≤ n) (h1 : n < 9223372036854775808) : L n.natAbs ≤ 2 := L_64 (by omega)
theorem ip_Text {w : World} {v : Value} {z : Int} (h : IArg w v z) (hl : L z.natAbs ≤ 1000) :
    Calls Tryz.prog 104 #[v] w fun e w' => e = .returned (.string (itxB z)) ∧ Hid (Below w.heap.size w w') := iText_ok h (by omega)
theorem ip_TextV {w : World} {v : Value} {z : Int} (h : IArg w v z) (hl : L z.natAbs ≤ 1000) {t : ByteArray} (ht : itxB z = t) :
    Calls Tryz.prog 104 #[v] w fun e w' => ∃ u, e = .returned u ∧ Below w.heap.size w w' ∧ u = .string t := (ip_Text h hl).mono fun e w' ⟨q1, q2⟩ => ⟨_, q1, q2, by rw [ht]⟩
theorem ip_Parse (w : World) (s : ByteArray) (hs : s.size ≤ 9223372036854775807) :
    Calls Tryz.prog 99 #[.string s] w fun e w' => ∃ q A n c, e = .returned (.tuple #[.agg #[.bool q, .slice A n c], .int .i64 (ipK s)]) ∧ Hid (Below w.heap.size w w') ∧ IntR (ipV s) w.heap.size w' (.agg #[.bool q, .slice A n c]) :=
  (iParse_ok w s hs).mono fun e w' ⟨q1, q2⟩ => by
    obtain ⟨q, A, n, c, e1, r⟩ := ipars_post q1
    exact ⟨q, A, n, c, e1, q2, r⟩
theorem ip_Of (w : World) (n : Int) (h0 : -9223372036854775808 ≤ n) (h1 : n < 9223372036854775808) :
    Calls Tryz.prog 101 #[.int .i64 n] w fun e w' => ∃ q A m c, e = .returned (.agg #[.bool q, .slice A m c]) ∧ Hid (Below w.heap.size w w') ∧ IntR n w.heap.size w' (.agg #[.bool q, .slice A m c]) :=
  (iOf_ok w n h0 h1).mono fun e w' ⟨u, q1, q2, q3⟩ => by
    obtain ⟨s, A, n, c, rfl⟩ := q3.slice
    exact ⟨s, A, n, c, q1, q2, q3⟩
theorem ip_OfC (w : World) (n : Int) (h0 : -9223372036854775808 ≤ n) (h1 : n < 9223372036854775808) :
    Calls Tryz.prog 101 #[.int .i64 n] w fun e w' => ∃ u, e = .returned u ∧ Below w.heap.size w w' ∧ ICan w' u n :=
  (iOf_ok w n h0 h1).mono fun e w' ⟨u, q1, q2, q3⟩ => ⟨u, q1, q2, q3.can⟩
theorem ip_CheckV {w : World} {v : Value} {b : Bool} {xs : List Nat} (h : IPrt w v b xs) {r : Bool} (hr : iok b xs = r) :
    Calls Tryz.prog 102 #[v] w fun e w' => ∃ u, e = .returned u ∧ Below w.heap.size w w' ∧ u = .bool r := (iCheck_ok h).mono fun e w' ⟨q1, q2⟩ => ⟨_, q1, q2.out, by rw [hr]⟩
theorem iq_Text {w : World} {v : Value} {z : Int} (h : IArg w v z) (hl : L z.natAbs ≤ 1000) :
    Calls Tryz.prog 105 #[v] w fun e w' => e = .returned (.string (itxB z)) ∧ Hid (Below w.heap.size w w') := qText_ok h (by omega)
theorem iq_TextV {w : World} {v : Value} {z : Int} (h : IArg w v z) (hl : L z.natAbs ≤ 1000) {t : ByteArray} (ht : itxB z = t) :
    Calls Tryz.prog 105 #[v] w fun e w' => ∃ u, e = .returned u ∧ Below w.heap.size w w' ∧ u = .string t := (iq_Text h hl).mono fun e w' ⟨q1, q2⟩ => ⟨_, q1, q2, by rw [ht]⟩
theorem iq_Parse (w : World) (s : ByteArray) (hs : s.size ≤ 9223372036854775807) :
    Calls Tryz.prog 100 #[.string s] w fun e w' => ∃ q A n c, e = .returned (.tuple #[.agg #[.bool q, .slice A n c], .int .i64 (ipK s)]) ∧ Hid (Below w.heap.size w w') ∧ IntR (ipV s) w.heap.size w' (.agg #[.bool q, .slice A n c]) :=
  (qParse_ok w s hs).mono fun e w' ⟨q1, q2⟩ => by
    obtain ⟨q, A, n, c, e1, r⟩ := ipars_post q1
    exact ⟨q, A, n, c, e1, q2, r⟩
theorem iq_Of (w : World) (n : Int) (h0 : -9223372036854775808 ≤ n) (h1 : n < 9223372036854775808) :
    Calls Tryz.prog 106 #[.int .i64 n] w fun e w' => ∃ q A m c, e = .returned (.agg #[.bool q, .slice A m c]) ∧ Hid (Below w.heap.size w w') ∧ IntR n w.heap.size w' (.agg #[.bool q, .slice A m c]) :=
  (qOf_ok w n h0 h1).mono fun e w' ⟨u, q1, q2, q3⟩ => by
    obtain ⟨s, A, n, c, rfl⟩ := q3.slice
    exact ⟨s, A, n, c, q1, q2, q3⟩
theorem iq_OfC (w : World) (n : Int) (h0 : -9223372036854775808 ≤ n) (h1 : n < 9223372036854775808) :
    Calls Tryz.prog 106 #[.int .i64 n] w fun e w' => ∃ u, e = .returned u ∧ Below w.heap.size w w' ∧ ICan w' u n :=
  (qOf_ok w n h0 h1).mono fun e w' ⟨u, q1, q2, q3⟩ => ⟨u, q1, q2, q3.can⟩
theorem iq_CheckV {w : World} {v : Value} {b : Bool} {xs : List Nat} (h : IPrt w v b xs) {r : Bool} (hr : iok b xs = r) :
    Calls Tryz.prog 103 #[v] w fun e w' => ∃ u, e = .returned u ∧ Below w.heap.size w w' ∧ u = .bool r := (qCheck_ok h).mono fun e w' ⟨q1, q2⟩ => ⟨_, q1, q2.out, by rw [hr]⟩
end Go.Proofs.YtfadehkagbcjaaaGreatDoor
