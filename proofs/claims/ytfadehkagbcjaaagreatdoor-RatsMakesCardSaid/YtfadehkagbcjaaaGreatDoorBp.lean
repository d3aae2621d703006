/- laws of rats that compare: Make, Of. -/
import Derived.Test.YtfadehkagbcjaaaGreatDoorBo
set_option linter.unusedVariables false
set_option linter.unusedSimpArgs false
set_option maxRecDepth 100000
namespace Go.Proofs.YtfadehkagbcjaaaGreatDoor
open Go.RowKit

def mkZ (b1 : Bool) (xs1 : List Nat) (b2 : Bool) (xs2 : List Nat) : Int := if (iok b1 xs1 && iok b2 xs2) = true then if iv b2 xs2 = 0 then 0 else (Rat.divInt (iv b1 xs1) (iv b2 xs2)).num else 0
def mkN (b1 : Bool) (xs1 : List Nat) (b2 : Bool) (xs2 : List Nat) : Nat := if (iok b1 xs1 && iok b2 xs2) = true then if iv b2 xs2 = 0 then 0 else (Rat.divInt (iv b1 xs1) (iv b2 xs2)).den else 0
def mkK (b1 : Bool) (xs1 : List Nat) (b2 : Bool) (xs2 : List Nat) : Int := if (iok b1 xs1 && iok b2 xs2) = true then if iv b2 xs2 = 0 then 10 else 0 else 1
theorem iprt_can {w : World} {v : Value} {b : Bool} {xs : List Nat} (h : IPrt w v b xs) (hr : iok b xs = true) : ICan w v (iv b xs) := by
  obtain ⟨u, rfl, h1⟩ := h
  exact ⟨u, by rw [iok_neg hr], by rw [iok_abs hr]; exact h1.can (iok_chk hr)⟩
theorem H_divInt {z n : Int} {k : Nat} (hn : n ≠ 0) (h : L z.natAbs ≤ k) (h' : L n.natAbs ≤ k) : H (Rat.divInt z n) k := by
  rcases Int.lt_trichotomy n 0 with q | q | q
  · rw [make_neg q]; exact H_mk (by omega) (by rw [Int.natAbs_neg]; exact h) h'
  · exact absurd q hn
  · rw [make_pos q]; exact H_mk (by omega) h h'
section
variable {w : World} {v v' : Value} {b1 b2 : Bool} {xs1 xs2 : List Nat}
theorem rp_Make (h1 : IPrt w v b1 xs1) (h2 : IPrt w v' b2 xs2) (s1 : L (iv b1 xs1).natAbs ≤ 1000) (s2 : L (iv b2 xs2).natAbs ≤ 1000) (hT : Tab w) :
    Calls Tryz.prog 51 #[v, v'] w fun e w' => ∃ s A n c D m k, e = .returned (.tuple #[.agg #[.bool s, .slice A n c, .slice D m k], .int .i64 (mkK b1 xs1 b2 xs2)]) ∧ Hid (Below w.heap.size w w') ∧ PR (mkZ b1 xs1 b2 xs2) (mkN b1 xs1 b2 xs2) w.heap.size w' s A n c D m k := by
  unfold mkK mkZ mkN
  cases hr : iok b1 xs1 && iok b2 xs2 with
  | false => exact (rMake_bad h1 h2 hr).mono fun e w' ⟨q1, q2⟩ => ⟨_, _, _, _, _, _, _, q1, q2, .zero _ _⟩
  | true =>
    rw [Bool.and_eq_true] at hr
    by_cases h0 : iv b2 xs2 = 0
    · simp only [h0, if_true]
      exact (rMake_zero (iprt_can h1 hr.1) (iprt_can h2 hr.2) (L_up s1 (by decide)) (L_up s2 (by decide)) h0 hT).mono fun e w' ⟨q1, q2⟩ => ⟨_, _, _, _, _, _, _, q1, q2, .zero _ _⟩
    · simp only [h0, if_true, if_false]
      exact (rMake_ok (iprt_can h1 hr.1) (iprt_can h2 hr.2) (L_up s1 (by decide)) (L_up s2 (by decide)) h0 hT).mono fun e w' ⟨u, q1, q2, q3⟩ => by
        obtain ⟨s, A, n, c, D, m, k, rfl⟩ := q3.slice
        exact ⟨s, A, n, c, D, m, k, q1, q2, .of q3⟩
theorem rq_Make (h1 : IPrt w v b1 xs1) (h2 : IPrt w v' b2 xs2) (s1 : L (iv b1 xs1).natAbs ≤ 1000) (s2 : L (iv b2 xs2).natAbs ≤ 1000) :
    Calls Tryz.prog 52 #[v, v'] w fun e w' => ∃ s A n c D m k, e = .returned (.tuple #[.agg #[.bool s, .slice A n c, .slice D m k], .int .i64 (mkK b1 xs1 b2 xs2)]) ∧ Hid (Below w.heap.size w w') ∧ PR (mkZ b1 xs1 b2 xs2) (mkN b1 xs1 b2 xs2) w.heap.size w' s A n c D m k := by
  unfold mkK mkZ mkN
  cases hr : iok b1 xs1 && iok b2 xs2 with
  | false => exact (krMake_bad h1 h2 hr).mono fun e w' ⟨q1, q2⟩ => ⟨_, _, _, _, _, _, _, q1, q2, .zero _ _⟩
  | true =>
    rw [Bool.and_eq_true] at hr
    by_cases h0 : iv b2 xs2 = 0
    · simp only [h0, if_true]
      exact (krMake_zero (iprt_can h1 hr.1) (iprt_can h2 hr.2) (L_up s1 (by decide)) (L_up s2 (by decide)) h0).mono fun e w' ⟨q1, q2⟩ => ⟨_, _, _, _, _, _, _, q1, q2, .zero _ _⟩
    · simp only [h0, if_true, if_false]
      exact (krMake_ok (iprt_can h1 hr.1) (iprt_can h2 hr.2) (L_up s1 (by decide)) (L_up s2 (by decide)) h0).mono fun e w' ⟨u, q1, q2, q3⟩ => by
        obtain ⟨s, A, n, c, D, m, k, rfl⟩ := q3.slice
        exact ⟨s, A, n, c, D, m, k, q1, q2, .of q3⟩
theorem mk_L {k : Nat} (s1 : L (iv b1 xs1).natAbs ≤ k) (s2 : L (iv b2 xs2).natAbs ≤ k) : L (mkZ b1 xs1 b2 xs2).natAbs ≤ k ∧ L (mkN b1 xs1 b2 xs2) ≤ k := by
  unfold mkZ mkN
  split
  · split
    · exact ⟨by rw [Int.natAbs_zero, L_zero]; omega, by rw [L_zero]; omega⟩
    · next h => exact H_divInt h s1 s2
  · exact ⟨by rw [Int.natAbs_zero, L_zero]; omega, by rw [L_zero]; omega⟩
end
theorem krOf_C (w : World) (n : Int) (h0 : -9223372036854775808 ≤ n) (h1 : n < 9223372036854775808) :
    Calls Tryz.prog 55 #[.int .i64 n] w fun e w' => ∃ u, e = .returned u ∧ Below w.heap.size w w' ∧ RCan w' u (n : Rat) := (krOf_P w n h0 h1).mono fun e w' ⟨u, q1, q2, q3⟩ => ⟨u, q1, q2, q3.can⟩
end Go.Proofs.YtfadehkagbcjaaaGreatDoor
