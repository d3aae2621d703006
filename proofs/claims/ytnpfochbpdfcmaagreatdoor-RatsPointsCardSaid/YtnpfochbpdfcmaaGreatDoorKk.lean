/- the laws of rats: contracts as their walks ask. -/
import Derived.Test.YtnpfochbpdfcmaaGreatDoorKj
set_option linter.unusedVariables false
set_option linter.unusedSimpArgs false
set_option maxRecDepth 100000
namespace Go.Proofs.YtnpfochbpdfcmaaGreatDoor
open Go.RowKit

theorem rCheck_can {w : World} {v : Value} {q : Rat} (h : RCan w v q) (hl : H q 100000000000) (hT : Tab w) :
    Calls Tryz.prog 21 #[v] w fun e w' => ∃ u, e = .returned u ∧ Below w.heap.size w w' ∧ u = .bool true := rCheck_P (h.prt (hl.up (by decide))) hT true (rok_self q)
theorem rCmp_eq {w : World} {v v' : Value} {p q : Rat} (h : RArg w v p) (h' : RArg w v' q) (hT : Tab w) (r : Int) (hr : cmpQ p q = r) :
    Calls Tryz.prog 35 #[v, v'] w fun e w' => ∃ u, e = .returned u ∧ Below w.heap.size w w' ∧ u = .int .i64 r :=
  (rCmp_P h h' hT).mono fun e w' ⟨u, h1, h2, h3⟩ => ⟨u, h1, h2, by rw [h3, hr]⟩
theorem rSign_eq {w : World} {v : Value} {q : Rat} (h : RArg w v q) (hT : Tab w) (r : Int) (hr : cmpQ q 0 = r) :
    Calls Tryz.prog 33 #[v] w fun e w' => ∃ u, e = .returned u ∧ Below w.heap.size w w' ∧ u = .int .i64 r :=
  (rSign_P h hT).mono fun e w' ⟨u, h1, h2, h3⟩ => ⟨u, h1, h2, by rw [h3, hr]⟩
theorem rWhole_eq {w : World} {v : Value} {q : Rat} (h : RArg w v q) (hT : Tab w) (r : Bool) (hr : decide (q.den = 1) = r) :
    Calls Tryz.prog 36 #[v] w fun e w' => ∃ u, e = .returned u ∧ Below w.heap.size w w' ∧ u = .bool r :=
  (rWhole_P h hT).mono fun e w' ⟨u, h1, h2, h3⟩ => ⟨u, h1, h2, by rw [h3, hr]⟩
theorem rsame_yes {w : World} {v v' : Value} {p q : Rat} (h : RCan w v p) (h' : RCan w v' q) (e : p = q) :
    Calls Tryz.prog 22 #[v, v'] w fun e w' => ∃ u, e = .returned u ∧ Below w.heap.size w w' ∧ u = .bool true := rsame_P h h' true (decide_eq_true e)
theorem rsame_no {w : World} {v v' : Value} {p q : Rat} (h : RCan w v p) (h' : RCan w v' q) (e : p ≠ q) :
    Calls Tryz.prog 22 #[v, v'] w fun e w' => ∃ u, e = .returned u ∧ Below w.heap.size w w' ∧ u = .bool false := rsame_P h h' false (decide_eq_false e)
/-- The parts of an argument. -/
theorem rprt_of {w : World} {A D : Option Addr} {n c m k : Nat} {xs ys : List Nat} (b : Bool) (h : Rd w A n xs) (h32 : Is32 xs) (hc : n ≤ c) (hn : n ≤ 4398046511104) (h' : Rd w D m ys) (h32' : Is32 ys) (hk : m ≤ k) (hm : m ≤ 4398046511104) : RPrt w (.agg #[.bool b, .slice A n c, .slice D m k]) b xs ys :=
  ⟨_, _, rfl, ⟨A, n, c, rfl, hc, hn, h, h32⟩, ⟨D, m, k, rfl, hk, hm, h', h32'⟩⟩
theorem RPrt.arg {w : World} {v : Value} {b : Bool} {xs ys : List Nat} (h : RPrt w v b xs ys) (l1 : xs.length ≤ 100000000000) (l2 : ys.length ≤ 100000000000) : RArg w v (rv b xs ys) := ⟨b, xs, ys, h, l1, l2, rfl⟩
theorem mul_cancel_r {a b : Rat} (h : b ≠ 0) : a * b / b = a := Rat.mul_div_cancel h
theorem cmpQ_congr {a b c d : Rat} (h1 : a < b ↔ c < d) (h2 : a = b ↔ c = d) : cmpQ a b = cmpQ c d := by
  unfold cmpQ
  simp only [h1, h2]
theorem cmpQ_e {a b : Rat} (h : a = b) : cmpQ a b = 0 := by rw [h]; exact cmpQ_eq b
theorem mul_lt_pos {x y z : Rat} (h : x < y) (hz : 0 < z) : x * z < y * z := Rat.mul_lt_mul_of_pos_right h hz
theorem mul_lt_neg {x y z : Rat} (h : x < y) (hz : z < 0) : y * z < x * z := by
  have : 0 < (y - x) * (-z) := Rat.mul_pos (by grind) (by grind)
  grind
theorem cmpQ3 (z : Rat) : ∃ s : Int, Hid (cmpQ z 0 = s) ∧ (s = -1 ∨ s = 0 ∨ s = 1) := by
  refine ⟨_, rfl, ?_⟩
  rcases rat_tri z 0 with h | h | h
  · exact .inl (cmpQ_lt h)
  · exact .inr (.inl (cmpQ_e h))
  · exact .inr (.inr (cmpQ_gt h))
theorem cmpQ_mul_lt {x y z : Rat} (h : x < y) : cmpQ (x * z) (y * z) = -1 * cmpQ z 0 := by
  rcases rat_tri z 0 with hz | hz | hz
  · rw [cmpQ_lt hz, cmpQ_gt (mul_lt_neg h hz)]; rfl
  · rw [cmpQ_e hz, cmpQ_e (by rw [hz, Rat.mul_zero, Rat.mul_zero])]; rfl
  · rw [cmpQ_gt hz, cmpQ_lt (mul_lt_pos h hz)]; rfl
theorem cmpQ_mul_gt {x y z : Rat} (h : y < x) : cmpQ (x * z) (y * z) = 1 * cmpQ z 0 := by
  rcases rat_tri z 0 with hz | hz | hz
  · rw [cmpQ_lt hz, cmpQ_lt (mul_lt_neg h hz)]; rfl
  · rw [cmpQ_e hz, cmpQ_e (by rw [hz, Rat.mul_zero, Rat.mul_zero])]; rfl
  · rw [cmpQ_gt hz, cmpQ_gt (mul_lt_pos h hz)]; rfl
theorem cmpQ_mul_eq {x y z : Rat} (h : x = y) : cmpQ (x * z) (y * z) = 0 * cmpQ z 0 := by
  rw [cmpQ_e (by rw [h]), Int.zero_mul]
end Go.Proofs.YtnpfochbpdfcmaaGreatDoor
