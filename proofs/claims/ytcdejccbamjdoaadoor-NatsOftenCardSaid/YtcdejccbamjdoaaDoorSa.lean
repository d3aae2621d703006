/- law helpers: SameNat. -/
import Derived.Test.YtcdejccbamjdoaaDoorNa
set_option linter.unusedVariables false
set_option linter.unusedSimpArgs false
set_option maxRecDepth 100000
namespace Go.Proofs.YtcdejccbamjdoaaDoor
open Go.RowKit

theorem bel_drewN {B : Nat} {w W : World} (h : Below B w W) (n : Nat) : Below B w (W.drewN n) := ⟨h.os, h.tape, h.output, h.size, h.block⟩
theorem same_step {xs ys : List Nat} {i : Nat} (h : xs.take i = ys.take i) (hx : i < xs.length) (hy : i < ys.length) (e : xs.getD i 0 = ys.getD i 0) : xs.take (i + 1) = ys.take (i + 1) := by
  rw [getD_lt hx, getD_lt hy] at e
  rw [List.take_succ_eq_append_getElem hx, List.take_succ_eq_append_getElem hy, h, e]
theorem same_no {xs ys : List Nat} {i : Nat} (e : xs.getD i 0 ≠ ys.getD i 0) : xs ≠ ys := fun h => e (by rw [h])

theorem SameNat_ok (w : World) (A A' : Option Addr) (n n' c c' : Nat) (xs ys : List Nat) (h : Rd w A n xs) (h' : Rd w A' n' ys) :
    Calls Tryd.prog 33 #[.slice A n c, .slice A' n' c'] w fun e w' => e = .returned (.bool (decide (xs = ys))) ∧ Below w.heap.size w w' := by
  refine opq fun R hR => ?_
  have r1 := hide h
  have r2 := hide h'
  have hm := h.2.1
  clear h h'
  go_enter Tryd.func33, Tryd.ntmps33
  by_cases hn : n = n'
  · subst hn
    go_wp2
    go_loopw [5] (fun iv wr => ∃ i : Nat, i ≤ n ∧ iv = .int .i64 (i : Nat) ∧ Hid (xs.take i = ys.take i) ∧ Hid (Below w.heap.size w wr)) (fun iv _ => n - (intOf iv).toNat)
    case atStart => exact ⟨0, by omega, rfl, rfl, Below.refl _ _⟩
    case round =>
      obtain ⟨i, hi, rfl, hs, hbel⟩ := hrel
      by_cases hlt : i < n
      · obtain ⟨ad, rfl, hb, hc⟩ := (r1.out.below hbel.out).2.2 (by omega)
        obtain ⟨ad', rfl, hb', hc'⟩ := (r2.out.below hbel.out).2.2 (by omega)
        have hx := hc i hlt
        have hy := hc' i hlt
        have S1 := hide (fun e => same_step hs.out (by rw [r1.out.1]; exact hlt) (by rw [r2.out.1]; exact hlt) e)
        have S2 := hide (fun e => same_no (xs := xs) (ys := ys) (i := i) e)
        generalize xs.getD i 0 = x at *
        generalize ys.getD i 0 = y at *
        clear hc hc'
        by_cases e : x = y
        · have S3 := hide (S1.out e)
          subst e
          go_wp2
          go_quiet (fail)
          have B1 := hide (bel_drewN hbel.out nq)
          go_wp2
          go_roundw
          case rel => exact ⟨i + 1, by omega, by go_num, S3, B1⟩
          case measure => simp [intOf]; omega
        · have t : ((x : Int) == (y : Int)) = false := by simp; omega
          go_wp2
          go_quiet (fail)
          have B1 := hide (bel_drewN hbel.out nq)
          go_wp2
          exact opq_end hR ⟨ret_bool (by simpa using S2.out e), B1.out⟩
      · obtain rfl : i = n := by omega
        have e : Hid (xs = ys) := by
          have := hs.out
          rwa [List.take_of_length_le (by rw [r1.out.1]; exact Nat.le_refl _), List.take_of_length_le (by rw [r2.out.1]; exact Nat.le_refl _)] at this
        go_wp2
        exact opq_end hR ⟨ret_bool (by simpa using e.out), hbel.out⟩
  · have t : ((n : Int) == (n' : Int)) = false := by simp; omega
    have e : Hid (xs ≠ ys) := fun q => hn (by rw [← r1.out.1, ← r2.out.1, q])
    go_wp2
    exact opq_end hR ⟨ret_bool (by simpa using e.out), Below.refl _ _⟩
end Go.Proofs.YtcdejccbamjdoaaDoor
