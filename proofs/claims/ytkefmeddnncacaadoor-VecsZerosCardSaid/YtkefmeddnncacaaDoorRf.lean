/- the reference of ints: Check, fit, Signed. -/
import Derived.Test.YtkefmeddnncacaaDoorIA
import Derived.Test.YtkefmeddnncacaaDoorRN
set_option linter.unusedVariables false
set_option linter.unusedSimpArgs false
set_option maxRecDepth 100000
namespace Go.Proofs.YtkefmeddnncacaaDoor
open Go.RowKit

set_option maxHeartbeats 400000 in
theorem qsigned_ok {w : World} {u : Value} {b : Bool} {N : Nat} (h : Can w u N) :
    Calls Tryd.prog 180 #[.bool b, u] w fun e w' => e = .returned (.agg #[.bool (b && decide (N ≠ 0)), u]) ∧ Hid (Below w.heap.size w w') := by
  refine opq fun R hR => ?_
  obtain ⟨A, c, rfl, l, r⟩ := h
  have e0 : Hid (decide (N ≠ 0) = decide (0 < (limbs N).length)) := by
    show _ = _
    rw [decide_eq_decide]
    have := @is_zero_len N
    omega
  clear r
  generalize (limbs N).length = n at *
  have B2 := hide ((Below.refl w.heap.size w).alloc (Nat.le_refl _) (.cells #[.bool false, .slice none 0 0] 49))
  cases b
  · go_enter Tryd.func180, Tryd.ntmps180
    go_wp2
    refine bodyPost_ret (v := .agg #[.bool false, .slice A n c]) (by simp [results, Tryd.results180, go_sem]) rfl ?_
    exact opq_end hR ⟨rfl, (by (repeat (first | exact B2 | exact Below.refl _ _ | refine Below.setCell ?_ (by first | (simp; done) | (simp; omega)) _ | refine Below.alloc ?_ (by first | (simp; done) | (simp; omega)) _)))⟩
  · by_cases hn : 0 < n
    · have e1 : Hid (decide (0 < n) = true) := by show _ = _; simpa using hn
      go_enter Tryd.func180, Tryd.ntmps180
      go_wp2
      refine bodyPost_ret (v := .agg #[.bool true, .slice A n c]) (by simp [results, Tryd.results180, go_sem]) rfl ?_
      exact opq_end hR ⟨by rw [e0.out, e1.out]; rfl, (by (repeat (first | exact B2 | exact Below.refl _ _ | refine Below.setCell ?_ (by first | (simp; done) | (simp; omega)) _ | refine Below.alloc ?_ (by first | (simp; done) | (simp; omega)) _)))⟩
    · obtain rfl : n = 0 := by omega
      go_enter Tryd.func180, Tryd.ntmps180
      go_wp2
      refine bodyPost_ret (v := .agg #[.bool false, .slice A 0 c]) (by simp [results, Tryd.results180, go_sem]) rfl ?_
      exact opq_end hR ⟨by rw [e0.out]; rfl, (by (repeat (first | exact B2 | exact Below.refl _ _ | refine Below.setCell ?_ (by first | (simp; done) | (simp; omega)) _ | refine Below.alloc ?_ (by first | (simp; done) | (simp; omega)) _)))⟩
end Go.Proofs.YtkefmeddnncacaaDoor
