/- the reference of ints: Check, fit, Signed. -/
import Derived.Test.YtkefmeddnncacaaDoorIA
import Derived.Test.YtkefmeddnncacaaDoorRN
set_option linter.unusedVariables false
set_option linter.unusedSimpArgs false
set_option maxRecDepth 100000
namespace Go.Proofs.YtkefmeddnncacaaDoor
open Go.RowKit

set_option maxHeartbeats 400000 in
theorem qCheck_ok {w : World} {v : Value} {b : Bool} {xs : List Nat} (h : IPrt w v b xs) :
    Calls Tryd.prog 206 #[v] w fun e w' => e = .returned (.bool (iok b xs)) ∧ Hid (Below w.heap.size w w') := by
  refine opq fun R hR => ?_
  obtain ⟨u, rfl, hu⟩ := h
  obtain ⟨A, n, c, rfl, h1, h2, h3, h4⟩ := hu
  have hx : Hid (xs.isEmpty = decide (n = 0)) := by
    show _ = _
    rw [Bool.eq_iff_iff, List.isEmpty_iff, decide_eq_true_eq, ← h3.1]
    exact List.length_eq_zero_iff.symm
  have C := hide (rCheck_ok (w.alloc (.cells #[.bool b, .slice A n c] 49)) A n c xs (h3.below ((Below.refl _ _).alloc (Nat.le_refl _) _)))
  have HB := hide ((Below.refl w.heap.size w).alloc (Nat.le_refl _) (.cells #[.bool b, .slice A n c] 49))
  clear h3 h4
  have e0 : Hid (iok b xs = (chk xs && (!b || !decide (n = 0)))) := by rw [← hx.out]; exact rfl
  clear hx
  cases hc : chk xs
  · rw [hc] at C e0
    clear hc
    go_enter Tryd.func206, Tryd.ntmps206
    go_wp2_with fail
    refine C.out.mono ?_
    rintro e w' ⟨rfl, rfl⟩
    go_wp2
    exact opq_end hR ⟨ret_bool (by rw [e0.out]; rfl), HB⟩
  · rw [hc] at C e0
    clear hc
    cases b
    · go_enter Tryd.func206, Tryd.ntmps206
      go_wp2_with fail
      refine C.out.mono ?_
      rintro e w' ⟨rfl, rfl⟩
      go_wp2
      exact opq_end hR ⟨ret_bool (by rw [e0.out]; rfl), HB⟩
    · by_cases hn : n = 0
      · subst hn
        go_enter Tryd.func206, Tryd.ntmps206
        go_wp2_with fail
        refine C.out.mono ?_
        rintro e w' ⟨rfl, rfl⟩
        go_wp2
        exact opq_end hR ⟨ret_bool (by rw [e0.out]; rfl), HB⟩
      · have hn' : 0 < n := by omega
        have hn2 : Hid (decide (n = 0) = false) := by show _ = _; simp; omega
        clear hn
        go_enter Tryd.func206, Tryd.ntmps206
        go_wp2_with fail
        refine C.out.mono ?_
        rintro e w' ⟨rfl, rfl⟩
        go_wp2
        exact opq_end hR ⟨ret_bool (by rw [e0.out, hn2.out]; simp; omega), HB⟩
set_option maxHeartbeats 400000 in
theorem qfit_eq {w : World} {v : Value} {b : Bool} {xs : List Nat} (h : IPrt w v b xs) :
    Calls Tryd.prog 209 #[v] w fun e w' => e = .returned (if iok b xs then v else .agg #[.bool false, .slice none 0 0]) ∧ Hid (Below w.heap.size w w') := by
  refine opq fun R hR => ?_
  have H := hide h
  have E : ∃ A n c, v = .agg #[.bool b, .slice A n c] := by obtain ⟨u, rfl, A, n, c, rfl, _⟩ := h; exact ⟨A, n, c, rfl⟩
  clear h
  obtain ⟨A, n, c, rfl⟩ := E
  cases hk : iok b xs
  all_goals
    have K := hide hk
    clear hk
    go_enter Tryd.func209, Tryd.ntmps209
    go_wp2_with fail
    refine (qCheck_ok (H.out.below (Below.alloc (Below.alloc (Below.refl _ _) (Nat.le_refl _) _) (by simp) _))).mono ?_
    rw [K.out]
    rintro e w1 ⟨rfl, d1⟩
    obtain ⟨hc, hf⟩ := bcell d1.out
    have B1 := hide (((Below.refl w.heap.size w).alloc (Nat.le_refl _) (.cells #[.bool b, .slice A n c] 49)).alloc (by simp) (.cells #[.bool false, .slice none 0 0] 49))
    have B2 := hide (B1.out.trans (d1.out.mono (by simp; omega)))
    clear d1
    go_wp2
  · refine bodyPost_ret (v := .agg #[.bool false, .slice none 0 0]) (by simp [results, Tryd.results209, go_sem, hc, hf]) rfl ?_
    exact opq_end hR ⟨by rw [K.out]; rfl, (by (repeat (first | exact B2 | exact Below.refl _ _ | refine Below.setCell ?_ (by first | (simp; done) | (simp; omega)) _ | refine Below.alloc ?_ (by first | (simp; done) | (simp; omega)) _)))⟩
  · refine bodyPost_ret (v := .agg #[.bool b, .slice A n c]) (by simp [results, Tryd.results209, go_sem, hc, hf]) rfl ?_
    exact opq_end hR ⟨by rw [K.out]; rfl, (by (repeat (first | exact B2 | exact Below.refl _ _ | refine Below.setCell ?_ (by first | (simp; done) | (simp; omega)) _ | refine Below.alloc ?_ (by first | (simp; done) | (simp; omega)) _)))⟩
theorem qfit_F {w W : World} {v : Value} {z : Int} (h : IArg w v z) (hb : Below w.heap.size w W) :
    Calls Tryd.prog 209 #[v] W fun e w' => ∃ u, e = .returned u ∧ Below W.heap.size W w' ∧ ICan w u z := by
  obtain ⟨b, xs, h1, h2, rfl⟩ := h
  refine (qfit_eq (h1.below hb)).mono ?_
  rintro e w' ⟨rfl, h4⟩
  refine ⟨_, rfl, h4.out, ?_⟩
  cases hk : iok b xs
  · rw [iv_no hk]; exact ican_zero w
  · exact h1.can hk
set_option maxHeartbeats 400000 in
theorem qsigned_ok {w : World} {u : Value} {b : Bool} {N : Nat} (h : Can w u N) :
    Calls Tryd.prog 180 #[.bool b, u] w fun e w' => e = .returned (.agg #[.bool (b && decide (N ≠ 0)), u]) ∧ Hid (Below w.heap.size w w') := by
  refine opq fun R hR => ?_
  obtain ⟨A, c, rfl, l, r⟩ := h
  have e0 : Hid (decide (N ≠ 0) = decide (0 < (limbs N).length)) := by
    show _ = _
    rw [decide_eq_decide]
    have := @is_zero_len N
    omega
  clear r
  generalize (limbs N).length = n at *
  have B2 := hide ((Below.refl w.heap.size w).alloc (Nat.le_refl _) (.cells #[.bool false, .slice none 0 0] 49))
  cases b
  · go_enter Tryd.func180, Tryd.ntmps180
    go_wp2
    refine bodyPost_ret (v := .agg #[.bool false, .slice A n c]) (by simp [results, Tryd.results180, go_sem]) rfl ?_
    exact opq_end hR ⟨rfl, (by (repeat (first | exact B2 | exact Below.refl _ _ | refine Below.setCell ?_ (by first | (simp; done) | (simp; omega)) _ | refine Below.alloc ?_ (by first | (simp; done) | (simp; omega)) _)))⟩
  · by_cases hn : 0 < n
    · have e1 : Hid (decide (0 < n) = true) := by show _ = _; simpa using hn
      go_enter Tryd.func180, Tryd.ntmps180
      go_wp2
      refine bodyPost_ret (v := .agg #[.bool true, .slice A n c]) (by simp [results, Tryd.results180, go_sem]) rfl ?_
      exact opq_end hR ⟨by rw [e0.out, e1.out]; rfl, (by (repeat (first | exact B2 | exact Below.refl _ _ | refine Below.setCell ?_ (by first | (simp; done) | (simp; omega)) _ | refine Below.alloc ?_ (by first | (simp; done) | (simp; omega)) _)))⟩
    · obtain rfl : n = 0 := by omega
      go_enter Tryd.func180, Tryd.ntmps180
      go_wp2
      refine bodyPost_ret (v := .agg #[.bool false, .slice A 0 c]) (by simp [results, Tryd.results180, go_sem]) rfl ?_
      exact opq_end hR ⟨by rw [e0.out]; rfl, (by (repeat (first | exact B2 | exact Below.refl _ _ | refine Below.setCell ?_ (by first | (simp; done) | (simp; omega)) _ | refine Below.alloc ?_ (by first | (simp; done) | (simp; omega)) _)))⟩
end Go.Proofs.YtkefmeddnncacaaDoor
