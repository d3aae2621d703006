/- ints: Of, Back, Text, Parse; SameInt. -/
import Derived.Test.YtnpfochbpdfcmaaGreatDoorIf
set_option linter.unusedVariables false
set_option linter.unusedSimpArgs false
set_option maxRecDepth 100000
namespace Go.Proofs.YtnpfochbpdfcmaaGreatDoor
open Go.RowKit

theorem neg_wrap {n : Int} (h0 : n < 0) (h1 : -9223372036854775808 ≤ n) : IntKind.u64.wrap (wrap64 (-n)) = ((-n).toNat : Int) := by
  simp only [IntKind.wrap_u64, wrap64]
  omega
theorem pos_wrap {n : Int} (h0 : 0 ≤ n) (h1 : n < 9223372036854775808) : IntKind.u64.wrap n = (n.toNat : Int) := by
  simp only [IntKind.wrap_u64]
  omega
set_option maxHeartbeats 400000 in
theorem iOf_ok (w : World) (n : Int) (h0 : -9223372036854775808 ≤ n) (h1 : n < 9223372036854775808) :
    Calls Tryz.prog 30 #[.int .i64 n] w fun e w' => ∃ u, e = .returned u ∧ Below w.heap.size w w' ∧ IntR n w.heap.size w' u := by
  refine opq fun R hR => ?_
  have B0 := hide ((Below.refl w.heap.size w).alloc (Nat.le_refl _) (.cells #[.bool false, .slice none 0 0] 25))
  have K0 := hide (Blk.new w 25 #[.bool false, .slice none 0 0])
  by_cases hn : n < 0
  · have e1 : decide (n < 0) = true := by simpa using hn
    have hw := hide (neg_wrap hn h0)
    have hN : Hid ((-n).toNat < 18446744073709551616) := by show _ < _; omega
    have hZ : Hid (n.natAbs = (-n).toNat ∧ decide (n < 0) = (true && decide ((-n).toNat ≠ 0))) := by
      refine ⟨by omega, ?_⟩
      rw [Bool.eq_iff_iff]; simp <;> omega
    generalize (-n).toNat = N at *
    clear hn
    go_enter Tryz.func30, Tryz.ntmps30
    go_wp2_with fail
    rw [hw.out]
    refine (Of_ok _ N hN.out).mono ?_
    rintro e w1 ⟨u, rfl, ru, d1⟩
    have RU := hide (ru.mono (B' := w.heap.size) (by simp))
    have B1 := hide (B0.out.trans (d1.mono B0.out.size))
    have K1 := hide (K0.out.below' d1)
    clear ru d1 B0 K0
    go_wp2_with fail
    refine (isigned_F RU.out hZ.out.1 hZ.out.2).mono ?_
    rintro e w2 ⟨v9, rfl, d2, r9⟩
    obtain ⟨b9, A9, n9, c9, rfl⟩ := r9.slice
    have R9 := hide r9
    have B9 := hide (B1.out.trans (d2.mono B1.out.size))
    have K9 := hide (K1.out.below' d2)
    have q0 := K9.out.at_ 0 rfl
    have q1 := K9.out.at_ 1 rfl
    have q2 := K9.out.frozen 0
    have q3 := K9.out.frozen 1
    clear d2 r9
    go_wp2
    refine bodyPost_ret (v := .agg #[.bool b9, .slice A9 n9 c9]) (by simp [results, Tryz.results30, go_sem, q0, q1, q2, q3]) rfl ?_
    exact opq_end hR ⟨_, rfl, (by (repeat (first | exact B9 | exact Below.refl _ _ | refine Below.setCell ?_ (by first | (simp; done) | (simp; omega)) _ | refine Below.alloc ?_ (by first | (simp; done) | (simp; omega)) _))), R9.out.only K9.out (by decide) (((Only.refl _ _).set _ _).set _ _)⟩
  · have e1 : decide (n < 0) = false := by simp; omega
    have hw := hide (pos_wrap (Int.not_lt.1 hn) h1)
    have hN : Hid (n.toNat < 18446744073709551616) := by show _ < _; omega
    have hZ : Hid (n.natAbs = n.toNat ∧ decide (n < 0) = (false && decide (n.toNat ≠ 0))) := by
      refine ⟨by omega, ?_⟩
      rw [Bool.eq_iff_iff]; simp; omega
    generalize n.toNat = N at *
    clear hn
    go_enter Tryz.func30, Tryz.ntmps30
    go_wp2_with fail
    rw [hw.out]
    refine (Of_ok _ N hN.out).mono ?_
    rintro e w1 ⟨u, rfl, ru, d1⟩
    have RU := hide (ru.mono (B' := w.heap.size) (by simp))
    have B1 := hide (B0.out.trans (d1.mono B0.out.size))
    have K1 := hide (K0.out.below' d1)
    clear ru d1 B0 K0
    go_wp2_with fail
    refine (isigned_F RU.out hZ.out.1 hZ.out.2).mono ?_
    rintro e w2 ⟨v9, rfl, d2, r9⟩
    obtain ⟨b9, A9, n9, c9, rfl⟩ := r9.slice
    have R9 := hide r9
    have B9 := hide (B1.out.trans (d2.mono B1.out.size))
    have K9 := hide (K1.out.below' d2)
    have q0 := K9.out.at_ 0 rfl
    have q1 := K9.out.at_ 1 rfl
    have q2 := K9.out.frozen 0
    have q3 := K9.out.frozen 1
    clear d2 r9
    go_wp2
    refine bodyPost_ret (v := .agg #[.bool b9, .slice A9 n9 c9]) (by simp [results, Tryz.results30, go_sem, q0, q1, q2, q3]) rfl ?_
    exact opq_end hR ⟨_, rfl, (by (repeat (first | exact B9 | exact Below.refl _ _ | refine Below.setCell ?_ (by first | (simp; done) | (simp; omega)) _ | refine Below.alloc ?_ (by first | (simp; done) | (simp; omega)) _))), R9.out.only K9.out (by decide) (((Only.refl _ _).set _ _).set _ _)⟩
end Go.Proofs.YtnpfochbpdfcmaaGreatDoor
