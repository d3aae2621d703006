/- the document's answer for rats: Of, Neg, Sub, Sign, Whole, Div, Make. -/
import Derived.Test.YtkefmeddnncacaaGreatDoorRp
set_option linter.unusedVariables false
set_option linter.unusedSimpArgs false
set_option maxRecDepth 100000
namespace Go.Proofs.YtkefmeddnncacaaGreatDoor
open Go.RowKit

set_option maxHeartbeats 1000000 in
theorem qOf_ok (w : World) (n : Int) (h0 : -9223372036854775808 ≤ n) (h1 : n < 9223372036854775808) :
    Calls Tryz.prog 255 #[.int .i64 n] w fun e w' => ∃ u, e = .returned u ∧ Below w.heap.size w w' ∧ IntR n w.heap.size w' u := by
  refine opq fun R hR => ?_
  have B0 := hide ((Below.refl w.heap.size w).alloc (Nat.le_refl _) (.cells #[.bool false, .slice none 0 0] 25))
  have K0 := hide (Blk.new w 25 #[.bool false, .slice none 0 0])
  by_cases hn : n < 0
  · have e1 : decide (n < 0) = true := by simpa using hn
    have hw : Hid (IntKind.u64.wrap (-IntKind.u64.wrap n) = (((-n).toNat : Nat) : Int)) := by show _ = _; simp only [IntKind.wrap_u64]; omega
    have hN : Hid ((-n).toNat < 18446744073709551616) := by show _ < _; omega
    have hZ : Hid (n.natAbs = (-n).toNat ∧ decide (n < 0) = (true && decide ((-n).toNat ≠ 0))) := by
      refine ⟨by omega, ?_⟩
      rw [Bool.eq_iff_iff]; simp <;> omega
    generalize (-n).toNat = N at *
    clear hn
    go_enter Tryz.func255, Tryz.ntmps255
    go_wp2_with fail
    rw [hw.out]
    refine (kOf_ok _ N hN.out).mono ?_
    rintro e w1 ⟨u, rfl, ru, d1⟩
    have RU := hide (ru.mono (B' := w.heap.size) (by simp))
    have B1 := hide (B0.out.trans (d1.mono B0.out.size))
    have K1 := hide (K0.out.below' d1)
    clear ru d1 B0 K0
    obtain ⟨Au, nu, cu, rfl⟩ := RU.out.slice
    go_wp2_with fail
    refine (qsigned_R (z := n) RU.out hZ.out.1 hZ.out.2).mono ?_
    rintro e w2 ⟨A9, n9, c9, b9, rfl, d2, r9⟩
    have R9 := hide r9
    have B9 := hide (B1.out.trans (d2.mono B1.out.size))
    have K9 := hide (K1.out.below' d2)
    have q0 := K9.out.at_ 0 rfl
    have q1 := K9.out.at_ 1 rfl
    have q2 := K9.out.frozen 0
    have q3 := K9.out.frozen 1
    clear d2 r9
    go_wp2
    refine bodyPost_ret (v := .agg #[.bool b9, .slice A9 n9 c9]) (by simp [results, Tryz.results255, go_sem, q0, q1, q2, q3]) rfl ?_
    exact opq_end hR ⟨_, rfl, (by (repeat (first | exact B9 | exact Below.refl _ _ | refine Below.setCell ?_ (by first | (simp; done) | (simp; omega)) _ | refine Below.alloc ?_ (by first | (simp; done) | (simp; omega)) _))), R9.out.only K9.out (by decide) (((Only.refl _ _).set _ _).set _ _)⟩
  · have e1 : decide (n < 0) = false := by simp; omega
    have hw := hide (pos_wrap (Int.not_lt.1 hn) h1)
    have hN : Hid (n.toNat < 18446744073709551616) := by show _ < _; omega
    have hZ : Hid (n.natAbs = n.toNat ∧ decide (n < 0) = (false && decide (n.toNat ≠ 0))) := by
      refine ⟨by omega, ?_⟩
      rw [Bool.eq_iff_iff]; simp; omega
    generalize n.toNat = N at *
    clear hn
    go_enter Tryz.func255, Tryz.ntmps255
    go_wp2_with fail
    rw [hw.out]
    refine (kOf_ok _ N hN.out).mono ?_
    rintro e w1 ⟨u, rfl, ru, d1⟩
    have RU := hide (ru.mono (B' := w.heap.size) (by simp))
    have B1 := hide (B0.out.trans (d1.mono B0.out.size))
    have K1 := hide (K0.out.below' d1)
    clear ru d1 B0 K0
    obtain ⟨Au, nu, cu, rfl⟩ := RU.out.slice
    go_wp2_with fail
    refine (qsigned_R (z := n) RU.out hZ.out.1 hZ.out.2).mono ?_
    rintro e w2 ⟨A9, n9, c9, b9, rfl, d2, r9⟩
    have R9 := hide r9
    have B9 := hide (B1.out.trans (d2.mono B1.out.size))
    have K9 := hide (K1.out.below' d2)
    have q0 := K9.out.at_ 0 rfl
    have q1 := K9.out.at_ 1 rfl
    have q2 := K9.out.frozen 0
    have q3 := K9.out.frozen 1
    clear d2 r9
    go_wp2
    refine bodyPost_ret (v := .agg #[.bool b9, .slice A9 n9 c9]) (by simp [results, Tryz.results255, go_sem, q0, q1, q2, q3]) rfl ?_
    exact opq_end hR ⟨_, rfl, (by (repeat (first | exact B9 | exact Below.refl _ _ | refine Below.setCell ?_ (by first | (simp; done) | (simp; omega)) _ | refine Below.alloc ?_ (by first | (simp; done) | (simp; omega)) _))), R9.out.only K9.out (by decide) (((Only.refl _ _).set _ _).set _ _)⟩
set_option maxHeartbeats 1000000 in
theorem krOf_P (w : World) (n : Int) (h0 : -9223372036854775808 ≤ n) (h1 : n < 9223372036854775808) :
    Calls Tryz.prog 150 #[.int .i64 n] w fun e w' => ∃ u, e = .returned u ∧ Below w.heap.size w w' ∧ RatR (n : Rat) w.heap.size w' u := by
  refine opq fun R hR => ?_
  go_enter Tryz.func150, Tryz.ntmps150
  have b0 := hide (Below.refl w.heap.size w)
  have K := hide (Blk.new_at w (w.heap.size) (by simp) 27 #[.bool false, .slice none 0 0, .slice none 0 0])
  have y := (Below.refl w.heap.size w).alloc (Nat.le_refl _) (.cells #[.bool false, .slice none 0 0, .slice none 0 0] 27)
  replace b0 := hide (below_tr b0.out y)
  clear y
  go_wp2_with fail
  refine (qOf_ok _ n h0 h1).mono ?_
  rintro e w1 ⟨v9, rfl, d0, r9⟩
  replace K := hide (K.out.below' d0)
  replace b0 := hide (below_tr b0.out d0)
  have R9 := hide (r9.mono (B' := w.heap.size) (by simp))
  clear d0
  clear r9
  obtain ⟨b9, A9, n9, c9, rfl⟩ := R9.out.slice
  have x0 := hide (litR_at w1 (w1.heap.size) (by simp) [1] 1 rfl (is32d (by decide)) (by decide) (by decide) w.heap.size b0.out.size #[.int .u32 1] rfl)
  have xs0 : Hid (Sep (.slice A9 n9 c9) (.slice (some ⟨w1.heap.size, 0, none⟩) 1 1)) := by
    obtain ⟨u, e, hn⟩ := R9.out
    cases e
    exact hn.sep (litR_at w1 (w1.heap.size) (by simp) [1] 1 rfl (is32d (by decide)) (by decide) (by decide) _ (Nat.le_refl _) #[.int .u32 1] rfl)
  have y := (Below.refl w1.heap.size w1).alloc (Nat.le_refl _) (.cells #[.int .u32 1] T32)
  replace K := hide (K.out.below' y)
  replace R9 := hide (R9.out.below y)
  replace b0 := hide (below_tr b0.out y)
  clear y
  have Q : Hid (RatR (n : Rat) w.heap.size (w1.alloc (.cells #[.int .u32 1] T32)) (.agg #[.bool b9, .slice A9 n9 c9, .slice (some ⟨w1.heap.size, 0, none⟩) 1 1])) := by
    obtain ⟨u, e, hn⟩ := R9.out
    cases e
    exact ⟨_, _, rfl, hn, x0.out, xs0.out⟩
  have Kc0 : (w1.alloc (.cells #[.int .u32 1] T32)).cell? ⟨w.heap.size, 0, none⟩ = some (.bool false) := K.out.at_ 0 rfl
  have Kc1 : (w1.alloc (.cells #[.int .u32 1] T32)).cell? ⟨w.heap.size, 1, none⟩ = some (.slice none 0 0) := K.out.at_ 1 rfl
  have Kc2 : (w1.alloc (.cells #[.int .u32 1] T32)).cell? ⟨w.heap.size, 2, none⟩ = some (.slice none 0 0) := K.out.at_ 2 rfl
  have p0 : (w1.alloc (.cells #[.int .u32 1] T32)).frozen? ⟨w.heap.size, 0, none⟩ = false := K.out.frozen 0
  have p1 : (w1.alloc (.cells #[.int .u32 1] T32)).frozen? ⟨w.heap.size, 1, none⟩ = false := K.out.frozen 1
  have p2 : (w1.alloc (.cells #[.int .u32 1] T32)).frozen? ⟨w.heap.size, 2, none⟩ = false := K.out.frozen 2
  go_wp2
  refine bodyPost_ret (v := .agg #[.bool b9, .slice A9 n9 c9, .slice (some ⟨w1.heap.size, 0, none⟩) 1 1]) (by simp [results, Tryz.results150, go_sem, Kc0, Kc1, Kc2, p0, p1, p2]) rfl ?_
  exact opq_end hR ⟨_, rfl, (by (repeat (first | exact b0 | exact Below.refl _ _ | refine Below.setCell ?_ (by first | (simp; done) | (simp; omega)) _ | refine Below.alloc ?_ (by first | (simp; done) | (simp; omega)) _))), Q.out.only K.out (by decide) ((((Only.refl _ _).set _ _).set _ _).set _ _)⟩
def Fact.negR (p : Rat) (B : Nat) : Fact := ⟨fun v w => ∃ b A n c D m k, v = .agg #[.bool b, .slice A n c, .slice D m k] ∧ IntR (-p.num) B w (.agg #[.bool b, .slice A n c]) ∧ NatR p.den B w (.slice D m k), fun _ _ _ ⟨b, A, n, c, D, m, k, h1, h2, h3⟩ hb => ⟨b, A, n, c, D, m, k, h1, h2.below hb, h3.below hb⟩⟩
theorem krAdd_R {w : World} {v v' : Value} {p q : Rat} (B : Nat) (hB : B ≤ w.heap.size) (h : RArg w v p) (h' : RArg w v' q) :
    Calls Tryz.prog 146 #[v, v'] w fun e w' => ∃ u, e = .returned u ∧ Below w.heap.size w w' ∧ RatR (p + q) B w' u := (krAdd_P h h').mono fun e w' ⟨u, q1, q2, q3⟩ => ⟨u, q1, q2, q3.mono hB⟩
set_option maxHeartbeats 2000000 in
theorem krWhole_P {w : World} {v : Value} {p : Rat} (h : RArg w v p) :
    Calls Tryz.prog 17 #[v] w fun e w' => ∃ u, e = .returned u ∧ Below w.heap.size w w' ∧ u = .bool (decide (p.den = 1)) := by
  refine opq fun R hR => ?_
  obtain ⟨b1, A1, n1, c1, D1, m1, k1, rfl⟩ := h.slice
  have S1 := hide h.size
  replace h := hide h
  go_enter Tryz.func17, Tryz.ntmps17
  have b0 := hide (Below.refl w.heap.size w)
  have K1 := hide (Blk.new_at w (w.heap.size) (by simp) 27 #[.bool b1, .slice A1 n1 c1, .slice D1 m1 k1])
  have y := (Below.refl w.heap.size w).alloc (Nat.le_refl _) (.cells #[.bool b1, .slice A1 n1 c1, .slice D1 m1 k1] 27)
  replace b0 := hide (below_tr b0.out y)
  clear y
  have K1c0 : (w.alloc (.cells #[.bool b1, .slice A1 n1 c1, .slice D1 m1 k1] 27)).cell? ⟨w.heap.size, 0, none⟩ = some (.bool b1) := K1.out.at_ 0 rfl
  have K1c1 : (w.alloc (.cells #[.bool b1, .slice A1 n1 c1, .slice D1 m1 k1] 27)).cell? ⟨w.heap.size, 1, none⟩ = some (.slice A1 n1 c1) := K1.out.at_ 1 rfl
  have K1c2 : (w.alloc (.cells #[.bool b1, .slice A1 n1 c1, .slice D1 m1 k1] 27)).cell? ⟨w.heap.size, 2, none⟩ = some (.slice D1 m1 k1) := K1.out.at_ 2 rfl
  go_wp2_with fail
  refine (krFit_P h.out b0.out w.heap.size b0.out.size).mono ?_
  rintro e w1 ⟨v7, rfl, d0, r7⟩
  replace K1 := hide (K1.out.below' d0)
  replace b0 := hide (below_tr b0.out d0)
  clear d0
  have P1 := hide r7
  clear r7
  obtain ⟨b7, A7, n7, c7, D7, m7, k7, rfl⟩ := P1.out.slice
  clear K1c0 K1c1 K1c2
  have K1f0 : w1.frozen? ⟨w.heap.size, 0, none⟩ = false := K1.out.frozen 0
  have K1f1 : w1.frozen? ⟨w.heap.size, 1, none⟩ = false := K1.out.frozen 1
  have K1f2 : w1.frozen? ⟨w.heap.size, 2, none⟩ = false := K1.out.frozen 2
  have K1c0 : w1.cell? ⟨w.heap.size, 0, none⟩ = some (.bool b1) := K1.out.at_ 0 rfl
  have K1c1 : w1.cell? ⟨w.heap.size, 1, none⟩ = some (.slice A1 n1 c1) := K1.out.at_ 1 rfl
  have K1c2 : w1.cell? ⟨w.heap.size, 2, none⟩ = some (.slice D1 m1 k1) := K1.out.at_ 2 rfl
  have F : Only (w.heap.size) w1 (((w1.setCell ⟨w.heap.size, 0, none⟩ (.bool b7)).setCell ⟨w.heap.size, 1, none⟩ (.slice A7 n7 c7)).setCell ⟨w.heap.size, 2, none⟩ (.slice D7 m7 k7)) := ((((Only.refl _ _).set _ _).set _ _).set _ _)
  have b1' : Hid (Below w.heap.size w (((w1.setCell ⟨w.heap.size, 0, none⟩ (.bool b7)).setCell ⟨w.heap.size, 1, none⟩ (.slice A7 n7 c7)).setCell ⟨w.heap.size, 2, none⟩ (.slice D7 m7 k7))) := (by (repeat (first | exact b0 | exact Below.refl _ _ | refine Below.setCell ?_ (by first | (simp; done) | (simp; omega)) _ | refine Below.alloc ?_ (by first | (simp; done) | (simp; omega)) _)))
  have G := hide (RCan.den ((P1.out.only K1.out (by decide) F).can b1'.out))
  clear F P1
  rcases can_is1 G.out with ⟨e1, rfl, ad, rfl, hc⟩ | ⟨e1, rfl, ad, x, rfl, hc, hx⟩ | ⟨e1, hx⟩
  · replace e1 := hide e1
    go_wp2
    exact opq_end hR ⟨_, rfl, b1'.out, by simp [e1.out]⟩
  · replace e1 := hide e1
    go_wp2
    exact opq_end hR ⟨_, rfl, b1'.out, by simp [e1.out]⟩
  · replace e1 := hide e1
    go_wp2
    exact opq_end hR ⟨_, rfl, b1'.out, by simp [e1.out]⟩
theorem ICan.sign {w : World} {b : Bool} {u : Value} {z : Int} (h : ICan w (.agg #[.bool b, u]) z) : decide (z < 0) = b := h.nat.2
end Go.Proofs.YtkefmeddnncacaaGreatDoor
