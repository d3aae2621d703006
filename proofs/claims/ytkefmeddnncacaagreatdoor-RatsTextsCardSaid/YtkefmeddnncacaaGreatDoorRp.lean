/- the document's answer for rats: Check, Fit, lowest, Of, times, Neg, Add, Sub, Mul, Sign, Cmp, Whole. -/
import Derived.Test.YtkefmeddnncacaaGreatDoorBm
import Derived.Test.YtkefmeddnncacaaGreatDoorBk
import Derived.Test.YtkefmeddnncacaaGreatDoorRn
import Derived.Test.YtkefmeddnncacaaGreatDoorKB
set_option linter.unusedVariables false
set_option linter.unusedSimpArgs false
set_option maxRecDepth 100000
namespace Go.Proofs.YtkefmeddnncacaaGreatDoor
open Go.RowKit

theorem qCheck_P {w : World} {v : Value} {b : Bool} {xs : List Nat} (h : IPrt w v b xs) (r : Bool) (hr : iok b xs = r) :
    Calls Tryz.prog 92 #[v] w fun e w' => ∃ u, e = .returned u ∧ Below w.heap.size w w' ∧ u = .bool r :=
  (qCheck_ok h).mono fun e w' ⟨h1, h2⟩ => ⟨_, h1, h2.out, by rw [hr]⟩
theorem kCheck_P {w : World} {v : Value} {xs : List Nat} (h : Prt w v xs) (r : Bool) (hr : chk xs = r) :
    Calls Tryz.prog 93 #[v] w fun e w' => ∃ u, e = .returned u ∧ Below w.heap.size w w' ∧ u = .bool r := by
  obtain ⟨A, n, c, rfl, h1, h2, h3, h4⟩ := h
  exact (rCheck_ok w A n c xs h3).mono fun e w' ⟨q1, q2⟩ => ⟨_, q1, by rw [← q2]; exact Below.refl _ _, by rw [hr]⟩
theorem kGcd_P {w : World} {v v' : Value} {xs ys : List Nat} (h : Prt w v xs) (h' : Prt w v' ys) :
    Calls Tryz.prog 94 #[v, v'] w fun e w' => ∃ u, e = .returned u ∧ Below w.heap.size w w' ∧ NatR (Nat.gcd (nv xs) (nv ys)) w.heap.size w' u :=
  (nq_Gcd h h').mono fun e w' ⟨A, n, c, h1, h2, h3⟩ => ⟨_, h1, h2.out, h3⟩
theorem kGcd_can {w : World} {v v' : Value} {M N : Nat} (h : Can w v M) (h' : Can w v' N) (s : L M ≤ 4398046511104) (s' : L N ≤ 4398046511104) :
    Calls Tryz.prog 94 #[v, v'] w fun e w' => ∃ u, e = .returned u ∧ Below w.heap.size w w' ∧ NatR (Nat.gcd M N) w.heap.size w' u := by
  have := kGcd_P (h.prt s) (h'.prt s')
  rwa [nv_limbs, nv_limbs] at this
theorem kDiv_P {w : World} {v v' : Value} {M N : Nat} (h : Can w v M) (h' : Can w v' N) (s : L M ≤ 4398046511104) (s' : L N ≤ 4398046511104) (hl : N ≠ 0) :
    Calls Tryz.prog 97 #[v, v'] w fun e w' => ∃ q t, e = .returned (.tuple #[q, t, .int .i64 0]) ∧ Below w.heap.size w w' ∧ NatR (M / N) w.heap.size w' q ∧ NatR (M % N) w.heap.size w' t :=
  (kDiv_pos h h' (Nat.le_trans s (by decide)) (Nat.le_trans s' (by decide)) hl).mono fun e w' ⟨q, t, e1, h1, h2, h3, h4⟩ => ⟨q, t, e1, h4.out, h1.out, h2.out⟩
/-- Is it 1: by its parts. -/
theorem can_is1 {w : World} {A : Option Addr} {n c N : Nat} (h : Can w (.slice A n c) N) :
    (N = 1 ∧ n = 1 ∧ ∃ ad, A = some ad ∧ w.cell? ad = some (.int .u32 ((1 : Nat) : Int))) ∨ (N ≠ 1 ∧ n = 1 ∧ ∃ ad x, A = some ad ∧ w.cell? ad = some (.int .u32 ((x : Nat) : Int)) ∧ ((x : Int) == 1) = false) ∨ (N ≠ 1 ∧ ((n : Int) == 1) = false) := by
  obtain ⟨A', c', e, l, rd⟩ := h
  cases e
  by_cases h1 : (limbs N).length = 1
  · have hs : N < 4294967296 := by have := (@limbs_length_le N 1).1 (by omega); simpa using this
    have hp : 0 < N := by
      rcases Nat.eq_zero_or_pos N with h0 | h0
      · subst h0; rw [limbs_zero] at h1; simp at h1
      · exact h0
    have e := limbs_small hp hs
    obtain ⟨ad, e1, hl, hc⟩ := rd.2.2 (by omega)
    have h0 := hc 0 (by omega)
    rw [e] at h0
    simp only [List.getD_cons_zero] at h0
    rw [show ad.add 0 = ad from by unfold Addr.add; split <;> simp_all] at h0
    by_cases hN : N = 1
    · subst hN
      exact .inl ⟨rfl, h1, ad, e1, h0⟩
    · exact .inr (.inl ⟨hN, h1, ad, N, e1, h0, by simp; omega⟩)
  · refine .inr (.inr ⟨fun e => ?_, by simp; omega⟩)
    subst e
    exact h1 (by rw [limbs_small (by omega) (by omega)]; rfl)
set_option maxHeartbeats 1000000 in
theorem krCheck_P {w : World} {v : Value} {b : Bool} {xs ys : List Nat} (h : RPrt w v b xs ys) (r : Bool) (hr : rok b xs ys = r) :
    Calls Tryz.prog 15 #[v] w fun e w' => ∃ u, e = .returned u ∧ Below w.heap.size w w' ∧ u = .bool r := by
  refine opq fun R hR => ?_
  obtain ⟨u, d, rfl, U, V⟩ := h
  obtain ⟨A, n, c, rfl, _⟩ := U.slice
  obtain ⟨D, m, k, rfl, lm⟩ := V.slice
  have em : Hid (ys.isEmpty = decide (m = 0)) := by
    show _ = _
    rw [Bool.eq_iff_iff, List.isEmpty_iff, decide_eq_true_eq, ← lm]
    exact List.length_eq_zero_iff.symm
  clear lm
  replace U := hide U
  replace V := hide V
  replace hr := hide hr
  go_enter Tryz.func15, Tryz.ntmps15
  have b0 := hide (Below.refl w.heap.size w)
  have K := hide (Blk.new_at w (w.heap.size) (by simp) 27 #[.bool b, .slice A n c, .slice D m k])
  have y := (Below.refl w.heap.size w).alloc (Nat.le_refl _) (.cells #[.bool b, .slice A n c, .slice D m k] 27)
  replace b0 := hide (below_tr b0.out y)
  clear y
  replace U := hide (U.out.below b0.out)
  replace V := hide (V.out.below b0.out)
  have Kc0 : (w.alloc (.cells #[.bool b, .slice A n c, .slice D m k] 27)).cell? ⟨w.heap.size, 0, none⟩ = some (.bool b) := K.out.at_ 0 rfl
  have Kc1 : (w.alloc (.cells #[.bool b, .slice A n c, .slice D m k] 27)).cell? ⟨w.heap.size, 1, none⟩ = some (.slice A n c) := K.out.at_ 1 rfl
  have Kc2 : (w.alloc (.cells #[.bool b, .slice A n c, .slice D m k] 27)).cell? ⟨w.heap.size, 2, none⟩ = some (.slice D m k) := K.out.at_ 2 rfl
  cases p1 : iok b xs
  case false =>
    go_wp2_with fail
    refine (qCheck_P (b := b) ⟨_, rfl, U.out⟩ false p1).mono ?_
    rintro e w1 ⟨_, rfl, d0, rfl⟩
    replace K := hide (K.out.below' d0)
    replace U := hide (U.out.below d0)
    replace V := hide (V.out.below d0)
    replace b0 := hide (below_tr b0.out d0)
    clear d0
    clear Kc0 Kc1 Kc2
    have Kc0 : w1.cell? ⟨w.heap.size, 0, none⟩ = some (.bool b) := K.out.at_ 0 rfl
    have Kc1 : w1.cell? ⟨w.heap.size, 1, none⟩ = some (.slice A n c) := K.out.at_ 1 rfl
    have Kc2 : w1.cell? ⟨w.heap.size, 2, none⟩ = some (.slice D m k) := K.out.at_ 2 rfl
    replace p1 := hide p1
    go_wp2
    exact opq_end hR ⟨_, rfl, b0.out, by rw [← hr.out]; simp [rok, p1.out]⟩
  case true =>
    go_wp2_with fail
    refine (qCheck_P (b := b) ⟨_, rfl, U.out⟩ true p1).mono ?_
    rintro e w1 ⟨_, rfl, d0, rfl⟩
    replace K := hide (K.out.below' d0)
    replace U := hide (U.out.below d0)
    replace V := hide (V.out.below d0)
    replace b0 := hide (below_tr b0.out d0)
    clear d0
    clear Kc0 Kc1 Kc2
    have Kc0 : w1.cell? ⟨w.heap.size, 0, none⟩ = some (.bool b) := K.out.at_ 0 rfl
    have Kc1 : w1.cell? ⟨w.heap.size, 1, none⟩ = some (.slice A n c) := K.out.at_ 1 rfl
    have Kc2 : w1.cell? ⟨w.heap.size, 2, none⟩ = some (.slice D m k) := K.out.at_ 2 rfl
    replace p1 := hide p1
    cases p2 : chk ys
    case false =>
      go_wp2_with fail
      refine (kCheck_P V.out false p2).mono ?_
      rintro e w2 ⟨_, rfl, d0, rfl⟩
      replace K := hide (K.out.below' d0)
      replace U := hide (U.out.below d0)
      replace V := hide (V.out.below d0)
      replace b0 := hide (below_tr b0.out d0)
      clear d0
      clear Kc0 Kc1 Kc2
      have Kc0 : w2.cell? ⟨w.heap.size, 0, none⟩ = some (.bool b) := K.out.at_ 0 rfl
      have Kc1 : w2.cell? ⟨w.heap.size, 1, none⟩ = some (.slice A n c) := K.out.at_ 1 rfl
      have Kc2 : w2.cell? ⟨w.heap.size, 2, none⟩ = some (.slice D m k) := K.out.at_ 2 rfl
      replace p2 := hide p2
      go_wp2
      exact opq_end hR ⟨_, rfl, b0.out, by rw [← hr.out]; simp [rok, p2.out]⟩
    case true =>
      go_wp2_with fail
      refine (kCheck_P V.out true p2).mono ?_
      rintro e w2 ⟨_, rfl, d0, rfl⟩
      replace K := hide (K.out.below' d0)
      replace U := hide (U.out.below d0)
      replace V := hide (V.out.below d0)
      replace b0 := hide (below_tr b0.out d0)
      clear d0
      clear Kc0 Kc1 Kc2
      have Kc0 : w2.cell? ⟨w.heap.size, 0, none⟩ = some (.bool b) := K.out.at_ 0 rfl
      have Kc1 : w2.cell? ⟨w.heap.size, 1, none⟩ = some (.slice A n c) := K.out.at_ 1 rfl
      have Kc2 : w2.cell? ⟨w.heap.size, 2, none⟩ = some (.slice D m k) := K.out.at_ 2 rfl
      replace p2 := hide p2
      by_cases p3 : m = 0
      case pos =>
        subst p3
        go_wp2
        exact opq_end hR ⟨_, rfl, b0.out, by rw [← hr.out]; simp [rok, em.out]⟩
      have p4 : 0 < m := by omega
      have e3 : Hid (ys.isEmpty = false) := by show _ = _; rw [em.out]; simpa using p3
      clear p3 em
      go_wp2_with fail
      refine (kGcd_P U.out V.out).mono ?_
      rintro e w3 ⟨gv, rfl, d0, gr⟩
      replace K := hide (K.out.below' d0)
      replace U := hide (U.out.below d0)
      replace V := hide (V.out.below d0)
      replace b0 := hide (below_tr b0.out d0)
      have G := hide (gr.can)
      clear d0
      clear gr
      obtain ⟨Ag, ng, cg, rfl⟩ := G.out.slice
      clear Kc0 Kc1 Kc2
      have ef : Hid (decide (Nat.gcd (nv xs) (nv ys) = 1) = r) := by show _ = _; rw [← hr.out]; simp only [rok, p1.out, p2.out, e3.out, Bool.true_and, Bool.not_false]
      rcases can_is1 G.out with ⟨e1, rfl, ad, rfl, hc⟩ | ⟨e1, rfl, ad, x, rfl, hc, hx⟩ | ⟨e1, hx⟩
      · replace e1 := hide e1
        go_wp2
        exact opq_end hR ⟨_, rfl, b0.out, by rw [← ef.out]; simp [e1.out]⟩
      · replace e1 := hide e1
        go_wp2
        exact opq_end hR ⟨_, rfl, b0.out, by rw [← ef.out]; simp [e1.out]⟩
      · replace e1 := hide e1
        go_wp2
        exact opq_end hR ⟨_, rfl, b0.out, by rw [← ef.out]; simp [e1.out]⟩
set_option maxHeartbeats 1000000 in
theorem krFit_P {w W : World} {v : Value} {q : Rat} (h : RArg w v q) (hb : Below w.heap.size w W) (B : Nat) (hB : B ≤ W.heap.size) :
    Calls Tryz.prog 95 #[v] W fun e w' => ∃ u, e = .returned u ∧ Below W.heap.size W w' ∧ ROld w q B w' u := by
  refine opq fun R hR => ?_
  obtain ⟨b, xs, ys, h1, h2, h3, rfl⟩ := h
  have H1 := hide h1
  have HP := hide (h1.below hb)
  have hB' := hide hB
  obtain ⟨u, d, rfl, U, V⟩ := h1
  obtain ⟨A, n, c, rfl, _⟩ := U.slice
  obtain ⟨D, m, k, rfl, _⟩ := V.slice
  clear h2 h3 hb U V hB
  go_enter Tryz.func95, Tryz.ntmps95
  cases hr : rok b xs ys
  case false =>
    have b0 := hide (Below.refl W.heap.size W)
    have K1 := hide (Blk.new_at W (W.heap.size) (by simp) 27 #[.bool b, .slice A n c, .slice D m k])
    have y := (Below.refl W.heap.size W).alloc (Nat.le_refl _) (.cells #[.bool b, .slice A n c, .slice D m k] 27)
    replace HP := hide (HP.out.below y)
    replace b0 := hide (below_tr b0.out y)
    clear y
    have K2 := hide (Blk.new_at (W.alloc (.cells #[.bool b, .slice A n c, .slice D m k] 27)) (W.heap.size + 1) (by simp) 27 #[.bool false, .slice none 0 0, .slice none 0 0])
    have y := (Below.refl (W.alloc (.cells #[.bool b, .slice A n c, .slice D m k] 27)).heap.size (W.alloc (.cells #[.bool b, .slice A n c, .slice D m k] 27))).alloc (Nat.le_refl _) (.cells #[.bool false, .slice none 0 0, .slice none 0 0] 27)
    replace HP := hide (HP.out.below y)
    replace K1 := hide (K1.out.below' y)
    replace b0 := hide (below_tr b0.out y)
    clear y
    have K1c0 : ((W.alloc (.cells #[.bool b, .slice A n c, .slice D m k] 27)).alloc (.cells #[.bool false, .slice none 0 0, .slice none 0 0] 27)).cell? ⟨W.heap.size, 0, none⟩ = some (.bool b) := K1.out.at_ 0 rfl
    have K1c1 : ((W.alloc (.cells #[.bool b, .slice A n c, .slice D m k] 27)).alloc (.cells #[.bool false, .slice none 0 0, .slice none 0 0] 27)).cell? ⟨W.heap.size, 1, none⟩ = some (.slice A n c) := K1.out.at_ 1 rfl
    have K1c2 : ((W.alloc (.cells #[.bool b, .slice A n c, .slice D m k] 27)).alloc (.cells #[.bool false, .slice none 0 0, .slice none 0 0] 27)).cell? ⟨W.heap.size, 2, none⟩ = some (.slice D m k) := K1.out.at_ 2 rfl
    have K2c0 : ((W.alloc (.cells #[.bool b, .slice A n c, .slice D m k] 27)).alloc (.cells #[.bool false, .slice none 0 0, .slice none 0 0] 27)).cell? ⟨W.heap.size + 1, 0, none⟩ = some (.bool false) := K2.out.at_ 0 rfl
    have K2c1 : ((W.alloc (.cells #[.bool b, .slice A n c, .slice D m k] 27)).alloc (.cells #[.bool false, .slice none 0 0, .slice none 0 0] 27)).cell? ⟨W.heap.size + 1, 1, none⟩ = some (.slice none 0 0) := K2.out.at_ 1 rfl
    have K2c2 : ((W.alloc (.cells #[.bool b, .slice A n c, .slice D m k] 27)).alloc (.cells #[.bool false, .slice none 0 0, .slice none 0 0] 27)).cell? ⟨W.heap.size + 1, 2, none⟩ = some (.slice none 0 0) := K2.out.at_ 2 rfl
    go_wp2_with fail
    refine (krCheck_P HP.out false hr).mono ?_
    rintro e w1 ⟨_, rfl, d0, rfl⟩
    replace HP := hide (HP.out.below d0)
    replace K1 := hide (K1.out.below' d0)
    replace K2 := hide (K2.out.below' d0)
    replace b0 := hide (below_tr b0.out d0)
    clear d0
    clear K1c0 K1c1 K1c2 K2c0 K2c1 K2c2
    have K1c0 : w1.cell? ⟨W.heap.size, 0, none⟩ = some (.bool b) := K1.out.at_ 0 rfl
    have K1c1 : w1.cell? ⟨W.heap.size, 1, none⟩ = some (.slice A n c) := K1.out.at_ 1 rfl
    have K1c2 : w1.cell? ⟨W.heap.size, 2, none⟩ = some (.slice D m k) := K1.out.at_ 2 rfl
    have K2c0 : w1.cell? ⟨W.heap.size + 1, 0, none⟩ = some (.bool false) := K2.out.at_ 0 rfl
    have K2c1 : w1.cell? ⟨W.heap.size + 1, 1, none⟩ = some (.slice none 0 0) := K2.out.at_ 1 rfl
    have K2c2 : w1.cell? ⟨W.heap.size + 1, 2, none⟩ = some (.slice none 0 0) := K2.out.at_ 2 rfl
    clear HP
    have ez : Hid (rv b xs ys = 0) := rv_no hr
    clear H1 hr
    clear K1c0 K1c1 K1c2 K2c0 K2c1 K2c2
    have x0 := hide (litR_at w1 (w1.heap.size) (by simp) [1] 1 rfl (is32d (by decide)) (by decide) (by decide) B (Nat.le_trans hB'.out b0.out.size) #[.int .u32 1] rfl)
    have y := (Below.refl w1.heap.size w1).alloc (Nat.le_refl _) (.cells #[.int .u32 1] T32)
    replace K1 := hide (K1.out.below' y)
    replace K2 := hide (K2.out.below' y)
    replace b0 := hide (below_tr b0.out y)
    clear y
    have Q : Hid (RatR (0 : Rat) B (w1.alloc (.cells #[.int .u32 1] T32)) (.agg #[.bool false, .slice none 0 0, .slice (some ⟨w1.heap.size, 0, none⟩) 1 1])) := ⟨_, _, rfl, NatR.zero _ _, x0.out, Sep.nil _⟩
    have K2c0 : (w1.alloc (.cells #[.int .u32 1] T32)).cell? ⟨W.heap.size + 1, 0, none⟩ = some (.bool false) := K2.out.at_ 0 rfl
    have K2c1 : (w1.alloc (.cells #[.int .u32 1] T32)).cell? ⟨W.heap.size + 1, 1, none⟩ = some (.slice none 0 0) := K2.out.at_ 1 rfl
    have K2c2 : (w1.alloc (.cells #[.int .u32 1] T32)).cell? ⟨W.heap.size + 1, 2, none⟩ = some (.slice none 0 0) := K2.out.at_ 2 rfl
    have p0 : (w1.alloc (.cells #[.int .u32 1] T32)).frozen? ⟨W.heap.size + 1, 0, none⟩ = false := K2.out.frozen 0
    have p1 : (w1.alloc (.cells #[.int .u32 1] T32)).frozen? ⟨W.heap.size + 1, 1, none⟩ = false := K2.out.frozen 1
    have p2 : (w1.alloc (.cells #[.int .u32 1] T32)).frozen? ⟨W.heap.size + 1, 2, none⟩ = false := K2.out.frozen 2
    go_wp2
    refine bodyPost_ret (v := .agg #[.bool false, .slice none 0 0, .slice (some ⟨w1.heap.size, 0, none⟩) 1 1]) (by simp [results, Tryz.results95, go_sem, K2c0, K2c1, K2c2, p0, p1, p2]) rfl ?_
    exact opq_end hR ⟨_, rfl, (by (repeat (first | exact b0 | exact Below.refl _ _ | refine Below.setCell ?_ (by first | (simp; done) | (simp; omega)) _ | refine Below.alloc ?_ (by first | (simp; done) | (simp; omega)) _))), (by rw [ez.out]; exact Or.inr (Q.out.only K2.out (by decide) ((((Only.refl _ _).set _ _).set _ _).set _ _)))⟩
  case true =>
    have b0 := hide (Below.refl W.heap.size W)
    have K1 := hide (Blk.new_at W (W.heap.size) (by simp) 27 #[.bool b, .slice A n c, .slice D m k])
    have y := (Below.refl W.heap.size W).alloc (Nat.le_refl _) (.cells #[.bool b, .slice A n c, .slice D m k] 27)
    replace HP := hide (HP.out.below y)
    replace b0 := hide (below_tr b0.out y)
    clear y
    have K2 := hide (Blk.new_at (W.alloc (.cells #[.bool b, .slice A n c, .slice D m k] 27)) (W.heap.size + 1) (by simp) 27 #[.bool false, .slice none 0 0, .slice none 0 0])
    have y := (Below.refl (W.alloc (.cells #[.bool b, .slice A n c, .slice D m k] 27)).heap.size (W.alloc (.cells #[.bool b, .slice A n c, .slice D m k] 27))).alloc (Nat.le_refl _) (.cells #[.bool false, .slice none 0 0, .slice none 0 0] 27)
    replace HP := hide (HP.out.below y)
    replace K1 := hide (K1.out.below' y)
    replace b0 := hide (below_tr b0.out y)
    clear y
    have K1c0 : ((W.alloc (.cells #[.bool b, .slice A n c, .slice D m k] 27)).alloc (.cells #[.bool false, .slice none 0 0, .slice none 0 0] 27)).cell? ⟨W.heap.size, 0, none⟩ = some (.bool b) := K1.out.at_ 0 rfl
    have K1c1 : ((W.alloc (.cells #[.bool b, .slice A n c, .slice D m k] 27)).alloc (.cells #[.bool false, .slice none 0 0, .slice none 0 0] 27)).cell? ⟨W.heap.size, 1, none⟩ = some (.slice A n c) := K1.out.at_ 1 rfl
    have K1c2 : ((W.alloc (.cells #[.bool b, .slice A n c, .slice D m k] 27)).alloc (.cells #[.bool false, .slice none 0 0, .slice none 0 0] 27)).cell? ⟨W.heap.size, 2, none⟩ = some (.slice D m k) := K1.out.at_ 2 rfl
    have K2c0 : ((W.alloc (.cells #[.bool b, .slice A n c, .slice D m k] 27)).alloc (.cells #[.bool false, .slice none 0 0, .slice none 0 0] 27)).cell? ⟨W.heap.size + 1, 0, none⟩ = some (.bool false) := K2.out.at_ 0 rfl
    have K2c1 : ((W.alloc (.cells #[.bool b, .slice A n c, .slice D m k] 27)).alloc (.cells #[.bool false, .slice none 0 0, .slice none 0 0] 27)).cell? ⟨W.heap.size + 1, 1, none⟩ = some (.slice none 0 0) := K2.out.at_ 1 rfl
    have K2c2 : ((W.alloc (.cells #[.bool b, .slice A n c, .slice D m k] 27)).alloc (.cells #[.bool false, .slice none 0 0, .slice none 0 0] 27)).cell? ⟨W.heap.size + 1, 2, none⟩ = some (.slice none 0 0) := K2.out.at_ 2 rfl
    go_wp2_with fail
    refine (krCheck_P HP.out true hr).mono ?_
    rintro e w1 ⟨_, rfl, d0, rfl⟩
    replace HP := hide (HP.out.below d0)
    replace K1 := hide (K1.out.below' d0)
    replace K2 := hide (K2.out.below' d0)
    replace b0 := hide (below_tr b0.out d0)
    clear d0
    clear K1c0 K1c1 K1c2 K2c0 K2c1 K2c2
    have K1c0 : w1.cell? ⟨W.heap.size, 0, none⟩ = some (.bool b) := K1.out.at_ 0 rfl
    have K1c1 : w1.cell? ⟨W.heap.size, 1, none⟩ = some (.slice A n c) := K1.out.at_ 1 rfl
    have K1c2 : w1.cell? ⟨W.heap.size, 2, none⟩ = some (.slice D m k) := K1.out.at_ 2 rfl
    have K2c0 : w1.cell? ⟨W.heap.size + 1, 0, none⟩ = some (.bool false) := K2.out.at_ 0 rfl
    have K2c1 : w1.cell? ⟨W.heap.size + 1, 1, none⟩ = some (.slice none 0 0) := K2.out.at_ 1 rfl
    have K2c2 : w1.cell? ⟨W.heap.size + 1, 2, none⟩ = some (.slice none 0 0) := K2.out.at_ 2 rfl
    clear HP
    have Q := hide (H1.out.can hr)
    clear H1 hr
    have p0 : w1.frozen? ⟨W.heap.size + 1, 0, none⟩ = false := K2.out.frozen 0
    have p1 : w1.frozen? ⟨W.heap.size + 1, 1, none⟩ = false := K2.out.frozen 1
    have p2 : w1.frozen? ⟨W.heap.size + 1, 2, none⟩ = false := K2.out.frozen 2
    go_wp2
    refine bodyPost_ret (v := .agg #[.bool b, .slice A n c, .slice D m k]) (by simp [results, Tryz.results95, go_sem, K2c0, K2c1, K2c2, p0, p1, p2]) rfl ?_
    exact opq_end hR ⟨_, rfl, (by (repeat (first | exact b0 | exact Below.refl _ _ | refine Below.setCell ?_ (by first | (simp; done) | (simp; omega)) _ | refine Below.alloc ?_ (by first | (simp; done) | (simp; omega)) _))), (Or.inl Q.out)⟩
theorem neg_and {z : Int} {d N : Nat} {b : Bool} (hb : decide (z < 0) = b) (hN : N = z.natAbs / Nat.gcd z.natAbs d) : (b && decide (N ≠ 0)) = b := by
  subst hb hN
  by_cases h : z < 0
  · rw [decide_eq_true (Nat.ne_of_gt (@low_pos z d h)), Bool.and_true]
  · simp [h]
theorem qsigned_P {w : World} {u : Value} {b : Bool} {N : Nat} (h : Can w u N) :
    Calls Tryz.prog 87 #[.bool b, u] w fun e w' => e = .returned (.agg #[.bool (b && decide (N ≠ 0)), u]) ∧ Below w.heap.size w w' := (qsigned_ok h).mono fun e w' ⟨h1, h2⟩ => ⟨h1, h2.out⟩
set_option maxHeartbeats 1000000 in
theorem krlow_P {w : World} {v v' : Value} {z : Int} {d : Nat} (h : ICan w v z) (h' : Can w v' d) (s : L z.natAbs ≤ 4398046511104) (s' : L d ≤ 4398046511104) (hd : d ≠ 0) :
    Calls Tryz.prog 86 #[v, v'] w fun e w' => ∃ u, e = .returned u ∧ Below w.heap.size w w' ∧ RatR (mkRat z d) w.heap.size w' u := by
  refine opq fun R hR => ?_
  obtain ⟨u, rfl, U⟩ := h
  obtain ⟨A, n, c, rfl⟩ := U.slice
  obtain ⟨D, m, k, rfl⟩ := h'.slice
  replace U := hide U
  have V := hide h'
  have HE := hide (low_num (z := z) hd)
  have hg : Hid (Nat.gcd z.natAbs d ≠ 0) := Nat.ne_of_gt (Nat.gcd_pos_of_pos_right _ (Nat.pos_of_ne_zero hd))
  have sg : Hid (L (Nat.gcd z.natAbs d) ≤ 4398046511104) := L_gcd s s'
  replace s := hide s
  replace s' := hide s'
  clear h' hd
  obtain ⟨b, hb⟩ : ∃ b, Hid (decide (z < 0) = b) := ⟨_, rfl⟩
  rw [hb.out]
  go_enter Tryz.func86, Tryz.ntmps86
  have b0 := hide (Below.refl w.heap.size w)
  have K1 := hide (Blk.new_at w (w.heap.size) (by simp) 25 #[.bool b, .slice A n c])
  have y := (Below.refl w.heap.size w).alloc (Nat.le_refl _) (.cells #[.bool b, .slice A n c] 25)
  replace U := hide (U.out.below y)
  replace V := hide (V.out.below y)
  replace b0 := hide (below_tr b0.out y)
  clear y
  have K2 := hide (Blk.new_at (w.alloc (.cells #[.bool b, .slice A n c] 25)) (w.heap.size + 1) (by simp) 27 #[.bool false, .slice none 0 0, .slice none 0 0])
  have y := (Below.refl (w.alloc (.cells #[.bool b, .slice A n c] 25)).heap.size (w.alloc (.cells #[.bool b, .slice A n c] 25))).alloc (Nat.le_refl _) (.cells #[.bool false, .slice none 0 0, .slice none 0 0] 27)
  replace U := hide (U.out.below y)
  replace V := hide (V.out.below y)
  replace K1 := hide (K1.out.below' y)
  replace b0 := hide (below_tr b0.out y)
  clear y
  have K1c0 : ((w.alloc (.cells #[.bool b, .slice A n c] 25)).alloc (.cells #[.bool false, .slice none 0 0, .slice none 0 0] 27)).cell? ⟨w.heap.size, 0, none⟩ = some (.bool b) := K1.out.at_ 0 rfl
  have K1c1 : ((w.alloc (.cells #[.bool b, .slice A n c] 25)).alloc (.cells #[.bool false, .slice none 0 0, .slice none 0 0] 27)).cell? ⟨w.heap.size, 1, none⟩ = some (.slice A n c) := K1.out.at_ 1 rfl
  go_wp2_with fail
  refine (kGcd_can U.out V.out s.out s'.out).mono ?_
  rintro e w1 ⟨gv, rfl, d0, gr⟩
  replace U := hide (U.out.below d0)
  replace V := hide (V.out.below d0)
  replace K1 := hide (K1.out.below' d0)
  replace K2 := hide (K2.out.below' d0)
  replace b0 := hide (below_tr b0.out d0)
  have G := hide (gr.can)
  clear d0
  clear gr
  obtain ⟨Ag, ng, cg, rfl⟩ := G.out.slice
  clear K1c0 K1c1
  have K1c0 : w1.cell? ⟨w.heap.size, 0, none⟩ = some (.bool b) := K1.out.at_ 0 rfl
  have K1c1 : w1.cell? ⟨w.heap.size, 1, none⟩ = some (.slice A n c) := K1.out.at_ 1 rfl
  go_wp2_with fail
  refine (kDiv_P U.out G.out s.out sg.out hg.out).mono ?_
  rintro e w2 ⟨qv, tv, rfl, d0, qr, _⟩
  have bz := b0.out.size
  replace U := hide (U.out.below d0)
  replace V := hide (V.out.below d0)
  replace K1 := hide (K1.out.below' d0)
  replace K2 := hide (K2.out.below' d0)
  replace G := hide (G.out.below d0)
  replace b0 := hide (below_tr b0.out d0)
  have N1 := hide (qr.mono (B' := w.heap.size) bz)
  clear d0 bz
  clear qr
  obtain ⟨An, nn, cn, rfl⟩ := N1.out.slice
  clear K1c0 K1c1
  have K1c0 : w2.cell? ⟨w.heap.size, 0, none⟩ = some (.bool b) := K1.out.at_ 0 rfl
  have K1c1 : w2.cell? ⟨w.heap.size, 1, none⟩ = some (.slice A n c) := K1.out.at_ 1 rfl
  have B1 := hide (show w.heap.size ≤ w2.heap.size from b0.out.size)
  go_wp2_with fail
  refine (kDiv_P V.out G.out s'.out sg.out hg.out).mono ?_
  rintro e w3 ⟨qv2, tv2, rfl, d0, qr2, _⟩
  have SS := hide (N1.out.sep qr2)
  replace U := hide (U.out.below d0)
  replace V := hide (V.out.below d0)
  replace K1 := hide (K1.out.below' d0)
  replace K2 := hide (K2.out.below' d0)
  replace G := hide (G.out.below d0)
  replace N1 := hide (N1.out.below d0)
  replace b0 := hide (below_tr b0.out d0)
  have N2 := hide (qr2.mono B1.out)
  clear d0 qr2
  obtain ⟨Ad, nd, cd, rfl⟩ := N2.out.slice
  clear K1c0 K1c1
  have K1c0 : w3.cell? ⟨w.heap.size, 0, none⟩ = some (.bool b) := K1.out.at_ 0 rfl
  have K1c1 : w3.cell? ⟨w.heap.size, 1, none⟩ = some (.slice A n c) := K1.out.at_ 1 rfl
  go_wp2_with fail
  refine (qsigned_P (b := b) N1.out.can).mono ?_
  rintro e w4 ⟨rfl, d0⟩
  replace U := hide (U.out.below d0)
  replace V := hide (V.out.below d0)
  replace K1 := hide (K1.out.below' d0)
  replace K2 := hide (K2.out.below' d0)
  replace G := hide (G.out.below d0)
  replace N1 := hide (N1.out.below d0)
  replace N2 := hide (N2.out.below d0)
  replace b0 := hide (below_tr b0.out d0)
  clear d0
  clear K1c0 K1c1
  rw [neg_and (N := z.natAbs / Nat.gcd z.natAbs d) hb.out rfl]
  have K2c0 : w4.cell? ⟨w.heap.size + 1, 0, none⟩ = some (.bool false) := K2.out.at_ 0 rfl
  have K2c1 : w4.cell? ⟨w.heap.size + 1, 1, none⟩ = some (.slice none 0 0) := K2.out.at_ 1 rfl
  have K2c2 : w4.cell? ⟨w.heap.size + 1, 2, none⟩ = some (.slice none 0 0) := K2.out.at_ 2 rfl
  have Q := hide (ratR_mk N1.out N2.out SS.out HE.out.1 HE.out.2.1 (HE.out.2.2.trans hb.out))
  clear U V G N1 N2 SS HE hg sg s s' hb
  have p0 : w4.frozen? ⟨w.heap.size + 1, 0, none⟩ = false := K2.out.frozen 0
  have p1 : w4.frozen? ⟨w.heap.size + 1, 1, none⟩ = false := K2.out.frozen 1
  have p2 : w4.frozen? ⟨w.heap.size + 1, 2, none⟩ = false := K2.out.frozen 2
  go_wp2
  refine bodyPost_ret (v := .agg #[.bool b, .slice An nn cn, .slice Ad nd cd]) (by simp [results, Tryz.results86, go_sem, K2c0, K2c1, K2c2, p0, p1, p2]) rfl ?_
  exact opq_end hR ⟨_, rfl, (by (repeat (first | exact b0 | exact Below.refl _ _ | refine Below.setCell ?_ (by first | (simp; done) | (simp; omega)) _ | refine Below.alloc ?_ (by first | (simp; done) | (simp; omega)) _))), Q.out.only K2.out (by decide) ((((Only.refl _ _).set _ _).set _ _).set _ _)⟩
end Go.Proofs.YtkefmeddnncacaaGreatDoor
