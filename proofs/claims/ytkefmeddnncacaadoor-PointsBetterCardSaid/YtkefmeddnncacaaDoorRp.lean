/- the document's answer for rats: Check, Fit, lowest, Of, times, Neg, Add, Sub, Mul, Sign, Cmp, Whole. -/
import Derived.Test.YtkefmeddnncacaaDoorBm
import Derived.Test.YtkefmeddnncacaaDoorBk
import Derived.Test.YtkefmeddnncacaaDoorRn
import Derived.Test.YtkefmeddnncacaaDoorKB
set_option linter.unusedVariables false
set_option linter.unusedSimpArgs false
set_option maxRecDepth 100000
namespace Go.Proofs.YtkefmeddnncacaaDoor
open Go.RowKit

theorem qCheck_P {w : World} {v : Value} {b : Bool} {xs : List Nat} (h : IPrt w v b xs) (r : Bool) (hr : iok b xs = r) :
    Calls Tryd.prog 206 #[v] w fun e w' => ∃ u, e = .returned u ∧ Below w.heap.size w w' ∧ u = .bool r :=
  (qCheck_ok h).mono fun e w' ⟨h1, h2⟩ => ⟨_, h1, h2.out, by rw [hr]⟩
theorem kCheck_P {w : World} {v : Value} {xs : List Nat} (h : Prt w v xs) (r : Bool) (hr : chk xs = r) :
    Calls Tryd.prog 207 #[v] w fun e w' => ∃ u, e = .returned u ∧ Below w.heap.size w w' ∧ u = .bool r := by
  obtain ⟨A, n, c, rfl, h1, h2, h3, h4⟩ := h
  exact (rCheck_ok w A n c xs h3).mono fun e w' ⟨q1, q2⟩ => ⟨_, q1, by rw [← q2]; exact Below.refl _ _, by rw [hr]⟩
theorem kGcd_P {w : World} {v v' : Value} {xs ys : List Nat} (h : Prt w v xs) (h' : Prt w v' ys) :
    Calls Tryd.prog 208 #[v, v'] w fun e w' => ∃ u, e = .returned u ∧ Below w.heap.size w w' ∧ NatR (Nat.gcd (nv xs) (nv ys)) w.heap.size w' u :=
  (nq_Gcd h h').mono fun e w' ⟨A, n, c, h1, h2, h3⟩ => ⟨_, h1, h2.out, h3⟩
/-- Is it 1: by its parts. -/
theorem can_is1 {w : World} {A : Option Addr} {n c N : Nat} (h : Can w (.slice A n c) N) :
    (N = 1 ∧ n = 1 ∧ ∃ ad, A = some ad ∧ w.cell? ad = some (.int .u32 ((1 : Nat) : Int))) ∨ (N ≠ 1 ∧ n = 1 ∧ ∃ ad x, A = some ad ∧ w.cell? ad = some (.int .u32 ((x : Nat) : Int)) ∧ ((x : Int) == 1) = false) ∨ (N ≠ 1 ∧ ((n : Int) == 1) = false) := by
  obtain ⟨A', c', e, l, rd⟩ := h
  cases e
  by_cases h1 : (limbs N).length = 1
  · have hs : N < 4294967296 := by have := (@limbs_length_le N 1).1 (by omega); simpa using this
    have hp : 0 < N := by
      rcases Nat.eq_zero_or_pos N with h0 | h0
      · subst h0; rw [limbs_zero] at h1; simp at h1
      · exact h0
    have e := limbs_small hp hs
    obtain ⟨ad, e1, hl, hc⟩ := rd.2.2 (by omega)
    have h0 := hc 0 (by omega)
    rw [e] at h0
    simp only [List.getD_cons_zero] at h0
    rw [show ad.add 0 = ad from by unfold Addr.add; split <;> simp_all] at h0
    by_cases hN : N = 1
    · subst hN
      exact .inl ⟨rfl, h1, ad, e1, h0⟩
    · exact .inr (.inl ⟨hN, h1, ad, N, e1, h0, by simp; omega⟩)
  · refine .inr (.inr ⟨fun e => ?_, by simp; omega⟩)
    subst e
    exact h1 (by rw [limbs_small (by omega) (by omega)]; rfl)
theorem fp_assayerref02_Cmp (args : Array Value) (w : World) : (callFunc 152 args).run Tryd.prog w = .ok (.enter 152 args) w := callFunc_enter Tryd.func152 (by kernel_rfl) rfl args w
theorem fp_assayerref03_times (args : Array Value) (w : World) : (callFunc 153 args).run Tryd.prog w = .ok (.enter 153 args) w := callFunc_enter Tryd.func153 (by kernel_rfl) rfl args w
set_option maxHeartbeats 1000000 in
theorem krCheck_P {w : World} {v : Value} {b : Bool} {xs ys : List Nat} (h : RPrt w v b xs ys) (r : Bool) (hr : rok b xs ys = r) :
    Calls Tryd.prog 189 #[v] w fun e w' => ∃ u, e = .returned u ∧ Below w.heap.size w w' ∧ u = .bool r := by
  refine opq fun R hR => ?_
  obtain ⟨u, d, rfl, U, V⟩ := h
  obtain ⟨A, n, c, rfl, _⟩ := U.slice
  obtain ⟨D, m, k, rfl, lm⟩ := V.slice
  have em : Hid (ys.isEmpty = decide (m = 0)) := by
    show _ = _
    rw [Bool.eq_iff_iff, List.isEmpty_iff, decide_eq_true_eq, ← lm]
    exact List.length_eq_zero_iff.symm
  clear lm
  replace U := hide U
  replace V := hide V
  replace hr := hide hr
  go_enter Tryd.func189, Tryd.ntmps189
  have b0 := hide (Below.refl w.heap.size w)
  have K := hide (Blk.new_at w (w.heap.size) (by simp) 51 #[.bool b, .slice A n c, .slice D m k])
  have y := (Below.refl w.heap.size w).alloc (Nat.le_refl _) (.cells #[.bool b, .slice A n c, .slice D m k] 51)
  replace b0 := hide (below_tr b0.out y)
  clear y
  replace U := hide (U.out.below b0.out)
  replace V := hide (V.out.below b0.out)
  have Kc0 : (w.alloc (.cells #[.bool b, .slice A n c, .slice D m k] 51)).cell? ⟨w.heap.size, 0, none⟩ = some (.bool b) := K.out.at_ 0 rfl
  have Kc1 : (w.alloc (.cells #[.bool b, .slice A n c, .slice D m k] 51)).cell? ⟨w.heap.size, 1, none⟩ = some (.slice A n c) := K.out.at_ 1 rfl
  have Kc2 : (w.alloc (.cells #[.bool b, .slice A n c, .slice D m k] 51)).cell? ⟨w.heap.size, 2, none⟩ = some (.slice D m k) := K.out.at_ 2 rfl
  cases p1 : iok b xs
  case false =>
    go_wp2_with fail
    refine (qCheck_P (b := b) ⟨_, rfl, U.out⟩ false p1).mono ?_
    rintro e w1 ⟨_, rfl, d0, rfl⟩
    replace K := hide (K.out.below' d0)
    replace U := hide (U.out.below d0)
    replace V := hide (V.out.below d0)
    replace b0 := hide (below_tr b0.out d0)
    clear d0
    clear Kc0 Kc1 Kc2
    have Kc0 : w1.cell? ⟨w.heap.size, 0, none⟩ = some (.bool b) := K.out.at_ 0 rfl
    have Kc1 : w1.cell? ⟨w.heap.size, 1, none⟩ = some (.slice A n c) := K.out.at_ 1 rfl
    have Kc2 : w1.cell? ⟨w.heap.size, 2, none⟩ = some (.slice D m k) := K.out.at_ 2 rfl
    replace p1 := hide p1
    go_wp2
    exact opq_end hR ⟨_, rfl, b0.out, by rw [← hr.out]; simp [rok, p1.out]⟩
  case true =>
    go_wp2_with fail
    refine (qCheck_P (b := b) ⟨_, rfl, U.out⟩ true p1).mono ?_
    rintro e w1 ⟨_, rfl, d0, rfl⟩
    replace K := hide (K.out.below' d0)
    replace U := hide (U.out.below d0)
    replace V := hide (V.out.below d0)
    replace b0 := hide (below_tr b0.out d0)
    clear d0
    clear Kc0 Kc1 Kc2
    have Kc0 : w1.cell? ⟨w.heap.size, 0, none⟩ = some (.bool b) := K.out.at_ 0 rfl
    have Kc1 : w1.cell? ⟨w.heap.size, 1, none⟩ = some (.slice A n c) := K.out.at_ 1 rfl
    have Kc2 : w1.cell? ⟨w.heap.size, 2, none⟩ = some (.slice D m k) := K.out.at_ 2 rfl
    replace p1 := hide p1
    cases p2 : chk ys
    case false =>
      go_wp2_with fail
      refine (kCheck_P V.out false p2).mono ?_
      rintro e w2 ⟨_, rfl, d0, rfl⟩
      replace K := hide (K.out.below' d0)
      replace U := hide (U.out.below d0)
      replace V := hide (V.out.below d0)
      replace b0 := hide (below_tr b0.out d0)
      clear d0
      clear Kc0 Kc1 Kc2
      have Kc0 : w2.cell? ⟨w.heap.size, 0, none⟩ = some (.bool b) := K.out.at_ 0 rfl
      have Kc1 : w2.cell? ⟨w.heap.size, 1, none⟩ = some (.slice A n c) := K.out.at_ 1 rfl
      have Kc2 : w2.cell? ⟨w.heap.size, 2, none⟩ = some (.slice D m k) := K.out.at_ 2 rfl
      replace p2 := hide p2
      go_wp2
      exact opq_end hR ⟨_, rfl, b0.out, by rw [← hr.out]; simp [rok, p2.out]⟩
    case true =>
      go_wp2_with fail
      refine (kCheck_P V.out true p2).mono ?_
      rintro e w2 ⟨_, rfl, d0, rfl⟩
      replace K := hide (K.out.below' d0)
      replace U := hide (U.out.below d0)
      replace V := hide (V.out.below d0)
      replace b0 := hide (below_tr b0.out d0)
      clear d0
      clear Kc0 Kc1 Kc2
      have Kc0 : w2.cell? ⟨w.heap.size, 0, none⟩ = some (.bool b) := K.out.at_ 0 rfl
      have Kc1 : w2.cell? ⟨w.heap.size, 1, none⟩ = some (.slice A n c) := K.out.at_ 1 rfl
      have Kc2 : w2.cell? ⟨w.heap.size, 2, none⟩ = some (.slice D m k) := K.out.at_ 2 rfl
      replace p2 := hide p2
      by_cases p3 : m = 0
      case pos =>
        subst p3
        go_wp2
        exact opq_end hR ⟨_, rfl, b0.out, by rw [← hr.out]; simp [rok, em.out]⟩
      have p4 : 0 < m := by omega
      have e3 : Hid (ys.isEmpty = false) := by show _ = _; rw [em.out]; simpa using p3
      clear p3 em
      go_wp2_with fail
      refine (kGcd_P U.out V.out).mono ?_
      rintro e w3 ⟨gv, rfl, d0, gr⟩
      replace K := hide (K.out.below' d0)
      replace U := hide (U.out.below d0)
      replace V := hide (V.out.below d0)
      replace b0 := hide (below_tr b0.out d0)
      have G := hide (gr.can)
      clear d0
      clear gr
      obtain ⟨Ag, ng, cg, rfl⟩ := G.out.slice
      clear Kc0 Kc1 Kc2
      have ef : Hid (decide (Nat.gcd (nv xs) (nv ys) = 1) = r) := by show _ = _; rw [← hr.out]; simp only [rok, p1.out, p2.out, e3.out, Bool.true_and, Bool.not_false]
      rcases can_is1 G.out with ⟨e1, rfl, ad, rfl, hc⟩ | ⟨e1, rfl, ad, x, rfl, hc, hx⟩ | ⟨e1, hx⟩
      · replace e1 := hide e1
        go_wp2
        exact opq_end hR ⟨_, rfl, b0.out, by rw [← ef.out]; simp [e1.out]⟩
      · replace e1 := hide e1
        go_wp2
        exact opq_end hR ⟨_, rfl, b0.out, by rw [← ef.out]; simp [e1.out]⟩
      · replace e1 := hide e1
        go_wp2
        exact opq_end hR ⟨_, rfl, b0.out, by rw [← ef.out]; simp [e1.out]⟩
set_option maxHeartbeats 1000000 in
theorem krFit_P {w W : World} {v : Value} {q : Rat} (h : RArg w v q) (hb : Below w.heap.size w W) (B : Nat) (hB : B ≤ W.heap.size) :
    Calls Tryd.prog 151 #[v] W fun e w' => ∃ u, e = .returned u ∧ Below W.heap.size W w' ∧ ROld w q B w' u := by
  refine opq fun R hR => ?_
  obtain ⟨b, xs, ys, h1, h2, h3, rfl⟩ := h
  have H1 := hide h1
  have HP := hide (h1.below hb)
  have hB' := hide hB
  obtain ⟨u, d, rfl, U, V⟩ := h1
  obtain ⟨A, n, c, rfl, _⟩ := U.slice
  obtain ⟨D, m, k, rfl, _⟩ := V.slice
  clear h2 h3 hb U V hB
  go_enter Tryd.func151, Tryd.ntmps151
  cases hr : rok b xs ys
  case false =>
    have b0 := hide (Below.refl W.heap.size W)
    have K1 := hide (Blk.new_at W (W.heap.size) (by simp) 51 #[.bool b, .slice A n c, .slice D m k])
    have y := (Below.refl W.heap.size W).alloc (Nat.le_refl _) (.cells #[.bool b, .slice A n c, .slice D m k] 51)
    replace HP := hide (HP.out.below y)
    replace b0 := hide (below_tr b0.out y)
    clear y
    have K2 := hide (Blk.new_at (W.alloc (.cells #[.bool b, .slice A n c, .slice D m k] 51)) (W.heap.size + 1) (by simp) 51 #[.bool false, .slice none 0 0, .slice none 0 0])
    have y := (Below.refl (W.alloc (.cells #[.bool b, .slice A n c, .slice D m k] 51)).heap.size (W.alloc (.cells #[.bool b, .slice A n c, .slice D m k] 51))).alloc (Nat.le_refl _) (.cells #[.bool false, .slice none 0 0, .slice none 0 0] 51)
    replace HP := hide (HP.out.below y)
    replace K1 := hide (K1.out.below' y)
    replace b0 := hide (below_tr b0.out y)
    clear y
    have K1c0 : ((W.alloc (.cells #[.bool b, .slice A n c, .slice D m k] 51)).alloc (.cells #[.bool false, .slice none 0 0, .slice none 0 0] 51)).cell? ⟨W.heap.size, 0, none⟩ = some (.bool b) := K1.out.at_ 0 rfl
    have K1c1 : ((W.alloc (.cells #[.bool b, .slice A n c, .slice D m k] 51)).alloc (.cells #[.bool false, .slice none 0 0, .slice none 0 0] 51)).cell? ⟨W.heap.size, 1, none⟩ = some (.slice A n c) := K1.out.at_ 1 rfl
    have K1c2 : ((W.alloc (.cells #[.bool b, .slice A n c, .slice D m k] 51)).alloc (.cells #[.bool false, .slice none 0 0, .slice none 0 0] 51)).cell? ⟨W.heap.size, 2, none⟩ = some (.slice D m k) := K1.out.at_ 2 rfl
    have K2c0 : ((W.alloc (.cells #[.bool b, .slice A n c, .slice D m k] 51)).alloc (.cells #[.bool false, .slice none 0 0, .slice none 0 0] 51)).cell? ⟨W.heap.size + 1, 0, none⟩ = some (.bool false) := K2.out.at_ 0 rfl
    have K2c1 : ((W.alloc (.cells #[.bool b, .slice A n c, .slice D m k] 51)).alloc (.cells #[.bool false, .slice none 0 0, .slice none 0 0] 51)).cell? ⟨W.heap.size + 1, 1, none⟩ = some (.slice none 0 0) := K2.out.at_ 1 rfl
    have K2c2 : ((W.alloc (.cells #[.bool b, .slice A n c, .slice D m k] 51)).alloc (.cells #[.bool false, .slice none 0 0, .slice none 0 0] 51)).cell? ⟨W.heap.size + 1, 2, none⟩ = some (.slice none 0 0) := K2.out.at_ 2 rfl
    go_wp2_with fail
    refine (krCheck_P HP.out false hr).mono ?_
    rintro e w1 ⟨_, rfl, d0, rfl⟩
    replace HP := hide (HP.out.below d0)
    replace K1 := hide (K1.out.below' d0)
    replace K2 := hide (K2.out.below' d0)
    replace b0 := hide (below_tr b0.out d0)
    clear d0
    clear K1c0 K1c1 K1c2 K2c0 K2c1 K2c2
    have K1c0 : w1.cell? ⟨W.heap.size, 0, none⟩ = some (.bool b) := K1.out.at_ 0 rfl
    have K1c1 : w1.cell? ⟨W.heap.size, 1, none⟩ = some (.slice A n c) := K1.out.at_ 1 rfl
    have K1c2 : w1.cell? ⟨W.heap.size, 2, none⟩ = some (.slice D m k) := K1.out.at_ 2 rfl
    have K2c0 : w1.cell? ⟨W.heap.size + 1, 0, none⟩ = some (.bool false) := K2.out.at_ 0 rfl
    have K2c1 : w1.cell? ⟨W.heap.size + 1, 1, none⟩ = some (.slice none 0 0) := K2.out.at_ 1 rfl
    have K2c2 : w1.cell? ⟨W.heap.size + 1, 2, none⟩ = some (.slice none 0 0) := K2.out.at_ 2 rfl
    clear HP
    have ez : Hid (rv b xs ys = 0) := rv_no hr
    clear H1 hr
    clear K1c0 K1c1 K1c2 K2c0 K2c1 K2c2
    have x0 := hide (litR_at w1 (w1.heap.size) (by simp) [1] 1 rfl (is32d (by decide)) (by decide) (by decide) B (Nat.le_trans hB'.out b0.out.size) #[.int .u32 1] rfl)
    have y := (Below.refl w1.heap.size w1).alloc (Nat.le_refl _) (.cells #[.int .u32 1] T32)
    replace K1 := hide (K1.out.below' y)
    replace K2 := hide (K2.out.below' y)
    replace b0 := hide (below_tr b0.out y)
    clear y
    have Q : Hid (RatR (0 : Rat) B (w1.alloc (.cells #[.int .u32 1] T32)) (.agg #[.bool false, .slice none 0 0, .slice (some ⟨w1.heap.size, 0, none⟩) 1 1])) := ⟨_, _, rfl, NatR.zero _ _, x0.out, Sep.nil _⟩
    have K2c0 : (w1.alloc (.cells #[.int .u32 1] T32)).cell? ⟨W.heap.size + 1, 0, none⟩ = some (.bool false) := K2.out.at_ 0 rfl
    have K2c1 : (w1.alloc (.cells #[.int .u32 1] T32)).cell? ⟨W.heap.size + 1, 1, none⟩ = some (.slice none 0 0) := K2.out.at_ 1 rfl
    have K2c2 : (w1.alloc (.cells #[.int .u32 1] T32)).cell? ⟨W.heap.size + 1, 2, none⟩ = some (.slice none 0 0) := K2.out.at_ 2 rfl
    have p0 : (w1.alloc (.cells #[.int .u32 1] T32)).frozen? ⟨W.heap.size + 1, 0, none⟩ = false := K2.out.frozen 0
    have p1 : (w1.alloc (.cells #[.int .u32 1] T32)).frozen? ⟨W.heap.size + 1, 1, none⟩ = false := K2.out.frozen 1
    have p2 : (w1.alloc (.cells #[.int .u32 1] T32)).frozen? ⟨W.heap.size + 1, 2, none⟩ = false := K2.out.frozen 2
    go_wp2
    refine bodyPost_ret (v := .agg #[.bool false, .slice none 0 0, .slice (some ⟨w1.heap.size, 0, none⟩) 1 1]) (by simp [results, Tryd.results151, go_sem, K2c0, K2c1, K2c2, p0, p1, p2]) rfl ?_
    exact opq_end hR ⟨_, rfl, (by (repeat (first | exact b0 | exact Below.refl _ _ | refine Below.setCell ?_ (by first | (simp; done) | (simp; omega)) _ | refine Below.alloc ?_ (by first | (simp; done) | (simp; omega)) _))), (by rw [ez.out]; exact Or.inr (Q.out.only K2.out (by decide) ((((Only.refl _ _).set _ _).set _ _).set _ _)))⟩
  case true =>
    have b0 := hide (Below.refl W.heap.size W)
    have K1 := hide (Blk.new_at W (W.heap.size) (by simp) 51 #[.bool b, .slice A n c, .slice D m k])
    have y := (Below.refl W.heap.size W).alloc (Nat.le_refl _) (.cells #[.bool b, .slice A n c, .slice D m k] 51)
    replace HP := hide (HP.out.below y)
    replace b0 := hide (below_tr b0.out y)
    clear y
    have K2 := hide (Blk.new_at (W.alloc (.cells #[.bool b, .slice A n c, .slice D m k] 51)) (W.heap.size + 1) (by simp) 51 #[.bool false, .slice none 0 0, .slice none 0 0])
    have y := (Below.refl (W.alloc (.cells #[.bool b, .slice A n c, .slice D m k] 51)).heap.size (W.alloc (.cells #[.bool b, .slice A n c, .slice D m k] 51))).alloc (Nat.le_refl _) (.cells #[.bool false, .slice none 0 0, .slice none 0 0] 51)
    replace HP := hide (HP.out.below y)
    replace K1 := hide (K1.out.below' y)
    replace b0 := hide (below_tr b0.out y)
    clear y
    have K1c0 : ((W.alloc (.cells #[.bool b, .slice A n c, .slice D m k] 51)).alloc (.cells #[.bool false, .slice none 0 0, .slice none 0 0] 51)).cell? ⟨W.heap.size, 0, none⟩ = some (.bool b) := K1.out.at_ 0 rfl
    have K1c1 : ((W.alloc (.cells #[.bool b, .slice A n c, .slice D m k] 51)).alloc (.cells #[.bool false, .slice none 0 0, .slice none 0 0] 51)).cell? ⟨W.heap.size, 1, none⟩ = some (.slice A n c) := K1.out.at_ 1 rfl
    have K1c2 : ((W.alloc (.cells #[.bool b, .slice A n c, .slice D m k] 51)).alloc (.cells #[.bool false, .slice none 0 0, .slice none 0 0] 51)).cell? ⟨W.heap.size, 2, none⟩ = some (.slice D m k) := K1.out.at_ 2 rfl
    have K2c0 : ((W.alloc (.cells #[.bool b, .slice A n c, .slice D m k] 51)).alloc (.cells #[.bool false, .slice none 0 0, .slice none 0 0] 51)).cell? ⟨W.heap.size + 1, 0, none⟩ = some (.bool false) := K2.out.at_ 0 rfl
    have K2c1 : ((W.alloc (.cells #[.bool b, .slice A n c, .slice D m k] 51)).alloc (.cells #[.bool false, .slice none 0 0, .slice none 0 0] 51)).cell? ⟨W.heap.size + 1, 1, none⟩ = some (.slice none 0 0) := K2.out.at_ 1 rfl
    have K2c2 : ((W.alloc (.cells #[.bool b, .slice A n c, .slice D m k] 51)).alloc (.cells #[.bool false, .slice none 0 0, .slice none 0 0] 51)).cell? ⟨W.heap.size + 1, 2, none⟩ = some (.slice none 0 0) := K2.out.at_ 2 rfl
    go_wp2_with fail
    refine (krCheck_P HP.out true hr).mono ?_
    rintro e w1 ⟨_, rfl, d0, rfl⟩
    replace HP := hide (HP.out.below d0)
    replace K1 := hide (K1.out.below' d0)
    replace K2 := hide (K2.out.below' d0)
    replace b0 := hide (below_tr b0.out d0)
    clear d0
    clear K1c0 K1c1 K1c2 K2c0 K2c1 K2c2
    have K1c0 : w1.cell? ⟨W.heap.size, 0, none⟩ = some (.bool b) := K1.out.at_ 0 rfl
    have K1c1 : w1.cell? ⟨W.heap.size, 1, none⟩ = some (.slice A n c) := K1.out.at_ 1 rfl
    have K1c2 : w1.cell? ⟨W.heap.size, 2, none⟩ = some (.slice D m k) := K1.out.at_ 2 rfl
    have K2c0 : w1.cell? ⟨W.heap.size + 1, 0, none⟩ = some (.bool false) := K2.out.at_ 0 rfl
    have K2c1 : w1.cell? ⟨W.heap.size + 1, 1, none⟩ = some (.slice none 0 0) := K2.out.at_ 1 rfl
    have K2c2 : w1.cell? ⟨W.heap.size + 1, 2, none⟩ = some (.slice none 0 0) := K2.out.at_ 2 rfl
    clear HP
    have Q := hide (H1.out.can hr)
    clear H1 hr
    have p0 : w1.frozen? ⟨W.heap.size + 1, 0, none⟩ = false := K2.out.frozen 0
    have p1 : w1.frozen? ⟨W.heap.size + 1, 1, none⟩ = false := K2.out.frozen 1
    have p2 : w1.frozen? ⟨W.heap.size + 1, 2, none⟩ = false := K2.out.frozen 2
    go_wp2
    refine bodyPost_ret (v := .agg #[.bool b, .slice A n c, .slice D m k]) (by simp [results, Tryd.results151, go_sem, K2c0, K2c1, K2c2, p0, p1, p2]) rfl ?_
    exact opq_end hR ⟨_, rfl, (by (repeat (first | exact b0 | exact Below.refl _ _ | refine Below.setCell ?_ (by first | (simp; done) | (simp; omega)) _ | refine Below.alloc ?_ (by first | (simp; done) | (simp; omega)) _))), (Or.inl Q.out)⟩
set_option maxHeartbeats 1000000 in
theorem krtimes_P {w : World} {v v' : Value} {x : Int} {n : Nat} (h : ICan w v x) (h' : Can w v' n) (s : L x.natAbs ≤ 1000000000000) (s' : L n ≤ 1000000000000) :
    Calls Tryd.prog 153 #[v, v'] w fun e w' => ∃ u, e = .returned u ∧ Below w.heap.size w w' ∧ IntR (x * (n : Int)) w.heap.size w' u := by
  refine opq fun R hR => ?_
  obtain ⟨b, A, n1, c, rfl⟩ := h.slice
  obtain ⟨D, m, k, rfl⟩ := h'.slice
  replace h := hide h
  replace h' := hide h'
  have I' : Hid (ICan w (.agg #[.bool false, .slice D m k]) (n : Int)) := ican_lit h'.out _ rfl
  have s2 : Hid (L ((n : Int)).natAbs ≤ 1000000000000) := by show _ ≤ _; rw [Int.natAbs_natCast]; exact s'
  replace s := hide s
  clear s' h'
  go_enter Tryd.func153, Tryd.ntmps153
  have b0 := hide (Below.refl w.heap.size w)
  have K1 := hide (Blk.new_at w (w.heap.size) (by simp) 49 #[.bool b, .slice A n1 c])
  have y := (Below.refl w.heap.size w).alloc (Nat.le_refl _) (.cells #[.bool b, .slice A n1 c] 49)
  replace h := hide (h.out.below y)
  replace I' := hide (I'.out.below y)
  replace b0 := hide (below_tr b0.out y)
  clear y
  have K2 := hide (Blk.new_at (w.alloc (.cells #[.bool b, .slice A n1 c] 49)) (w.heap.size + 1) (by simp) 49 #[.bool false, .slice none 0 0])
  have y := (Below.refl (w.alloc (.cells #[.bool b, .slice A n1 c] 49)).heap.size (w.alloc (.cells #[.bool b, .slice A n1 c] 49))).alloc (Nat.le_refl _) (.cells #[.bool false, .slice none 0 0] 49)
  replace h := hide (h.out.below y)
  replace I' := hide (I'.out.below y)
  replace K1 := hide (K1.out.below' y)
  replace b0 := hide (below_tr b0.out y)
  clear y
  have K1c0 : ((w.alloc (.cells #[.bool b, .slice A n1 c] 49)).alloc (.cells #[.bool false, .slice none 0 0] 49)).cell? ⟨w.heap.size, 0, none⟩ = some (.bool b) := K1.out.at_ 0 rfl
  have K1c1 : ((w.alloc (.cells #[.bool b, .slice A n1 c] 49)).alloc (.cells #[.bool false, .slice none 0 0] 49)).cell? ⟨w.heap.size, 1, none⟩ = some (.slice A n1 c) := K1.out.at_ 1 rfl
  go_wp2_with fail
  refine (qMul_ok (h.out.arg s.out) (I'.out.arg s2.out)).mono ?_
  rintro e w1 ⟨v9, rfl, d0, r9⟩
  have bz := b0.out.size
  replace h := hide (h.out.below d0)
  replace I' := hide (I'.out.below d0)
  replace K1 := hide (K1.out.below' d0)
  replace K2 := hide (K2.out.below' d0)
  replace b0 := hide (below_tr b0.out d0)
  have R9 := hide (r9.mono (B' := w.heap.size) bz)
  clear d0 bz
  clear r9
  obtain ⟨b9, A9, n9, c9, rfl⟩ := R9.out.slice
  clear K1c0 K1c1
  have K2c0 : w1.cell? ⟨w.heap.size + 1, 0, none⟩ = some (.bool false) := K2.out.at_ 0 rfl
  have K2c1 : w1.cell? ⟨w.heap.size + 1, 1, none⟩ = some (.slice none 0 0) := K2.out.at_ 1 rfl
  have p0 : w1.frozen? ⟨w.heap.size + 1, 0, none⟩ = false := K2.out.frozen 0
  have p1 : w1.frozen? ⟨w.heap.size + 1, 1, none⟩ = false := K2.out.frozen 1
  go_wp2
  refine bodyPost_ret (v := .agg #[.bool b9, .slice A9 n9 c9]) (by simp [results, Tryd.results153, go_sem, K2c0, K2c1, p0, p1]) rfl ?_
  exact opq_end hR ⟨_, rfl, (by (repeat (first | exact b0 | exact Below.refl _ _ | refine Below.setCell ?_ (by first | (simp; done) | (simp; omega)) _ | refine Below.alloc ?_ (by first | (simp; done) | (simp; omega)) _))), R9.out.only K2.out (by decide) (((Only.refl _ _).set _ _).set _ _)⟩
theorem krtimes_C {w : World} {v v' : Value} {x : Int} {n : Nat} (h : ICan w v x) (h' : Can w v' n) (s : L x.natAbs ≤ 1000000000000) (s' : L n ≤ 1000000000000) :
    Calls Tryd.prog 153 #[v, v'] w fun e w' => ∃ u, e = .returned u ∧ Below w.heap.size w w' ∧ ICan w' u (x * (n : Int)) := (krtimes_P h h' s s').mono fun e w' ⟨u, h1, h2, h3⟩ => ⟨u, h1, h2, h3.can⟩
set_option maxHeartbeats 2000000 in
theorem krCmp_P {w : World} {v v' : Value} {p q : Rat} (h : RArg w v p) (h' : RArg w v' q) (z1 : H p 100000) (z2 : H q 100000) :
    Calls Tryd.prog 86 #[v, v'] w fun e w' => ∃ u, e = .returned u ∧ Below w.heap.size w w' ∧ u = .int .i64 (cmpQ p q) := by
  refine opq fun R hR => ?_
  obtain ⟨b1, A1, n1, c1, D1, m1, k1, rfl⟩ := h.slice
  obtain ⟨b2, A2, n2, c2, D2, m2, k2, rfl⟩ := h'.slice
  have S1 := hide h.size
  have S2 := hide h'.size
  replace h := hide h
  replace h' := hide h'
  have Y := hide (H_cross z1 z2 (Nat.le_refl _))
  clear z1 z2
  have X := hide (H_cross S1.out S2.out (Nat.le_refl _))
  go_enter Tryd.func86, Tryd.ntmps86
  have b0 := hide (Below.refl w.heap.size w)
  have K1 := hide (Blk.new_at w (w.heap.size) (by simp) 51 #[.bool b1, .slice A1 n1 c1, .slice D1 m1 k1])
  have y := (Below.refl w.heap.size w).alloc (Nat.le_refl _) (.cells #[.bool b1, .slice A1 n1 c1, .slice D1 m1 k1] 51)
  replace b0 := hide (below_tr b0.out y)
  clear y
  have K2 := hide (Blk.new_at (w.alloc (.cells #[.bool b1, .slice A1 n1 c1, .slice D1 m1 k1] 51)) (w.heap.size + 1) (by simp) 51 #[.bool b2, .slice A2 n2 c2, .slice D2 m2 k2])
  have y := (Below.refl (w.alloc (.cells #[.bool b1, .slice A1 n1 c1, .slice D1 m1 k1] 51)).heap.size (w.alloc (.cells #[.bool b1, .slice A1 n1 c1, .slice D1 m1 k1] 51))).alloc (Nat.le_refl _) (.cells #[.bool b2, .slice A2 n2 c2, .slice D2 m2 k2] 51)
  replace K1 := hide (K1.out.below' y)
  replace b0 := hide (below_tr b0.out y)
  clear y
  have K1c0 : ((w.alloc (.cells #[.bool b1, .slice A1 n1 c1, .slice D1 m1 k1] 51)).alloc (.cells #[.bool b2, .slice A2 n2 c2, .slice D2 m2 k2] 51)).cell? ⟨w.heap.size, 0, none⟩ = some (.bool b1) := K1.out.at_ 0 rfl
  have K1c1 : ((w.alloc (.cells #[.bool b1, .slice A1 n1 c1, .slice D1 m1 k1] 51)).alloc (.cells #[.bool b2, .slice A2 n2 c2, .slice D2 m2 k2] 51)).cell? ⟨w.heap.size, 1, none⟩ = some (.slice A1 n1 c1) := K1.out.at_ 1 rfl
  have K1c2 : ((w.alloc (.cells #[.bool b1, .slice A1 n1 c1, .slice D1 m1 k1] 51)).alloc (.cells #[.bool b2, .slice A2 n2 c2, .slice D2 m2 k2] 51)).cell? ⟨w.heap.size, 2, none⟩ = some (.slice D1 m1 k1) := K1.out.at_ 2 rfl
  go_wp2_with fail
  refine (krFit_P h.out b0.out w.heap.size b0.out.size).mono ?_
  rintro e w1 ⟨v7, rfl, d0, r7⟩
  replace K1 := hide (K1.out.below' d0)
  replace K2 := hide (K2.out.below' d0)
  replace b0 := hide (below_tr b0.out d0)
  clear d0
  have P1 := hide r7
  clear r7
  obtain ⟨b7, A7, n7, c7, D7, m7, k7, rfl⟩ := P1.out.slice
  clear K1c0 K1c1 K1c2
  have K1f0 : w1.frozen? ⟨w.heap.size, 0, none⟩ = false := K1.out.frozen 0
  have K1f1 : w1.frozen? ⟨w.heap.size, 1, none⟩ = false := K1.out.frozen 1
  have K1f2 : w1.frozen? ⟨w.heap.size, 2, none⟩ = false := K1.out.frozen 2
  have K1c0 : w1.cell? ⟨w.heap.size, 0, none⟩ = some (.bool b1) := K1.out.at_ 0 rfl
  have K1c1 : w1.cell? ⟨w.heap.size, 1, none⟩ = some (.slice A1 n1 c1) := K1.out.at_ 1 rfl
  have K1c2 : w1.cell? ⟨w.heap.size, 2, none⟩ = some (.slice D1 m1 k1) := K1.out.at_ 2 rfl
  have K2c0 : w1.cell? ⟨w.heap.size + 1, 0, none⟩ = some (.bool b2) := K2.out.at_ 0 rfl
  have K2c1 : w1.cell? ⟨w.heap.size + 1, 1, none⟩ = some (.slice A2 n2 c2) := K2.out.at_ 1 rfl
  have K2c2 : w1.cell? ⟨w.heap.size + 1, 2, none⟩ = some (.slice D2 m2 k2) := K2.out.at_ 2 rfl
  go_wp2_with fail
  clear K1c0 K1c1 K1c2
  clear K1f0 K1f1 K1f2
  have F : Only (w.heap.size) w1 (((w1.setCell ⟨w.heap.size, 0, none⟩ (.bool b7)).setCell ⟨w.heap.size, 1, none⟩ (.slice A7 n7 c7)).setCell ⟨w.heap.size, 2, none⟩ (.slice D7 m7 k7)) := ((((Only.refl _ _).set _ _).set _ _).set _ _)
  replace P1 := hide (P1.out.only K1.out (by decide) F)
  replace K2 := hide (((K2.out.far (p := ⟨w.heap.size, 0, none⟩) (by first | (simp; done) | (simp; omega)) (.bool b7)).far (p := ⟨w.heap.size, 1, none⟩) (by first | (simp; done) | (simp; omega)) (.slice A7 n7 c7)).far (p := ⟨w.heap.size, 2, none⟩) (by first | (simp; done) | (simp; omega)) (.slice D7 m7 k7))
  have by_ : Hid (Below w.heap.size w (((w1.setCell ⟨w.heap.size, 0, none⟩ (.bool b7)).setCell ⟨w.heap.size, 1, none⟩ (.slice A7 n7 c7)).setCell ⟨w.heap.size, 2, none⟩ (.slice D7 m7 k7))) := (((b0.out.setCell (p := ⟨w.heap.size, 0, none⟩) (by first | exact Nat.le_refl _ | (simp; done) | (simp; omega)) (.bool b7)).setCell (p := ⟨w.heap.size, 1, none⟩) (by first | exact Nat.le_refl _ | (simp; done) | (simp; omega)) (.slice A7 n7 c7)).setCell (p := ⟨w.heap.size, 2, none⟩) (by first | exact Nat.le_refl _ | (simp; done) | (simp; omega)) (.slice D7 m7 k7))
  replace K1 : Hid (Blk (((w1.setCell ⟨w.heap.size, 0, none⟩ (.bool b7)).setCell ⟨w.heap.size, 1, none⟩ (.slice A7 n7 c7)).setCell ⟨w.heap.size, 2, none⟩ (.slice D7 m7 k7)) (w.heap.size) 51 #[.bool b7, .slice A7 n7 c7, .slice D7 m7 k7]) := (((K1.out.set_ 0 (.bool b7)).set_ 1 (.slice A7 n7 c7)).set_ 2 (.slice D7 m7 k7))
  replace b0 := by_
  clear by_ F
  obtain ⟨V1_2, hV⟩ : ∃ V, (((w1.setCell ⟨w.heap.size, 0, none⟩ (.bool b7)).setCell ⟨w.heap.size, 1, none⟩ (.slice A7 n7 c7)).setCell ⟨w.heap.size, 2, none⟩ (.slice D7 m7 k7)) = V := ⟨_, rfl⟩
  rw [hV] at K1 K2 P1 b0
  rw [hV]
  clear hV
  refine (krFit_P h'.out b0.out w.heap.size b0.out.size).mono ?_
  rintro e w2 ⟨v9, rfl, d0, r9⟩
  replace K1 := hide (K1.out.below' d0)
  replace K2 := hide (K2.out.below' d0)
  replace P1 := hide (P1.out.below d0)
  replace b0 := hide (below_tr b0.out d0)
  clear d0
  have P2 := hide r9
  clear r9
  obtain ⟨b9, A9, n9, c9, D9, m9, k9, rfl⟩ := P2.out.slice
  clear K2c0 K2c1 K2c2
  have K2f0 : w2.frozen? ⟨w.heap.size + 1, 0, none⟩ = false := K2.out.frozen 0
  have K2f1 : w2.frozen? ⟨w.heap.size + 1, 1, none⟩ = false := K2.out.frozen 1
  have K2f2 : w2.frozen? ⟨w.heap.size + 1, 2, none⟩ = false := K2.out.frozen 2
  have K2c0 : w2.cell? ⟨w.heap.size + 1, 0, none⟩ = some (.bool b2) := K2.out.at_ 0 rfl
  have K2c1 : w2.cell? ⟨w.heap.size + 1, 1, none⟩ = some (.slice A2 n2 c2) := K2.out.at_ 1 rfl
  have K2c2 : w2.cell? ⟨w.heap.size + 1, 2, none⟩ = some (.slice D2 m2 k2) := K2.out.at_ 2 rfl
  go_wp2_with fail
  clear K2c0 K2c1 K2c2
  clear K2f0 K2f1 K2f2
  have F : Only (w.heap.size + 1) w2 (((w2.setCell ⟨w.heap.size + 1, 0, none⟩ (.bool b9)).setCell ⟨w.heap.size + 1, 1, none⟩ (.slice A9 n9 c9)).setCell ⟨w.heap.size + 1, 2, none⟩ (.slice D9 m9 k9)) := ((((Only.refl _ _).set _ _).set _ _).set _ _)
  replace P1 := hide (P1.out.only K2.out (by decide) F)
  replace P2 := hide (P2.out.only K2.out (by decide) F)
  replace K1 := hide (((K1.out.far (p := ⟨w.heap.size + 1, 0, none⟩) (by first | (simp; done) | (simp; omega)) (.bool b9)).far (p := ⟨w.heap.size + 1, 1, none⟩) (by first | (simp; done) | (simp; omega)) (.slice A9 n9 c9)).far (p := ⟨w.heap.size + 1, 2, none⟩) (by first | (simp; done) | (simp; omega)) (.slice D9 m9 k9))
  have by_ : Hid (Below w.heap.size w (((w2.setCell ⟨w.heap.size + 1, 0, none⟩ (.bool b9)).setCell ⟨w.heap.size + 1, 1, none⟩ (.slice A9 n9 c9)).setCell ⟨w.heap.size + 1, 2, none⟩ (.slice D9 m9 k9))) := (((b0.out.setCell (p := ⟨w.heap.size + 1, 0, none⟩) (by first | exact Nat.le_refl _ | (simp; done) | (simp; omega)) (.bool b9)).setCell (p := ⟨w.heap.size + 1, 1, none⟩) (by first | exact Nat.le_refl _ | (simp; done) | (simp; omega)) (.slice A9 n9 c9)).setCell (p := ⟨w.heap.size + 1, 2, none⟩) (by first | exact Nat.le_refl _ | (simp; done) | (simp; omega)) (.slice D9 m9 k9))
  replace K2 : Hid (Blk (((w2.setCell ⟨w.heap.size + 1, 0, none⟩ (.bool b9)).setCell ⟨w.heap.size + 1, 1, none⟩ (.slice A9 n9 c9)).setCell ⟨w.heap.size + 1, 2, none⟩ (.slice D9 m9 k9)) (w.heap.size + 1) 51 #[.bool b9, .slice A9 n9 c9, .slice D9 m9 k9]) := (((K2.out.set_ 0 (.bool b9)).set_ 1 (.slice A9 n9 c9)).set_ 2 (.slice D9 m9 k9))
  replace b0 := by_
  clear by_ F
  obtain ⟨V2_2, hV⟩ : ∃ V, (((w2.setCell ⟨w.heap.size + 1, 0, none⟩ (.bool b9)).setCell ⟨w.heap.size + 1, 1, none⟩ (.slice A9 n9 c9)).setCell ⟨w.heap.size + 1, 2, none⟩ (.slice D9 m9 k9)) = V := ⟨_, rfl⟩
  rw [hV] at K1 K2 P1 P2 b0
  rw [hV]
  clear hV
  have C1 := hide (P1.out.can b0.out)
  have C2 := hide (P2.out.can b0.out)
  clear P1 P2
  refine wp_region_facts 11 (fun w' => Below V2_2.heap.size V2_2 w') [(9, .eq ((.pointer (some ⟨w.heap.size, 0, none⟩) : Value))), (10, .eq (.agg #[.bool b7, .slice A7 n7 c7])), (11, .eq ((.pointer (some ⟨w.heap.size + 1, 2, none⟩) : Value))), (12, .eq (.slice D9 m9 k9)), (13, (.int (p.num * (q.den : Int)))), (14, .eq ((.pointer (some ⟨w.heap.size + 1, 0, none⟩) : Value))), (15, .eq (.agg #[.bool b9, .slice A9 n9 c9])), (16, .eq ((.pointer (some ⟨w.heap.size, 2, none⟩) : Value))), (17, .eq (.slice D7 m7 k7)), (18, (.int (q.num * (p.den : Int)))), (19, .eq (.int .i64 (cmpQ p q)))] [false, false, false, false, false, false, false, false, false, true, true, true, true, true, true, true, true, true, true, true] mixed (by kernel_rfl) (by kernel_rfl) (by kernel_rfl) (fun _ _ h hb => h.trans (hb.mono h.size)) ((Below.refl _ _).drew) ⟨?_, ?_, ?_, ?_, ?_, ?_, ?_, ?_, ?_, ?_, ?_, trivial⟩ ?_
  · exact .fieldAddr (.inl rfl) rfl rfl rfl (fun a w' hC hs hl => by rw [show a.eval (.tmp 2) = (.pointer (some ⟨w.heap.size, 0, none⟩) : Value) from (hs 2 (by kernel_rfl))]; exact fa_Rat0_)
  · exact .load (.agg #[.bool b7, .slice A7 n7 c7]) (.inl rfl) rfl rfl (fun a w' hC hs hl => by rw [show a.eval (.tmp 9) = (.pointer (some ⟨w.heap.size, 0, none⟩) : Value) from (hl 9 (by kernel_rfl) (by kernel_rfl))]; exact ⟨ld_Int_ ((K1.out.below' hC).at_ 0 rfl) ((K1.out.below' hC).at_ 1 rfl), rfl⟩)
  · exact .fieldAddr (.inl rfl) rfl rfl rfl (fun a w' hC hs hl => by rw [show a.eval (.tmp 3) = (.pointer (some ⟨w.heap.size + 1, 0, none⟩) : Value) from (hs 3 (by kernel_rfl))]; exact fa_Rat1_)
  · exact .load (.slice D9 m9 k9) (.inl rfl) rfl rfl (fun a w' hC hs hl => by rw [show a.eval (.tmp 11) = (.pointer (some ⟨w.heap.size + 1, 2, none⟩) : Value) from (hl 11 (by kernel_rfl) (by kernel_rfl))]; exact ⟨ld_Nat ((K2.out.below' hC).at_ 2 rfl), rfl⟩)
  · exact .call (.inl rfl) rfl rfl fp_assayerref03_times (fun a w' hC hs hl => by
      show Calls _ _ #[a.eval (.tmp 10), a.eval (.tmp 12)] _ _
      rw [show a.eval (.tmp 10) = (.agg #[.bool b7, .slice A7 n7 c7] : Value) from (hl 10 (by kernel_rfl) (by kernel_rfl)), show a.eval (.tmp 12) = (.slice D9 m9 k9 : Value) from (hl 12 (by kernel_rfl) (by kernel_rfl))]
      exact krtimes_C (C1.out.num.below hC) (C2.out.den.below hC) (L_up S1.out.1 (by decide)) (L_up S2.out.2 (by decide)))
  · exact .fieldAddr (.inl rfl) rfl rfl rfl (fun a w' hC hs hl => by rw [show a.eval (.tmp 3) = (.pointer (some ⟨w.heap.size + 1, 0, none⟩) : Value) from (hs 3 (by kernel_rfl))]; exact fa_Rat0_)
  · exact .load (.agg #[.bool b9, .slice A9 n9 c9]) (.inl rfl) rfl rfl (fun a w' hC hs hl => by rw [show a.eval (.tmp 14) = (.pointer (some ⟨w.heap.size + 1, 0, none⟩) : Value) from (hl 14 (by kernel_rfl) (by kernel_rfl))]; exact ⟨ld_Int_ ((K2.out.below' hC).at_ 0 rfl) ((K2.out.below' hC).at_ 1 rfl), rfl⟩)
  · exact .fieldAddr (.inl rfl) rfl rfl rfl (fun a w' hC hs hl => by rw [show a.eval (.tmp 2) = (.pointer (some ⟨w.heap.size, 0, none⟩) : Value) from (hs 2 (by kernel_rfl))]; exact fa_Rat1_)
  · exact .load (.slice D7 m7 k7) (.inl rfl) rfl rfl (fun a w' hC hs hl => by rw [show a.eval (.tmp 16) = (.pointer (some ⟨w.heap.size, 2, none⟩) : Value) from (hl 16 (by kernel_rfl) (by kernel_rfl))]; exact ⟨ld_Nat ((K1.out.below' hC).at_ 2 rfl), rfl⟩)
  · exact .call (.inl rfl) rfl rfl fp_assayerref03_times (fun a w' hC hs hl => by
      show Calls _ _ #[a.eval (.tmp 15), a.eval (.tmp 17)] _ _
      rw [show a.eval (.tmp 15) = (.agg #[.bool b9, .slice A9 n9 c9] : Value) from (hl 15 (by kernel_rfl) (by kernel_rfl)), show a.eval (.tmp 17) = (.slice D7 m7 k7 : Value) from (hl 17 (by kernel_rfl) (by kernel_rfl))]
      exact krtimes_C (C2.out.num.below hC) (C1.out.den.below hC) (L_up S2.out.1 (by decide)) (L_up S1.out.2 (by decide)))
  · exact .call (.inl rfl) rfl rfl fp_assayerref02_Cmp (fun a w' hC hs hl => by
      show Calls _ _ #[a.eval (.tmp 13), a.eval (.tmp 18)] _ _
      exact qCmp_eq (ICan.arg (hl 13 (by kernel_rfl) (by kernel_rfl)) (L_up X.out.1 (by decide))) (ICan.arg (hl 18 (by kernel_rfl) (by kernel_rfl)) (L_up X.out.2.1 (by decide))) (L_up Y.out.1 (by decide)) (L_up Y.out.2.1 (by decide)) (cmpQ_cross p q))
  intro f w9 hC hF _
  have fz : f 19 = .int .i64 (cmpQ p q) := hF 19 (by kernel_rfl)
  clear hF
  simp only [patch, List.drop]
  rw [fz]
  replace b0 := hide (b0.out.trans (hC.mono b0.out.size))
  clear hC fz
  go_wp2
  exact opq_end hR ⟨_, rfl, b0.out, rfl⟩
end Go.Proofs.YtkefmeddnncacaaDoor
