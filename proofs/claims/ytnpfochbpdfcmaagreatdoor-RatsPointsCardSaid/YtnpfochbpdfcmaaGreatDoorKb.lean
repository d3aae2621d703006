/- rats: Check, Of, of, lowest, Make. -/
import Derived.Test.YtnpfochbpdfcmaaGreatDoorKa
set_option linter.unusedVariables false
set_option linter.unusedSimpArgs false
set_option maxRecDepth 100000
namespace Go.Proofs.YtnpfochbpdfcmaaGreatDoor
open Go.RowKit

set_option maxHeartbeats 1000000 in
theorem rCheck_P {w : World} {v : Value} {b : Bool} {xs ys : List Nat} (h : RPrt w v b xs ys) (hT : Tab w) (r : Bool) (hr : rok b xs ys = r) :
    Calls Tryz.prog 21 #[v] w fun e w' => ∃ u, e = .returned u ∧ Below w.heap.size w w' ∧ u = .bool r := by
  refine opq fun R hR => ?_
  obtain ⟨u, d, rfl, U, V⟩ := h
  obtain ⟨A, n, c, rfl, _⟩ := U.slice
  obtain ⟨D, m, k, rfl, lm⟩ := V.slice
  have em : Hid (ys.isEmpty = decide (m = 0)) := by
    show _ = _
    rw [Bool.eq_iff_iff, List.isEmpty_iff, decide_eq_true_eq, ← lm]
    exact List.length_eq_zero_iff.symm
  clear lm
  replace U := hide U
  replace V := hide V
  have T := hide hT
  clear hT
  replace hr := hide hr
  go_enter Tryz.func21, Tryz.ntmps21
  have b0 := hide (Below.refl w.heap.size w)
  have K := hide (Blk.new_at w (w.heap.size) (by simp) 27 #[.bool b, .slice A n c, .slice D m k])
  have y := (Below.refl w.heap.size w).alloc (Nat.le_refl _) (.cells #[.bool b, .slice A n c, .slice D m k] 27)
  replace b0 := hide (below_tr b0.out y)
  clear y
  replace U := hide (U.out.below b0.out)
  replace V := hide (V.out.below b0.out)
  replace T := hide (T.out.below b0.out)
  have Kc0 : (w.alloc (.cells #[.bool b, .slice A n c, .slice D m k] 27)).cell? ⟨w.heap.size, 0, none⟩ = some (.bool b) := K.out.at_ 0 rfl
  have Kc1 : (w.alloc (.cells #[.bool b, .slice A n c, .slice D m k] 27)).cell? ⟨w.heap.size, 1, none⟩ = some (.slice A n c) := K.out.at_ 1 rfl
  have Kc2 : (w.alloc (.cells #[.bool b, .slice A n c, .slice D m k] 27)).cell? ⟨w.heap.size, 2, none⟩ = some (.slice D m k) := K.out.at_ 2 rfl
  cases p1 : iok b xs
  case false =>
    go_wp2_with fail
    refine (iCheck_P (b := b) ⟨_, rfl, U.out⟩ false p1).mono ?_
    rintro e w1 ⟨_, rfl, d0, rfl⟩
    replace K := hide (K.out.below' d0)
    replace U := hide (U.out.below d0)
    replace V := hide (V.out.below d0)
    replace T := hide (T.out.below d0)
    replace b0 := hide (below_tr b0.out d0)
    clear d0
    clear Kc0 Kc1 Kc2
    have Kc0 : w1.cell? ⟨w.heap.size, 0, none⟩ = some (.bool b) := K.out.at_ 0 rfl
    have Kc1 : w1.cell? ⟨w.heap.size, 1, none⟩ = some (.slice A n c) := K.out.at_ 1 rfl
    have Kc2 : w1.cell? ⟨w.heap.size, 2, none⟩ = some (.slice D m k) := K.out.at_ 2 rfl
    replace p1 := hide p1
    go_wp2
    exact opq_end hR ⟨_, rfl, b0.out, by rw [← hr.out]; simp [rok, p1.out]⟩
  case true =>
    go_wp2_with fail
    refine (iCheck_P (b := b) ⟨_, rfl, U.out⟩ true p1).mono ?_
    rintro e w1 ⟨_, rfl, d0, rfl⟩
    replace K := hide (K.out.below' d0)
    replace U := hide (U.out.below d0)
    replace V := hide (V.out.below d0)
    replace T := hide (T.out.below d0)
    replace b0 := hide (below_tr b0.out d0)
    clear d0
    clear Kc0 Kc1 Kc2
    have Kc0 : w1.cell? ⟨w.heap.size, 0, none⟩ = some (.bool b) := K.out.at_ 0 rfl
    have Kc1 : w1.cell? ⟨w.heap.size, 1, none⟩ = some (.slice A n c) := K.out.at_ 1 rfl
    have Kc2 : w1.cell? ⟨w.heap.size, 2, none⟩ = some (.slice D m k) := K.out.at_ 2 rfl
    replace p1 := hide p1
    cases p2 : chk ys
    case false =>
      go_wp2_with fail
      refine (nCheck_P V.out false p2).mono ?_
      rintro e w2 ⟨_, rfl, d0, rfl⟩
      replace K := hide (K.out.below' d0)
      replace U := hide (U.out.below d0)
      replace V := hide (V.out.below d0)
      replace T := hide (T.out.below d0)
      replace b0 := hide (below_tr b0.out d0)
      clear d0
      clear Kc0 Kc1 Kc2
      have Kc0 : w2.cell? ⟨w.heap.size, 0, none⟩ = some (.bool b) := K.out.at_ 0 rfl
      have Kc1 : w2.cell? ⟨w.heap.size, 1, none⟩ = some (.slice A n c) := K.out.at_ 1 rfl
      have Kc2 : w2.cell? ⟨w.heap.size, 2, none⟩ = some (.slice D m k) := K.out.at_ 2 rfl
      replace p2 := hide p2
      go_wp2
      exact opq_end hR ⟨_, rfl, b0.out, by rw [← hr.out]; simp [rok, p2.out]⟩
    case true =>
      go_wp2_with fail
      refine (nCheck_P V.out true p2).mono ?_
      rintro e w2 ⟨_, rfl, d0, rfl⟩
      replace K := hide (K.out.below' d0)
      replace U := hide (U.out.below d0)
      replace V := hide (V.out.below d0)
      replace T := hide (T.out.below d0)
      replace b0 := hide (below_tr b0.out d0)
      clear d0
      clear Kc0 Kc1 Kc2
      have Kc0 : w2.cell? ⟨w.heap.size, 0, none⟩ = some (.bool b) := K.out.at_ 0 rfl
      have Kc1 : w2.cell? ⟨w.heap.size, 1, none⟩ = some (.slice A n c) := K.out.at_ 1 rfl
      have Kc2 : w2.cell? ⟨w.heap.size, 2, none⟩ = some (.slice D m k) := K.out.at_ 2 rfl
      replace p2 := hide p2
      by_cases p3 : m = 0
      case pos =>
        subst p3
        go_wp2
        exact opq_end hR ⟨_, rfl, b0.out, by rw [← hr.out]; simp [rok, em.out]⟩
      have p4 : 0 < m := by omega
      have e3 : Hid (ys.isEmpty = false) := by show _ = _; rw [em.out]; simpa using p3
      clear p3 em
      go_wp2_with fail
      refine (nGcd_P U.out.arg V.out.arg T.out).mono ?_
      rintro e w3 ⟨gv, rfl, d0, gr⟩
      replace K := hide (K.out.below' d0)
      replace U := hide (U.out.below d0)
      replace V := hide (V.out.below d0)
      replace T := hide (T.out.below d0)
      replace b0 := hide (below_tr b0.out d0)
      have G := hide (gr.can)
      clear d0
      clear Kc0 Kc1 Kc2
      have Kc0 : w3.cell? ⟨w.heap.size, 0, none⟩ = some (.bool b) := K.out.at_ 0 rfl
      have Kc1 : w3.cell? ⟨w.heap.size, 1, none⟩ = some (.slice A n c) := K.out.at_ 1 rfl
      have Kc2 : w3.cell? ⟨w.heap.size, 2, none⟩ = some (.slice D m k) := K.out.at_ 2 rfl
      clear gr
      obtain ⟨Ag, ng, cg, rfl⟩ := G.out.slice
      go_wp2_with fail
      refine (is1_P G.out _ rfl).mono ?_
      rintro e w4 ⟨_, rfl, d0, rfl⟩
      replace K := hide (K.out.below' d0)
      replace U := hide (U.out.below d0)
      replace V := hide (V.out.below d0)
      replace T := hide (T.out.below d0)
      replace G := hide (G.out.below d0)
      replace b0 := hide (below_tr b0.out d0)
      clear d0
      clear Kc0 Kc1 Kc2
      have Kc0 : w4.cell? ⟨w.heap.size, 0, none⟩ = some (.bool b) := K.out.at_ 0 rfl
      have Kc1 : w4.cell? ⟨w.heap.size, 1, none⟩ = some (.slice A n c) := K.out.at_ 1 rfl
      have Kc2 : w4.cell? ⟨w.heap.size, 2, none⟩ = some (.slice D m k) := K.out.at_ 2 rfl
      have ef : decide (Nat.gcd (nv xs) (nv ys) = 1) = r := by rw [← hr.out]; simp only [rok, p1.out, p2.out, e3.out, Bool.true_and, Bool.not_false]
      go_wp2
      exact opq_end hR ⟨_, rfl, b0.out, rfl⟩
theorem int_den (n : Int) : ((n : Rat)).num = n ∧ ((n : Rat)).den = 1 := ⟨rfl, rfl⟩
/-- Parts that are written out, in memory of its own. -/
theorem litR_at (w : World) (g : Nat) (hg : w.heap.size = g) (xs : List Nat) (N : Nat) (hN : val xs = N) (h : Is32 xs) (hc : chk xs = true) (hl : xs.length ≤ 1000) (B : Nat) (hB : B ≤ g) (cs : Array Value) (hcs : cellsOf .u32 xs = cs) : NatR N B (w.alloc (.cells cs T32)) (.slice (some ⟨g, 0, none⟩) xs.length xs.length) := by
  subst hg hN hcs
  have e := limbs_val_chk h hc
  have k := Blk.new w T32 (cellsOf .u32 xs)
  refine ⟨_, xs.length, by rw [e], ?_, .inr ⟨_, _, rfl, hB, k, by rw [cellsOf_size]; exact Nat.le_refl _⟩, by rw [e]; exact Nat.le_refl _⟩
  rw [e]
  have := k.rd xs.length (Nat.le_refl _) (by omega)
  rwa [List.take_length] at this
set_option maxHeartbeats 1000000 in
theorem rOf_P (w : World) (n : Int) (h0 : -9223372036854775808 ≤ n) (h1 : n < 9223372036854775808) :
    Calls Tryz.prog 38 #[.int .i64 n] w fun e w' => ∃ u, e = .returned u ∧ Below w.heap.size w w' ∧ RatR (n : Rat) w.heap.size w' u := by
  refine opq fun R hR => ?_
  go_enter Tryz.func38, Tryz.ntmps38
  have b0 := hide (Below.refl w.heap.size w)
  have K := hide (Blk.new_at w (w.heap.size) (by simp) 27 #[.bool false, .slice none 0 0, .slice none 0 0])
  have y := (Below.refl w.heap.size w).alloc (Nat.le_refl _) (.cells #[.bool false, .slice none 0 0, .slice none 0 0] 27)
  replace b0 := hide (below_tr b0.out y)
  clear y
  go_wp2_with fail
  refine (iOf_ok _ n h0 h1).mono ?_
  rintro e w1 ⟨v9, rfl, d0, r9⟩
  replace K := hide (K.out.below' d0)
  replace b0 := hide (below_tr b0.out d0)
  have R9 := hide (r9.mono (B' := w.heap.size) (by simp))
  clear d0
  clear r9
  obtain ⟨b9, A9, n9, c9, rfl⟩ := R9.out.slice
  have x0 := hide (litR_at w1 (w1.heap.size) (by simp) [1] 1 rfl (is32d (by decide)) (by decide) (by decide) w.heap.size b0.out.size #[.int .u32 1] rfl)
  have xs0 : Hid (Sep (.slice A9 n9 c9) (.slice (some ⟨w1.heap.size, 0, none⟩) 1 1)) := by
    obtain ⟨u, e, hn⟩ := R9.out
    cases e
    exact hn.sep (litR_at w1 (w1.heap.size) (by simp) [1] 1 rfl (is32d (by decide)) (by decide) (by decide) _ (Nat.le_refl _) #[.int .u32 1] rfl)
  have y := (Below.refl w1.heap.size w1).alloc (Nat.le_refl _) (.cells #[.int .u32 1] T32)
  replace K := hide (K.out.below' y)
  replace R9 := hide (R9.out.below y)
  replace b0 := hide (below_tr b0.out y)
  clear y
  have Q : Hid (RatR (n : Rat) w.heap.size (w1.alloc (.cells #[.int .u32 1] T32)) (.agg #[.bool b9, .slice A9 n9 c9, .slice (some ⟨w1.heap.size, 0, none⟩) 1 1])) := by
    obtain ⟨u, e, hn⟩ := R9.out
    cases e
    exact ⟨_, _, rfl, hn, x0.out, xs0.out⟩
  have Kc0 : (w1.alloc (.cells #[.int .u32 1] T32)).cell? ⟨w.heap.size, 0, none⟩ = some (.bool false) := K.out.at_ 0 rfl
  have Kc1 : (w1.alloc (.cells #[.int .u32 1] T32)).cell? ⟨w.heap.size, 1, none⟩ = some (.slice none 0 0) := K.out.at_ 1 rfl
  have Kc2 : (w1.alloc (.cells #[.int .u32 1] T32)).cell? ⟨w.heap.size, 2, none⟩ = some (.slice none 0 0) := K.out.at_ 2 rfl
  have p0 : (w1.alloc (.cells #[.int .u32 1] T32)).frozen? ⟨w.heap.size, 0, none⟩ = false := K.out.frozen 0
  have p1 : (w1.alloc (.cells #[.int .u32 1] T32)).frozen? ⟨w.heap.size, 1, none⟩ = false := K.out.frozen 1
  have p2 : (w1.alloc (.cells #[.int .u32 1] T32)).frozen? ⟨w.heap.size, 2, none⟩ = false := K.out.frozen 2
  go_wp2
  refine bodyPost_ret (v := .agg #[.bool b9, .slice A9 n9 c9, .slice (some ⟨w1.heap.size, 0, none⟩) 1 1]) (by simp [results, Tryz.results38, go_sem, Kc0, Kc1, Kc2, p0, p1, p2]) rfl ?_
  exact opq_end hR ⟨_, rfl, (by (repeat (first | exact b0 | exact Below.refl _ _ | refine Below.setCell ?_ (by first | (simp; done) | (simp; omega)) _ | refine Below.alloc ?_ (by first | (simp; done) | (simp; omega)) _))), Q.out.only K.out (by decide) ((((Only.refl _ _).set _ _).set _ _).set _ _)⟩
end Go.Proofs.YtnpfochbpdfcmaaGreatDoor
