/- the laws of rats: RatsBetween. -/
import Derived.Test.YtnpfochbpdfcmaaGreatDoorKm
set_option linter.unusedVariables false
set_option linter.unusedSimpArgs false
set_option maxRecDepth 100000
namespace Go.Proofs.YtnpfochbpdfcmaaGreatDoor
open Go.RowKit

section
variable {x y : Rat} {p q s : Int}
theorem half_is : Rat.divInt (1) (2) = 1 / 2 := by decide +kernel
theorem half_same (x y : Rat) : (x + y) * Rat.divInt (1) (2) - x = y - (x + y) * Rat.divInt (1) (2) := by rw [half_is]; grind
theorem half_lt1 (h : x < y) : cmpQ x ((x + y) * Rat.divInt (1) (2)) = -1 := cmpQ_lt (by rw [half_is]; grind)
theorem half_lt2 (h : x < y) : cmpQ ((x + y) * Rat.divInt (1) (2)) y = -1 := cmpQ_lt (by rw [half_is]; grind)
theorem half_e1 (h : x = y) : cmpQ x ((x + y) * Rat.divInt (1) (2)) = 0 := cmpQ_e (by rw [half_is]; grind)
theorem half_e2 (h : x = y) : cmpQ ((x + y) * Rat.divInt (1) (2)) y = 0 := cmpQ_e (by rw [half_is]; grind)
theorem part_pos (hp : 1 ≤ p) (hs : 1 ≤ s) : 0 < Rat.divInt p s := by
  rw [Rat.divInt_eq_div, Rat.div_def]
  exact Rat.mul_pos (by exact_mod_cast (show (0 : Int) < p by omega)) (Rat.inv_pos.2 (by exact_mod_cast (show (0 : Int) < s by omega)))
theorem part_one (hp : 1 ≤ p) (hq : 1 ≤ q) (hs : p + q = s) : Rat.divInt p s + Rat.divInt q s = 1 := by
  have h0 : (s : Rat) ≠ 0 := by exact_mod_cast (show s ≠ 0 by omega)
  have h1 : (p : Rat) + (q : Rat) = (s : Rat) := by rw [← hs, Rat.intCast_add]
  rw [Rat.divInt_eq_div, Rat.divInt_eq_div]
  grind
theorem some_lt1 (h : x < y) (hp : 1 ≤ p) (hq : 1 ≤ q) (hs : p + q = s) : cmpQ x (x * Rat.divInt p s + y * Rat.divInt q s) = -1 := by
  have h1 := part_one hp hq hs
  have h2 := Rat.mul_pos (show 0 < y - x by grind) (part_pos hq (show 1 ≤ s by omega))
  generalize Rat.divInt p s = t at *
  generalize Rat.divInt q s = r at *
  exact cmpQ_lt (by have : t = 1 - r := by grind
                    subst this; grind)
theorem some_lt2 (h : x < y) (hp : 1 ≤ p) (hq : 1 ≤ q) (hs : p + q = s) : cmpQ (x * Rat.divInt p s + y * Rat.divInt q s) y = -1 := by
  have h1 := part_one hp hq hs
  have h2 := Rat.mul_pos (show 0 < y - x by grind) (part_pos hp (show 1 ≤ s by omega))
  generalize Rat.divInt p s = t at *
  generalize Rat.divInt q s = r at *
  exact cmpQ_lt (by have : r = 1 - t := by grind
                    subst this; grind)
theorem some_e (h : x = y) (hp : 1 ≤ p) (hq : 1 ≤ q) (hs : p + q = s) : x * Rat.divInt p s + y * Rat.divInt q s = x := by
  have h1 := part_one hp hq hs
  generalize Rat.divInt p s = t at *
  generalize Rat.divInt q s = r at *
  subst h
  rw [← Rat.mul_add, h1, Rat.mul_one]
theorem some_e1 (h : x = y) (hp : 1 ≤ p) (hq : 1 ≤ q) (hs : p + q = s) : cmpQ x (x * Rat.divInt p s + y * Rat.divInt q s) = 0 := cmpQ_e (some_e h hp hq hs).symm
theorem some_e2 (h : x = y) (hp : 1 ≤ p) (hq : 1 ≤ q) (hs : p + q = s) : cmpQ (x * Rat.divInt p s + y * Rat.divInt q s) y = 0 := cmpQ_e ((some_e h hp hq hs).trans h)
end
set_option maxHeartbeats 8000000 in
theorem RatsBetween_ok (w : World) (b1 : Bool) (A1 : Option Addr) (n1 c1 : Nat) (xs1 : List Nat) (D1 : Option Addr) (m1 k1 : Nat) (ys1 : List Nat) (b2 : Bool) (A2 : Option Addr) (n2 c2 : Nat) (xs2 : List Nat) (D2 : Option Addr) (m2 k2 : Nat) (ys2 : List Nat) (pu pv : Nat) (h1 : Rd w A1 n1 xs1) (i1 : Is32 xs1) (l1 : n1 ≤ c1) (t1 : n1 ≤ 70368744177664) (h1' : Rd w D1 m1 ys1) (i1' : Is32 ys1) (l1' : m1 ≤ k1) (t1' : m1 ≤ 70368744177664) (h2 : Rd w A2 n2 xs2) (i2 : Is32 xs2) (l2 : n2 ≤ c2) (t2 : n2 ≤ 70368744177664) (h2' : Rd w D2 m2 ys2) (i2' : Is32 ys2) (l2' : m2 ≤ k2) (t2' : m2 ≤ 70368744177664) (hu : pu < 256) (hv : pv < 256) (hT : Tab w) (hM : MaxL w) :
    Calls Tryz.prog 10 #[.agg #[.bool b1, .slice A1 n1 c1, .slice D1 m1 k1], .agg #[.bool b2, .slice A2 n2 c2, .slice D2 m2 k2], .agg #[.int .u8 (pu : Nat), .int .u8 (pv : Nat)]] w fun e w' => e = .returned (.bool true) ∧ Hid (Below w.heap.size w w') := by
  refine opq fun R hR => ?_
  have T := hide hT
  have M := hide hM
  clear hT hM
  replace h1 := hide h1
  replace i1 := hide i1
  replace h1' := hide h1'
  replace i1' := hide i1'
  replace h2 := hide h2
  replace i2 := hide i2
  replace h2' := hide h2'
  replace i2' := hide i2'
  go_enter Tryz.func10, Tryz.ntmps10
  have b0 := hide (Below.refl w.heap.size w)
  have K1 := hide (Blk.new_at w (w.heap.size) (by simp) 27 #[.bool b1, .slice A1 n1 c1, .slice D1 m1 k1])
  have y := (Below.refl w.heap.size w).alloc (Nat.le_refl _) (.cells #[.bool b1, .slice A1 n1 c1, .slice D1 m1 k1] 27)
  replace b0 := hide (below_tr b0.out y)
  clear y
  have K2 := hide (Blk.new_at (w.alloc (.cells #[.bool b1, .slice A1 n1 c1, .slice D1 m1 k1] 27)) (w.heap.size + 1) (by simp) 27 #[.bool b2, .slice A2 n2 c2, .slice D2 m2 k2])
  have y := (Below.refl (w.alloc (.cells #[.bool b1, .slice A1 n1 c1, .slice D1 m1 k1] 27)).heap.size (w.alloc (.cells #[.bool b1, .slice A1 n1 c1, .slice D1 m1 k1] 27))).alloc (Nat.le_refl _) (.cells #[.bool b2, .slice A2 n2 c2, .slice D2 m2 k2] 27)
  replace K1 := hide (K1.out.below' y)
  replace b0 := hide (below_tr b0.out y)
  clear y
  have K3 := hide (Blk.new_at ((w.alloc (.cells #[.bool b1, .slice A1 n1 c1, .slice D1 m1 k1] 27)).alloc (.cells #[.bool b2, .slice A2 n2 c2, .slice D2 m2 k2] 27)) (w.heap.size + 1 + 1) (by simp) 59 #[.int .u8 (pu : Nat), .int .u8 (pv : Nat)])
  have y := (Below.refl ((w.alloc (.cells #[.bool b1, .slice A1 n1 c1, .slice D1 m1 k1] 27)).alloc (.cells #[.bool b2, .slice A2 n2 c2, .slice D2 m2 k2] 27)).heap.size ((w.alloc (.cells #[.bool b1, .slice A1 n1 c1, .slice D1 m1 k1] 27)).alloc (.cells #[.bool b2, .slice A2 n2 c2, .slice D2 m2 k2] 27))).alloc (Nat.le_refl _) (.cells #[.int .u8 (pu : Nat), .int .u8 (pv : Nat)] 59)
  replace K1 := hide (K1.out.below' y)
  replace K2 := hide (K2.out.below' y)
  replace b0 := hide (below_tr b0.out y)
  clear y
  go_wp2_with fail
  refine (ralive_P _ (T.out.below b0.out) (M.out.below b0.out)).mono ?_
  rintro e w1 ⟨_, rfl, d0, rfl⟩
  replace K1 := hide (K1.out.below' d0)
  replace K2 := hide (K2.out.below' d0)
  replace K3 := hide (K3.out.below' d0)
  replace b0 := hide (below_tr b0.out d0)
  clear d0
  have K1c0 : w1.cell? ⟨w.heap.size, 0, none⟩ = some (.bool b1) := K1.out.at_ 0 rfl
  have K1c1 : w1.cell? ⟨w.heap.size, 1, none⟩ = some (.slice A1 n1 c1) := K1.out.at_ 1 rfl
  have K1c2 : w1.cell? ⟨w.heap.size, 2, none⟩ = some (.slice D1 m1 k1) := K1.out.at_ 2 rfl
  have K2c0 : w1.cell? ⟨w.heap.size + 1, 0, none⟩ = some (.bool b2) := K2.out.at_ 0 rfl
  have K2c1 : w1.cell? ⟨w.heap.size + 1, 1, none⟩ = some (.slice A2 n2 c2) := K2.out.at_ 1 rfl
  have K2c2 : w1.cell? ⟨w.heap.size + 1, 2, none⟩ = some (.slice D2 m2 k2) := K2.out.at_ 2 rfl
  by_cases gg : 20 < n1 + m1 ∨ 20 < n2 + m2
  case pos =>
    have y := (Below.refl w1.heap.size w1).alloc (Nat.le_refl _) (.cells #[.bool b1, .slice A1 n1 c1, .slice D1 m1 k1, .bool b2, .slice A2 n2 c2, .slice D2 m2 k2] 27)
    replace K1 := hide (K1.out.below' y)
    replace K2 := hide (K2.out.below' y)
    replace K3 := hide (K3.out.below' y)
    replace b0 := hide (below_tr b0.out y)
    clear y
    go_wp2_with fail
    refine (rgreat2 (w := w1) rfl 20 (by decide) t1 t1' t2 t2' true (by simp; omega)).mono ?_
    rintro e w2 ⟨_, rfl, d0, rfl⟩
    replace K1 := hide (K1.out.below' d0)
    replace K2 := hide (K2.out.below' d0)
    replace K3 := hide (K3.out.below' d0)
    replace b0 := hide (below_tr b0.out d0)
    clear d0
    go_wp2_with fail
    refine (ralive_P _ (T.out.below b0.out) (M.out.below b0.out)).mono ?_
    rintro e w3 ⟨_, rfl, d0, rfl⟩
    replace K1 := hide (K1.out.below' d0)
    replace K2 := hide (K2.out.below' d0)
    replace K3 := hide (K3.out.below' d0)
    replace b0 := hide (below_tr b0.out d0)
    clear d0
    go_wp2
    exact opq_end hR ⟨rfl, b0⟩
  have y := (Below.refl w1.heap.size w1).alloc (Nat.le_refl _) (.cells #[.bool b1, .slice A1 n1 c1, .slice D1 m1 k1, .bool b2, .slice A2 n2 c2, .slice D2 m2 k2] 27)
  replace K1 := hide (K1.out.below' y)
  replace K2 := hide (K2.out.below' y)
  replace K3 := hide (K3.out.below' y)
  replace b0 := hide (below_tr b0.out y)
  clear y
  go_wp2_with fail
  refine (rgreat2 (w := w1) rfl 20 (by decide) t1 t1' t2 t2' false (by simp; omega)).mono ?_
  rintro e w2 ⟨_, rfl, d0, rfl⟩
  replace K1 := hide (K1.out.below' d0)
  replace K2 := hide (K2.out.below' d0)
  replace K3 := hide (K3.out.below' d0)
  replace b0 := hide (below_tr b0.out d0)
  clear d0
  clear K1c0 K1c1 K1c2 K2c0 K2c1 K2c2
  have K1c0 : w2.cell? ⟨w.heap.size, 0, none⟩ = some (.bool b1) := K1.out.at_ 0 rfl
  have K1c1 : w2.cell? ⟨w.heap.size, 1, none⟩ = some (.slice A1 n1 c1) := K1.out.at_ 1 rfl
  have K1c2 : w2.cell? ⟨w.heap.size, 2, none⟩ = some (.slice D1 m1 k1) := K1.out.at_ 2 rfl
  have K2c0 : w2.cell? ⟨w.heap.size + 1, 0, none⟩ = some (.bool b2) := K2.out.at_ 0 rfl
  have K2c1 : w2.cell? ⟨w.heap.size + 1, 1, none⟩ = some (.slice A2 n2 c2) := K2.out.at_ 1 rfl
  have K2c2 : w2.cell? ⟨w.heap.size + 1, 2, none⟩ = some (.slice D2 m2 k2) := K2.out.at_ 2 rfl
  have P1 := hide (rprt_of b1 h1.out i1.out l1 (by omega) h1'.out i1'.out l1' (by omega))
  have S1 : Hid (H (rv b1 xs1 ys1) 20) := H_rv i1.out i1'.out (by rw [h1.out.1]; omega) (by rw [h1'.out.1]; omega) (by decide)
  have P2 := hide (rprt_of b2 h2.out i2.out l2 (by omega) h2'.out i2'.out l2' (by omega))
  have S2 : Hid (H (rv b2 xs2 ys2) 20) := H_rv i2.out i2'.out (by rw [h2.out.1]; omega) (by rw [h2'.out.1]; omega) (by decide)
  by_cases r1 : rok b1 xs1 ys1 = false
  case pos =>
    go_wp2_with fail
    refine (rCheck_P (P1.out.below b0.out) (T.out.below b0.out) false r1).mono ?_
    rintro e w3 ⟨_, rfl, d0, rfl⟩
    replace K1 := hide (K1.out.below' d0)
    replace K2 := hide (K2.out.below' d0)
    replace K3 := hide (K3.out.below' d0)
    replace b0 := hide (below_tr b0.out d0)
    clear d0
    go_wp2_with fail
    refine (ralive_P _ (T.out.below b0.out) (M.out.below b0.out)).mono ?_
    rintro e w4 ⟨_, rfl, d0, rfl⟩
    replace K1 := hide (K1.out.below' d0)
    replace K2 := hide (K2.out.below' d0)
    replace K3 := hide (K3.out.below' d0)
    replace b0 := hide (below_tr b0.out d0)
    clear d0
    go_wp2
    exact opq_end hR ⟨rfl, b0⟩
  replace r1 : rok b1 xs1 ys1 = true := by simpa using r1
  go_wp2_with fail
  refine (rCheck_P (P1.out.below b0.out) (T.out.below b0.out) true r1).mono ?_
  rintro e w3 ⟨_, rfl, d0, rfl⟩
  replace K1 := hide (K1.out.below' d0)
  replace K2 := hide (K2.out.below' d0)
  replace K3 := hide (K3.out.below' d0)
  replace b0 := hide (below_tr b0.out d0)
  clear d0
  clear K1c0 K1c1 K1c2 K2c0 K2c1 K2c2
  have K1c0 : w3.cell? ⟨w.heap.size, 0, none⟩ = some (.bool b1) := K1.out.at_ 0 rfl
  have K1c1 : w3.cell? ⟨w.heap.size, 1, none⟩ = some (.slice A1 n1 c1) := K1.out.at_ 1 rfl
  have K1c2 : w3.cell? ⟨w.heap.size, 2, none⟩ = some (.slice D1 m1 k1) := K1.out.at_ 2 rfl
  have K2c0 : w3.cell? ⟨w.heap.size + 1, 0, none⟩ = some (.bool b2) := K2.out.at_ 0 rfl
  have K2c1 : w3.cell? ⟨w.heap.size + 1, 1, none⟩ = some (.slice A2 n2 c2) := K2.out.at_ 1 rfl
  have K2c2 : w3.cell? ⟨w.heap.size + 1, 2, none⟩ = some (.slice D2 m2 k2) := K2.out.at_ 2 rfl
  by_cases r2 : rok b2 xs2 ys2 = false
  case pos =>
    go_wp2_with fail
    refine (rCheck_P (P2.out.below b0.out) (T.out.below b0.out) false r2).mono ?_
    rintro e w4 ⟨_, rfl, d0, rfl⟩
    replace K1 := hide (K1.out.below' d0)
    replace K2 := hide (K2.out.below' d0)
    replace K3 := hide (K3.out.below' d0)
    replace b0 := hide (below_tr b0.out d0)
    clear d0
    go_wp2_with fail
    refine (ralive_P _ (T.out.below b0.out) (M.out.below b0.out)).mono ?_
    rintro e w5 ⟨_, rfl, d0, rfl⟩
    replace K1 := hide (K1.out.below' d0)
    replace K2 := hide (K2.out.below' d0)
    replace K3 := hide (K3.out.below' d0)
    replace b0 := hide (below_tr b0.out d0)
    clear d0
    go_wp2
    exact opq_end hR ⟨rfl, b0⟩
  replace r2 : rok b2 xs2 ys2 = true := by simpa using r2
  go_wp2_with fail
  refine (rCheck_P (P2.out.below b0.out) (T.out.below b0.out) true r2).mono ?_
  rintro e w4 ⟨_, rfl, d0, rfl⟩
  replace K1 := hide (K1.out.below' d0)
  replace K2 := hide (K2.out.below' d0)
  replace K3 := hide (K3.out.below' d0)
  replace b0 := hide (below_tr b0.out d0)
  clear d0
  clear K1c0 K1c1 K1c2 K2c0 K2c1 K2c2
  have K1c0 : w4.cell? ⟨w.heap.size, 0, none⟩ = some (.bool b1) := K1.out.at_ 0 rfl
  have K1c1 : w4.cell? ⟨w.heap.size, 1, none⟩ = some (.slice A1 n1 c1) := K1.out.at_ 1 rfl
  have K1c2 : w4.cell? ⟨w.heap.size, 2, none⟩ = some (.slice D1 m1 k1) := K1.out.at_ 2 rfl
  have K2c0 : w4.cell? ⟨w.heap.size + 1, 0, none⟩ = some (.bool b2) := K2.out.at_ 0 rfl
  have K2c1 : w4.cell? ⟨w.heap.size + 1, 1, none⟩ = some (.slice A2 n2 c2) := K2.out.at_ 1 rfl
  have K2c2 : w4.cell? ⟨w.heap.size + 1, 2, none⟩ = some (.slice D2 m2 k2) := K2.out.at_ 2 rfl
  have a1 := hide (P1.out.can r1)
  clear P1 h1 i1 h1' i1' r1
  generalize rv b1 xs1 ys1 = x at *
  have a2 := hide (P2.out.can r2)
  clear P2 h2 i2 h2' i2' r2
  generalize rv b2 xs2 ys2 = y at *
  clear gg
  clear K1c0 K1c1 K1c2 K2c0 K2c1 K2c2
  obtain ⟨p, hp, hp1, hp2⟩ : ∃ p : Int, (pu : Int) + 1 = p ∧ 1 ≤ p ∧ p ≤ 256 := ⟨_, rfl, by omega, by omega⟩
  obtain ⟨q, hq, hq1, hq2⟩ : ∃ q : Int, (pv : Int) + 1 = q ∧ 1 ≤ q ∧ q ≤ 256 := ⟨_, rfl, by omega, by omega⟩
  obtain ⟨s, hsum⟩ : ∃ s : Int, p + q = s := ⟨_, rfl⟩
  have hsw := hide (show IntKind.i64.wrap (p + q) = s by rw [IntKind.wrap_i64]; omega)
  replace hsum := hide hsum
  have K1c0 : w4.cell? ⟨w.heap.size, 0, none⟩ = some (.bool b1) := K1.out.at_ 0 rfl
  have K1c1 : w4.cell? ⟨w.heap.size, 1, none⟩ = some (.slice A1 n1 c1) := K1.out.at_ 1 rfl
  have K1c2 : w4.cell? ⟨w.heap.size, 2, none⟩ = some (.slice D1 m1 k1) := K1.out.at_ 2 rfl
  have K2c0 : w4.cell? ⟨w.heap.size + 1, 0, none⟩ = some (.bool b2) := K2.out.at_ 0 rfl
  have K2c1 : w4.cell? ⟨w.heap.size + 1, 1, none⟩ = some (.slice A2 n2 c2) := K2.out.at_ 1 rfl
  have K2c2 : w4.cell? ⟨w.heap.size + 1, 2, none⟩ = some (.slice D2 m2 k2) := K2.out.at_ 2 rfl
  rcases rat_tri x y with hc | hc | hc
  case inl =>
    replace hc := hide hc
    go_wp2_with fail
    refine (rCmp_eq ((a1.out.below b0.out).arg (S1.out.up (by decide))) ((a2.out.below b0.out).arg (S2.out.up (by decide))) (T.out.below b0.out) (-1) (cmpQ_lt hc.out)).mono ?_
    rintro e w5 ⟨_, rfl, d0, rfl⟩
    replace K1 := hide (K1.out.below' d0)
    replace K2 := hide (K2.out.below' d0)
    replace K3 := hide (K3.out.below' d0)
    replace b0 := hide (below_tr b0.out d0)
    clear d0
    clear K1c0 K1c1 K1c2 K2c0 K2c1 K2c2
    have K1c0 : w5.cell? ⟨w.heap.size, 0, none⟩ = some (.bool b1) := K1.out.at_ 0 rfl
    have K1c1 : w5.cell? ⟨w.heap.size, 1, none⟩ = some (.slice A1 n1 c1) := K1.out.at_ 1 rfl
    have K1c2 : w5.cell? ⟨w.heap.size, 2, none⟩ = some (.slice D1 m1 k1) := K1.out.at_ 2 rfl
    have K2c0 : w5.cell? ⟨w.heap.size + 1, 0, none⟩ = some (.bool b2) := K2.out.at_ 0 rfl
    have K2c1 : w5.cell? ⟨w.heap.size + 1, 1, none⟩ = some (.slice A2 n2 c2) := K2.out.at_ 1 rfl
    have K2c2 : w5.cell? ⟨w.heap.size + 1, 2, none⟩ = some (.slice D2 m2 k2) := K2.out.at_ 2 rfl
    have Q1_ : Hid (H ((x + y)) 41) := H_add S1.out S2.out (by decide)
    go_wp2_with fail
    refine (rAdd_C ((a1.out.below b0.out).arg (S1.out.up (by decide))) ((a2.out.below b0.out).arg (S2.out.up (by decide))) (T.out.below b0.out)).mono ?_
    rintro e w6 ⟨v9, rfl, d0, r9⟩
    replace K1 := hide (K1.out.below' d0)
    replace K2 := hide (K2.out.below' d0)
    replace K3 := hide (K3.out.below' d0)
    replace b0 := hide (below_tr b0.out d0)
    have X := hide (r9)
    clear d0
    clear r9
    obtain ⟨b9, A9, n9, c9, D9, m9, k9, rfl⟩ := X.out.slice
    clear K1c0 K1c1 K1c2 K2c0 K2c1 K2c2
    have Q2_ : Hid (H ((Rat.divInt (1) (2))) 1) := H_small (by decide +kernel) (by decide +kernel)
    go_wp2_with fail
    refine (rlof_C _ (1) (2) (by decide) (by decide) (by decide) (by decide) (by decide) (T.out.below b0.out)).mono ?_
    rintro e w7 ⟨v10, rfl, d0, r10⟩
    replace K1 := hide (K1.out.below' d0)
    replace K2 := hide (K2.out.below' d0)
    replace K3 := hide (K3.out.below' d0)
    replace X := hide (X.out.below d0)
    replace b0 := hide (below_tr b0.out d0)
    have U := hide (r10)
    clear d0
    clear r10
    have Q3_ : Hid (H (((x + y) * (Rat.divInt (1) (2)))) 42) := H_mul Q1_.out Q2_.out (by decide)
    have K3d0 : w7.cell? ⟨w.heap.size + 1 + 1, 0, none⟩ = some (.int .u8 (pu : Nat)) := K3.out.at_ 0 rfl
    have K3d1 : w7.cell? ⟨w.heap.size + 1 + 1, 1, none⟩ = some (.int .u8 (pv : Nat)) := K3.out.at_ 1 rfl
    go_wp2_with fail
    refine (rMul_C (X.out.arg (Q1_.out.up (by decide))) (U.out.arg (Q2_.out.up (by decide))) (T.out.below b0.out)).mono ?_
    rintro e w8 ⟨v8, rfl, d0, r8⟩
    replace K1 := hide (K1.out.below' d0)
    replace K2 := hide (K2.out.below' d0)
    replace K3 := hide (K3.out.below' d0)
    replace X := hide (X.out.below d0)
    replace U := hide (U.out.below d0)
    replace b0 := hide (below_tr b0.out d0)
    have Y := hide (r8)
    clear d0
    clear K3d0 K3d1
    clear r8
    obtain ⟨b8, A8, n8, c8, D8, m8, k8, rfl⟩ := Y.out.slice
    clear X U
    have K3d0 : w8.cell? ⟨w.heap.size + 1 + 1, 0, none⟩ = some (.int .u8 (pu : Nat)) := K3.out.at_ 0 rfl
    have K3d1 : w8.cell? ⟨w.heap.size + 1 + 1, 1, none⟩ = some (.int .u8 (pv : Nat)) := K3.out.at_ 1 rfl
    have K8 := hide (Blk.new_at w8 (w8.heap.size) (by simp) 27 #[.bool b8, .slice A8 n8 c8, .slice D8 m8 k8])
    have y := (Below.refl w8.heap.size w8).alloc (Nat.le_refl _) (.cells #[.bool b8, .slice A8 n8 c8, .slice D8 m8 k8] 27)
    replace K1 := hide (K1.out.below' y)
    replace K2 := hide (K2.out.below' y)
    replace K3 := hide (K3.out.below' y)
    replace Y := hide (Y.out.below y)
    replace b0 := hide (below_tr b0.out y)
    clear y
    have K3c0 : (w8.alloc (.cells #[.bool b8, .slice A8 n8 c8, .slice D8 m8 k8] 27)).cell? ⟨w.heap.size + 1 + 1, 0, none⟩ = some (.int .u8 (pu : Nat)) := K3.out.at_ 0 rfl
    have K3c1 : (w8.alloc (.cells #[.bool b8, .slice A8 n8 c8, .slice D8 m8 k8] 27)).cell? ⟨w.heap.size + 1 + 1, 1, none⟩ = some (.int .u8 (pv : Nat)) := K3.out.at_ 1 rfl
    go_wp2
    clear K3d0 K3d1
    clear K3c0 K3c1
    obtain ⟨V1_8, hV⟩ : ∃ V, (w8.alloc (.cells #[.bool b8, .slice A8 n8 c8, .slice D8 m8 k8] 27)) = V := ⟨_, rfl⟩
    rw [hV] at K1 K2 K3 Y K8 b0
    rw [hV]
    clear hV
    have Q4_ : Hid (H ((Rat.divInt p s)) 1) := H_make (L_small (by omega)) (L_small (by have := hsum.out; omega)) (Nat.le_refl _)
    have Q5_ : Hid (H ((x * (Rat.divInt p s))) 21) := H_mul S1.out Q4_.out (by decide)
    have Q6_ : Hid (H ((Rat.divInt q s)) 1) := H_make (L_small (by omega)) (L_small (by have := hsum.out; omega)) (Nat.le_refl _)
    have Q7_ : Hid (H ((y * (Rat.divInt q s))) 21) := H_mul S2.out Q6_.out (by decide)
    have Q8_ : Hid (H (((x * (Rat.divInt p s)) + (y * (Rat.divInt q s)))) 43) := H_add Q5_.out Q7_.out (by decide)
    refine RR.wp_region_R 17 V1_8 11 66 [(52, (.rat0 w x)), (53, .eq (.int .i64 p)), (54, .eq (.int .i64 p)), (55, .eq (.int .i64 q)), (56, .eq (.int .i64 s)), (57, (.ratR (Rat.divInt p s) V1_8.heap.size)), (58, (.ratR (x * (Rat.divInt p s)) V1_8.heap.size)), (59, (.rat0 w y)), (60, .eq (.int .i64 q)), (61, .eq (.int .i64 p)), (62, .eq (.int .i64 q)), (63, .eq (.int .i64 s)), (64, (.ratR (Rat.divInt q s) V1_8.heap.size)), (65, (.ratR (y * (Rat.divInt q s)) V1_8.heap.size)), (66, (.ratR ((x * (Rat.divInt p s)) + (y * (Rat.divInt q s))) V1_8.heap.size)), (11, (.var TR 3))] [false, false, false, false, false, false, false, false, false, false, false, true, false, false, false, false, false, false, false, false, false, false, false, false, false, false, false, false, false, false, false, false, false, false, false, false, false, false, false, false, false, false, false, false, false, false, false, false, false, false, false, false, true, true, true, true, true, true, true, true, true, true, true, true, true, true, true, false, false, false, false, false, false, false, false, false, false, false, false, false, false, false, false, false, false, false, false, false, false, false, false, false, false, false, false, false, false, false, false, false, false, false, false, false, false] mixed (by kernel_rfl) (by kernel_rfl) (by kernel_rfl) (Below.refl _ _).drew (by kernel_rfl) (by kernel_rfl) (by kernel_rfl) ⟨?_, ?_, ?_, ?_, ?_, ?_, ?_, ?_, ?_, ?_, ?_, ?_, ?_, ?_, ?_, ?_, ?_, trivial⟩ ?_
    · exact (.inl ⟨rfl, .load (.agg #[.bool b1, .slice A1 n1 c1, .slice D1 m1 k1]) (.inl rfl) rfl rfl (fun a w' hC hs hl => by rw [show a.eval (.tmp 3) = (.pointer (some ⟨w.heap.size, 0, none⟩) : Value) from (hs 3 (by kernel_rfl))]; exact ⟨ld_Rat_ ((K1.out.below' hC).at_ 0 rfl) ((K1.out.below' hC).at_ 1 rfl) ((K1.out.below' hC).at_ 2 rfl), a1.out⟩)⟩)
    · exact (.inl ⟨rfl, .moveC (.inl rfl) (.inl rfl) rfl (fun a w' hC hs => (hs 9 (by kernel_rfl)))⟩)
    · exact (.inl ⟨rfl, .moveC (.inl rfl) (.inl rfl) rfl (fun a w' hC hs => (hs 9 (by kernel_rfl)))⟩)
    · exact (.inl ⟨rfl, .moveC (.inl rfl) (.inl rfl) rfl (fun a w' hC hs => (hs 10 (by kernel_rfl)))⟩)
    · exact (.inl ⟨rfl, .value (.inl rfl) (by intro T e; cases e) rfl rfl (fun a w' hC hs hl => by
        have e0 : a.eval (.tmp 54) = (.int .i64 p) := (hl 54 (by kernel_rfl) (by kernel_rfl))
        have e1 : a.eval (.tmp 55) = (.int .i64 q) := (hl 55 (by kernel_rfl) (by kernel_rfl))
        simp only [execOp, e0, e1]
        skip
        simp [go_sem, hsw.out])⟩)
    · exact (.inl ⟨rfl, .call (.inl rfl) rfl rfl fn_rlof (fun a w' hC hs_ hl => by
        show Calls Tryz.prog _ #[a.eval (.tmp 53), a.eval (.tmp 56)] w' _
        rw [show a.eval (.tmp 53) = .int .i64 p from (hl 53 (by kernel_rfl) (by kernel_rfl)), show a.eval (.tmp 56) = .int .i64 s from (hl 56 (by kernel_rfl) (by kernel_rfl))]
        exact RR.rlof_R w' _ hC.size p s (by omega) (by omega) (by have := hsum.out; omega) (by have := hsum.out; omega) (by have := hsum.out; omega) (T.out.below (b0.out.trans (hC.mono b0.out.size))))⟩)
    · exact (.inl ⟨rfl, .call (.inl rfl) rfl rfl fn_rMul (fun a w' hC hs hl => rMul_R _ hC.size (RCan.arg (RCan.below (hl 52 (by kernel_rfl) (by kernel_rfl)) (b0.out.trans (hC.mono b0.out.size))) (S1.out.up (by decide))) (RCan.arg (RatR.can (hl 57 (by kernel_rfl) (by kernel_rfl))) (Q4_.out.up (by decide))) (T.out.below (b0.out.trans (hC.mono b0.out.size))))⟩)
    · exact (.inl ⟨rfl, .load (.agg #[.bool b2, .slice A2 n2 c2, .slice D2 m2 k2]) (.inl rfl) rfl rfl (fun a w' hC hs hl => by rw [show a.eval (.tmp 4) = (.pointer (some ⟨w.heap.size + 1, 0, none⟩) : Value) from (hs 4 (by kernel_rfl))]; exact ⟨ld_Rat_ ((K2.out.below' hC).at_ 0 rfl) ((K2.out.below' hC).at_ 1 rfl) ((K2.out.below' hC).at_ 2 rfl), a2.out⟩)⟩)
    · exact (.inl ⟨rfl, .moveC (.inl rfl) (.inl rfl) rfl (fun a w' hC hs => (hs 10 (by kernel_rfl)))⟩)
    · exact (.inl ⟨rfl, .moveC (.inl rfl) (.inl rfl) rfl (fun a w' hC hs => (hs 9 (by kernel_rfl)))⟩)
    · exact (.inl ⟨rfl, .moveC (.inl rfl) (.inl rfl) rfl (fun a w' hC hs => (hs 10 (by kernel_rfl)))⟩)
    · exact (.inl ⟨rfl, .value (.inl rfl) (by intro T e; cases e) rfl rfl (fun a w' hC hs hl => by
        have e0 : a.eval (.tmp 61) = (.int .i64 p) := (hl 61 (by kernel_rfl) (by kernel_rfl))
        have e1 : a.eval (.tmp 62) = (.int .i64 q) := (hl 62 (by kernel_rfl) (by kernel_rfl))
        simp only [execOp, e0, e1]
        skip
        simp [go_sem, hsw.out])⟩)
    · exact (.inl ⟨rfl, .call (.inl rfl) rfl rfl fn_rlof (fun a w' hC hs_ hl => by
        show Calls Tryz.prog _ #[a.eval (.tmp 60), a.eval (.tmp 63)] w' _
        rw [show a.eval (.tmp 60) = .int .i64 q from (hl 60 (by kernel_rfl) (by kernel_rfl)), show a.eval (.tmp 63) = .int .i64 s from (hl 63 (by kernel_rfl) (by kernel_rfl))]
        exact RR.rlof_R w' _ hC.size q s (by omega) (by omega) (by have := hsum.out; omega) (by have := hsum.out; omega) (by have := hsum.out; omega) (T.out.below (b0.out.trans (hC.mono b0.out.size))))⟩)
    · exact (.inl ⟨rfl, .call (.inl rfl) rfl rfl fn_rMul (fun a w' hC hs hl => rMul_R _ hC.size (RCan.arg (RCan.below (hl 59 (by kernel_rfl) (by kernel_rfl)) (b0.out.trans (hC.mono b0.out.size))) (S2.out.up (by decide))) (RCan.arg (RatR.can (hl 64 (by kernel_rfl) (by kernel_rfl))) (Q6_.out.up (by decide))) (T.out.below (b0.out.trans (hC.mono b0.out.size))))⟩)
    · exact (.inl ⟨rfl, .call (.inl rfl) rfl rfl fn_rAdd (fun a w' hC hs hl => rAdd_R _ hC.size (RCan.arg (RatR.can (hl 58 (by kernel_rfl) (by kernel_rfl))) (Q5_.out.up (by decide))) (RCan.arg (RatR.can (hl 65 (by kernel_rfl) (by kernel_rfl))) (Q7_.out.up (by decide))) (T.out.below (b0.out.trans (hC.mono b0.out.size))))⟩)
    · exact (.inl ⟨rfl, .alloc (.agg #[.bool false, .slice none 0 0, .slice none 0 0]) (.inl rfl) rfl rfl (fun a w' hC => ⟨run_alloc_Rat _ _ _ _ _ _ _, _, _, rfl, hC.size, Blk.new _ _ _, rfl⟩)⟩)
    · exact (.storeR (fun v w h => RatR.slice h) rfl rfl rfl (by kernel_rfl) (by kernel_rfl) (by kernel_rfl) (by kernel_rfl) rfl)
    intro f w9 hC hF _ hE
    obtain ⟨g11, b11, A11, n11, c11, D11, m11, k11, ep, lp, er, K11⟩ := hE
    have fr : RatR ((x * (Rat.divInt p s)) + (y * (Rat.divInt q s))) V1_8.heap.size w9 (f 66) := hF 66 (by kernel_rfl)
    rw [er] at fr
    have Z := hide fr.can
    clear fr
    replace K11 := hide K11
    clear hF lp
    simp only [patch, List.drop]
    generalize f 52 = y52_ at *
    generalize f 53 = y53_ at *
    generalize f 54 = y54_ at *
    generalize f 55 = y55_ at *
    generalize f 56 = y56_ at *
    generalize f 57 = y57_ at *
    generalize f 58 = y58_ at *
    generalize f 59 = y59_ at *
    generalize f 60 = y60_ at *
    generalize f 61 = y61_ at *
    generalize f 62 = y62_ at *
    generalize f 63 = y63_ at *
    generalize f 64 = y64_ at *
    generalize f 65 = y65_ at *
    generalize f 66 = y66_ at *
    generalize f 11 = y11_ at *
    subst er ep
    replace K1 := hide (K1.out.below' hC)
    replace K2 := hide (K2.out.below' hC)
    replace K3 := hide (K3.out.below' hC)
    replace Y := hide (Y.out.below hC)
    replace K8 := hide (K8.out.below' hC)
    replace b0 := hide (b0.out.trans (hC.mono b0.out.size))
    clear hC
    have K1c0 : w9.cell? ⟨w.heap.size, 0, none⟩ = some (.bool b1) := K1.out.at_ 0 rfl
    have K1c1 : w9.cell? ⟨w.heap.size, 1, none⟩ = some (.slice A1 n1 c1) := K1.out.at_ 1 rfl
    have K1c2 : w9.cell? ⟨w.heap.size, 2, none⟩ = some (.slice D1 m1 k1) := K1.out.at_ 2 rfl
    have K2c0 : w9.cell? ⟨w.heap.size + 1, 0, none⟩ = some (.bool b2) := K2.out.at_ 0 rfl
    have K2c1 : w9.cell? ⟨w.heap.size + 1, 1, none⟩ = some (.slice A2 n2 c2) := K2.out.at_ 1 rfl
    have K2c2 : w9.cell? ⟨w.heap.size + 1, 2, none⟩ = some (.slice D2 m2 k2) := K2.out.at_ 2 rfl
    go_wp2_with fail
    refine (rCmp_eq ((a1.out.below b0.out).arg (S1.out.up (by decide))) ((a2.out.below b0.out).arg (S2.out.up (by decide))) (T.out.below b0.out) (-1) (cmpQ_lt hc.out)).mono ?_
    rintro e w10 ⟨_, rfl, d0, rfl⟩
    replace K1 := hide (K1.out.below' d0)
    replace K2 := hide (K2.out.below' d0)
    replace K3 := hide (K3.out.below' d0)
    replace Y := hide (Y.out.below d0)
    replace K8 := hide (K8.out.below' d0)
    replace K11 := hide (K11.out.below' d0)
    replace Z := hide (Z.out.below d0)
    replace b0 := hide (below_tr b0.out d0)
    clear d0
    clear K1c0 K1c1 K1c2 K2c0 K2c1 K2c2
    go_wp2
    have Q9_ : Hid (H ((((x + y) * (Rat.divInt (1) (2))) - x)) 63) := H_sub Q3_.out S1.out (by decide)
    have Q10_ : Hid (H ((y - ((x + y) * (Rat.divInt (1) (2))))) 63) := H_sub S2.out Q3_.out (by decide)
    refine wp_region_facts 36 (fun w' => Below w10.heap.size w10 w') [(70, (.rat0 w10 ((x + y) * (Rat.divInt (1) (2))))), (71, (.rat0 w x)), (72, (.rat (((x + y) * (Rat.divInt (1) (2))) - x))), (73, (.rat0 w y)), (74, (.rat0 w10 ((x + y) * (Rat.divInt (1) (2))))), (75, (.rat (y - ((x + y) * (Rat.divInt (1) (2)))))), (76, .eq (.bool true)), (77, .eq (.bool true)), (78, (.rat0 w x)), (79, (.rat0 w10 ((x + y) * (Rat.divInt (1) (2))))), (80, .eq (.int .i64 (-1))), (81, .eq (.int .i64 (-1))), (82, .eq (.bool true)), (83, .eq (.bool true)), (84, .eq (.bool true)), (85, (.rat0 w10 ((x + y) * (Rat.divInt (1) (2))))), (86, (.rat0 w y)), (87, .eq (.int .i64 (-1))), (88, .eq (.int .i64 (-1))), (89, .eq (.bool true)), (90, .eq (.bool true)), (91, .eq (.bool true)), (92, (.rat0 w x)), (93, (.rat0 w10 ((x * (Rat.divInt p s)) + (y * (Rat.divInt q s))))), (94, .eq (.int .i64 (-1))), (95, .eq (.int .i64 (-1))), (96, .eq (.bool true)), (97, .eq (.bool true)), (98, .eq (.bool true)), (99, (.rat0 w10 ((x * (Rat.divInt p s)) + (y * (Rat.divInt q s))))), (100, (.rat0 w y)), (101, .eq (.int .i64 (-1))), (102, .eq (.int .i64 (-1))), (103, .eq (.bool true)), (104, .eq (.bool true)), (6, .eq (.bool true))] [false, false, false, false, false, false, true, false, false, false, false, false, false, false, false, false, false, false, false, false, false, false, false, false, false, false, false, false, false, false, false, false, false, false, false, false, false, false, false, false, false, false, false, false, false, false, false, false, false, false, false, false, false, false, false, false, false, false, false, false, false, false, false, false, false, false, false, false, false, false, true, true, true, true, true, true, true, true, true, true, true, true, true, true, true, true, true, true, true, true, true, true, true, true, true, true, true, true, true, true, true, true, true, true, true] mixed (by kernel_rfl) (by kernel_rfl) (by kernel_rfl) (fun _ _ h hb => h.trans (hb.mono h.size)) ((Below.refl _ _).drew) ⟨?_, ?_, ?_, ?_, ?_, ?_, ?_, ?_, ?_, ?_, ?_, ?_, ?_, ?_, ?_, ?_, ?_, ?_, ?_, ?_, ?_, ?_, ?_, ?_, ?_, ?_, ?_, ?_, ?_, ?_, ?_, ?_, ?_, ?_, ?_, ?_, trivial⟩ ?_
    · exact .load (.agg #[.bool b8, .slice A8 n8 c8, .slice D8 m8 k8]) (.inl rfl) rfl rfl (fun a w' hC hs hl => by rw [show a.eval (.tmp 8) = (.pointer (some ⟨w8.heap.size, 0, none⟩) : Value) from (hs 8 (by kernel_rfl))]; exact ⟨ld_Rat_ ((K8.out.below' hC).at_ 0 rfl) ((K8.out.below' hC).at_ 1 rfl) ((K8.out.below' hC).at_ 2 rfl), Y.out⟩)
    · exact .load (.agg #[.bool b1, .slice A1 n1 c1, .slice D1 m1 k1]) (.inl rfl) rfl rfl (fun a w' hC hs hl => by rw [show a.eval (.tmp 3) = (.pointer (some ⟨w.heap.size, 0, none⟩) : Value) from (hs 3 (by kernel_rfl))]; exact ⟨ld_Rat_ ((K1.out.below' hC).at_ 0 rfl) ((K1.out.below' hC).at_ 1 rfl) ((K1.out.below' hC).at_ 2 rfl), a1.out⟩)
    · exact .call (.inl rfl) rfl rfl fn_rSub (fun a w' hC hs hl => rSub_C (RCan.arg (RCan.below (hl 70 (by kernel_rfl) (by kernel_rfl)) hC) (Q3_.out.up (by decide))) (RCan.arg (RCan.below (hl 71 (by kernel_rfl) (by kernel_rfl)) (b0.out.trans (hC.mono b0.out.size))) (S1.out.up (by decide))) (T.out.below (b0.out.trans (hC.mono b0.out.size))))
    · exact .load (.agg #[.bool b2, .slice A2 n2 c2, .slice D2 m2 k2]) (.inl rfl) rfl rfl (fun a w' hC hs hl => by rw [show a.eval (.tmp 4) = (.pointer (some ⟨w.heap.size + 1, 0, none⟩) : Value) from (hs 4 (by kernel_rfl))]; exact ⟨ld_Rat_ ((K2.out.below' hC).at_ 0 rfl) ((K2.out.below' hC).at_ 1 rfl) ((K2.out.below' hC).at_ 2 rfl), a2.out⟩)
    · exact .load (.agg #[.bool b8, .slice A8 n8 c8, .slice D8 m8 k8]) (.inl rfl) rfl rfl (fun a w' hC hs hl => by rw [show a.eval (.tmp 8) = (.pointer (some ⟨w8.heap.size, 0, none⟩) : Value) from (hs 8 (by kernel_rfl))]; exact ⟨ld_Rat_ ((K8.out.below' hC).at_ 0 rfl) ((K8.out.below' hC).at_ 1 rfl) ((K8.out.below' hC).at_ 2 rfl), Y.out⟩)
    · exact .call (.inl rfl) rfl rfl fn_rSub (fun a w' hC hs hl => rSub_C (RCan.arg (RCan.below (hl 73 (by kernel_rfl) (by kernel_rfl)) (b0.out.trans (hC.mono b0.out.size))) (S2.out.up (by decide))) (RCan.arg (RCan.below (hl 74 (by kernel_rfl) (by kernel_rfl)) hC) (Q3_.out.up (by decide))) (T.out.below (b0.out.trans (hC.mono b0.out.size))))
    · exact .call (.inl rfl) rfl rfl fn_rsame (fun a w' hC hs hl => rsame_yes (hl 72 (by kernel_rfl) (by kernel_rfl)) (hl 75 (by kernel_rfl) (by kernel_rfl)) (half_same x y))
    · exact .move (.inl rfl) (.inl rfl) rfl (by kernel_rfl) (by kernel_rfl) rfl
    · exact .load (.agg #[.bool b1, .slice A1 n1 c1, .slice D1 m1 k1]) (.inr ⟨7, true, 77, by decide, rfl, rfl, rfl⟩) rfl rfl (fun a w' hC hs hl => by rw [show a.eval (.tmp 3) = (.pointer (some ⟨w.heap.size, 0, none⟩) : Value) from (hs 3 (by kernel_rfl))]; exact ⟨ld_Rat_ ((K1.out.below' hC).at_ 0 rfl) ((K1.out.below' hC).at_ 1 rfl) ((K1.out.below' hC).at_ 2 rfl), a1.out⟩)
    · exact .load (.agg #[.bool b8, .slice A8 n8 c8, .slice D8 m8 k8]) (.inr ⟨7, true, 77, by decide, rfl, rfl, rfl⟩) rfl rfl (fun a w' hC hs hl => by rw [show a.eval (.tmp 8) = (.pointer (some ⟨w8.heap.size, 0, none⟩) : Value) from (hs 8 (by kernel_rfl))]; exact ⟨ld_Rat_ ((K8.out.below' hC).at_ 0 rfl) ((K8.out.below' hC).at_ 1 rfl) ((K8.out.below' hC).at_ 2 rfl), Y.out⟩)
    · exact .call (.inr ⟨7, true, 77, by decide, rfl, rfl, rfl⟩) rfl rfl fn_rCmp (fun a w' hC hs hl => rCmp_eq (RCan.arg (RCan.below (hl 78 (by kernel_rfl) (by kernel_rfl)) (b0.out.trans (hC.mono b0.out.size))) (S1.out.up (by decide))) (RCan.arg (RCan.below (hl 79 (by kernel_rfl) (by kernel_rfl)) hC) (Q3_.out.up (by decide))) (T.out.below (b0.out.trans (hC.mono b0.out.size))) (-1) (half_lt1 hc.out))
    · exact .moveC (.inr ⟨7, true, 77, by decide, rfl, rfl, rfl⟩) (.inl rfl) rfl (fun a w' hC hs => (hs 12 (by kernel_rfl)))
    · exact .value (.inr ⟨7, true, 77, by decide, rfl, rfl, rfl⟩) (by intro T e; cases e) rfl rfl (fun a w' hC hs hl => by
        have e0 : a.eval (.tmp 80) = (.int .i64 (-1)) := (hl 80 (by kernel_rfl) (by kernel_rfl))
        have e1 : a.eval (.tmp 81) = (.int .i64 (-1)) := (hl 81 (by kernel_rfl) (by kernel_rfl))
        simp only [execOp, e0, e1]
        skip
        simp [go_sem] <;> rfl)
    · exact .pick (b := true) (.inl rfl) rfl rfl (fun a w' hC hs hl => ⟨(hl 77 (by kernel_rfl) (by kernel_rfl)), (hl 82 (by kernel_rfl) (by kernel_rfl))⟩)
    · exact .move (.inl rfl) (.inl rfl) rfl (by kernel_rfl) (by kernel_rfl) rfl
    · exact .load (.agg #[.bool b8, .slice A8 n8 c8, .slice D8 m8 k8]) (.inr ⟨14, true, 84, by decide, rfl, rfl, rfl⟩) rfl rfl (fun a w' hC hs hl => by rw [show a.eval (.tmp 8) = (.pointer (some ⟨w8.heap.size, 0, none⟩) : Value) from (hs 8 (by kernel_rfl))]; exact ⟨ld_Rat_ ((K8.out.below' hC).at_ 0 rfl) ((K8.out.below' hC).at_ 1 rfl) ((K8.out.below' hC).at_ 2 rfl), Y.out⟩)
    · exact .load (.agg #[.bool b2, .slice A2 n2 c2, .slice D2 m2 k2]) (.inr ⟨14, true, 84, by decide, rfl, rfl, rfl⟩) rfl rfl (fun a w' hC hs hl => by rw [show a.eval (.tmp 4) = (.pointer (some ⟨w.heap.size + 1, 0, none⟩) : Value) from (hs 4 (by kernel_rfl))]; exact ⟨ld_Rat_ ((K2.out.below' hC).at_ 0 rfl) ((K2.out.below' hC).at_ 1 rfl) ((K2.out.below' hC).at_ 2 rfl), a2.out⟩)
    · exact .call (.inr ⟨14, true, 84, by decide, rfl, rfl, rfl⟩) rfl rfl fn_rCmp (fun a w' hC hs hl => rCmp_eq (RCan.arg (RCan.below (hl 85 (by kernel_rfl) (by kernel_rfl)) hC) (Q3_.out.up (by decide))) (RCan.arg (RCan.below (hl 86 (by kernel_rfl) (by kernel_rfl)) (b0.out.trans (hC.mono b0.out.size))) (S2.out.up (by decide))) (T.out.below (b0.out.trans (hC.mono b0.out.size))) (-1) (half_lt2 hc.out))
    · exact .moveC (.inr ⟨14, true, 84, by decide, rfl, rfl, rfl⟩) (.inl rfl) rfl (fun a w' hC hs => (hs 12 (by kernel_rfl)))
    · exact .value (.inr ⟨14, true, 84, by decide, rfl, rfl, rfl⟩) (by intro T e; cases e) rfl rfl (fun a w' hC hs hl => by
        have e0 : a.eval (.tmp 87) = (.int .i64 (-1)) := (hl 87 (by kernel_rfl) (by kernel_rfl))
        have e1 : a.eval (.tmp 88) = (.int .i64 (-1)) := (hl 88 (by kernel_rfl) (by kernel_rfl))
        simp only [execOp, e0, e1]
        skip
        simp [go_sem] <;> rfl)
    · exact .pick (b := true) (.inl rfl) rfl rfl (fun a w' hC hs hl => ⟨(hl 84 (by kernel_rfl) (by kernel_rfl)), (hl 89 (by kernel_rfl) (by kernel_rfl))⟩)
    · exact .move (.inl rfl) (.inl rfl) rfl (by kernel_rfl) (by kernel_rfl) rfl
    · exact .load (.agg #[.bool b1, .slice A1 n1 c1, .slice D1 m1 k1]) (.inr ⟨21, true, 91, by decide, rfl, rfl, rfl⟩) rfl rfl (fun a w' hC hs hl => by rw [show a.eval (.tmp 3) = (.pointer (some ⟨w.heap.size, 0, none⟩) : Value) from (hs 3 (by kernel_rfl))]; exact ⟨ld_Rat_ ((K1.out.below' hC).at_ 0 rfl) ((K1.out.below' hC).at_ 1 rfl) ((K1.out.below' hC).at_ 2 rfl), a1.out⟩)
    · exact .load (.agg #[.bool b11, .slice A11 n11 c11, .slice D11 m11 k11]) (.inr ⟨21, true, 91, by decide, rfl, rfl, rfl⟩) rfl rfl (fun a w' hC hs hl => by rw [show a.eval (.tmp 11) = (.pointer (some ⟨g11, 0, none⟩) : Value) from (hs 11 (by kernel_rfl))]; exact ⟨ld_Rat_ ((K11.out.below' hC).at_ 0 rfl) ((K11.out.below' hC).at_ 1 rfl) ((K11.out.below' hC).at_ 2 rfl), Z.out⟩)
    · exact .call (.inr ⟨21, true, 91, by decide, rfl, rfl, rfl⟩) rfl rfl fn_rCmp (fun a w' hC hs hl => rCmp_eq (RCan.arg (RCan.below (hl 92 (by kernel_rfl) (by kernel_rfl)) (b0.out.trans (hC.mono b0.out.size))) (S1.out.up (by decide))) (RCan.arg (RCan.below (hl 93 (by kernel_rfl) (by kernel_rfl)) hC) (Q8_.out.up (by decide))) (T.out.below (b0.out.trans (hC.mono b0.out.size))) (-1) (some_lt1 hc.out hp1 hq1 hsum.out))
    · exact .moveC (.inr ⟨21, true, 91, by decide, rfl, rfl, rfl⟩) (.inl rfl) rfl (fun a w' hC hs => (hs 12 (by kernel_rfl)))
    · exact .value (.inr ⟨21, true, 91, by decide, rfl, rfl, rfl⟩) (by intro T e; cases e) rfl rfl (fun a w' hC hs hl => by
        have e0 : a.eval (.tmp 94) = (.int .i64 (-1)) := (hl 94 (by kernel_rfl) (by kernel_rfl))
        have e1 : a.eval (.tmp 95) = (.int .i64 (-1)) := (hl 95 (by kernel_rfl) (by kernel_rfl))
        simp only [execOp, e0, e1]
        skip
        simp [go_sem] <;> rfl)
    · exact .pick (b := true) (.inl rfl) rfl rfl (fun a w' hC hs hl => ⟨(hl 91 (by kernel_rfl) (by kernel_rfl)), (hl 96 (by kernel_rfl) (by kernel_rfl))⟩)
    · exact .move (.inl rfl) (.inl rfl) rfl (by kernel_rfl) (by kernel_rfl) rfl
    · exact .load (.agg #[.bool b11, .slice A11 n11 c11, .slice D11 m11 k11]) (.inr ⟨28, true, 98, by decide, rfl, rfl, rfl⟩) rfl rfl (fun a w' hC hs hl => by rw [show a.eval (.tmp 11) = (.pointer (some ⟨g11, 0, none⟩) : Value) from (hs 11 (by kernel_rfl))]; exact ⟨ld_Rat_ ((K11.out.below' hC).at_ 0 rfl) ((K11.out.below' hC).at_ 1 rfl) ((K11.out.below' hC).at_ 2 rfl), Z.out⟩)
    · exact .load (.agg #[.bool b2, .slice A2 n2 c2, .slice D2 m2 k2]) (.inr ⟨28, true, 98, by decide, rfl, rfl, rfl⟩) rfl rfl (fun a w' hC hs hl => by rw [show a.eval (.tmp 4) = (.pointer (some ⟨w.heap.size + 1, 0, none⟩) : Value) from (hs 4 (by kernel_rfl))]; exact ⟨ld_Rat_ ((K2.out.below' hC).at_ 0 rfl) ((K2.out.below' hC).at_ 1 rfl) ((K2.out.below' hC).at_ 2 rfl), a2.out⟩)
    · exact .call (.inr ⟨28, true, 98, by decide, rfl, rfl, rfl⟩) rfl rfl fn_rCmp (fun a w' hC hs hl => rCmp_eq (RCan.arg (RCan.below (hl 99 (by kernel_rfl) (by kernel_rfl)) hC) (Q8_.out.up (by decide))) (RCan.arg (RCan.below (hl 100 (by kernel_rfl) (by kernel_rfl)) (b0.out.trans (hC.mono b0.out.size))) (S2.out.up (by decide))) (T.out.below (b0.out.trans (hC.mono b0.out.size))) (-1) (some_lt2 hc.out hp1 hq1 hsum.out))
    · exact .moveC (.inr ⟨28, true, 98, by decide, rfl, rfl, rfl⟩) (.inl rfl) rfl (fun a w' hC hs => (hs 12 (by kernel_rfl)))
    · exact .value (.inr ⟨28, true, 98, by decide, rfl, rfl, rfl⟩) (by intro T e; cases e) rfl rfl (fun a w' hC hs hl => by
        have e0 : a.eval (.tmp 101) = (.int .i64 (-1)) := (hl 101 (by kernel_rfl) (by kernel_rfl))
        have e1 : a.eval (.tmp 102) = (.int .i64 (-1)) := (hl 102 (by kernel_rfl) (by kernel_rfl))
        simp only [execOp, e0, e1]
        skip
        simp [go_sem] <;> rfl)
    · exact .pick (b := true) (.inl rfl) rfl rfl (fun a w' hC hs hl => ⟨(hl 98 (by kernel_rfl) (by kernel_rfl)), (hl 103 (by kernel_rfl) (by kernel_rfl))⟩)
    · exact .move (.inl rfl) (.inr rfl) rfl (by kernel_rfl) (by kernel_rfl) rfl
    intro f w99 hC hF _
    have f0 : f 6 = .bool true := hF 6 (by kernel_rfl)
    clear hF
    simp only [patch, List.drop]
    have B9 := hide (b0.out.trans (hC.mono b0.out.size))
    clear hC
    rw [f0]
    try change wpList _ _ _ [] _ _
    go_wp2
    exact opq_end hR ⟨rfl, B9⟩
  case inr.inl =>
    replace hc := hide hc
    go_wp2_with fail
    refine (rCmp_eq ((a1.out.below b0.out).arg (S1.out.up (by decide))) ((a2.out.below b0.out).arg (S2.out.up (by decide))) (T.out.below b0.out) (0) (cmpQ_e hc.out)).mono ?_
    rintro e w5 ⟨_, rfl, d0, rfl⟩
    replace K1 := hide (K1.out.below' d0)
    replace K2 := hide (K2.out.below' d0)
    replace K3 := hide (K3.out.below' d0)
    replace b0 := hide (below_tr b0.out d0)
    clear d0
    clear K1c0 K1c1 K1c2 K2c0 K2c1 K2c2
    have K1c0 : w5.cell? ⟨w.heap.size, 0, none⟩ = some (.bool b1) := K1.out.at_ 0 rfl
    have K1c1 : w5.cell? ⟨w.heap.size, 1, none⟩ = some (.slice A1 n1 c1) := K1.out.at_ 1 rfl
    have K1c2 : w5.cell? ⟨w.heap.size, 2, none⟩ = some (.slice D1 m1 k1) := K1.out.at_ 2 rfl
    have K2c0 : w5.cell? ⟨w.heap.size + 1, 0, none⟩ = some (.bool b2) := K2.out.at_ 0 rfl
    have K2c1 : w5.cell? ⟨w.heap.size + 1, 1, none⟩ = some (.slice A2 n2 c2) := K2.out.at_ 1 rfl
    have K2c2 : w5.cell? ⟨w.heap.size + 1, 2, none⟩ = some (.slice D2 m2 k2) := K2.out.at_ 2 rfl
    have Q1_ : Hid (H ((x + y)) 41) := H_add S1.out S2.out (by decide)
    go_wp2_with fail
    refine (rAdd_C ((a1.out.below b0.out).arg (S1.out.up (by decide))) ((a2.out.below b0.out).arg (S2.out.up (by decide))) (T.out.below b0.out)).mono ?_
    rintro e w6 ⟨v9, rfl, d0, r9⟩
    replace K1 := hide (K1.out.below' d0)
    replace K2 := hide (K2.out.below' d0)
    replace K3 := hide (K3.out.below' d0)
    replace b0 := hide (below_tr b0.out d0)
    have X := hide (r9)
    clear d0
    clear r9
    obtain ⟨b9, A9, n9, c9, D9, m9, k9, rfl⟩ := X.out.slice
    clear K1c0 K1c1 K1c2 K2c0 K2c1 K2c2
    have Q2_ : Hid (H ((Rat.divInt (1) (2))) 1) := H_small (by decide +kernel) (by decide +kernel)
    go_wp2_with fail
    refine (rlof_C _ (1) (2) (by decide) (by decide) (by decide) (by decide) (by decide) (T.out.below b0.out)).mono ?_
    rintro e w7 ⟨v10, rfl, d0, r10⟩
    replace K1 := hide (K1.out.below' d0)
    replace K2 := hide (K2.out.below' d0)
    replace K3 := hide (K3.out.below' d0)
    replace X := hide (X.out.below d0)
    replace b0 := hide (below_tr b0.out d0)
    have U := hide (r10)
    clear d0
    clear r10
    have Q3_ : Hid (H (((x + y) * (Rat.divInt (1) (2)))) 42) := H_mul Q1_.out Q2_.out (by decide)
    have K3d0 : w7.cell? ⟨w.heap.size + 1 + 1, 0, none⟩ = some (.int .u8 (pu : Nat)) := K3.out.at_ 0 rfl
    have K3d1 : w7.cell? ⟨w.heap.size + 1 + 1, 1, none⟩ = some (.int .u8 (pv : Nat)) := K3.out.at_ 1 rfl
    go_wp2_with fail
    refine (rMul_C (X.out.arg (Q1_.out.up (by decide))) (U.out.arg (Q2_.out.up (by decide))) (T.out.below b0.out)).mono ?_
    rintro e w8 ⟨v8, rfl, d0, r8⟩
    replace K1 := hide (K1.out.below' d0)
    replace K2 := hide (K2.out.below' d0)
    replace K3 := hide (K3.out.below' d0)
    replace X := hide (X.out.below d0)
    replace U := hide (U.out.below d0)
    replace b0 := hide (below_tr b0.out d0)
    have Y := hide (r8)
    clear d0
    clear K3d0 K3d1
    clear r8
    obtain ⟨b8, A8, n8, c8, D8, m8, k8, rfl⟩ := Y.out.slice
    clear X U
    have K3d0 : w8.cell? ⟨w.heap.size + 1 + 1, 0, none⟩ = some (.int .u8 (pu : Nat)) := K3.out.at_ 0 rfl
    have K3d1 : w8.cell? ⟨w.heap.size + 1 + 1, 1, none⟩ = some (.int .u8 (pv : Nat)) := K3.out.at_ 1 rfl
    have K8 := hide (Blk.new_at w8 (w8.heap.size) (by simp) 27 #[.bool b8, .slice A8 n8 c8, .slice D8 m8 k8])
    have y := (Below.refl w8.heap.size w8).alloc (Nat.le_refl _) (.cells #[.bool b8, .slice A8 n8 c8, .slice D8 m8 k8] 27)
    replace K1 := hide (K1.out.below' y)
    replace K2 := hide (K2.out.below' y)
    replace K3 := hide (K3.out.below' y)
    replace Y := hide (Y.out.below y)
    replace b0 := hide (below_tr b0.out y)
    clear y
    have K3c0 : (w8.alloc (.cells #[.bool b8, .slice A8 n8 c8, .slice D8 m8 k8] 27)).cell? ⟨w.heap.size + 1 + 1, 0, none⟩ = some (.int .u8 (pu : Nat)) := K3.out.at_ 0 rfl
    have K3c1 : (w8.alloc (.cells #[.bool b8, .slice A8 n8 c8, .slice D8 m8 k8] 27)).cell? ⟨w.heap.size + 1 + 1, 1, none⟩ = some (.int .u8 (pv : Nat)) := K3.out.at_ 1 rfl
    go_wp2
    clear K3d0 K3d1
    clear K3c0 K3c1
    obtain ⟨V1_8, hV⟩ : ∃ V, (w8.alloc (.cells #[.bool b8, .slice A8 n8 c8, .slice D8 m8 k8] 27)) = V := ⟨_, rfl⟩
    rw [hV] at K1 K2 K3 Y K8 b0
    rw [hV]
    clear hV
    have Q4_ : Hid (H ((Rat.divInt p s)) 1) := H_make (L_small (by omega)) (L_small (by have := hsum.out; omega)) (Nat.le_refl _)
    have Q5_ : Hid (H ((x * (Rat.divInt p s))) 21) := H_mul S1.out Q4_.out (by decide)
    have Q6_ : Hid (H ((Rat.divInt q s)) 1) := H_make (L_small (by omega)) (L_small (by have := hsum.out; omega)) (Nat.le_refl _)
    have Q7_ : Hid (H ((y * (Rat.divInt q s))) 21) := H_mul S2.out Q6_.out (by decide)
    have Q8_ : Hid (H (((x * (Rat.divInt p s)) + (y * (Rat.divInt q s)))) 43) := H_add Q5_.out Q7_.out (by decide)
    refine RR.wp_region_R 17 V1_8 11 66 [(52, (.rat0 w x)), (53, .eq (.int .i64 p)), (54, .eq (.int .i64 p)), (55, .eq (.int .i64 q)), (56, .eq (.int .i64 s)), (57, (.ratR (Rat.divInt p s) V1_8.heap.size)), (58, (.ratR (x * (Rat.divInt p s)) V1_8.heap.size)), (59, (.rat0 w y)), (60, .eq (.int .i64 q)), (61, .eq (.int .i64 p)), (62, .eq (.int .i64 q)), (63, .eq (.int .i64 s)), (64, (.ratR (Rat.divInt q s) V1_8.heap.size)), (65, (.ratR (y * (Rat.divInt q s)) V1_8.heap.size)), (66, (.ratR ((x * (Rat.divInt p s)) + (y * (Rat.divInt q s))) V1_8.heap.size)), (11, (.var TR 3))] [false, false, false, false, false, false, false, false, false, false, false, true, false, false, false, false, false, false, false, false, false, false, false, false, false, false, false, false, false, false, false, false, false, false, false, false, false, false, false, false, false, false, false, false, false, false, false, false, false, false, false, false, true, true, true, true, true, true, true, true, true, true, true, true, true, true, true, false, false, false, false, false, false, false, false, false, false, false, false, false, false, false, false, false, false, false, false, false, false, false, false, false, false, false, false, false, false, false, false, false, false, false, false, false, false] mixed (by kernel_rfl) (by kernel_rfl) (by kernel_rfl) (Below.refl _ _).drew (by kernel_rfl) (by kernel_rfl) (by kernel_rfl) ⟨?_, ?_, ?_, ?_, ?_, ?_, ?_, ?_, ?_, ?_, ?_, ?_, ?_, ?_, ?_, ?_, ?_, trivial⟩ ?_
    · exact (.inl ⟨rfl, .load (.agg #[.bool b1, .slice A1 n1 c1, .slice D1 m1 k1]) (.inl rfl) rfl rfl (fun a w' hC hs hl => by rw [show a.eval (.tmp 3) = (.pointer (some ⟨w.heap.size, 0, none⟩) : Value) from (hs 3 (by kernel_rfl))]; exact ⟨ld_Rat_ ((K1.out.below' hC).at_ 0 rfl) ((K1.out.below' hC).at_ 1 rfl) ((K1.out.below' hC).at_ 2 rfl), a1.out⟩)⟩)
    · exact (.inl ⟨rfl, .moveC (.inl rfl) (.inl rfl) rfl (fun a w' hC hs => (hs 9 (by kernel_rfl)))⟩)
    · exact (.inl ⟨rfl, .moveC (.inl rfl) (.inl rfl) rfl (fun a w' hC hs => (hs 9 (by kernel_rfl)))⟩)
    · exact (.inl ⟨rfl, .moveC (.inl rfl) (.inl rfl) rfl (fun a w' hC hs => (hs 10 (by kernel_rfl)))⟩)
    · exact (.inl ⟨rfl, .value (.inl rfl) (by intro T e; cases e) rfl rfl (fun a w' hC hs hl => by
        have e0 : a.eval (.tmp 54) = (.int .i64 p) := (hl 54 (by kernel_rfl) (by kernel_rfl))
        have e1 : a.eval (.tmp 55) = (.int .i64 q) := (hl 55 (by kernel_rfl) (by kernel_rfl))
        simp only [execOp, e0, e1]
        skip
        simp [go_sem, hsw.out])⟩)
    · exact (.inl ⟨rfl, .call (.inl rfl) rfl rfl fn_rlof (fun a w' hC hs_ hl => by
        show Calls Tryz.prog _ #[a.eval (.tmp 53), a.eval (.tmp 56)] w' _
        rw [show a.eval (.tmp 53) = .int .i64 p from (hl 53 (by kernel_rfl) (by kernel_rfl)), show a.eval (.tmp 56) = .int .i64 s from (hl 56 (by kernel_rfl) (by kernel_rfl))]
        exact RR.rlof_R w' _ hC.size p s (by omega) (by omega) (by have := hsum.out; omega) (by have := hsum.out; omega) (by have := hsum.out; omega) (T.out.below (b0.out.trans (hC.mono b0.out.size))))⟩)
    · exact (.inl ⟨rfl, .call (.inl rfl) rfl rfl fn_rMul (fun a w' hC hs hl => rMul_R _ hC.size (RCan.arg (RCan.below (hl 52 (by kernel_rfl) (by kernel_rfl)) (b0.out.trans (hC.mono b0.out.size))) (S1.out.up (by decide))) (RCan.arg (RatR.can (hl 57 (by kernel_rfl) (by kernel_rfl))) (Q4_.out.up (by decide))) (T.out.below (b0.out.trans (hC.mono b0.out.size))))⟩)
    · exact (.inl ⟨rfl, .load (.agg #[.bool b2, .slice A2 n2 c2, .slice D2 m2 k2]) (.inl rfl) rfl rfl (fun a w' hC hs hl => by rw [show a.eval (.tmp 4) = (.pointer (some ⟨w.heap.size + 1, 0, none⟩) : Value) from (hs 4 (by kernel_rfl))]; exact ⟨ld_Rat_ ((K2.out.below' hC).at_ 0 rfl) ((K2.out.below' hC).at_ 1 rfl) ((K2.out.below' hC).at_ 2 rfl), a2.out⟩)⟩)
    · exact (.inl ⟨rfl, .moveC (.inl rfl) (.inl rfl) rfl (fun a w' hC hs => (hs 10 (by kernel_rfl)))⟩)
    · exact (.inl ⟨rfl, .moveC (.inl rfl) (.inl rfl) rfl (fun a w' hC hs => (hs 9 (by kernel_rfl)))⟩)
    · exact (.inl ⟨rfl, .moveC (.inl rfl) (.inl rfl) rfl (fun a w' hC hs => (hs 10 (by kernel_rfl)))⟩)
    · exact (.inl ⟨rfl, .value (.inl rfl) (by intro T e; cases e) rfl rfl (fun a w' hC hs hl => by
        have e0 : a.eval (.tmp 61) = (.int .i64 p) := (hl 61 (by kernel_rfl) (by kernel_rfl))
        have e1 : a.eval (.tmp 62) = (.int .i64 q) := (hl 62 (by kernel_rfl) (by kernel_rfl))
        simp only [execOp, e0, e1]
        skip
        simp [go_sem, hsw.out])⟩)
    · exact (.inl ⟨rfl, .call (.inl rfl) rfl rfl fn_rlof (fun a w' hC hs_ hl => by
        show Calls Tryz.prog _ #[a.eval (.tmp 60), a.eval (.tmp 63)] w' _
        rw [show a.eval (.tmp 60) = .int .i64 q from (hl 60 (by kernel_rfl) (by kernel_rfl)), show a.eval (.tmp 63) = .int .i64 s from (hl 63 (by kernel_rfl) (by kernel_rfl))]
        exact RR.rlof_R w' _ hC.size q s (by omega) (by omega) (by have := hsum.out; omega) (by have := hsum.out; omega) (by have := hsum.out; omega) (T.out.below (b0.out.trans (hC.mono b0.out.size))))⟩)
    · exact (.inl ⟨rfl, .call (.inl rfl) rfl rfl fn_rMul (fun a w' hC hs hl => rMul_R _ hC.size (RCan.arg (RCan.below (hl 59 (by kernel_rfl) (by kernel_rfl)) (b0.out.trans (hC.mono b0.out.size))) (S2.out.up (by decide))) (RCan.arg (RatR.can (hl 64 (by kernel_rfl) (by kernel_rfl))) (Q6_.out.up (by decide))) (T.out.below (b0.out.trans (hC.mono b0.out.size))))⟩)
    · exact (.inl ⟨rfl, .call (.inl rfl) rfl rfl fn_rAdd (fun a w' hC hs hl => rAdd_R _ hC.size (RCan.arg (RatR.can (hl 58 (by kernel_rfl) (by kernel_rfl))) (Q5_.out.up (by decide))) (RCan.arg (RatR.can (hl 65 (by kernel_rfl) (by kernel_rfl))) (Q7_.out.up (by decide))) (T.out.below (b0.out.trans (hC.mono b0.out.size))))⟩)
    · exact (.inl ⟨rfl, .alloc (.agg #[.bool false, .slice none 0 0, .slice none 0 0]) (.inl rfl) rfl rfl (fun a w' hC => ⟨run_alloc_Rat _ _ _ _ _ _ _, _, _, rfl, hC.size, Blk.new _ _ _, rfl⟩)⟩)
    · exact (.storeR (fun v w h => RatR.slice h) rfl rfl rfl (by kernel_rfl) (by kernel_rfl) (by kernel_rfl) (by kernel_rfl) rfl)
    intro f w9 hC hF _ hE
    obtain ⟨g11, b11, A11, n11, c11, D11, m11, k11, ep, lp, er, K11⟩ := hE
    have fr : RatR ((x * (Rat.divInt p s)) + (y * (Rat.divInt q s))) V1_8.heap.size w9 (f 66) := hF 66 (by kernel_rfl)
    rw [er] at fr
    have Z := hide fr.can
    clear fr
    replace K11 := hide K11
    clear hF lp
    simp only [patch, List.drop]
    generalize f 52 = y52_ at *
    generalize f 53 = y53_ at *
    generalize f 54 = y54_ at *
    generalize f 55 = y55_ at *
    generalize f 56 = y56_ at *
    generalize f 57 = y57_ at *
    generalize f 58 = y58_ at *
    generalize f 59 = y59_ at *
    generalize f 60 = y60_ at *
    generalize f 61 = y61_ at *
    generalize f 62 = y62_ at *
    generalize f 63 = y63_ at *
    generalize f 64 = y64_ at *
    generalize f 65 = y65_ at *
    generalize f 66 = y66_ at *
    generalize f 11 = y11_ at *
    subst er ep
    replace K1 := hide (K1.out.below' hC)
    replace K2 := hide (K2.out.below' hC)
    replace K3 := hide (K3.out.below' hC)
    replace Y := hide (Y.out.below hC)
    replace K8 := hide (K8.out.below' hC)
    replace b0 := hide (b0.out.trans (hC.mono b0.out.size))
    clear hC
    have K1c0 : w9.cell? ⟨w.heap.size, 0, none⟩ = some (.bool b1) := K1.out.at_ 0 rfl
    have K1c1 : w9.cell? ⟨w.heap.size, 1, none⟩ = some (.slice A1 n1 c1) := K1.out.at_ 1 rfl
    have K1c2 : w9.cell? ⟨w.heap.size, 2, none⟩ = some (.slice D1 m1 k1) := K1.out.at_ 2 rfl
    have K2c0 : w9.cell? ⟨w.heap.size + 1, 0, none⟩ = some (.bool b2) := K2.out.at_ 0 rfl
    have K2c1 : w9.cell? ⟨w.heap.size + 1, 1, none⟩ = some (.slice A2 n2 c2) := K2.out.at_ 1 rfl
    have K2c2 : w9.cell? ⟨w.heap.size + 1, 2, none⟩ = some (.slice D2 m2 k2) := K2.out.at_ 2 rfl
    go_wp2_with fail
    refine (rCmp_eq ((a1.out.below b0.out).arg (S1.out.up (by decide))) ((a2.out.below b0.out).arg (S2.out.up (by decide))) (T.out.below b0.out) (0) (cmpQ_e hc.out)).mono ?_
    rintro e w10 ⟨_, rfl, d0, rfl⟩
    replace K1 := hide (K1.out.below' d0)
    replace K2 := hide (K2.out.below' d0)
    replace K3 := hide (K3.out.below' d0)
    replace Y := hide (Y.out.below d0)
    replace K8 := hide (K8.out.below' d0)
    replace K11 := hide (K11.out.below' d0)
    replace Z := hide (Z.out.below d0)
    replace b0 := hide (below_tr b0.out d0)
    clear d0
    clear K1c0 K1c1 K1c2 K2c0 K2c1 K2c2
    go_wp2
    have Q9_ : Hid (H ((((x + y) * (Rat.divInt (1) (2))) - x)) 63) := H_sub Q3_.out S1.out (by decide)
    have Q10_ : Hid (H ((y - ((x + y) * (Rat.divInt (1) (2))))) 63) := H_sub S2.out Q3_.out (by decide)
    refine wp_region_facts 36 (fun w' => Below w10.heap.size w10 w') [(70, (.rat0 w10 ((x + y) * (Rat.divInt (1) (2))))), (71, (.rat0 w x)), (72, (.rat (((x + y) * (Rat.divInt (1) (2))) - x))), (73, (.rat0 w y)), (74, (.rat0 w10 ((x + y) * (Rat.divInt (1) (2))))), (75, (.rat (y - ((x + y) * (Rat.divInt (1) (2)))))), (76, .eq (.bool true)), (77, .eq (.bool true)), (78, (.rat0 w x)), (79, (.rat0 w10 ((x + y) * (Rat.divInt (1) (2))))), (80, .eq (.int .i64 (0))), (81, .eq (.int .i64 (0))), (82, .eq (.bool true)), (83, .eq (.bool true)), (84, .eq (.bool true)), (85, (.rat0 w10 ((x + y) * (Rat.divInt (1) (2))))), (86, (.rat0 w y)), (87, .eq (.int .i64 (0))), (88, .eq (.int .i64 (0))), (89, .eq (.bool true)), (90, .eq (.bool true)), (91, .eq (.bool true)), (92, (.rat0 w x)), (93, (.rat0 w10 ((x * (Rat.divInt p s)) + (y * (Rat.divInt q s))))), (94, .eq (.int .i64 (0))), (95, .eq (.int .i64 (0))), (96, .eq (.bool true)), (97, .eq (.bool true)), (98, .eq (.bool true)), (99, (.rat0 w10 ((x * (Rat.divInt p s)) + (y * (Rat.divInt q s))))), (100, (.rat0 w y)), (101, .eq (.int .i64 (0))), (102, .eq (.int .i64 (0))), (103, .eq (.bool true)), (104, .eq (.bool true)), (6, .eq (.bool true))] [false, false, false, false, false, false, true, false, false, false, false, false, false, false, false, false, false, false, false, false, false, false, false, false, false, false, false, false, false, false, false, false, false, false, false, false, false, false, false, false, false, false, false, false, false, false, false, false, false, false, false, false, false, false, false, false, false, false, false, false, false, false, false, false, false, false, false, false, false, false, true, true, true, true, true, true, true, true, true, true, true, true, true, true, true, true, true, true, true, true, true, true, true, true, true, true, true, true, true, true, true, true, true, true, true] mixed (by kernel_rfl) (by kernel_rfl) (by kernel_rfl) (fun _ _ h hb => h.trans (hb.mono h.size)) ((Below.refl _ _).drew) ⟨?_, ?_, ?_, ?_, ?_, ?_, ?_, ?_, ?_, ?_, ?_, ?_, ?_, ?_, ?_, ?_, ?_, ?_, ?_, ?_, ?_, ?_, ?_, ?_, ?_, ?_, ?_, ?_, ?_, ?_, ?_, ?_, ?_, ?_, ?_, ?_, trivial⟩ ?_
    · exact .load (.agg #[.bool b8, .slice A8 n8 c8, .slice D8 m8 k8]) (.inl rfl) rfl rfl (fun a w' hC hs hl => by rw [show a.eval (.tmp 8) = (.pointer (some ⟨w8.heap.size, 0, none⟩) : Value) from (hs 8 (by kernel_rfl))]; exact ⟨ld_Rat_ ((K8.out.below' hC).at_ 0 rfl) ((K8.out.below' hC).at_ 1 rfl) ((K8.out.below' hC).at_ 2 rfl), Y.out⟩)
    · exact .load (.agg #[.bool b1, .slice A1 n1 c1, .slice D1 m1 k1]) (.inl rfl) rfl rfl (fun a w' hC hs hl => by rw [show a.eval (.tmp 3) = (.pointer (some ⟨w.heap.size, 0, none⟩) : Value) from (hs 3 (by kernel_rfl))]; exact ⟨ld_Rat_ ((K1.out.below' hC).at_ 0 rfl) ((K1.out.below' hC).at_ 1 rfl) ((K1.out.below' hC).at_ 2 rfl), a1.out⟩)
    · exact .call (.inl rfl) rfl rfl fn_rSub (fun a w' hC hs hl => rSub_C (RCan.arg (RCan.below (hl 70 (by kernel_rfl) (by kernel_rfl)) hC) (Q3_.out.up (by decide))) (RCan.arg (RCan.below (hl 71 (by kernel_rfl) (by kernel_rfl)) (b0.out.trans (hC.mono b0.out.size))) (S1.out.up (by decide))) (T.out.below (b0.out.trans (hC.mono b0.out.size))))
    · exact .load (.agg #[.bool b2, .slice A2 n2 c2, .slice D2 m2 k2]) (.inl rfl) rfl rfl (fun a w' hC hs hl => by rw [show a.eval (.tmp 4) = (.pointer (some ⟨w.heap.size + 1, 0, none⟩) : Value) from (hs 4 (by kernel_rfl))]; exact ⟨ld_Rat_ ((K2.out.below' hC).at_ 0 rfl) ((K2.out.below' hC).at_ 1 rfl) ((K2.out.below' hC).at_ 2 rfl), a2.out⟩)
    · exact .load (.agg #[.bool b8, .slice A8 n8 c8, .slice D8 m8 k8]) (.inl rfl) rfl rfl (fun a w' hC hs hl => by rw [show a.eval (.tmp 8) = (.pointer (some ⟨w8.heap.size, 0, none⟩) : Value) from (hs 8 (by kernel_rfl))]; exact ⟨ld_Rat_ ((K8.out.below' hC).at_ 0 rfl) ((K8.out.below' hC).at_ 1 rfl) ((K8.out.below' hC).at_ 2 rfl), Y.out⟩)
    · exact .call (.inl rfl) rfl rfl fn_rSub (fun a w' hC hs hl => rSub_C (RCan.arg (RCan.below (hl 73 (by kernel_rfl) (by kernel_rfl)) (b0.out.trans (hC.mono b0.out.size))) (S2.out.up (by decide))) (RCan.arg (RCan.below (hl 74 (by kernel_rfl) (by kernel_rfl)) hC) (Q3_.out.up (by decide))) (T.out.below (b0.out.trans (hC.mono b0.out.size))))
    · exact .call (.inl rfl) rfl rfl fn_rsame (fun a w' hC hs hl => rsame_yes (hl 72 (by kernel_rfl) (by kernel_rfl)) (hl 75 (by kernel_rfl) (by kernel_rfl)) (half_same x y))
    · exact .move (.inl rfl) (.inl rfl) rfl (by kernel_rfl) (by kernel_rfl) rfl
    · exact .load (.agg #[.bool b1, .slice A1 n1 c1, .slice D1 m1 k1]) (.inr ⟨7, true, 77, by decide, rfl, rfl, rfl⟩) rfl rfl (fun a w' hC hs hl => by rw [show a.eval (.tmp 3) = (.pointer (some ⟨w.heap.size, 0, none⟩) : Value) from (hs 3 (by kernel_rfl))]; exact ⟨ld_Rat_ ((K1.out.below' hC).at_ 0 rfl) ((K1.out.below' hC).at_ 1 rfl) ((K1.out.below' hC).at_ 2 rfl), a1.out⟩)
    · exact .load (.agg #[.bool b8, .slice A8 n8 c8, .slice D8 m8 k8]) (.inr ⟨7, true, 77, by decide, rfl, rfl, rfl⟩) rfl rfl (fun a w' hC hs hl => by rw [show a.eval (.tmp 8) = (.pointer (some ⟨w8.heap.size, 0, none⟩) : Value) from (hs 8 (by kernel_rfl))]; exact ⟨ld_Rat_ ((K8.out.below' hC).at_ 0 rfl) ((K8.out.below' hC).at_ 1 rfl) ((K8.out.below' hC).at_ 2 rfl), Y.out⟩)
    · exact .call (.inr ⟨7, true, 77, by decide, rfl, rfl, rfl⟩) rfl rfl fn_rCmp (fun a w' hC hs hl => rCmp_eq (RCan.arg (RCan.below (hl 78 (by kernel_rfl) (by kernel_rfl)) (b0.out.trans (hC.mono b0.out.size))) (S1.out.up (by decide))) (RCan.arg (RCan.below (hl 79 (by kernel_rfl) (by kernel_rfl)) hC) (Q3_.out.up (by decide))) (T.out.below (b0.out.trans (hC.mono b0.out.size))) (0) (half_e1 hc.out))
    · exact .moveC (.inr ⟨7, true, 77, by decide, rfl, rfl, rfl⟩) (.inl rfl) rfl (fun a w' hC hs => (hs 12 (by kernel_rfl)))
    · exact .value (.inr ⟨7, true, 77, by decide, rfl, rfl, rfl⟩) (by intro T e; cases e) rfl rfl (fun a w' hC hs hl => by
        have e0 : a.eval (.tmp 80) = (.int .i64 (0)) := (hl 80 (by kernel_rfl) (by kernel_rfl))
        have e1 : a.eval (.tmp 81) = (.int .i64 (0)) := (hl 81 (by kernel_rfl) (by kernel_rfl))
        simp only [execOp, e0, e1]
        skip
        simp [go_sem] <;> rfl)
    · exact .pick (b := true) (.inl rfl) rfl rfl (fun a w' hC hs hl => ⟨(hl 77 (by kernel_rfl) (by kernel_rfl)), (hl 82 (by kernel_rfl) (by kernel_rfl))⟩)
    · exact .move (.inl rfl) (.inl rfl) rfl (by kernel_rfl) (by kernel_rfl) rfl
    · exact .load (.agg #[.bool b8, .slice A8 n8 c8, .slice D8 m8 k8]) (.inr ⟨14, true, 84, by decide, rfl, rfl, rfl⟩) rfl rfl (fun a w' hC hs hl => by rw [show a.eval (.tmp 8) = (.pointer (some ⟨w8.heap.size, 0, none⟩) : Value) from (hs 8 (by kernel_rfl))]; exact ⟨ld_Rat_ ((K8.out.below' hC).at_ 0 rfl) ((K8.out.below' hC).at_ 1 rfl) ((K8.out.below' hC).at_ 2 rfl), Y.out⟩)
    · exact .load (.agg #[.bool b2, .slice A2 n2 c2, .slice D2 m2 k2]) (.inr ⟨14, true, 84, by decide, rfl, rfl, rfl⟩) rfl rfl (fun a w' hC hs hl => by rw [show a.eval (.tmp 4) = (.pointer (some ⟨w.heap.size + 1, 0, none⟩) : Value) from (hs 4 (by kernel_rfl))]; exact ⟨ld_Rat_ ((K2.out.below' hC).at_ 0 rfl) ((K2.out.below' hC).at_ 1 rfl) ((K2.out.below' hC).at_ 2 rfl), a2.out⟩)
    · exact .call (.inr ⟨14, true, 84, by decide, rfl, rfl, rfl⟩) rfl rfl fn_rCmp (fun a w' hC hs hl => rCmp_eq (RCan.arg (RCan.below (hl 85 (by kernel_rfl) (by kernel_rfl)) hC) (Q3_.out.up (by decide))) (RCan.arg (RCan.below (hl 86 (by kernel_rfl) (by kernel_rfl)) (b0.out.trans (hC.mono b0.out.size))) (S2.out.up (by decide))) (T.out.below (b0.out.trans (hC.mono b0.out.size))) (0) (half_e2 hc.out))
    · exact .moveC (.inr ⟨14, true, 84, by decide, rfl, rfl, rfl⟩) (.inl rfl) rfl (fun a w' hC hs => (hs 12 (by kernel_rfl)))
    · exact .value (.inr ⟨14, true, 84, by decide, rfl, rfl, rfl⟩) (by intro T e; cases e) rfl rfl (fun a w' hC hs hl => by
        have e0 : a.eval (.tmp 87) = (.int .i64 (0)) := (hl 87 (by kernel_rfl) (by kernel_rfl))
        have e1 : a.eval (.tmp 88) = (.int .i64 (0)) := (hl 88 (by kernel_rfl) (by kernel_rfl))
        simp only [execOp, e0, e1]
        skip
        simp [go_sem] <;> rfl)
    · exact .pick (b := true) (.inl rfl) rfl rfl (fun a w' hC hs hl => ⟨(hl 84 (by kernel_rfl) (by kernel_rfl)), (hl 89 (by kernel_rfl) (by kernel_rfl))⟩)
    · exact .move (.inl rfl) (.inl rfl) rfl (by kernel_rfl) (by kernel_rfl) rfl
    · exact .load (.agg #[.bool b1, .slice A1 n1 c1, .slice D1 m1 k1]) (.inr ⟨21, true, 91, by decide, rfl, rfl, rfl⟩) rfl rfl (fun a w' hC hs hl => by rw [show a.eval (.tmp 3) = (.pointer (some ⟨w.heap.size, 0, none⟩) : Value) from (hs 3 (by kernel_rfl))]; exact ⟨ld_Rat_ ((K1.out.below' hC).at_ 0 rfl) ((K1.out.below' hC).at_ 1 rfl) ((K1.out.below' hC).at_ 2 rfl), a1.out⟩)
    · exact .load (.agg #[.bool b11, .slice A11 n11 c11, .slice D11 m11 k11]) (.inr ⟨21, true, 91, by decide, rfl, rfl, rfl⟩) rfl rfl (fun a w' hC hs hl => by rw [show a.eval (.tmp 11) = (.pointer (some ⟨g11, 0, none⟩) : Value) from (hs 11 (by kernel_rfl))]; exact ⟨ld_Rat_ ((K11.out.below' hC).at_ 0 rfl) ((K11.out.below' hC).at_ 1 rfl) ((K11.out.below' hC).at_ 2 rfl), Z.out⟩)
    · exact .call (.inr ⟨21, true, 91, by decide, rfl, rfl, rfl⟩) rfl rfl fn_rCmp (fun a w' hC hs hl => rCmp_eq (RCan.arg (RCan.below (hl 92 (by kernel_rfl) (by kernel_rfl)) (b0.out.trans (hC.mono b0.out.size))) (S1.out.up (by decide))) (RCan.arg (RCan.below (hl 93 (by kernel_rfl) (by kernel_rfl)) hC) (Q8_.out.up (by decide))) (T.out.below (b0.out.trans (hC.mono b0.out.size))) (0) (some_e1 hc.out hp1 hq1 hsum.out))
    · exact .moveC (.inr ⟨21, true, 91, by decide, rfl, rfl, rfl⟩) (.inl rfl) rfl (fun a w' hC hs => (hs 12 (by kernel_rfl)))
    · exact .value (.inr ⟨21, true, 91, by decide, rfl, rfl, rfl⟩) (by intro T e; cases e) rfl rfl (fun a w' hC hs hl => by
        have e0 : a.eval (.tmp 94) = (.int .i64 (0)) := (hl 94 (by kernel_rfl) (by kernel_rfl))
        have e1 : a.eval (.tmp 95) = (.int .i64 (0)) := (hl 95 (by kernel_rfl) (by kernel_rfl))
        simp only [execOp, e0, e1]
        skip
        simp [go_sem] <;> rfl)
    · exact .pick (b := true) (.inl rfl) rfl rfl (fun a w' hC hs hl => ⟨(hl 91 (by kernel_rfl) (by kernel_rfl)), (hl 96 (by kernel_rfl) (by kernel_rfl))⟩)
    · exact .move (.inl rfl) (.inl rfl) rfl (by kernel_rfl) (by kernel_rfl) rfl
    · exact .load (.agg #[.bool b11, .slice A11 n11 c11, .slice D11 m11 k11]) (.inr ⟨28, true, 98, by decide, rfl, rfl, rfl⟩) rfl rfl (fun a w' hC hs hl => by rw [show a.eval (.tmp 11) = (.pointer (some ⟨g11, 0, none⟩) : Value) from (hs 11 (by kernel_rfl))]; exact ⟨ld_Rat_ ((K11.out.below' hC).at_ 0 rfl) ((K11.out.below' hC).at_ 1 rfl) ((K11.out.below' hC).at_ 2 rfl), Z.out⟩)
    · exact .load (.agg #[.bool b2, .slice A2 n2 c2, .slice D2 m2 k2]) (.inr ⟨28, true, 98, by decide, rfl, rfl, rfl⟩) rfl rfl (fun a w' hC hs hl => by rw [show a.eval (.tmp 4) = (.pointer (some ⟨w.heap.size + 1, 0, none⟩) : Value) from (hs 4 (by kernel_rfl))]; exact ⟨ld_Rat_ ((K2.out.below' hC).at_ 0 rfl) ((K2.out.below' hC).at_ 1 rfl) ((K2.out.below' hC).at_ 2 rfl), a2.out⟩)
    · exact .call (.inr ⟨28, true, 98, by decide, rfl, rfl, rfl⟩) rfl rfl fn_rCmp (fun a w' hC hs hl => rCmp_eq (RCan.arg (RCan.below (hl 99 (by kernel_rfl) (by kernel_rfl)) hC) (Q8_.out.up (by decide))) (RCan.arg (RCan.below (hl 100 (by kernel_rfl) (by kernel_rfl)) (b0.out.trans (hC.mono b0.out.size))) (S2.out.up (by decide))) (T.out.below (b0.out.trans (hC.mono b0.out.size))) (0) (some_e2 hc.out hp1 hq1 hsum.out))
    · exact .moveC (.inr ⟨28, true, 98, by decide, rfl, rfl, rfl⟩) (.inl rfl) rfl (fun a w' hC hs => (hs 12 (by kernel_rfl)))
    · exact .value (.inr ⟨28, true, 98, by decide, rfl, rfl, rfl⟩) (by intro T e; cases e) rfl rfl (fun a w' hC hs hl => by
        have e0 : a.eval (.tmp 101) = (.int .i64 (0)) := (hl 101 (by kernel_rfl) (by kernel_rfl))
        have e1 : a.eval (.tmp 102) = (.int .i64 (0)) := (hl 102 (by kernel_rfl) (by kernel_rfl))
        simp only [execOp, e0, e1]
        skip
        simp [go_sem] <;> rfl)
    · exact .pick (b := true) (.inl rfl) rfl rfl (fun a w' hC hs hl => ⟨(hl 98 (by kernel_rfl) (by kernel_rfl)), (hl 103 (by kernel_rfl) (by kernel_rfl))⟩)
    · exact .move (.inl rfl) (.inr rfl) rfl (by kernel_rfl) (by kernel_rfl) rfl
    intro f w99 hC hF _
    have f0 : f 6 = .bool true := hF 6 (by kernel_rfl)
    clear hF
    simp only [patch, List.drop]
    have B9 := hide (b0.out.trans (hC.mono b0.out.size))
    clear hC
    rw [f0]
    try change wpList _ _ _ [] _ _
    go_wp2
    exact opq_end hR ⟨rfl, B9⟩
  case inr.inr =>
    replace hc := hide hc
    go_wp2_with fail
    refine (rCmp_eq ((a1.out.below b0.out).arg (S1.out.up (by decide))) ((a2.out.below b0.out).arg (S2.out.up (by decide))) (T.out.below b0.out) (1) (cmpQ_gt hc.out)).mono ?_
    rintro e w5 ⟨_, rfl, d0, rfl⟩
    replace K1 := hide (K1.out.below' d0)
    replace K2 := hide (K2.out.below' d0)
    replace K3 := hide (K3.out.below' d0)
    replace b0 := hide (below_tr b0.out d0)
    clear d0
    clear K1c0 K1c1 K1c2 K2c0 K2c1 K2c2
    have K1f0 : w5.frozen? ⟨w.heap.size, 0, none⟩ = false := K1.out.frozen 0
    have K1f1 : w5.frozen? ⟨w.heap.size, 1, none⟩ = false := K1.out.frozen 1
    have K1f2 : w5.frozen? ⟨w.heap.size, 2, none⟩ = false := K1.out.frozen 2
    have K2f0 : w5.frozen? ⟨w.heap.size + 1, 0, none⟩ = false := K2.out.frozen 0
    have K2f1 : w5.frozen? ⟨w.heap.size + 1, 1, none⟩ = false := K2.out.frozen 1
    have K2f2 : w5.frozen? ⟨w.heap.size + 1, 2, none⟩ = false := K2.out.frozen 2
    have K1d0 : w5.cell? ⟨w.heap.size, 0, none⟩ = some (.bool b1) := K1.out.at_ 0 rfl
    have K1d1 : w5.cell? ⟨w.heap.size, 1, none⟩ = some (.slice A1 n1 c1) := K1.out.at_ 1 rfl
    have K1d2 : w5.cell? ⟨w.heap.size, 2, none⟩ = some (.slice D1 m1 k1) := K1.out.at_ 2 rfl
    have K2d0 : w5.cell? ⟨w.heap.size + 1, 0, none⟩ = some (.bool b2) := K2.out.at_ 0 rfl
    have K2d1 : w5.cell? ⟨w.heap.size + 1, 1, none⟩ = some (.slice A2 n2 c2) := K2.out.at_ 1 rfl
    have K2d2 : w5.cell? ⟨w.heap.size + 1, 2, none⟩ = some (.slice D2 m2 k2) := K2.out.at_ 2 rfl
    have ne1 := Nat.ne_of_lt K1.out.lt
    have ne2 := Nat.ne_of_lt K2.out.lt
    have ne3 := ne1.symm
    have ne4 := ne2.symm
    have K7 := hide (Blk.new_at w5 (w5.heap.size) (by simp) 27 #[.bool b1, .slice A1 n1 c1, .slice D1 m1 k1])
    have y := (Below.refl w5.heap.size w5).alloc (Nat.le_refl _) (.cells #[.bool b1, .slice A1 n1 c1, .slice D1 m1 k1] 27)
    replace K1 := hide (K1.out.below' y)
    replace K2 := hide (K2.out.below' y)
    replace K3 := hide (K3.out.below' y)
    replace b0 := hide (below_tr b0.out y)
    clear y
    have K1c0 : (w5.alloc (.cells #[.bool b1, .slice A1 n1 c1, .slice D1 m1 k1] 27)).cell? ⟨w.heap.size, 0, none⟩ = some (.bool b1) := K1.out.at_ 0 rfl
    have K1c1 : (w5.alloc (.cells #[.bool b1, .slice A1 n1 c1, .slice D1 m1 k1] 27)).cell? ⟨w.heap.size, 1, none⟩ = some (.slice A1 n1 c1) := K1.out.at_ 1 rfl
    have K1c2 : (w5.alloc (.cells #[.bool b1, .slice A1 n1 c1, .slice D1 m1 k1] 27)).cell? ⟨w.heap.size, 2, none⟩ = some (.slice D1 m1 k1) := K1.out.at_ 2 rfl
    have K2c0 : (w5.alloc (.cells #[.bool b1, .slice A1 n1 c1, .slice D1 m1 k1] 27)).cell? ⟨w.heap.size + 1, 0, none⟩ = some (.bool b2) := K2.out.at_ 0 rfl
    have K2c1 : (w5.alloc (.cells #[.bool b1, .slice A1 n1 c1, .slice D1 m1 k1] 27)).cell? ⟨w.heap.size + 1, 1, none⟩ = some (.slice A2 n2 c2) := K2.out.at_ 1 rfl
    have K2c2 : (w5.alloc (.cells #[.bool b1, .slice A1 n1 c1, .slice D1 m1 k1] 27)).cell? ⟨w.heap.size + 1, 2, none⟩ = some (.slice D2 m2 k2) := K2.out.at_ 2 rfl
    have K7c0 : (w5.alloc (.cells #[.bool b1, .slice A1 n1 c1, .slice D1 m1 k1] 27)).cell? ⟨w5.heap.size, 0, none⟩ = some (.bool b1) := K7.out.at_ 0 rfl
    have K7c1 : (w5.alloc (.cells #[.bool b1, .slice A1 n1 c1, .slice D1 m1 k1] 27)).cell? ⟨w5.heap.size, 1, none⟩ = some (.slice A1 n1 c1) := K7.out.at_ 1 rfl
    have K7c2 : (w5.alloc (.cells #[.bool b1, .slice A1 n1 c1, .slice D1 m1 k1] 27)).cell? ⟨w5.heap.size, 2, none⟩ = some (.slice D1 m1 k1) := K7.out.at_ 2 rfl
    have K1h0 : (w5.alloc (.cells #[.bool b1, .slice A1 n1 c1, .slice D1 m1 k1] 27)).frozen? ⟨w.heap.size, 0, none⟩ = false := K1.out.frozen 0
    have K1h1 : (w5.alloc (.cells #[.bool b1, .slice A1 n1 c1, .slice D1 m1 k1] 27)).frozen? ⟨w.heap.size, 1, none⟩ = false := K1.out.frozen 1
    have K1h2 : (w5.alloc (.cells #[.bool b1, .slice A1 n1 c1, .slice D1 m1 k1] 27)).frozen? ⟨w.heap.size, 2, none⟩ = false := K1.out.frozen 2
    have K2h0 : (w5.alloc (.cells #[.bool b1, .slice A1 n1 c1, .slice D1 m1 k1] 27)).frozen? ⟨w.heap.size + 1, 0, none⟩ = false := K2.out.frozen 0
    have K2h1 : (w5.alloc (.cells #[.bool b1, .slice A1 n1 c1, .slice D1 m1 k1] 27)).frozen? ⟨w.heap.size + 1, 1, none⟩ = false := K2.out.frozen 1
    have K2h2 : (w5.alloc (.cells #[.bool b1, .slice A1 n1 c1, .slice D1 m1 k1] 27)).frozen? ⟨w.heap.size + 1, 2, none⟩ = false := K2.out.frozen 2
    go_wp2_with fail
    clear K1h0 K1h1 K1h2 K2h0 K2h1 K2h2
    clear K1d0 K1d1 K1d2 K2d0 K2d1 K2d2
    clear K1c0 K1c1 K1c2 K2c0 K2c1 K2c2 K7c0 K7c1 K7c2
    clear K1f0 K1f1 K1f2 K2f0 K2f1 K2f2
    have F : Only (w.heap.size) (w5.alloc (.cells #[.bool b1, .slice A1 n1 c1, .slice D1 m1 k1] 27)) ((((w5.alloc (.cells #[.bool b1, .slice A1 n1 c1, .slice D1 m1 k1] 27)).setCell ⟨w.heap.size, 0, none⟩ (.bool b2)).setCell ⟨w.heap.size, 1, none⟩ (.slice A2 n2 c2)).setCell ⟨w.heap.size, 2, none⟩ (.slice D2 m2 k2)) := ((((Only.refl _ _).set _ _).set _ _).set _ _)
    replace K2 := hide (((K2.out.far (p := ⟨w.heap.size, 0, none⟩) (by first | (simp; done) | (simp; omega)) (.bool b2)).far (p := ⟨w.heap.size, 1, none⟩) (by first | (simp; done) | (simp; omega)) (.slice A2 n2 c2)).far (p := ⟨w.heap.size, 2, none⟩) (by first | (simp; done) | (simp; omega)) (.slice D2 m2 k2))
    replace K3 := hide (((K3.out.far (p := ⟨w.heap.size, 0, none⟩) (by first | (simp; done) | (simp; omega)) (.bool b2)).far (p := ⟨w.heap.size, 1, none⟩) (by first | (simp; done) | (simp; omega)) (.slice A2 n2 c2)).far (p := ⟨w.heap.size, 2, none⟩) (by first | (simp; done) | (simp; omega)) (.slice D2 m2 k2))
    replace K7 := hide (((K7.out.far (p := ⟨w.heap.size, 0, none⟩) (by first | (simp; done) | (simp; omega)) (.bool b2)).far (p := ⟨w.heap.size, 1, none⟩) (by first | (simp; done) | (simp; omega)) (.slice A2 n2 c2)).far (p := ⟨w.heap.size, 2, none⟩) (by first | (simp; done) | (simp; omega)) (.slice D2 m2 k2))
    have by_ : Hid (Below w.heap.size w ((((w5.alloc (.cells #[.bool b1, .slice A1 n1 c1, .slice D1 m1 k1] 27)).setCell ⟨w.heap.size, 0, none⟩ (.bool b2)).setCell ⟨w.heap.size, 1, none⟩ (.slice A2 n2 c2)).setCell ⟨w.heap.size, 2, none⟩ (.slice D2 m2 k2))) := (((b0.out.setCell (p := ⟨w.heap.size, 0, none⟩) (by first | exact Nat.le_refl _ | (simp; done) | (simp; omega)) (.bool b2)).setCell (p := ⟨w.heap.size, 1, none⟩) (by first | exact Nat.le_refl _ | (simp; done) | (simp; omega)) (.slice A2 n2 c2)).setCell (p := ⟨w.heap.size, 2, none⟩) (by first | exact Nat.le_refl _ | (simp; done) | (simp; omega)) (.slice D2 m2 k2))
    replace K1 : Hid (Blk ((((w5.alloc (.cells #[.bool b1, .slice A1 n1 c1, .slice D1 m1 k1] 27)).setCell ⟨w.heap.size, 0, none⟩ (.bool b2)).setCell ⟨w.heap.size, 1, none⟩ (.slice A2 n2 c2)).setCell ⟨w.heap.size, 2, none⟩ (.slice D2 m2 k2)) (w.heap.size) 27 #[.bool b2, .slice A2 n2 c2, .slice D2 m2 k2]) := (((K1.out.set_ 0 (.bool b2)).set_ 1 (.slice A2 n2 c2)).set_ 2 (.slice D2 m2 k2))
    replace b0 := by_
    clear by_ F
    have F : Only (w.heap.size + 1) ((((w5.alloc (.cells #[.bool b1, .slice A1 n1 c1, .slice D1 m1 k1] 27)).setCell ⟨w.heap.size, 0, none⟩ (.bool b2)).setCell ⟨w.heap.size, 1, none⟩ (.slice A2 n2 c2)).setCell ⟨w.heap.size, 2, none⟩ (.slice D2 m2 k2)) (((((((w5.alloc (.cells #[.bool b1, .slice A1 n1 c1, .slice D1 m1 k1] 27)).setCell ⟨w.heap.size, 0, none⟩ (.bool b2)).setCell ⟨w.heap.size, 1, none⟩ (.slice A2 n2 c2)).setCell ⟨w.heap.size, 2, none⟩ (.slice D2 m2 k2)).setCell ⟨w.heap.size + 1, 0, none⟩ (.bool b1)).setCell ⟨w.heap.size + 1, 1, none⟩ (.slice A1 n1 c1)).setCell ⟨w.heap.size + 1, 2, none⟩ (.slice D1 m1 k1)) := ((((Only.refl _ _).set _ _).set _ _).set _ _)
    replace K1 := hide (((K1.out.far (p := ⟨w.heap.size + 1, 0, none⟩) (by first | (simp; done) | (simp; omega)) (.bool b1)).far (p := ⟨w.heap.size + 1, 1, none⟩) (by first | (simp; done) | (simp; omega)) (.slice A1 n1 c1)).far (p := ⟨w.heap.size + 1, 2, none⟩) (by first | (simp; done) | (simp; omega)) (.slice D1 m1 k1))
    replace K3 := hide (((K3.out.far (p := ⟨w.heap.size + 1, 0, none⟩) (by first | (simp; done) | (simp; omega)) (.bool b1)).far (p := ⟨w.heap.size + 1, 1, none⟩) (by first | (simp; done) | (simp; omega)) (.slice A1 n1 c1)).far (p := ⟨w.heap.size + 1, 2, none⟩) (by first | (simp; done) | (simp; omega)) (.slice D1 m1 k1))
    replace K7 := hide (((K7.out.far (p := ⟨w.heap.size + 1, 0, none⟩) (by first | (simp; done) | (simp; omega)) (.bool b1)).far (p := ⟨w.heap.size + 1, 1, none⟩) (by first | (simp; done) | (simp; omega)) (.slice A1 n1 c1)).far (p := ⟨w.heap.size + 1, 2, none⟩) (by first | (simp; done) | (simp; omega)) (.slice D1 m1 k1))
    have by_ : Hid (Below w.heap.size w (((((((w5.alloc (.cells #[.bool b1, .slice A1 n1 c1, .slice D1 m1 k1] 27)).setCell ⟨w.heap.size, 0, none⟩ (.bool b2)).setCell ⟨w.heap.size, 1, none⟩ (.slice A2 n2 c2)).setCell ⟨w.heap.size, 2, none⟩ (.slice D2 m2 k2)).setCell ⟨w.heap.size + 1, 0, none⟩ (.bool b1)).setCell ⟨w.heap.size + 1, 1, none⟩ (.slice A1 n1 c1)).setCell ⟨w.heap.size + 1, 2, none⟩ (.slice D1 m1 k1))) := (((b0.out.setCell (p := ⟨w.heap.size + 1, 0, none⟩) (by first | exact Nat.le_refl _ | (simp; done) | (simp; omega)) (.bool b1)).setCell (p := ⟨w.heap.size + 1, 1, none⟩) (by first | exact Nat.le_refl _ | (simp; done) | (simp; omega)) (.slice A1 n1 c1)).setCell (p := ⟨w.heap.size + 1, 2, none⟩) (by first | exact Nat.le_refl _ | (simp; done) | (simp; omega)) (.slice D1 m1 k1))
    replace K2 : Hid (Blk (((((((w5.alloc (.cells #[.bool b1, .slice A1 n1 c1, .slice D1 m1 k1] 27)).setCell ⟨w.heap.size, 0, none⟩ (.bool b2)).setCell ⟨w.heap.size, 1, none⟩ (.slice A2 n2 c2)).setCell ⟨w.heap.size, 2, none⟩ (.slice D2 m2 k2)).setCell ⟨w.heap.size + 1, 0, none⟩ (.bool b1)).setCell ⟨w.heap.size + 1, 1, none⟩ (.slice A1 n1 c1)).setCell ⟨w.heap.size + 1, 2, none⟩ (.slice D1 m1 k1)) (w.heap.size + 1) 27 #[.bool b1, .slice A1 n1 c1, .slice D1 m1 k1]) := (((K2.out.set_ 0 (.bool b1)).set_ 1 (.slice A1 n1 c1)).set_ 2 (.slice D1 m1 k1))
    replace b0 := by_
    clear by_ F
    obtain ⟨V1_5, hV⟩ : ∃ V, (((((((w5.alloc (.cells #[.bool b1, .slice A1 n1 c1, .slice D1 m1 k1] 27)).setCell ⟨w.heap.size, 0, none⟩ (.bool b2)).setCell ⟨w.heap.size, 1, none⟩ (.slice A2 n2 c2)).setCell ⟨w.heap.size, 2, none⟩ (.slice D2 m2 k2)).setCell ⟨w.heap.size + 1, 0, none⟩ (.bool b1)).setCell ⟨w.heap.size + 1, 1, none⟩ (.slice A1 n1 c1)).setCell ⟨w.heap.size + 1, 2, none⟩ (.slice D1 m1 k1)) = V := ⟨_, rfl⟩
    rw [hV] at K1 K2 K3 K7 b0
    rw [hV]
    clear hV
    have K1c0 : V1_5.cell? ⟨w.heap.size, 0, none⟩ = some (.bool b2) := K1.out.at_ 0 rfl
    have K1c1 : V1_5.cell? ⟨w.heap.size, 1, none⟩ = some (.slice A2 n2 c2) := K1.out.at_ 1 rfl
    have K1c2 : V1_5.cell? ⟨w.heap.size, 2, none⟩ = some (.slice D2 m2 k2) := K1.out.at_ 2 rfl
    have K2c0 : V1_5.cell? ⟨w.heap.size + 1, 0, none⟩ = some (.bool b1) := K2.out.at_ 0 rfl
    have K2c1 : V1_5.cell? ⟨w.heap.size + 1, 1, none⟩ = some (.slice A1 n1 c1) := K2.out.at_ 1 rfl
    have K2c2 : V1_5.cell? ⟨w.heap.size + 1, 2, none⟩ = some (.slice D1 m1 k1) := K2.out.at_ 2 rfl
    have Q1_ : Hid (H ((y + x)) 41) := H_add S2.out S1.out (by decide)
    go_wp2_with fail
    refine (rAdd_C ((a2.out.below b0.out).arg (S2.out.up (by decide))) ((a1.out.below b0.out).arg (S1.out.up (by decide))) (T.out.below b0.out)).mono ?_
    rintro e w6 ⟨v9, rfl, d0, r9⟩
    replace K1 := hide (K1.out.below' d0)
    replace K2 := hide (K2.out.below' d0)
    replace K3 := hide (K3.out.below' d0)
    replace K7 := hide (K7.out.below' d0)
    replace b0 := hide (below_tr b0.out d0)
    have X := hide (r9)
    clear d0
    clear r9
    obtain ⟨b9, A9, n9, c9, D9, m9, k9, rfl⟩ := X.out.slice
    clear K1c0 K1c1 K1c2 K2c0 K2c1 K2c2
    have Q2_ : Hid (H ((Rat.divInt (1) (2))) 1) := H_small (by decide +kernel) (by decide +kernel)
    go_wp2_with fail
    refine (rlof_C _ (1) (2) (by decide) (by decide) (by decide) (by decide) (by decide) (T.out.below b0.out)).mono ?_
    rintro e w7 ⟨v10, rfl, d0, r10⟩
    replace K1 := hide (K1.out.below' d0)
    replace K2 := hide (K2.out.below' d0)
    replace K3 := hide (K3.out.below' d0)
    replace K7 := hide (K7.out.below' d0)
    replace X := hide (X.out.below d0)
    replace b0 := hide (below_tr b0.out d0)
    have U := hide (r10)
    clear d0
    clear r10
    have Q3_ : Hid (H (((y + x) * (Rat.divInt (1) (2)))) 42) := H_mul Q1_.out Q2_.out (by decide)
    have K3d0 : w7.cell? ⟨w.heap.size + 1 + 1, 0, none⟩ = some (.int .u8 (pu : Nat)) := K3.out.at_ 0 rfl
    have K3d1 : w7.cell? ⟨w.heap.size + 1 + 1, 1, none⟩ = some (.int .u8 (pv : Nat)) := K3.out.at_ 1 rfl
    go_wp2_with fail
    refine (rMul_C (X.out.arg (Q1_.out.up (by decide))) (U.out.arg (Q2_.out.up (by decide))) (T.out.below b0.out)).mono ?_
    rintro e w8 ⟨v8, rfl, d0, r8⟩
    replace K1 := hide (K1.out.below' d0)
    replace K2 := hide (K2.out.below' d0)
    replace K3 := hide (K3.out.below' d0)
    replace K7 := hide (K7.out.below' d0)
    replace X := hide (X.out.below d0)
    replace U := hide (U.out.below d0)
    replace b0 := hide (below_tr b0.out d0)
    have Y := hide (r8)
    clear d0
    clear K3d0 K3d1
    clear r8
    obtain ⟨b8, A8, n8, c8, D8, m8, k8, rfl⟩ := Y.out.slice
    clear X U
    have K3d0 : w8.cell? ⟨w.heap.size + 1 + 1, 0, none⟩ = some (.int .u8 (pu : Nat)) := K3.out.at_ 0 rfl
    have K3d1 : w8.cell? ⟨w.heap.size + 1 + 1, 1, none⟩ = some (.int .u8 (pv : Nat)) := K3.out.at_ 1 rfl
    have K8 := hide (Blk.new_at w8 (w8.heap.size) (by simp) 27 #[.bool b8, .slice A8 n8 c8, .slice D8 m8 k8])
    have y := (Below.refl w8.heap.size w8).alloc (Nat.le_refl _) (.cells #[.bool b8, .slice A8 n8 c8, .slice D8 m8 k8] 27)
    replace K1 := hide (K1.out.below' y)
    replace K2 := hide (K2.out.below' y)
    replace K3 := hide (K3.out.below' y)
    replace K7 := hide (K7.out.below' y)
    replace Y := hide (Y.out.below y)
    replace b0 := hide (below_tr b0.out y)
    clear y
    have K3c0 : (w8.alloc (.cells #[.bool b8, .slice A8 n8 c8, .slice D8 m8 k8] 27)).cell? ⟨w.heap.size + 1 + 1, 0, none⟩ = some (.int .u8 (pu : Nat)) := K3.out.at_ 0 rfl
    have K3c1 : (w8.alloc (.cells #[.bool b8, .slice A8 n8 c8, .slice D8 m8 k8] 27)).cell? ⟨w.heap.size + 1 + 1, 1, none⟩ = some (.int .u8 (pv : Nat)) := K3.out.at_ 1 rfl
    go_wp2
    clear K3d0 K3d1
    clear K3c0 K3c1
    obtain ⟨V2_8, hV⟩ : ∃ V, (w8.alloc (.cells #[.bool b8, .slice A8 n8 c8, .slice D8 m8 k8] 27)) = V := ⟨_, rfl⟩
    rw [hV] at K1 K2 K3 K7 Y K8 b0
    rw [hV]
    clear hV
    have Q4_ : Hid (H ((Rat.divInt p s)) 1) := H_make (L_small (by omega)) (L_small (by have := hsum.out; omega)) (Nat.le_refl _)
    have Q5_ : Hid (H ((y * (Rat.divInt p s))) 21) := H_mul S2.out Q4_.out (by decide)
    have Q6_ : Hid (H ((Rat.divInt q s)) 1) := H_make (L_small (by omega)) (L_small (by have := hsum.out; omega)) (Nat.le_refl _)
    have Q7_ : Hid (H ((x * (Rat.divInt q s))) 21) := H_mul S1.out Q6_.out (by decide)
    have Q8_ : Hid (H (((y * (Rat.divInt p s)) + (x * (Rat.divInt q s)))) 43) := H_add Q5_.out Q7_.out (by decide)
    refine RR.wp_region_R 17 V2_8 11 66 [(52, (.rat0 w y)), (53, .eq (.int .i64 p)), (54, .eq (.int .i64 p)), (55, .eq (.int .i64 q)), (56, .eq (.int .i64 s)), (57, (.ratR (Rat.divInt p s) V2_8.heap.size)), (58, (.ratR (y * (Rat.divInt p s)) V2_8.heap.size)), (59, (.rat0 w x)), (60, .eq (.int .i64 q)), (61, .eq (.int .i64 p)), (62, .eq (.int .i64 q)), (63, .eq (.int .i64 s)), (64, (.ratR (Rat.divInt q s) V2_8.heap.size)), (65, (.ratR (x * (Rat.divInt q s)) V2_8.heap.size)), (66, (.ratR ((y * (Rat.divInt p s)) + (x * (Rat.divInt q s))) V2_8.heap.size)), (11, (.var TR 3))] [false, false, false, false, false, false, false, false, false, false, false, true, false, false, false, false, false, false, false, false, false, false, false, false, false, false, false, false, false, false, false, false, false, false, false, false, false, false, false, false, false, false, false, false, false, false, false, false, false, false, false, false, true, true, true, true, true, true, true, true, true, true, true, true, true, true, true, false, false, false, false, false, false, false, false, false, false, false, false, false, false, false, false, false, false, false, false, false, false, false, false, false, false, false, false, false, false, false, false, false, false, false, false, false, false] mixed (by kernel_rfl) (by kernel_rfl) (by kernel_rfl) (Below.refl _ _).drew (by kernel_rfl) (by kernel_rfl) (by kernel_rfl) ⟨?_, ?_, ?_, ?_, ?_, ?_, ?_, ?_, ?_, ?_, ?_, ?_, ?_, ?_, ?_, ?_, ?_, trivial⟩ ?_
    · exact (.inl ⟨rfl, .load (.agg #[.bool b2, .slice A2 n2 c2, .slice D2 m2 k2]) (.inl rfl) rfl rfl (fun a w' hC hs hl => by rw [show a.eval (.tmp 3) = (.pointer (some ⟨w.heap.size, 0, none⟩) : Value) from (hs 3 (by kernel_rfl))]; exact ⟨ld_Rat_ ((K1.out.below' hC).at_ 0 rfl) ((K1.out.below' hC).at_ 1 rfl) ((K1.out.below' hC).at_ 2 rfl), a2.out⟩)⟩)
    · exact (.inl ⟨rfl, .moveC (.inl rfl) (.inl rfl) rfl (fun a w' hC hs => (hs 9 (by kernel_rfl)))⟩)
    · exact (.inl ⟨rfl, .moveC (.inl rfl) (.inl rfl) rfl (fun a w' hC hs => (hs 9 (by kernel_rfl)))⟩)
    · exact (.inl ⟨rfl, .moveC (.inl rfl) (.inl rfl) rfl (fun a w' hC hs => (hs 10 (by kernel_rfl)))⟩)
    · exact (.inl ⟨rfl, .value (.inl rfl) (by intro T e; cases e) rfl rfl (fun a w' hC hs hl => by
        have e0 : a.eval (.tmp 54) = (.int .i64 p) := (hl 54 (by kernel_rfl) (by kernel_rfl))
        have e1 : a.eval (.tmp 55) = (.int .i64 q) := (hl 55 (by kernel_rfl) (by kernel_rfl))
        simp only [execOp, e0, e1]
        skip
        simp [go_sem, hsw.out])⟩)
    · exact (.inl ⟨rfl, .call (.inl rfl) rfl rfl fn_rlof (fun a w' hC hs_ hl => by
        show Calls Tryz.prog _ #[a.eval (.tmp 53), a.eval (.tmp 56)] w' _
        rw [show a.eval (.tmp 53) = .int .i64 p from (hl 53 (by kernel_rfl) (by kernel_rfl)), show a.eval (.tmp 56) = .int .i64 s from (hl 56 (by kernel_rfl) (by kernel_rfl))]
        exact RR.rlof_R w' _ hC.size p s (by omega) (by omega) (by have := hsum.out; omega) (by have := hsum.out; omega) (by have := hsum.out; omega) (T.out.below (b0.out.trans (hC.mono b0.out.size))))⟩)
    · exact (.inl ⟨rfl, .call (.inl rfl) rfl rfl fn_rMul (fun a w' hC hs hl => rMul_R _ hC.size (RCan.arg (RCan.below (hl 52 (by kernel_rfl) (by kernel_rfl)) (b0.out.trans (hC.mono b0.out.size))) (S2.out.up (by decide))) (RCan.arg (RatR.can (hl 57 (by kernel_rfl) (by kernel_rfl))) (Q4_.out.up (by decide))) (T.out.below (b0.out.trans (hC.mono b0.out.size))))⟩)
    · exact (.inl ⟨rfl, .load (.agg #[.bool b1, .slice A1 n1 c1, .slice D1 m1 k1]) (.inl rfl) rfl rfl (fun a w' hC hs hl => by rw [show a.eval (.tmp 4) = (.pointer (some ⟨w.heap.size + 1, 0, none⟩) : Value) from (hs 4 (by kernel_rfl))]; exact ⟨ld_Rat_ ((K2.out.below' hC).at_ 0 rfl) ((K2.out.below' hC).at_ 1 rfl) ((K2.out.below' hC).at_ 2 rfl), a1.out⟩)⟩)
    · exact (.inl ⟨rfl, .moveC (.inl rfl) (.inl rfl) rfl (fun a w' hC hs => (hs 10 (by kernel_rfl)))⟩)
    · exact (.inl ⟨rfl, .moveC (.inl rfl) (.inl rfl) rfl (fun a w' hC hs => (hs 9 (by kernel_rfl)))⟩)
    · exact (.inl ⟨rfl, .moveC (.inl rfl) (.inl rfl) rfl (fun a w' hC hs => (hs 10 (by kernel_rfl)))⟩)
    · exact (.inl ⟨rfl, .value (.inl rfl) (by intro T e; cases e) rfl rfl (fun a w' hC hs hl => by
        have e0 : a.eval (.tmp 61) = (.int .i64 p) := (hl 61 (by kernel_rfl) (by kernel_rfl))
        have e1 : a.eval (.tmp 62) = (.int .i64 q) := (hl 62 (by kernel_rfl) (by kernel_rfl))
        simp only [execOp, e0, e1]
        skip
        simp [go_sem, hsw.out])⟩)
    · exact (.inl ⟨rfl, .call (.inl rfl) rfl rfl fn_rlof (fun a w' hC hs_ hl => by
        show Calls Tryz.prog _ #[a.eval (.tmp 60), a.eval (.tmp 63)] w' _
        rw [show a.eval (.tmp 60) = .int .i64 q from (hl 60 (by kernel_rfl) (by kernel_rfl)), show a.eval (.tmp 63) = .int .i64 s from (hl 63 (by kernel_rfl) (by kernel_rfl))]
        exact RR.rlof_R w' _ hC.size q s (by omega) (by omega) (by have := hsum.out; omega) (by have := hsum.out; omega) (by have := hsum.out; omega) (T.out.below (b0.out.trans (hC.mono b0.out.size))))⟩)
    · exact (.inl ⟨rfl, .call (.inl rfl) rfl rfl fn_rMul (fun a w' hC hs hl => rMul_R _ hC.size (RCan.arg (RCan.below (hl 59 (by kernel_rfl) (by kernel_rfl)) (b0.out.trans (hC.mono b0.out.size))) (S1.out.up (by decide))) (RCan.arg (RatR.can (hl 64 (by kernel_rfl) (by kernel_rfl))) (Q6_.out.up (by decide))) (T.out.below (b0.out.trans (hC.mono b0.out.size))))⟩)
    · exact (.inl ⟨rfl, .call (.inl rfl) rfl rfl fn_rAdd (fun a w' hC hs hl => rAdd_R _ hC.size (RCan.arg (RatR.can (hl 58 (by kernel_rfl) (by kernel_rfl))) (Q5_.out.up (by decide))) (RCan.arg (RatR.can (hl 65 (by kernel_rfl) (by kernel_rfl))) (Q7_.out.up (by decide))) (T.out.below (b0.out.trans (hC.mono b0.out.size))))⟩)
    · exact (.inl ⟨rfl, .alloc (.agg #[.bool false, .slice none 0 0, .slice none 0 0]) (.inl rfl) rfl rfl (fun a w' hC => ⟨run_alloc_Rat _ _ _ _ _ _ _, _, _, rfl, hC.size, Blk.new _ _ _, rfl⟩)⟩)
    · exact (.storeR (fun v w h => RatR.slice h) rfl rfl rfl (by kernel_rfl) (by kernel_rfl) (by kernel_rfl) (by kernel_rfl) rfl)
    intro f w9 hC hF _ hE
    obtain ⟨g11, b11, A11, n11, c11, D11, m11, k11, ep, lp, er, K11⟩ := hE
    have fr : RatR ((y * (Rat.divInt p s)) + (x * (Rat.divInt q s))) V2_8.heap.size w9 (f 66) := hF 66 (by kernel_rfl)
    rw [er] at fr
    have Z := hide fr.can
    clear fr
    replace K11 := hide K11
    clear hF lp
    simp only [patch, List.drop]
    generalize f 52 = y52_ at *
    generalize f 53 = y53_ at *
    generalize f 54 = y54_ at *
    generalize f 55 = y55_ at *
    generalize f 56 = y56_ at *
    generalize f 57 = y57_ at *
    generalize f 58 = y58_ at *
    generalize f 59 = y59_ at *
    generalize f 60 = y60_ at *
    generalize f 61 = y61_ at *
    generalize f 62 = y62_ at *
    generalize f 63 = y63_ at *
    generalize f 64 = y64_ at *
    generalize f 65 = y65_ at *
    generalize f 66 = y66_ at *
    generalize f 11 = y11_ at *
    subst er ep
    replace K1 := hide (K1.out.below' hC)
    replace K2 := hide (K2.out.below' hC)
    replace K3 := hide (K3.out.below' hC)
    replace K7 := hide (K7.out.below' hC)
    replace Y := hide (Y.out.below hC)
    replace K8 := hide (K8.out.below' hC)
    replace b0 := hide (b0.out.trans (hC.mono b0.out.size))
    clear hC
    have K1c0 : w9.cell? ⟨w.heap.size, 0, none⟩ = some (.bool b2) := K1.out.at_ 0 rfl
    have K1c1 : w9.cell? ⟨w.heap.size, 1, none⟩ = some (.slice A2 n2 c2) := K1.out.at_ 1 rfl
    have K1c2 : w9.cell? ⟨w.heap.size, 2, none⟩ = some (.slice D2 m2 k2) := K1.out.at_ 2 rfl
    have K2c0 : w9.cell? ⟨w.heap.size + 1, 0, none⟩ = some (.bool b1) := K2.out.at_ 0 rfl
    have K2c1 : w9.cell? ⟨w.heap.size + 1, 1, none⟩ = some (.slice A1 n1 c1) := K2.out.at_ 1 rfl
    have K2c2 : w9.cell? ⟨w.heap.size + 1, 2, none⟩ = some (.slice D1 m1 k1) := K2.out.at_ 2 rfl
    go_wp2_with fail
    refine (rCmp_eq ((a2.out.below b0.out).arg (S2.out.up (by decide))) ((a1.out.below b0.out).arg (S1.out.up (by decide))) (T.out.below b0.out) (-1) (cmpQ_lt hc.out)).mono ?_
    rintro e w10 ⟨_, rfl, d0, rfl⟩
    replace K1 := hide (K1.out.below' d0)
    replace K2 := hide (K2.out.below' d0)
    replace K3 := hide (K3.out.below' d0)
    replace K7 := hide (K7.out.below' d0)
    replace Y := hide (Y.out.below d0)
    replace K8 := hide (K8.out.below' d0)
    replace K11 := hide (K11.out.below' d0)
    replace Z := hide (Z.out.below d0)
    replace b0 := hide (below_tr b0.out d0)
    clear d0
    clear K1c0 K1c1 K1c2 K2c0 K2c1 K2c2
    go_wp2
    have Q9_ : Hid (H ((((y + x) * (Rat.divInt (1) (2))) - y)) 63) := H_sub Q3_.out S2.out (by decide)
    have Q10_ : Hid (H ((x - ((y + x) * (Rat.divInt (1) (2))))) 63) := H_sub S1.out Q3_.out (by decide)
    refine wp_region_facts 36 (fun w' => Below w10.heap.size w10 w') [(70, (.rat0 w10 ((y + x) * (Rat.divInt (1) (2))))), (71, (.rat0 w y)), (72, (.rat (((y + x) * (Rat.divInt (1) (2))) - y))), (73, (.rat0 w x)), (74, (.rat0 w10 ((y + x) * (Rat.divInt (1) (2))))), (75, (.rat (x - ((y + x) * (Rat.divInt (1) (2)))))), (76, .eq (.bool true)), (77, .eq (.bool true)), (78, (.rat0 w y)), (79, (.rat0 w10 ((y + x) * (Rat.divInt (1) (2))))), (80, .eq (.int .i64 (-1))), (81, .eq (.int .i64 (-1))), (82, .eq (.bool true)), (83, .eq (.bool true)), (84, .eq (.bool true)), (85, (.rat0 w10 ((y + x) * (Rat.divInt (1) (2))))), (86, (.rat0 w x)), (87, .eq (.int .i64 (-1))), (88, .eq (.int .i64 (-1))), (89, .eq (.bool true)), (90, .eq (.bool true)), (91, .eq (.bool true)), (92, (.rat0 w y)), (93, (.rat0 w10 ((y * (Rat.divInt p s)) + (x * (Rat.divInt q s))))), (94, .eq (.int .i64 (-1))), (95, .eq (.int .i64 (-1))), (96, .eq (.bool true)), (97, .eq (.bool true)), (98, .eq (.bool true)), (99, (.rat0 w10 ((y * (Rat.divInt p s)) + (x * (Rat.divInt q s))))), (100, (.rat0 w x)), (101, .eq (.int .i64 (-1))), (102, .eq (.int .i64 (-1))), (103, .eq (.bool true)), (104, .eq (.bool true)), (6, .eq (.bool true))] [false, false, false, false, false, false, true, false, false, false, false, false, false, false, false, false, false, false, false, false, false, false, false, false, false, false, false, false, false, false, false, false, false, false, false, false, false, false, false, false, false, false, false, false, false, false, false, false, false, false, false, false, false, false, false, false, false, false, false, false, false, false, false, false, false, false, false, false, false, false, true, true, true, true, true, true, true, true, true, true, true, true, true, true, true, true, true, true, true, true, true, true, true, true, true, true, true, true, true, true, true, true, true, true, true] mixed (by kernel_rfl) (by kernel_rfl) (by kernel_rfl) (fun _ _ h hb => h.trans (hb.mono h.size)) ((Below.refl _ _).drew) ⟨?_, ?_, ?_, ?_, ?_, ?_, ?_, ?_, ?_, ?_, ?_, ?_, ?_, ?_, ?_, ?_, ?_, ?_, ?_, ?_, ?_, ?_, ?_, ?_, ?_, ?_, ?_, ?_, ?_, ?_, ?_, ?_, ?_, ?_, ?_, ?_, trivial⟩ ?_
    · exact .load (.agg #[.bool b8, .slice A8 n8 c8, .slice D8 m8 k8]) (.inl rfl) rfl rfl (fun a w' hC hs hl => by rw [show a.eval (.tmp 8) = (.pointer (some ⟨w8.heap.size, 0, none⟩) : Value) from (hs 8 (by kernel_rfl))]; exact ⟨ld_Rat_ ((K8.out.below' hC).at_ 0 rfl) ((K8.out.below' hC).at_ 1 rfl) ((K8.out.below' hC).at_ 2 rfl), Y.out⟩)
    · exact .load (.agg #[.bool b2, .slice A2 n2 c2, .slice D2 m2 k2]) (.inl rfl) rfl rfl (fun a w' hC hs hl => by rw [show a.eval (.tmp 3) = (.pointer (some ⟨w.heap.size, 0, none⟩) : Value) from (hs 3 (by kernel_rfl))]; exact ⟨ld_Rat_ ((K1.out.below' hC).at_ 0 rfl) ((K1.out.below' hC).at_ 1 rfl) ((K1.out.below' hC).at_ 2 rfl), a2.out⟩)
    · exact .call (.inl rfl) rfl rfl fn_rSub (fun a w' hC hs hl => rSub_C (RCan.arg (RCan.below (hl 70 (by kernel_rfl) (by kernel_rfl)) hC) (Q3_.out.up (by decide))) (RCan.arg (RCan.below (hl 71 (by kernel_rfl) (by kernel_rfl)) (b0.out.trans (hC.mono b0.out.size))) (S2.out.up (by decide))) (T.out.below (b0.out.trans (hC.mono b0.out.size))))
    · exact .load (.agg #[.bool b1, .slice A1 n1 c1, .slice D1 m1 k1]) (.inl rfl) rfl rfl (fun a w' hC hs hl => by rw [show a.eval (.tmp 4) = (.pointer (some ⟨w.heap.size + 1, 0, none⟩) : Value) from (hs 4 (by kernel_rfl))]; exact ⟨ld_Rat_ ((K2.out.below' hC).at_ 0 rfl) ((K2.out.below' hC).at_ 1 rfl) ((K2.out.below' hC).at_ 2 rfl), a1.out⟩)
    · exact .load (.agg #[.bool b8, .slice A8 n8 c8, .slice D8 m8 k8]) (.inl rfl) rfl rfl (fun a w' hC hs hl => by rw [show a.eval (.tmp 8) = (.pointer (some ⟨w8.heap.size, 0, none⟩) : Value) from (hs 8 (by kernel_rfl))]; exact ⟨ld_Rat_ ((K8.out.below' hC).at_ 0 rfl) ((K8.out.below' hC).at_ 1 rfl) ((K8.out.below' hC).at_ 2 rfl), Y.out⟩)
    · exact .call (.inl rfl) rfl rfl fn_rSub (fun a w' hC hs hl => rSub_C (RCan.arg (RCan.below (hl 73 (by kernel_rfl) (by kernel_rfl)) (b0.out.trans (hC.mono b0.out.size))) (S1.out.up (by decide))) (RCan.arg (RCan.below (hl 74 (by kernel_rfl) (by kernel_rfl)) hC) (Q3_.out.up (by decide))) (T.out.below (b0.out.trans (hC.mono b0.out.size))))
    · exact .call (.inl rfl) rfl rfl fn_rsame (fun a w' hC hs hl => rsame_yes (hl 72 (by kernel_rfl) (by kernel_rfl)) (hl 75 (by kernel_rfl) (by kernel_rfl)) (half_same y x))
    · exact .move (.inl rfl) (.inl rfl) rfl (by kernel_rfl) (by kernel_rfl) rfl
    · exact .load (.agg #[.bool b2, .slice A2 n2 c2, .slice D2 m2 k2]) (.inr ⟨7, true, 77, by decide, rfl, rfl, rfl⟩) rfl rfl (fun a w' hC hs hl => by rw [show a.eval (.tmp 3) = (.pointer (some ⟨w.heap.size, 0, none⟩) : Value) from (hs 3 (by kernel_rfl))]; exact ⟨ld_Rat_ ((K1.out.below' hC).at_ 0 rfl) ((K1.out.below' hC).at_ 1 rfl) ((K1.out.below' hC).at_ 2 rfl), a2.out⟩)
    · exact .load (.agg #[.bool b8, .slice A8 n8 c8, .slice D8 m8 k8]) (.inr ⟨7, true, 77, by decide, rfl, rfl, rfl⟩) rfl rfl (fun a w' hC hs hl => by rw [show a.eval (.tmp 8) = (.pointer (some ⟨w8.heap.size, 0, none⟩) : Value) from (hs 8 (by kernel_rfl))]; exact ⟨ld_Rat_ ((K8.out.below' hC).at_ 0 rfl) ((K8.out.below' hC).at_ 1 rfl) ((K8.out.below' hC).at_ 2 rfl), Y.out⟩)
    · exact .call (.inr ⟨7, true, 77, by decide, rfl, rfl, rfl⟩) rfl rfl fn_rCmp (fun a w' hC hs hl => rCmp_eq (RCan.arg (RCan.below (hl 78 (by kernel_rfl) (by kernel_rfl)) (b0.out.trans (hC.mono b0.out.size))) (S2.out.up (by decide))) (RCan.arg (RCan.below (hl 79 (by kernel_rfl) (by kernel_rfl)) hC) (Q3_.out.up (by decide))) (T.out.below (b0.out.trans (hC.mono b0.out.size))) (-1) (half_lt1 hc.out))
    · exact .moveC (.inr ⟨7, true, 77, by decide, rfl, rfl, rfl⟩) (.inl rfl) rfl (fun a w' hC hs => (hs 12 (by kernel_rfl)))
    · exact .value (.inr ⟨7, true, 77, by decide, rfl, rfl, rfl⟩) (by intro T e; cases e) rfl rfl (fun a w' hC hs hl => by
        have e0 : a.eval (.tmp 80) = (.int .i64 (-1)) := (hl 80 (by kernel_rfl) (by kernel_rfl))
        have e1 : a.eval (.tmp 81) = (.int .i64 (-1)) := (hl 81 (by kernel_rfl) (by kernel_rfl))
        simp only [execOp, e0, e1]
        skip
        simp [go_sem] <;> rfl)
    · exact .pick (b := true) (.inl rfl) rfl rfl (fun a w' hC hs hl => ⟨(hl 77 (by kernel_rfl) (by kernel_rfl)), (hl 82 (by kernel_rfl) (by kernel_rfl))⟩)
    · exact .move (.inl rfl) (.inl rfl) rfl (by kernel_rfl) (by kernel_rfl) rfl
    · exact .load (.agg #[.bool b8, .slice A8 n8 c8, .slice D8 m8 k8]) (.inr ⟨14, true, 84, by decide, rfl, rfl, rfl⟩) rfl rfl (fun a w' hC hs hl => by rw [show a.eval (.tmp 8) = (.pointer (some ⟨w8.heap.size, 0, none⟩) : Value) from (hs 8 (by kernel_rfl))]; exact ⟨ld_Rat_ ((K8.out.below' hC).at_ 0 rfl) ((K8.out.below' hC).at_ 1 rfl) ((K8.out.below' hC).at_ 2 rfl), Y.out⟩)
    · exact .load (.agg #[.bool b1, .slice A1 n1 c1, .slice D1 m1 k1]) (.inr ⟨14, true, 84, by decide, rfl, rfl, rfl⟩) rfl rfl (fun a w' hC hs hl => by rw [show a.eval (.tmp 4) = (.pointer (some ⟨w.heap.size + 1, 0, none⟩) : Value) from (hs 4 (by kernel_rfl))]; exact ⟨ld_Rat_ ((K2.out.below' hC).at_ 0 rfl) ((K2.out.below' hC).at_ 1 rfl) ((K2.out.below' hC).at_ 2 rfl), a1.out⟩)
    · exact .call (.inr ⟨14, true, 84, by decide, rfl, rfl, rfl⟩) rfl rfl fn_rCmp (fun a w' hC hs hl => rCmp_eq (RCan.arg (RCan.below (hl 85 (by kernel_rfl) (by kernel_rfl)) hC) (Q3_.out.up (by decide))) (RCan.arg (RCan.below (hl 86 (by kernel_rfl) (by kernel_rfl)) (b0.out.trans (hC.mono b0.out.size))) (S1.out.up (by decide))) (T.out.below (b0.out.trans (hC.mono b0.out.size))) (-1) (half_lt2 hc.out))
    · exact .moveC (.inr ⟨14, true, 84, by decide, rfl, rfl, rfl⟩) (.inl rfl) rfl (fun a w' hC hs => (hs 12 (by kernel_rfl)))
    · exact .value (.inr ⟨14, true, 84, by decide, rfl, rfl, rfl⟩) (by intro T e; cases e) rfl rfl (fun a w' hC hs hl => by
        have e0 : a.eval (.tmp 87) = (.int .i64 (-1)) := (hl 87 (by kernel_rfl) (by kernel_rfl))
        have e1 : a.eval (.tmp 88) = (.int .i64 (-1)) := (hl 88 (by kernel_rfl) (by kernel_rfl))
        simp only [execOp, e0, e1]
        skip
        simp [go_sem] <;> rfl)
    · exact .pick (b := true) (.inl rfl) rfl rfl (fun a w' hC hs hl => ⟨(hl 84 (by kernel_rfl) (by kernel_rfl)), (hl 89 (by kernel_rfl) (by kernel_rfl))⟩)
    · exact .move (.inl rfl) (.inl rfl) rfl (by kernel_rfl) (by kernel_rfl) rfl
    · exact .load (.agg #[.bool b2, .slice A2 n2 c2, .slice D2 m2 k2]) (.inr ⟨21, true, 91, by decide, rfl, rfl, rfl⟩) rfl rfl (fun a w' hC hs hl => by rw [show a.eval (.tmp 3) = (.pointer (some ⟨w.heap.size, 0, none⟩) : Value) from (hs 3 (by kernel_rfl))]; exact ⟨ld_Rat_ ((K1.out.below' hC).at_ 0 rfl) ((K1.out.below' hC).at_ 1 rfl) ((K1.out.below' hC).at_ 2 rfl), a2.out⟩)
    · exact .load (.agg #[.bool b11, .slice A11 n11 c11, .slice D11 m11 k11]) (.inr ⟨21, true, 91, by decide, rfl, rfl, rfl⟩) rfl rfl (fun a w' hC hs hl => by rw [show a.eval (.tmp 11) = (.pointer (some ⟨g11, 0, none⟩) : Value) from (hs 11 (by kernel_rfl))]; exact ⟨ld_Rat_ ((K11.out.below' hC).at_ 0 rfl) ((K11.out.below' hC).at_ 1 rfl) ((K11.out.below' hC).at_ 2 rfl), Z.out⟩)
    · exact .call (.inr ⟨21, true, 91, by decide, rfl, rfl, rfl⟩) rfl rfl fn_rCmp (fun a w' hC hs hl => rCmp_eq (RCan.arg (RCan.below (hl 92 (by kernel_rfl) (by kernel_rfl)) (b0.out.trans (hC.mono b0.out.size))) (S2.out.up (by decide))) (RCan.arg (RCan.below (hl 93 (by kernel_rfl) (by kernel_rfl)) hC) (Q8_.out.up (by decide))) (T.out.below (b0.out.trans (hC.mono b0.out.size))) (-1) (some_lt1 hc.out hp1 hq1 hsum.out))
    · exact .moveC (.inr ⟨21, true, 91, by decide, rfl, rfl, rfl⟩) (.inl rfl) rfl (fun a w' hC hs => (hs 12 (by kernel_rfl)))
    · exact .value (.inr ⟨21, true, 91, by decide, rfl, rfl, rfl⟩) (by intro T e; cases e) rfl rfl (fun a w' hC hs hl => by
        have e0 : a.eval (.tmp 94) = (.int .i64 (-1)) := (hl 94 (by kernel_rfl) (by kernel_rfl))
        have e1 : a.eval (.tmp 95) = (.int .i64 (-1)) := (hl 95 (by kernel_rfl) (by kernel_rfl))
        simp only [execOp, e0, e1]
        skip
        simp [go_sem] <;> rfl)
    · exact .pick (b := true) (.inl rfl) rfl rfl (fun a w' hC hs hl => ⟨(hl 91 (by kernel_rfl) (by kernel_rfl)), (hl 96 (by kernel_rfl) (by kernel_rfl))⟩)
    · exact .move (.inl rfl) (.inl rfl) rfl (by kernel_rfl) (by kernel_rfl) rfl
    · exact .load (.agg #[.bool b11, .slice A11 n11 c11, .slice D11 m11 k11]) (.inr ⟨28, true, 98, by decide, rfl, rfl, rfl⟩) rfl rfl (fun a w' hC hs hl => by rw [show a.eval (.tmp 11) = (.pointer (some ⟨g11, 0, none⟩) : Value) from (hs 11 (by kernel_rfl))]; exact ⟨ld_Rat_ ((K11.out.below' hC).at_ 0 rfl) ((K11.out.below' hC).at_ 1 rfl) ((K11.out.below' hC).at_ 2 rfl), Z.out⟩)
    · exact .load (.agg #[.bool b1, .slice A1 n1 c1, .slice D1 m1 k1]) (.inr ⟨28, true, 98, by decide, rfl, rfl, rfl⟩) rfl rfl (fun a w' hC hs hl => by rw [show a.eval (.tmp 4) = (.pointer (some ⟨w.heap.size + 1, 0, none⟩) : Value) from (hs 4 (by kernel_rfl))]; exact ⟨ld_Rat_ ((K2.out.below' hC).at_ 0 rfl) ((K2.out.below' hC).at_ 1 rfl) ((K2.out.below' hC).at_ 2 rfl), a1.out⟩)
    · exact .call (.inr ⟨28, true, 98, by decide, rfl, rfl, rfl⟩) rfl rfl fn_rCmp (fun a w' hC hs hl => rCmp_eq (RCan.arg (RCan.below (hl 99 (by kernel_rfl) (by kernel_rfl)) hC) (Q8_.out.up (by decide))) (RCan.arg (RCan.below (hl 100 (by kernel_rfl) (by kernel_rfl)) (b0.out.trans (hC.mono b0.out.size))) (S1.out.up (by decide))) (T.out.below (b0.out.trans (hC.mono b0.out.size))) (-1) (some_lt2 hc.out hp1 hq1 hsum.out))
    · exact .moveC (.inr ⟨28, true, 98, by decide, rfl, rfl, rfl⟩) (.inl rfl) rfl (fun a w' hC hs => (hs 12 (by kernel_rfl)))
    · exact .value (.inr ⟨28, true, 98, by decide, rfl, rfl, rfl⟩) (by intro T e; cases e) rfl rfl (fun a w' hC hs hl => by
        have e0 : a.eval (.tmp 101) = (.int .i64 (-1)) := (hl 101 (by kernel_rfl) (by kernel_rfl))
        have e1 : a.eval (.tmp 102) = (.int .i64 (-1)) := (hl 102 (by kernel_rfl) (by kernel_rfl))
        simp only [execOp, e0, e1]
        skip
        simp [go_sem] <;> rfl)
    · exact .pick (b := true) (.inl rfl) rfl rfl (fun a w' hC hs hl => ⟨(hl 98 (by kernel_rfl) (by kernel_rfl)), (hl 103 (by kernel_rfl) (by kernel_rfl))⟩)
    · exact .move (.inl rfl) (.inr rfl) rfl (by kernel_rfl) (by kernel_rfl) rfl
    intro f w99 hC hF _
    have f0 : f 6 = .bool true := hF 6 (by kernel_rfl)
    clear hF
    simp only [patch, List.drop]
    have B9 := hide (b0.out.trans (hC.mono b0.out.size))
    clear hC
    rw [f0]
    try change wpList _ _ _ [] _ _
    go_wp2
    exact opq_end hR ⟨rfl, B9⟩
end Go.Proofs.YtnpfochbpdfcmaaGreatDoor
