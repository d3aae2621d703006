/- the laws of rats: RatsOrder. -/
import Derived.Test.YtnpfochbpdfcmaaGreatDoorKk
set_option linter.unusedVariables false
set_option linter.unusedSimpArgs false
set_option maxRecDepth 100000
namespace Go.Proofs.YtnpfochbpdfcmaaGreatDoor
open Go.RowKit

set_option maxHeartbeats 8000000 in
theorem RatsOrder_ok (w : World) (b1 : Bool) (A1 : Option Addr) (n1 c1 : Nat) (xs1 : List Nat) (D1 : Option Addr) (m1 k1 : Nat) (ys1 : List Nat) (b2 : Bool) (A2 : Option Addr) (n2 c2 : Nat) (xs2 : List Nat) (D2 : Option Addr) (m2 k2 : Nat) (ys2 : List Nat) (b3 : Bool) (A3 : Option Addr) (n3 c3 : Nat) (xs3 : List Nat) (D3 : Option Addr) (m3 k3 : Nat) (ys3 : List Nat) (h1 : Rd w A1 n1 xs1) (i1 : Is32 xs1) (l1 : n1 ≤ c1) (t1 : n1 ≤ 70368744177664) (h1' : Rd w D1 m1 ys1) (i1' : Is32 ys1) (l1' : m1 ≤ k1) (t1' : m1 ≤ 70368744177664) (h2 : Rd w A2 n2 xs2) (i2 : Is32 xs2) (l2 : n2 ≤ c2) (t2 : n2 ≤ 70368744177664) (h2' : Rd w D2 m2 ys2) (i2' : Is32 ys2) (l2' : m2 ≤ k2) (t2' : m2 ≤ 70368744177664) (h3 : Rd w A3 n3 xs3) (i3 : Is32 xs3) (l3 : n3 ≤ c3) (t3 : n3 ≤ 70368744177664) (h3' : Rd w D3 m3 ys3) (i3' : Is32 ys3) (l3' : m3 ≤ k3) (t3' : m3 ≤ 70368744177664) (hT : Tab w) (hM : MaxL w) :
    Calls Tryz.prog 11 #[.agg #[.bool b1, .slice A1 n1 c1, .slice D1 m1 k1], .agg #[.bool b2, .slice A2 n2 c2, .slice D2 m2 k2], .agg #[.bool b3, .slice A3 n3 c3, .slice D3 m3 k3]] w fun e w' => e = .returned (.bool true) ∧ Hid (Below w.heap.size w w') := by
  refine opq fun R hR => ?_
  have T := hide hT
  have M := hide hM
  clear hT hM
  replace h1 := hide h1
  replace i1 := hide i1
  replace h1' := hide h1'
  replace i1' := hide i1'
  replace h2 := hide h2
  replace i2 := hide i2
  replace h2' := hide h2'
  replace i2' := hide i2'
  replace h3 := hide h3
  replace i3 := hide i3
  replace h3' := hide h3'
  replace i3' := hide i3'
  go_enter Tryz.func11, Tryz.ntmps11
  have b0 := hide (Below.refl w.heap.size w)
  have K1 := hide (Blk.new_at w (w.heap.size) (by simp) 27 #[.bool b1, .slice A1 n1 c1, .slice D1 m1 k1])
  have y := (Below.refl w.heap.size w).alloc (Nat.le_refl _) (.cells #[.bool b1, .slice A1 n1 c1, .slice D1 m1 k1] 27)
  replace b0 := hide (below_tr b0.out y)
  clear y
  have K2 := hide (Blk.new_at (w.alloc (.cells #[.bool b1, .slice A1 n1 c1, .slice D1 m1 k1] 27)) (w.heap.size + 1) (by simp) 27 #[.bool b2, .slice A2 n2 c2, .slice D2 m2 k2])
  have y := (Below.refl (w.alloc (.cells #[.bool b1, .slice A1 n1 c1, .slice D1 m1 k1] 27)).heap.size (w.alloc (.cells #[.bool b1, .slice A1 n1 c1, .slice D1 m1 k1] 27))).alloc (Nat.le_refl _) (.cells #[.bool b2, .slice A2 n2 c2, .slice D2 m2 k2] 27)
  replace K1 := hide (K1.out.below' y)
  replace b0 := hide (below_tr b0.out y)
  clear y
  have K3 := hide (Blk.new_at ((w.alloc (.cells #[.bool b1, .slice A1 n1 c1, .slice D1 m1 k1] 27)).alloc (.cells #[.bool b2, .slice A2 n2 c2, .slice D2 m2 k2] 27)) (w.heap.size + 1 + 1) (by simp) 27 #[.bool b3, .slice A3 n3 c3, .slice D3 m3 k3])
  have y := (Below.refl ((w.alloc (.cells #[.bool b1, .slice A1 n1 c1, .slice D1 m1 k1] 27)).alloc (.cells #[.bool b2, .slice A2 n2 c2, .slice D2 m2 k2] 27)).heap.size ((w.alloc (.cells #[.bool b1, .slice A1 n1 c1, .slice D1 m1 k1] 27)).alloc (.cells #[.bool b2, .slice A2 n2 c2, .slice D2 m2 k2] 27))).alloc (Nat.le_refl _) (.cells #[.bool b3, .slice A3 n3 c3, .slice D3 m3 k3] 27)
  replace K1 := hide (K1.out.below' y)
  replace K2 := hide (K2.out.below' y)
  replace b0 := hide (below_tr b0.out y)
  clear y
  go_wp2_with fail
  refine (ralive_P _ (T.out.below b0.out) (M.out.below b0.out)).mono ?_
  rintro e w1 ⟨_, rfl, d0, rfl⟩
  replace K1 := hide (K1.out.below' d0)
  replace K2 := hide (K2.out.below' d0)
  replace K3 := hide (K3.out.below' d0)
  replace b0 := hide (below_tr b0.out d0)
  clear d0
  have K1c0 : w1.cell? ⟨w.heap.size, 0, none⟩ = some (.bool b1) := K1.out.at_ 0 rfl
  have K1c1 : w1.cell? ⟨w.heap.size, 1, none⟩ = some (.slice A1 n1 c1) := K1.out.at_ 1 rfl
  have K1c2 : w1.cell? ⟨w.heap.size, 2, none⟩ = some (.slice D1 m1 k1) := K1.out.at_ 2 rfl
  have K2c0 : w1.cell? ⟨w.heap.size + 1, 0, none⟩ = some (.bool b2) := K2.out.at_ 0 rfl
  have K2c1 : w1.cell? ⟨w.heap.size + 1, 1, none⟩ = some (.slice A2 n2 c2) := K2.out.at_ 1 rfl
  have K2c2 : w1.cell? ⟨w.heap.size + 1, 2, none⟩ = some (.slice D2 m2 k2) := K2.out.at_ 2 rfl
  have K3c0 : w1.cell? ⟨w.heap.size + 1 + 1, 0, none⟩ = some (.bool b3) := K3.out.at_ 0 rfl
  have K3c1 : w1.cell? ⟨w.heap.size + 1 + 1, 1, none⟩ = some (.slice A3 n3 c3) := K3.out.at_ 1 rfl
  have K3c2 : w1.cell? ⟨w.heap.size + 1 + 1, 2, none⟩ = some (.slice D3 m3 k3) := K3.out.at_ 2 rfl
  by_cases gg : 25 < n1 + m1 ∨ 25 < n2 + m2 ∨ 25 < n3 + m3
  case pos =>
    have y := (Below.refl w1.heap.size w1).alloc (Nat.le_refl _) (.cells #[.bool b1, .slice A1 n1 c1, .slice D1 m1 k1, .bool b2, .slice A2 n2 c2, .slice D2 m2 k2, .bool b3, .slice A3 n3 c3, .slice D3 m3 k3] 27)
    replace K1 := hide (K1.out.below' y)
    replace K2 := hide (K2.out.below' y)
    replace K3 := hide (K3.out.below' y)
    replace b0 := hide (below_tr b0.out y)
    clear y
    go_wp2_with fail
    refine (rgreat3 (w := w1) rfl 25 (by decide) t1 t1' t2 t2' t3 t3' true (by simp; omega)).mono ?_
    rintro e w2 ⟨_, rfl, d0, rfl⟩
    replace K1 := hide (K1.out.below' d0)
    replace K2 := hide (K2.out.below' d0)
    replace K3 := hide (K3.out.below' d0)
    replace b0 := hide (below_tr b0.out d0)
    clear d0
    go_wp2_with fail
    refine (ralive_P _ (T.out.below b0.out) (M.out.below b0.out)).mono ?_
    rintro e w3 ⟨_, rfl, d0, rfl⟩
    replace K1 := hide (K1.out.below' d0)
    replace K2 := hide (K2.out.below' d0)
    replace K3 := hide (K3.out.below' d0)
    replace b0 := hide (below_tr b0.out d0)
    clear d0
    go_wp2
    exact opq_end hR ⟨rfl, b0⟩
  have y := (Below.refl w1.heap.size w1).alloc (Nat.le_refl _) (.cells #[.bool b1, .slice A1 n1 c1, .slice D1 m1 k1, .bool b2, .slice A2 n2 c2, .slice D2 m2 k2, .bool b3, .slice A3 n3 c3, .slice D3 m3 k3] 27)
  replace K1 := hide (K1.out.below' y)
  replace K2 := hide (K2.out.below' y)
  replace K3 := hide (K3.out.below' y)
  replace b0 := hide (below_tr b0.out y)
  clear y
  go_wp2_with fail
  refine (rgreat3 (w := w1) rfl 25 (by decide) t1 t1' t2 t2' t3 t3' false (by simp; omega)).mono ?_
  rintro e w2 ⟨_, rfl, d0, rfl⟩
  replace K1 := hide (K1.out.below' d0)
  replace K2 := hide (K2.out.below' d0)
  replace K3 := hide (K3.out.below' d0)
  replace b0 := hide (below_tr b0.out d0)
  clear d0
  clear K1c0 K1c1 K1c2 K2c0 K2c1 K2c2 K3c0 K3c1 K3c2
  have K1c0 : w2.cell? ⟨w.heap.size, 0, none⟩ = some (.bool b1) := K1.out.at_ 0 rfl
  have K1c1 : w2.cell? ⟨w.heap.size, 1, none⟩ = some (.slice A1 n1 c1) := K1.out.at_ 1 rfl
  have K1c2 : w2.cell? ⟨w.heap.size, 2, none⟩ = some (.slice D1 m1 k1) := K1.out.at_ 2 rfl
  have K2c0 : w2.cell? ⟨w.heap.size + 1, 0, none⟩ = some (.bool b2) := K2.out.at_ 0 rfl
  have K2c1 : w2.cell? ⟨w.heap.size + 1, 1, none⟩ = some (.slice A2 n2 c2) := K2.out.at_ 1 rfl
  have K2c2 : w2.cell? ⟨w.heap.size + 1, 2, none⟩ = some (.slice D2 m2 k2) := K2.out.at_ 2 rfl
  have K3c0 : w2.cell? ⟨w.heap.size + 1 + 1, 0, none⟩ = some (.bool b3) := K3.out.at_ 0 rfl
  have K3c1 : w2.cell? ⟨w.heap.size + 1 + 1, 1, none⟩ = some (.slice A3 n3 c3) := K3.out.at_ 1 rfl
  have K3c2 : w2.cell? ⟨w.heap.size + 1 + 1, 2, none⟩ = some (.slice D3 m3 k3) := K3.out.at_ 2 rfl
  have P1 := hide (rprt_of b1 h1.out i1.out l1 (by omega) h1'.out i1'.out l1' (by omega))
  have S1 : Hid (H (rv b1 xs1 ys1) 25) := H_rv i1.out i1'.out (by rw [h1.out.1]; omega) (by rw [h1'.out.1]; omega) (by decide)
  have P2 := hide (rprt_of b2 h2.out i2.out l2 (by omega) h2'.out i2'.out l2' (by omega))
  have S2 : Hid (H (rv b2 xs2 ys2) 25) := H_rv i2.out i2'.out (by rw [h2.out.1]; omega) (by rw [h2'.out.1]; omega) (by decide)
  have P3 := hide (rprt_of b3 h3.out i3.out l3 (by omega) h3'.out i3'.out l3' (by omega))
  have S3 : Hid (H (rv b3 xs3 ys3) 25) := H_rv i3.out i3'.out (by rw [h3.out.1]; omega) (by rw [h3'.out.1]; omega) (by decide)
  by_cases r1 : rok b1 xs1 ys1 = false
  case pos =>
    go_wp2_with fail
    refine (rCheck_P (P1.out.below b0.out) (T.out.below b0.out) false r1).mono ?_
    rintro e w3 ⟨_, rfl, d0, rfl⟩
    replace K1 := hide (K1.out.below' d0)
    replace K2 := hide (K2.out.below' d0)
    replace K3 := hide (K3.out.below' d0)
    replace b0 := hide (below_tr b0.out d0)
    clear d0
    go_wp2_with fail
    refine (ralive_P _ (T.out.below b0.out) (M.out.below b0.out)).mono ?_
    rintro e w4 ⟨_, rfl, d0, rfl⟩
    replace K1 := hide (K1.out.below' d0)
    replace K2 := hide (K2.out.below' d0)
    replace K3 := hide (K3.out.below' d0)
    replace b0 := hide (below_tr b0.out d0)
    clear d0
    go_wp2
    exact opq_end hR ⟨rfl, b0⟩
  replace r1 : rok b1 xs1 ys1 = true := by simpa using r1
  go_wp2_with fail
  refine (rCheck_P (P1.out.below b0.out) (T.out.below b0.out) true r1).mono ?_
  rintro e w3 ⟨_, rfl, d0, rfl⟩
  replace K1 := hide (K1.out.below' d0)
  replace K2 := hide (K2.out.below' d0)
  replace K3 := hide (K3.out.below' d0)
  replace b0 := hide (below_tr b0.out d0)
  clear d0
  clear K1c0 K1c1 K1c2 K2c0 K2c1 K2c2 K3c0 K3c1 K3c2
  have K1c0 : w3.cell? ⟨w.heap.size, 0, none⟩ = some (.bool b1) := K1.out.at_ 0 rfl
  have K1c1 : w3.cell? ⟨w.heap.size, 1, none⟩ = some (.slice A1 n1 c1) := K1.out.at_ 1 rfl
  have K1c2 : w3.cell? ⟨w.heap.size, 2, none⟩ = some (.slice D1 m1 k1) := K1.out.at_ 2 rfl
  have K2c0 : w3.cell? ⟨w.heap.size + 1, 0, none⟩ = some (.bool b2) := K2.out.at_ 0 rfl
  have K2c1 : w3.cell? ⟨w.heap.size + 1, 1, none⟩ = some (.slice A2 n2 c2) := K2.out.at_ 1 rfl
  have K2c2 : w3.cell? ⟨w.heap.size + 1, 2, none⟩ = some (.slice D2 m2 k2) := K2.out.at_ 2 rfl
  have K3c0 : w3.cell? ⟨w.heap.size + 1 + 1, 0, none⟩ = some (.bool b3) := K3.out.at_ 0 rfl
  have K3c1 : w3.cell? ⟨w.heap.size + 1 + 1, 1, none⟩ = some (.slice A3 n3 c3) := K3.out.at_ 1 rfl
  have K3c2 : w3.cell? ⟨w.heap.size + 1 + 1, 2, none⟩ = some (.slice D3 m3 k3) := K3.out.at_ 2 rfl
  by_cases r2 : rok b2 xs2 ys2 = false
  case pos =>
    go_wp2_with fail
    refine (rCheck_P (P2.out.below b0.out) (T.out.below b0.out) false r2).mono ?_
    rintro e w4 ⟨_, rfl, d0, rfl⟩
    replace K1 := hide (K1.out.below' d0)
    replace K2 := hide (K2.out.below' d0)
    replace K3 := hide (K3.out.below' d0)
    replace b0 := hide (below_tr b0.out d0)
    clear d0
    go_wp2_with fail
    refine (ralive_P _ (T.out.below b0.out) (M.out.below b0.out)).mono ?_
    rintro e w5 ⟨_, rfl, d0, rfl⟩
    replace K1 := hide (K1.out.below' d0)
    replace K2 := hide (K2.out.below' d0)
    replace K3 := hide (K3.out.below' d0)
    replace b0 := hide (below_tr b0.out d0)
    clear d0
    go_wp2
    exact opq_end hR ⟨rfl, b0⟩
  replace r2 : rok b2 xs2 ys2 = true := by simpa using r2
  go_wp2_with fail
  refine (rCheck_P (P2.out.below b0.out) (T.out.below b0.out) true r2).mono ?_
  rintro e w4 ⟨_, rfl, d0, rfl⟩
  replace K1 := hide (K1.out.below' d0)
  replace K2 := hide (K2.out.below' d0)
  replace K3 := hide (K3.out.below' d0)
  replace b0 := hide (below_tr b0.out d0)
  clear d0
  clear K1c0 K1c1 K1c2 K2c0 K2c1 K2c2 K3c0 K3c1 K3c2
  have K1c0 : w4.cell? ⟨w.heap.size, 0, none⟩ = some (.bool b1) := K1.out.at_ 0 rfl
  have K1c1 : w4.cell? ⟨w.heap.size, 1, none⟩ = some (.slice A1 n1 c1) := K1.out.at_ 1 rfl
  have K1c2 : w4.cell? ⟨w.heap.size, 2, none⟩ = some (.slice D1 m1 k1) := K1.out.at_ 2 rfl
  have K2c0 : w4.cell? ⟨w.heap.size + 1, 0, none⟩ = some (.bool b2) := K2.out.at_ 0 rfl
  have K2c1 : w4.cell? ⟨w.heap.size + 1, 1, none⟩ = some (.slice A2 n2 c2) := K2.out.at_ 1 rfl
  have K2c2 : w4.cell? ⟨w.heap.size + 1, 2, none⟩ = some (.slice D2 m2 k2) := K2.out.at_ 2 rfl
  have K3c0 : w4.cell? ⟨w.heap.size + 1 + 1, 0, none⟩ = some (.bool b3) := K3.out.at_ 0 rfl
  have K3c1 : w4.cell? ⟨w.heap.size + 1 + 1, 1, none⟩ = some (.slice A3 n3 c3) := K3.out.at_ 1 rfl
  have K3c2 : w4.cell? ⟨w.heap.size + 1 + 1, 2, none⟩ = some (.slice D3 m3 k3) := K3.out.at_ 2 rfl
  by_cases r3 : rok b3 xs3 ys3 = false
  case pos =>
    go_wp2_with fail
    refine (rCheck_P (P3.out.below b0.out) (T.out.below b0.out) false r3).mono ?_
    rintro e w5 ⟨_, rfl, d0, rfl⟩
    replace K1 := hide (K1.out.below' d0)
    replace K2 := hide (K2.out.below' d0)
    replace K3 := hide (K3.out.below' d0)
    replace b0 := hide (below_tr b0.out d0)
    clear d0
    go_wp2_with fail
    refine (ralive_P _ (T.out.below b0.out) (M.out.below b0.out)).mono ?_
    rintro e w6 ⟨_, rfl, d0, rfl⟩
    replace K1 := hide (K1.out.below' d0)
    replace K2 := hide (K2.out.below' d0)
    replace K3 := hide (K3.out.below' d0)
    replace b0 := hide (below_tr b0.out d0)
    clear d0
    go_wp2
    exact opq_end hR ⟨rfl, b0⟩
  replace r3 : rok b3 xs3 ys3 = true := by simpa using r3
  go_wp2_with fail
  refine (rCheck_P (P3.out.below b0.out) (T.out.below b0.out) true r3).mono ?_
  rintro e w5 ⟨_, rfl, d0, rfl⟩
  replace K1 := hide (K1.out.below' d0)
  replace K2 := hide (K2.out.below' d0)
  replace K3 := hide (K3.out.below' d0)
  replace b0 := hide (below_tr b0.out d0)
  clear d0
  clear K1c0 K1c1 K1c2 K2c0 K2c1 K2c2 K3c0 K3c1 K3c2
  have K1c0 : w5.cell? ⟨w.heap.size, 0, none⟩ = some (.bool b1) := K1.out.at_ 0 rfl
  have K1c1 : w5.cell? ⟨w.heap.size, 1, none⟩ = some (.slice A1 n1 c1) := K1.out.at_ 1 rfl
  have K1c2 : w5.cell? ⟨w.heap.size, 2, none⟩ = some (.slice D1 m1 k1) := K1.out.at_ 2 rfl
  have K2c0 : w5.cell? ⟨w.heap.size + 1, 0, none⟩ = some (.bool b2) := K2.out.at_ 0 rfl
  have K2c1 : w5.cell? ⟨w.heap.size + 1, 1, none⟩ = some (.slice A2 n2 c2) := K2.out.at_ 1 rfl
  have K2c2 : w5.cell? ⟨w.heap.size + 1, 2, none⟩ = some (.slice D2 m2 k2) := K2.out.at_ 2 rfl
  have K3c0 : w5.cell? ⟨w.heap.size + 1 + 1, 0, none⟩ = some (.bool b3) := K3.out.at_ 0 rfl
  have K3c1 : w5.cell? ⟨w.heap.size + 1 + 1, 1, none⟩ = some (.slice A3 n3 c3) := K3.out.at_ 1 rfl
  have K3c2 : w5.cell? ⟨w.heap.size + 1 + 1, 2, none⟩ = some (.slice D3 m3 k3) := K3.out.at_ 2 rfl
  have a1 := hide (P1.out.can r1)
  clear P1 h1 i1 h1' i1' r1
  generalize rv b1 xs1 ys1 = x at *
  have a2 := hide (P2.out.can r2)
  clear P2 h2 i2 h2' i2' r2
  generalize rv b2 xs2 ys2 = y at *
  have a3 := hide (P3.out.can r3)
  clear P3 h3 i3 h3' i3' r3
  generalize rv b3 xs3 ys3 = z at *
  clear gg
  clear K1c0 K1c1 K1c2 K2c0 K2c1 K2c2 K3c0 K3c1 K3c2

  obtain ⟨s, es, hs3⟩ := cmpQ3 z
  rcases rat_tri x y with h0 | h0 | h0
  case inl =>
    replace h0 := hide h0
    have K1c0 : w5.cell? ⟨w.heap.size, 0, none⟩ = some (.bool b1) := K1.out.at_ 0 rfl
    have K1c1 : w5.cell? ⟨w.heap.size, 1, none⟩ = some (.slice A1 n1 c1) := K1.out.at_ 1 rfl
    have K1c2 : w5.cell? ⟨w.heap.size, 2, none⟩ = some (.slice D1 m1 k1) := K1.out.at_ 2 rfl
    have K2c0 : w5.cell? ⟨w.heap.size + 1, 0, none⟩ = some (.bool b2) := K2.out.at_ 0 rfl
    have K2c1 : w5.cell? ⟨w.heap.size + 1, 1, none⟩ = some (.slice A2 n2 c2) := K2.out.at_ 1 rfl
    have K2c2 : w5.cell? ⟨w.heap.size + 1, 2, none⟩ = some (.slice D2 m2 k2) := K2.out.at_ 2 rfl
    have K3c0 : w5.cell? ⟨w.heap.size + 1 + 1, 0, none⟩ = some (.bool b3) := K3.out.at_ 0 rfl
    have K3c1 : w5.cell? ⟨w.heap.size + 1 + 1, 1, none⟩ = some (.slice A3 n3 c3) := K3.out.at_ 1 rfl
    have K3c2 : w5.cell? ⟨w.heap.size + 1 + 1, 2, none⟩ = some (.slice D3 m3 k3) := K3.out.at_ 2 rfl
    go_wp2_with fail
    refine (rCmp_eq ((a1.out.below b0.out).arg (S1.out.up (by decide))) ((a2.out.below b0.out).arg (S2.out.up (by decide))) (T.out.below b0.out) (-1) (by have h0 := h0.out; exact cmpQ_lt (by exact h0))).mono ?_
    rintro e w6 ⟨_, rfl, d0, rfl⟩
    replace K1 := hide (K1.out.below' d0)
    replace K2 := hide (K2.out.below' d0)
    replace K3 := hide (K3.out.below' d0)
    replace b0 := hide (below_tr b0.out d0)
    clear d0
    clear K1c0 K1c1 K1c2 K2c0 K2c1 K2c2 K3c0 K3c1 K3c2
    go_wp2
    have Q1_ : Hid (H ((x + z)) 51) := H_add S1.out S3.out (by decide)
    have Q2_ : Hid (H ((y + z)) 51) := H_add S2.out S3.out (by decide)
    have Q3_ : Hid (H ((x - y)) 51) := H_sub S1.out S2.out (by decide)
    have Q4_ : Hid (H ((x * z)) 50) := H_mul S1.out S3.out (by decide)
    have Q5_ : Hid (H ((y * z)) 50) := H_mul S2.out S3.out (by decide)
    refine wp_region_facts 55 (fun w' => Below w6.heap.size w6 w') [(36, .eq (.int .i64 (-1))), (37, .eq (.bool false)), (38, .eq (.bool false)), (39, .eq (.int .i64 (-1))), (40, .eq (.bool false)), (41, .eq (.bool false)), (42, .eq (.bool false)), (43, (.rat0 w y)), (44, (.rat0 w x)), (45, .eq (.int .i64 (1))), (46, .eq (.int .i64 (-1))), (47, .eq (.int .i64 (1))), (48, .eq (.bool false)), (49, .eq (.bool false)), (50, .eq (.bool false)), (51, .eq (.int .i64 (-1))), (52, .eq (.bool false)), (53, (.rat0 w x)), (54, (.rat0 w y)), (55, .eq (.bool false)), (56, .eq (.bool false)), (57, .eq (.bool false)), (58, .eq (.bool false)), (59, (.rat0 w x)), (60, (.rat0 w z)), (61, (.rat (x + z))), (62, (.rat0 w y)), (63, (.rat0 w z)), (64, (.rat (y + z))), (65, .eq (.int .i64 (-1))), (66, .eq (.int .i64 (-1))), (67, .eq (.bool false)), (68, .eq (.bool false)), (69, .eq (.bool false)), (70, (.rat0 w x)), (71, (.rat0 w y)), (72, (.rat (x - y))), (73, .eq (.int .i64 (-1))), (74, .eq (.int .i64 (-1))), (75, .eq (.bool false)), (76, .eq (.bool false)), (77, .eq (.bool false)), (78, (.rat0 w x)), (79, (.rat0 w z)), (80, (.rat (x * z))), (81, (.rat0 w y)), (82, (.rat0 w z)), (83, (.rat (y * z))), (84, .eq (.int .i64 (-1 * s))), (85, .eq (.int .i64 (-1))), (86, (.rat0 w z)), (87, .eq (.int .i64 (s))), (88, .eq (.int .i64 (-1 * s))), (89, .eq (.bool false)), (90, .eq (.bool false))] [false, false, false, false, false, false, false, false, false, false, false, false, false, false, false, false, false, false, false, false, false, false, false, false, false, false, false, false, false, false, false, false, false, false, false, false, true, true, true, true, true, true, true, true, true, true, true, true, true, true, true, true, true, true, true, true, true, true, true, true, true, true, true, true, true, true, true, true, true, true, true, true, true, true, true, true, true, true, true, true, true, true, true, true, true, true, true, true, true, true, true, false, false, false, false, false, false, false, false, false, false, false, false, false, false] mixed (by kernel_rfl) (by kernel_rfl) (by kernel_rfl) (fun _ _ h hb => h.trans (hb.mono h.size)) ((Below.refl _ _).drew) ⟨?_, ?_, ?_, ?_, ?_, ?_, ?_, ?_, ?_, ?_, ?_, ?_, ?_, ?_, ?_, ?_, ?_, ?_, ?_, ?_, ?_, ?_, ?_, ?_, ?_, ?_, ?_, ?_, ?_, ?_, ?_, ?_, ?_, ?_, ?_, ?_, ?_, ?_, ?_, ?_, ?_, ?_, ?_, ?_, ?_, ?_, ?_, ?_, ?_, ?_, ?_, ?_, ?_, ?_, ?_, trivial⟩ ?_
    · exact .moveC (.inl rfl) (.inl rfl) rfl (fun a w' hC hs => (hs 7 (by kernel_rfl)))
    · exact .value (.inl rfl) (by intro T e; cases e) rfl rfl (fun a w' hC hs hl => by
        have e0 : a.eval (.tmp 36) = (.int .i64 (-1)) := (hl 36 (by kernel_rfl) (by kernel_rfl))
        simp only [execOp, e0]
        simp only [Act.eval]
        simp [go_sem] <;> rfl)
    · exact .move (.inl rfl) (.inl rfl) rfl (by kernel_rfl) (by kernel_rfl) rfl
    · exact .moveC (.inr ⟨2, false, 38, by decide, rfl, rfl, rfl⟩) (.inl rfl) rfl (fun a w' hC hs => (hs 7 (by kernel_rfl)))
    · exact .value (.inr ⟨2, false, 38, by decide, rfl, rfl, rfl⟩) (by intro T e; cases e) rfl rfl (fun a w' hC hs hl => by
        have e0 : a.eval (.tmp 39) = (.int .i64 (-1)) := (hl 39 (by kernel_rfl) (by kernel_rfl))
        simp only [execOp, e0]
        simp only [Act.eval]
        simp [go_sem] <;> rfl)
    · exact .pick (b := false) (.inl rfl) rfl rfl (fun a w' hC hs hl => ⟨(hl 38 (by kernel_rfl) (by kernel_rfl)), (hl 40 (by kernel_rfl) (by kernel_rfl))⟩)
    · exact .move (.inl rfl) (.inl rfl) rfl (by kernel_rfl) (by kernel_rfl) rfl
    · exact .load (.agg #[.bool b2, .slice A2 n2 c2, .slice D2 m2 k2]) (.inr ⟨6, false, 42, by decide, rfl, rfl, rfl⟩) rfl rfl (fun a w' hC hs hl => by rw [show a.eval (.tmp 4) = (.pointer (some ⟨w.heap.size + 1, 0, none⟩) : Value) from (hs 4 (by kernel_rfl))]; exact ⟨ld_Rat_ ((K2.out.below' hC).at_ 0 rfl) ((K2.out.below' hC).at_ 1 rfl) ((K2.out.below' hC).at_ 2 rfl), a2.out⟩)
    · exact .load (.agg #[.bool b1, .slice A1 n1 c1, .slice D1 m1 k1]) (.inr ⟨6, false, 42, by decide, rfl, rfl, rfl⟩) rfl rfl (fun a w' hC hs hl => by rw [show a.eval (.tmp 3) = (.pointer (some ⟨w.heap.size, 0, none⟩) : Value) from (hs 3 (by kernel_rfl))]; exact ⟨ld_Rat_ ((K1.out.below' hC).at_ 0 rfl) ((K1.out.below' hC).at_ 1 rfl) ((K1.out.below' hC).at_ 2 rfl), a1.out⟩)
    · exact .call (.inr ⟨6, false, 42, by decide, rfl, rfl, rfl⟩) rfl rfl fn_rCmp (fun a w' hC hs hl => rCmp_eq (RCan.arg (RCan.below (hl 43 (by kernel_rfl) (by kernel_rfl)) (b0.out.trans (hC.mono b0.out.size))) (S2.out.up (by decide))) (RCan.arg (RCan.below (hl 44 (by kernel_rfl) (by kernel_rfl)) (b0.out.trans (hC.mono b0.out.size))) (S1.out.up (by decide))) (T.out.below (b0.out.trans (hC.mono b0.out.size))) (1) (by have h0 := h0.out; exact cmpQ_gt (by first | exact h0 | exact h0.symm)))
    · exact .moveC (.inr ⟨6, false, 42, by decide, rfl, rfl, rfl⟩) (.inl rfl) rfl (fun a w' hC hs => (hs 7 (by kernel_rfl)))
    · exact .value (.inr ⟨6, false, 42, by decide, rfl, rfl, rfl⟩) (by intro T e; cases e) rfl rfl (fun a w' hC hs hl => by
        have e0 : a.eval (.tmp 46) = (.int .i64 (-1)) := (hl 46 (by kernel_rfl) (by kernel_rfl))
        simp only [execOp, e0]
        skip
        simp [go_sem] <;> rfl)
    · exact .value (.inr ⟨6, false, 42, by decide, rfl, rfl, rfl⟩) (by intro T e; cases e) rfl rfl (fun a w' hC hs hl => by
        have e0 : a.eval (.tmp 45) = (.int .i64 (1)) := (hl 45 (by kernel_rfl) (by kernel_rfl))
        have e1 : a.eval (.tmp 47) = (.int .i64 (1)) := (hl 47 (by kernel_rfl) (by kernel_rfl))
        simp only [execOp, e0, e1]
        skip
        simp [go_sem] <;> rfl)
    · exact .pick (b := false) (.inl rfl) rfl rfl (fun a w' hC hs hl => ⟨(hl 42 (by kernel_rfl) (by kernel_rfl)), (hl 48 (by kernel_rfl) (by kernel_rfl))⟩)
    · exact .move (.inl rfl) (.inl rfl) rfl (by kernel_rfl) (by kernel_rfl) rfl
    · exact .moveC (.inr ⟨14, false, 50, by decide, rfl, rfl, rfl⟩) (.inl rfl) rfl (fun a w' hC hs => (hs 7 (by kernel_rfl)))
    · exact .value (.inr ⟨14, false, 50, by decide, rfl, rfl, rfl⟩) (by intro T e; cases e) rfl rfl (fun a w' hC hs hl => by
        have e0 : a.eval (.tmp 51) = (.int .i64 (-1)) := (hl 51 (by kernel_rfl) (by kernel_rfl))
        simp only [execOp, e0]
        simp only [Act.eval]
        simp [go_sem] <;> rfl)
    · exact .load (.agg #[.bool b1, .slice A1 n1 c1, .slice D1 m1 k1]) (.inr ⟨14, false, 50, by decide, rfl, rfl, rfl⟩) rfl rfl (fun a w' hC hs hl => by rw [show a.eval (.tmp 3) = (.pointer (some ⟨w.heap.size, 0, none⟩) : Value) from (hs 3 (by kernel_rfl))]; exact ⟨ld_Rat_ ((K1.out.below' hC).at_ 0 rfl) ((K1.out.below' hC).at_ 1 rfl) ((K1.out.below' hC).at_ 2 rfl), a1.out⟩)
    · exact .load (.agg #[.bool b2, .slice A2 n2 c2, .slice D2 m2 k2]) (.inr ⟨14, false, 50, by decide, rfl, rfl, rfl⟩) rfl rfl (fun a w' hC hs hl => by rw [show a.eval (.tmp 4) = (.pointer (some ⟨w.heap.size + 1, 0, none⟩) : Value) from (hs 4 (by kernel_rfl))]; exact ⟨ld_Rat_ ((K2.out.below' hC).at_ 0 rfl) ((K2.out.below' hC).at_ 1 rfl) ((K2.out.below' hC).at_ 2 rfl), a2.out⟩)
    · exact .call (.inr ⟨14, false, 50, by decide, rfl, rfl, rfl⟩) rfl rfl fn_rsame (fun a w' hC hs hl => rsame_no (RCan.below (hl 53 (by kernel_rfl) (by kernel_rfl)) (b0.out.trans (hC.mono b0.out.size))) (RCan.below (hl 54 (by kernel_rfl) (by kernel_rfl)) (b0.out.trans (hC.mono b0.out.size))) (by have h0 := h0.out; grind))
    · exact .value (.inr ⟨14, false, 50, by decide, rfl, rfl, rfl⟩) (by intro T e; cases e) rfl rfl (fun a w' hC hs hl => by
        have e0 : a.eval (.tmp 52) = (.bool false) := (hl 52 (by kernel_rfl) (by kernel_rfl))
        have e1 : a.eval (.tmp 55) = (.bool false) := (hl 55 (by kernel_rfl) (by kernel_rfl))
        simp only [execOp, e0, e1]
        skip
        simp [go_sem] <;> rfl)
    · exact .pick (b := false) (.inl rfl) rfl rfl (fun a w' hC hs hl => ⟨(hl 50 (by kernel_rfl) (by kernel_rfl)), (hl 56 (by kernel_rfl) (by kernel_rfl))⟩)
    · exact .move (.inl rfl) (.inl rfl) rfl (by kernel_rfl) (by kernel_rfl) rfl
    · exact .load (.agg #[.bool b1, .slice A1 n1 c1, .slice D1 m1 k1]) (.inr ⟨22, false, 58, by decide, rfl, rfl, rfl⟩) rfl rfl (fun a w' hC hs hl => by rw [show a.eval (.tmp 3) = (.pointer (some ⟨w.heap.size, 0, none⟩) : Value) from (hs 3 (by kernel_rfl))]; exact ⟨ld_Rat_ ((K1.out.below' hC).at_ 0 rfl) ((K1.out.below' hC).at_ 1 rfl) ((K1.out.below' hC).at_ 2 rfl), a1.out⟩)
    · exact .load (.agg #[.bool b3, .slice A3 n3 c3, .slice D3 m3 k3]) (.inr ⟨22, false, 58, by decide, rfl, rfl, rfl⟩) rfl rfl (fun a w' hC hs hl => by rw [show a.eval (.tmp 5) = (.pointer (some ⟨w.heap.size + 1 + 1, 0, none⟩) : Value) from (hs 5 (by kernel_rfl))]; exact ⟨ld_Rat_ ((K3.out.below' hC).at_ 0 rfl) ((K3.out.below' hC).at_ 1 rfl) ((K3.out.below' hC).at_ 2 rfl), a3.out⟩)
    · exact .call (.inr ⟨22, false, 58, by decide, rfl, rfl, rfl⟩) rfl rfl fn_rAdd (fun a w' hC hs hl => rAdd_C (RCan.arg (RCan.below (hl 59 (by kernel_rfl) (by kernel_rfl)) (b0.out.trans (hC.mono b0.out.size))) (S1.out.up (by decide))) (RCan.arg (RCan.below (hl 60 (by kernel_rfl) (by kernel_rfl)) (b0.out.trans (hC.mono b0.out.size))) (S3.out.up (by decide))) (T.out.below (b0.out.trans (hC.mono b0.out.size))))
    · exact .load (.agg #[.bool b2, .slice A2 n2 c2, .slice D2 m2 k2]) (.inr ⟨22, false, 58, by decide, rfl, rfl, rfl⟩) rfl rfl (fun a w' hC hs hl => by rw [show a.eval (.tmp 4) = (.pointer (some ⟨w.heap.size + 1, 0, none⟩) : Value) from (hs 4 (by kernel_rfl))]; exact ⟨ld_Rat_ ((K2.out.below' hC).at_ 0 rfl) ((K2.out.below' hC).at_ 1 rfl) ((K2.out.below' hC).at_ 2 rfl), a2.out⟩)
    · exact .load (.agg #[.bool b3, .slice A3 n3 c3, .slice D3 m3 k3]) (.inr ⟨22, false, 58, by decide, rfl, rfl, rfl⟩) rfl rfl (fun a w' hC hs hl => by rw [show a.eval (.tmp 5) = (.pointer (some ⟨w.heap.size + 1 + 1, 0, none⟩) : Value) from (hs 5 (by kernel_rfl))]; exact ⟨ld_Rat_ ((K3.out.below' hC).at_ 0 rfl) ((K3.out.below' hC).at_ 1 rfl) ((K3.out.below' hC).at_ 2 rfl), a3.out⟩)
    · exact .call (.inr ⟨22, false, 58, by decide, rfl, rfl, rfl⟩) rfl rfl fn_rAdd (fun a w' hC hs hl => rAdd_C (RCan.arg (RCan.below (hl 62 (by kernel_rfl) (by kernel_rfl)) (b0.out.trans (hC.mono b0.out.size))) (S2.out.up (by decide))) (RCan.arg (RCan.below (hl 63 (by kernel_rfl) (by kernel_rfl)) (b0.out.trans (hC.mono b0.out.size))) (S3.out.up (by decide))) (T.out.below (b0.out.trans (hC.mono b0.out.size))))
    · exact .call (.inr ⟨22, false, 58, by decide, rfl, rfl, rfl⟩) rfl rfl fn_rCmp (fun a w' hC hs hl => rCmp_eq (RCan.arg (hl 61 (by kernel_rfl) (by kernel_rfl)) (Q1_.out.up (by decide))) (RCan.arg (hl 64 (by kernel_rfl) (by kernel_rfl)) (Q2_.out.up (by decide))) (T.out.below (b0.out.trans (hC.mono b0.out.size))) (-1) (by have h0 := h0.out; exact cmpQ_lt (by grind)))
    · exact .moveC (.inr ⟨22, false, 58, by decide, rfl, rfl, rfl⟩) (.inl rfl) rfl (fun a w' hC hs => (hs 7 (by kernel_rfl)))
    · exact .value (.inr ⟨22, false, 58, by decide, rfl, rfl, rfl⟩) (by intro T e; cases e) rfl rfl (fun a w' hC hs hl => by
        have e0 : a.eval (.tmp 65) = (.int .i64 (-1)) := (hl 65 (by kernel_rfl) (by kernel_rfl))
        have e1 : a.eval (.tmp 66) = (.int .i64 (-1)) := (hl 66 (by kernel_rfl) (by kernel_rfl))
        simp only [execOp, e0, e1]
        skip
        simp [go_sem] <;> rfl)
    · exact .pick (b := false) (.inl rfl) rfl rfl (fun a w' hC hs hl => ⟨(hl 58 (by kernel_rfl) (by kernel_rfl)), (hl 67 (by kernel_rfl) (by kernel_rfl))⟩)
    · exact .move (.inl rfl) (.inl rfl) rfl (by kernel_rfl) (by kernel_rfl) rfl
    · exact .load (.agg #[.bool b1, .slice A1 n1 c1, .slice D1 m1 k1]) (.inr ⟨33, false, 69, by decide, rfl, rfl, rfl⟩) rfl rfl (fun a w' hC hs hl => by rw [show a.eval (.tmp 3) = (.pointer (some ⟨w.heap.size, 0, none⟩) : Value) from (hs 3 (by kernel_rfl))]; exact ⟨ld_Rat_ ((K1.out.below' hC).at_ 0 rfl) ((K1.out.below' hC).at_ 1 rfl) ((K1.out.below' hC).at_ 2 rfl), a1.out⟩)
    · exact .load (.agg #[.bool b2, .slice A2 n2 c2, .slice D2 m2 k2]) (.inr ⟨33, false, 69, by decide, rfl, rfl, rfl⟩) rfl rfl (fun a w' hC hs hl => by rw [show a.eval (.tmp 4) = (.pointer (some ⟨w.heap.size + 1, 0, none⟩) : Value) from (hs 4 (by kernel_rfl))]; exact ⟨ld_Rat_ ((K2.out.below' hC).at_ 0 rfl) ((K2.out.below' hC).at_ 1 rfl) ((K2.out.below' hC).at_ 2 rfl), a2.out⟩)
    · exact .call (.inr ⟨33, false, 69, by decide, rfl, rfl, rfl⟩) rfl rfl fn_rSub (fun a w' hC hs hl => rSub_C (RCan.arg (RCan.below (hl 70 (by kernel_rfl) (by kernel_rfl)) (b0.out.trans (hC.mono b0.out.size))) (S1.out.up (by decide))) (RCan.arg (RCan.below (hl 71 (by kernel_rfl) (by kernel_rfl)) (b0.out.trans (hC.mono b0.out.size))) (S2.out.up (by decide))) (T.out.below (b0.out.trans (hC.mono b0.out.size))))
    · exact .call (.inr ⟨33, false, 69, by decide, rfl, rfl, rfl⟩) rfl rfl fn_rSign (fun a w' hC hs hl => rSign_eq (RCan.arg (hl 72 (by kernel_rfl) (by kernel_rfl)) (Q3_.out.up (by decide))) (T.out.below (b0.out.trans (hC.mono b0.out.size))) (-1) (by have h0 := h0.out; exact cmpQ_lt (by grind)))
    · exact .moveC (.inr ⟨33, false, 69, by decide, rfl, rfl, rfl⟩) (.inl rfl) rfl (fun a w' hC hs => (hs 7 (by kernel_rfl)))
    · exact .value (.inr ⟨33, false, 69, by decide, rfl, rfl, rfl⟩) (by intro T e; cases e) rfl rfl (fun a w' hC hs hl => by
        have e0 : a.eval (.tmp 73) = (.int .i64 (-1)) := (hl 73 (by kernel_rfl) (by kernel_rfl))
        have e1 : a.eval (.tmp 74) = (.int .i64 (-1)) := (hl 74 (by kernel_rfl) (by kernel_rfl))
        simp only [execOp, e0, e1]
        skip
        simp [go_sem] <;> rfl)
    · exact .pick (b := false) (.inl rfl) rfl rfl (fun a w' hC hs hl => ⟨(hl 69 (by kernel_rfl) (by kernel_rfl)), (hl 75 (by kernel_rfl) (by kernel_rfl))⟩)
    · exact .move (.inl rfl) (.inl rfl) rfl (by kernel_rfl) (by kernel_rfl) rfl
    · exact .load (.agg #[.bool b1, .slice A1 n1 c1, .slice D1 m1 k1]) (.inr ⟨41, false, 77, by decide, rfl, rfl, rfl⟩) rfl rfl (fun a w' hC hs hl => by rw [show a.eval (.tmp 3) = (.pointer (some ⟨w.heap.size, 0, none⟩) : Value) from (hs 3 (by kernel_rfl))]; exact ⟨ld_Rat_ ((K1.out.below' hC).at_ 0 rfl) ((K1.out.below' hC).at_ 1 rfl) ((K1.out.below' hC).at_ 2 rfl), a1.out⟩)
    · exact .load (.agg #[.bool b3, .slice A3 n3 c3, .slice D3 m3 k3]) (.inr ⟨41, false, 77, by decide, rfl, rfl, rfl⟩) rfl rfl (fun a w' hC hs hl => by rw [show a.eval (.tmp 5) = (.pointer (some ⟨w.heap.size + 1 + 1, 0, none⟩) : Value) from (hs 5 (by kernel_rfl))]; exact ⟨ld_Rat_ ((K3.out.below' hC).at_ 0 rfl) ((K3.out.below' hC).at_ 1 rfl) ((K3.out.below' hC).at_ 2 rfl), a3.out⟩)
    · exact .call (.inr ⟨41, false, 77, by decide, rfl, rfl, rfl⟩) rfl rfl fn_rMul (fun a w' hC hs hl => rMul_C (RCan.arg (RCan.below (hl 78 (by kernel_rfl) (by kernel_rfl)) (b0.out.trans (hC.mono b0.out.size))) (S1.out.up (by decide))) (RCan.arg (RCan.below (hl 79 (by kernel_rfl) (by kernel_rfl)) (b0.out.trans (hC.mono b0.out.size))) (S3.out.up (by decide))) (T.out.below (b0.out.trans (hC.mono b0.out.size))))
    · exact .load (.agg #[.bool b2, .slice A2 n2 c2, .slice D2 m2 k2]) (.inr ⟨41, false, 77, by decide, rfl, rfl, rfl⟩) rfl rfl (fun a w' hC hs hl => by rw [show a.eval (.tmp 4) = (.pointer (some ⟨w.heap.size + 1, 0, none⟩) : Value) from (hs 4 (by kernel_rfl))]; exact ⟨ld_Rat_ ((K2.out.below' hC).at_ 0 rfl) ((K2.out.below' hC).at_ 1 rfl) ((K2.out.below' hC).at_ 2 rfl), a2.out⟩)
    · exact .load (.agg #[.bool b3, .slice A3 n3 c3, .slice D3 m3 k3]) (.inr ⟨41, false, 77, by decide, rfl, rfl, rfl⟩) rfl rfl (fun a w' hC hs hl => by rw [show a.eval (.tmp 5) = (.pointer (some ⟨w.heap.size + 1 + 1, 0, none⟩) : Value) from (hs 5 (by kernel_rfl))]; exact ⟨ld_Rat_ ((K3.out.below' hC).at_ 0 rfl) ((K3.out.below' hC).at_ 1 rfl) ((K3.out.below' hC).at_ 2 rfl), a3.out⟩)
    · exact .call (.inr ⟨41, false, 77, by decide, rfl, rfl, rfl⟩) rfl rfl fn_rMul (fun a w' hC hs hl => rMul_C (RCan.arg (RCan.below (hl 81 (by kernel_rfl) (by kernel_rfl)) (b0.out.trans (hC.mono b0.out.size))) (S2.out.up (by decide))) (RCan.arg (RCan.below (hl 82 (by kernel_rfl) (by kernel_rfl)) (b0.out.trans (hC.mono b0.out.size))) (S3.out.up (by decide))) (T.out.below (b0.out.trans (hC.mono b0.out.size))))
    · exact .call (.inr ⟨41, false, 77, by decide, rfl, rfl, rfl⟩) rfl rfl fn_rCmp (fun a w' hC hs hl => rCmp_eq (RCan.arg (hl 80 (by kernel_rfl) (by kernel_rfl)) (Q4_.out.up (by decide))) (RCan.arg (hl 83 (by kernel_rfl) (by kernel_rfl)) (Q5_.out.up (by decide))) (T.out.below (b0.out.trans (hC.mono b0.out.size))) (-1 * s) ((cmpQ_mul_lt h0.out).trans (by rw [es.out])))
    · exact .moveC (.inr ⟨41, false, 77, by decide, rfl, rfl, rfl⟩) (.inl rfl) rfl (fun a w' hC hs => (hs 7 (by kernel_rfl)))
    · exact .load (.agg #[.bool b3, .slice A3 n3 c3, .slice D3 m3 k3]) (.inr ⟨41, false, 77, by decide, rfl, rfl, rfl⟩) rfl rfl (fun a w' hC hs hl => by rw [show a.eval (.tmp 5) = (.pointer (some ⟨w.heap.size + 1 + 1, 0, none⟩) : Value) from (hs 5 (by kernel_rfl))]; exact ⟨ld_Rat_ ((K3.out.below' hC).at_ 0 rfl) ((K3.out.below' hC).at_ 1 rfl) ((K3.out.below' hC).at_ 2 rfl), a3.out⟩)
    · exact .call (.inr ⟨41, false, 77, by decide, rfl, rfl, rfl⟩) rfl rfl fn_rSign (fun a w' hC hs hl => rSign_eq (RCan.arg (RCan.below (hl 86 (by kernel_rfl) (by kernel_rfl)) (b0.out.trans (hC.mono b0.out.size))) (S3.out.up (by decide))) (T.out.below (b0.out.trans (hC.mono b0.out.size))) (s) (es.out))
    · exact .value (.inr ⟨41, false, 77, by decide, rfl, rfl, rfl⟩) (by intro T e; cases e) rfl rfl (fun a w' hC hs hl => by
        have e0 : a.eval (.tmp 85) = (.int .i64 (-1)) := (hl 85 (by kernel_rfl) (by kernel_rfl))
        have e1 : a.eval (.tmp 87) = (.int .i64 (s)) := (hl 87 (by kernel_rfl) (by kernel_rfl))
        simp only [execOp, e0, e1]
        skip
        rcases hs3 with rfl | rfl | rfl <;> simp [go_sem] <;> rfl)
    · exact .value (.inr ⟨41, false, 77, by decide, rfl, rfl, rfl⟩) (by intro T e; cases e) rfl rfl (fun a w' hC hs hl => by
        have e0 : a.eval (.tmp 84) = (.int .i64 (-1 * s)) := (hl 84 (by kernel_rfl) (by kernel_rfl))
        have e1 : a.eval (.tmp 88) = (.int .i64 (-1 * s)) := (hl 88 (by kernel_rfl) (by kernel_rfl))
        simp only [execOp, e0, e1]
        skip
        simp [go_sem] <;> rfl)
    · exact .pick (b := false) (.inl rfl) rfl rfl (fun a w' hC hs hl => ⟨(hl 77 (by kernel_rfl) (by kernel_rfl)), (hl 89 (by kernel_rfl) (by kernel_rfl))⟩)
    intro f w7 hC hF _
    have f0 : f 90 = .bool false := hF 90 (by kernel_rfl)
    clear hF
    simp only [patch, List.drop]
    rw [f0]
    clear f0
    try change wpList _ _ _ [] _ _
    generalize f 36 = y36_ at *
    generalize f 37 = y37_ at *
    generalize f 38 = y38_ at *
    generalize f 39 = y39_ at *
    generalize f 40 = y40_ at *
    generalize f 41 = y41_ at *
    generalize f 42 = y42_ at *
    generalize f 43 = y43_ at *
    generalize f 44 = y44_ at *
    generalize f 45 = y45_ at *
    generalize f 46 = y46_ at *
    generalize f 47 = y47_ at *
    generalize f 48 = y48_ at *
    generalize f 49 = y49_ at *
    generalize f 50 = y50_ at *
    generalize f 51 = y51_ at *
    generalize f 52 = y52_ at *
    generalize f 53 = y53_ at *
    generalize f 54 = y54_ at *
    generalize f 55 = y55_ at *
    generalize f 56 = y56_ at *
    generalize f 57 = y57_ at *
    generalize f 58 = y58_ at *
    generalize f 59 = y59_ at *
    generalize f 60 = y60_ at *
    generalize f 61 = y61_ at *
    generalize f 62 = y62_ at *
    generalize f 63 = y63_ at *
    generalize f 64 = y64_ at *
    generalize f 65 = y65_ at *
    generalize f 66 = y66_ at *
    generalize f 67 = y67_ at *
    generalize f 68 = y68_ at *
    generalize f 69 = y69_ at *
    generalize f 70 = y70_ at *
    generalize f 71 = y71_ at *
    generalize f 72 = y72_ at *
    generalize f 73 = y73_ at *
    generalize f 74 = y74_ at *
    generalize f 75 = y75_ at *
    generalize f 76 = y76_ at *
    generalize f 77 = y77_ at *
    generalize f 78 = y78_ at *
    generalize f 79 = y79_ at *
    generalize f 80 = y80_ at *
    generalize f 81 = y81_ at *
    generalize f 82 = y82_ at *
    generalize f 83 = y83_ at *
    generalize f 84 = y84_ at *
    generalize f 85 = y85_ at *
    generalize f 86 = y86_ at *
    generalize f 87 = y87_ at *
    generalize f 88 = y88_ at *
    generalize f 89 = y89_ at *
    replace K1 := hide (K1.out.below' hC)
    replace K2 := hide (K2.out.below' hC)
    replace K3 := hide (K3.out.below' hC)
    replace b0 := hide (b0.out.trans (hC.mono b0.out.size))
    clear hC
    have K1c0 : w7.cell? ⟨w.heap.size, 0, none⟩ = some (.bool b1) := K1.out.at_ 0 rfl
    have K1c1 : w7.cell? ⟨w.heap.size, 1, none⟩ = some (.slice A1 n1 c1) := K1.out.at_ 1 rfl
    have K1c2 : w7.cell? ⟨w.heap.size, 2, none⟩ = some (.slice D1 m1 k1) := K1.out.at_ 2 rfl
    have K2c0 : w7.cell? ⟨w.heap.size + 1, 0, none⟩ = some (.bool b2) := K2.out.at_ 0 rfl
    have K2c1 : w7.cell? ⟨w.heap.size + 1, 1, none⟩ = some (.slice A2 n2 c2) := K2.out.at_ 1 rfl
    have K2c2 : w7.cell? ⟨w.heap.size + 1, 2, none⟩ = some (.slice D2 m2 k2) := K2.out.at_ 2 rfl
    have K3c0 : w7.cell? ⟨w.heap.size + 1 + 1, 0, none⟩ = some (.bool b3) := K3.out.at_ 0 rfl
    have K3c1 : w7.cell? ⟨w.heap.size + 1 + 1, 1, none⟩ = some (.slice A3 n3 c3) := K3.out.at_ 1 rfl
    have K3c2 : w7.cell? ⟨w.heap.size + 1 + 1, 2, none⟩ = some (.slice D3 m3 k3) := K3.out.at_ 2 rfl
    rcases rat_tri y z with hb | hb | hb
    case inl =>
      replace hb := hide hb
      go_wp2_with fail
      refine (rCmp_eq ((a2.out.below b0.out).arg (S2.out.up (by decide))) ((a3.out.below b0.out).arg (S3.out.up (by decide))) (T.out.below b0.out) (-1) (by have h0 := h0.out; have hb := hb.out; exact cmpQ_lt (by exact hb))).mono ?_
      rintro e w8 ⟨_, rfl, d0, rfl⟩
      replace K1 := hide (K1.out.below' d0)
      replace K2 := hide (K2.out.below' d0)
      replace K3 := hide (K3.out.below' d0)
      replace b0 := hide (below_tr b0.out d0)
      clear d0
      clear K1c0 K1c1 K1c2 K2c0 K2c1 K2c2 K3c0 K3c1 K3c2
      have K1c0 : w8.cell? ⟨w.heap.size, 0, none⟩ = some (.bool b1) := K1.out.at_ 0 rfl
      have K1c1 : w8.cell? ⟨w.heap.size, 1, none⟩ = some (.slice A1 n1 c1) := K1.out.at_ 1 rfl
      have K1c2 : w8.cell? ⟨w.heap.size, 2, none⟩ = some (.slice D1 m1 k1) := K1.out.at_ 2 rfl
      have K2c0 : w8.cell? ⟨w.heap.size + 1, 0, none⟩ = some (.bool b2) := K2.out.at_ 0 rfl
      have K2c1 : w8.cell? ⟨w.heap.size + 1, 1, none⟩ = some (.slice A2 n2 c2) := K2.out.at_ 1 rfl
      have K2c2 : w8.cell? ⟨w.heap.size + 1, 2, none⟩ = some (.slice D2 m2 k2) := K2.out.at_ 2 rfl
      have K3c0 : w8.cell? ⟨w.heap.size + 1 + 1, 0, none⟩ = some (.bool b3) := K3.out.at_ 0 rfl
      have K3c1 : w8.cell? ⟨w.heap.size + 1 + 1, 1, none⟩ = some (.slice A3 n3 c3) := K3.out.at_ 1 rfl
      have K3c2 : w8.cell? ⟨w.heap.size + 1 + 1, 2, none⟩ = some (.slice D3 m3 k3) := K3.out.at_ 2 rfl
      go_wp2_with fail
      refine (rCmp_eq ((a1.out.below b0.out).arg (S1.out.up (by decide))) ((a3.out.below b0.out).arg (S3.out.up (by decide))) (T.out.below b0.out) (-1) (by have h0 := h0.out; have hb := hb.out; exact cmpQ_lt (by grind))).mono ?_
      rintro e w9 ⟨_, rfl, d0, rfl⟩
      replace K1 := hide (K1.out.below' d0)
      replace K2 := hide (K2.out.below' d0)
      replace K3 := hide (K3.out.below' d0)
      replace b0 := hide (below_tr b0.out d0)
      clear d0
      clear K1c0 K1c1 K1c2 K2c0 K2c1 K2c2 K3c0 K3c1 K3c2
      go_wp2
      exact opq_end hR ⟨rfl, b0⟩
    case inr.inl =>
      replace hb := hide hb
      go_wp2_with fail
      refine (rCmp_eq ((a2.out.below b0.out).arg (S2.out.up (by decide))) ((a3.out.below b0.out).arg (S3.out.up (by decide))) (T.out.below b0.out) (0) (by have h0 := h0.out; have hb := hb.out; exact cmpQ_e (by exact hb))).mono ?_
      rintro e w8 ⟨_, rfl, d0, rfl⟩
      replace K1 := hide (K1.out.below' d0)
      replace K2 := hide (K2.out.below' d0)
      replace K3 := hide (K3.out.below' d0)
      replace b0 := hide (below_tr b0.out d0)
      clear d0
      clear K1c0 K1c1 K1c2 K2c0 K2c1 K2c2 K3c0 K3c1 K3c2
      have K1c0 : w8.cell? ⟨w.heap.size, 0, none⟩ = some (.bool b1) := K1.out.at_ 0 rfl
      have K1c1 : w8.cell? ⟨w.heap.size, 1, none⟩ = some (.slice A1 n1 c1) := K1.out.at_ 1 rfl
      have K1c2 : w8.cell? ⟨w.heap.size, 2, none⟩ = some (.slice D1 m1 k1) := K1.out.at_ 2 rfl
      have K2c0 : w8.cell? ⟨w.heap.size + 1, 0, none⟩ = some (.bool b2) := K2.out.at_ 0 rfl
      have K2c1 : w8.cell? ⟨w.heap.size + 1, 1, none⟩ = some (.slice A2 n2 c2) := K2.out.at_ 1 rfl
      have K2c2 : w8.cell? ⟨w.heap.size + 1, 2, none⟩ = some (.slice D2 m2 k2) := K2.out.at_ 2 rfl
      have K3c0 : w8.cell? ⟨w.heap.size + 1 + 1, 0, none⟩ = some (.bool b3) := K3.out.at_ 0 rfl
      have K3c1 : w8.cell? ⟨w.heap.size + 1 + 1, 1, none⟩ = some (.slice A3 n3 c3) := K3.out.at_ 1 rfl
      have K3c2 : w8.cell? ⟨w.heap.size + 1 + 1, 2, none⟩ = some (.slice D3 m3 k3) := K3.out.at_ 2 rfl
      go_wp2_with fail
      refine (rCmp_eq ((a1.out.below b0.out).arg (S1.out.up (by decide))) ((a3.out.below b0.out).arg (S3.out.up (by decide))) (T.out.below b0.out) (-1) (by have h0 := h0.out; have hb := hb.out; exact cmpQ_lt (by grind))).mono ?_
      rintro e w9 ⟨_, rfl, d0, rfl⟩
      replace K1 := hide (K1.out.below' d0)
      replace K2 := hide (K2.out.below' d0)
      replace K3 := hide (K3.out.below' d0)
      replace b0 := hide (below_tr b0.out d0)
      clear d0
      clear K1c0 K1c1 K1c2 K2c0 K2c1 K2c2 K3c0 K3c1 K3c2
      go_wp2
      exact opq_end hR ⟨rfl, b0⟩
    case inr.inr =>
      replace hb := hide hb
      go_wp2_with fail
      refine (rCmp_eq ((a2.out.below b0.out).arg (S2.out.up (by decide))) ((a3.out.below b0.out).arg (S3.out.up (by decide))) (T.out.below b0.out) (1) (by have h0 := h0.out; have hb := hb.out; exact cmpQ_gt (by exact hb))).mono ?_
      rintro e w8 ⟨_, rfl, d0, rfl⟩
      replace K1 := hide (K1.out.below' d0)
      replace K2 := hide (K2.out.below' d0)
      replace K3 := hide (K3.out.below' d0)
      replace b0 := hide (below_tr b0.out d0)
      clear d0
      clear K1c0 K1c1 K1c2 K2c0 K2c1 K2c2 K3c0 K3c1 K3c2
      go_wp2
      exact opq_end hR ⟨rfl, b0⟩
  case inr.inl =>
    replace h0 := hide h0
    have K1c0 : w5.cell? ⟨w.heap.size, 0, none⟩ = some (.bool b1) := K1.out.at_ 0 rfl
    have K1c1 : w5.cell? ⟨w.heap.size, 1, none⟩ = some (.slice A1 n1 c1) := K1.out.at_ 1 rfl
    have K1c2 : w5.cell? ⟨w.heap.size, 2, none⟩ = some (.slice D1 m1 k1) := K1.out.at_ 2 rfl
    have K2c0 : w5.cell? ⟨w.heap.size + 1, 0, none⟩ = some (.bool b2) := K2.out.at_ 0 rfl
    have K2c1 : w5.cell? ⟨w.heap.size + 1, 1, none⟩ = some (.slice A2 n2 c2) := K2.out.at_ 1 rfl
    have K2c2 : w5.cell? ⟨w.heap.size + 1, 2, none⟩ = some (.slice D2 m2 k2) := K2.out.at_ 2 rfl
    have K3c0 : w5.cell? ⟨w.heap.size + 1 + 1, 0, none⟩ = some (.bool b3) := K3.out.at_ 0 rfl
    have K3c1 : w5.cell? ⟨w.heap.size + 1 + 1, 1, none⟩ = some (.slice A3 n3 c3) := K3.out.at_ 1 rfl
    have K3c2 : w5.cell? ⟨w.heap.size + 1 + 1, 2, none⟩ = some (.slice D3 m3 k3) := K3.out.at_ 2 rfl
    go_wp2_with fail
    refine (rCmp_eq ((a1.out.below b0.out).arg (S1.out.up (by decide))) ((a2.out.below b0.out).arg (S2.out.up (by decide))) (T.out.below b0.out) (0) (by have h0 := h0.out; exact cmpQ_e (by exact h0))).mono ?_
    rintro e w6 ⟨_, rfl, d0, rfl⟩
    replace K1 := hide (K1.out.below' d0)
    replace K2 := hide (K2.out.below' d0)
    replace K3 := hide (K3.out.below' d0)
    replace b0 := hide (below_tr b0.out d0)
    clear d0
    clear K1c0 K1c1 K1c2 K2c0 K2c1 K2c2 K3c0 K3c1 K3c2
    go_wp2
    have Q1_ : Hid (H ((x + z)) 51) := H_add S1.out S3.out (by decide)
    have Q2_ : Hid (H ((y + z)) 51) := H_add S2.out S3.out (by decide)
    have Q3_ : Hid (H ((x - y)) 51) := H_sub S1.out S2.out (by decide)
    have Q4_ : Hid (H ((x * z)) 50) := H_mul S1.out S3.out (by decide)
    have Q5_ : Hid (H ((y * z)) 50) := H_mul S2.out S3.out (by decide)
    refine wp_region_facts 55 (fun w' => Below w6.heap.size w6 w') [(36, .eq (.int .i64 (0))), (37, .eq (.bool false)), (38, .eq (.bool false)), (39, .eq (.int .i64 (0))), (40, .eq (.bool false)), (41, .eq (.bool false)), (42, .eq (.bool false)), (43, (.rat0 w y)), (44, (.rat0 w x)), (45, .eq (.int .i64 (0))), (46, .eq (.int .i64 (0))), (47, .eq (.int .i64 (0))), (48, .eq (.bool false)), (49, .eq (.bool false)), (50, .eq (.bool false)), (51, .eq (.int .i64 (0))), (52, .eq (.bool true)), (53, (.rat0 w x)), (54, (.rat0 w y)), (55, .eq (.bool true)), (56, .eq (.bool false)), (57, .eq (.bool false)), (58, .eq (.bool false)), (59, (.rat0 w x)), (60, (.rat0 w z)), (61, (.rat (x + z))), (62, (.rat0 w y)), (63, (.rat0 w z)), (64, (.rat (y + z))), (65, .eq (.int .i64 (0))), (66, .eq (.int .i64 (0))), (67, .eq (.bool false)), (68, .eq (.bool false)), (69, .eq (.bool false)), (70, (.rat0 w x)), (71, (.rat0 w y)), (72, (.rat (x - y))), (73, .eq (.int .i64 (0))), (74, .eq (.int .i64 (0))), (75, .eq (.bool false)), (76, .eq (.bool false)), (77, .eq (.bool false)), (78, (.rat0 w x)), (79, (.rat0 w z)), (80, (.rat (x * z))), (81, (.rat0 w y)), (82, (.rat0 w z)), (83, (.rat (y * z))), (84, .eq (.int .i64 (0 * s))), (85, .eq (.int .i64 (0))), (86, (.rat0 w z)), (87, .eq (.int .i64 (s))), (88, .eq (.int .i64 (0 * s))), (89, .eq (.bool false)), (90, .eq (.bool false))] [false, false, false, false, false, false, false, false, false, false, false, false, false, false, false, false, false, false, false, false, false, false, false, false, false, false, false, false, false, false, false, false, false, false, false, false, true, true, true, true, true, true, true, true, true, true, true, true, true, true, true, true, true, true, true, true, true, true, true, true, true, true, true, true, true, true, true, true, true, true, true, true, true, true, true, true, true, true, true, true, true, true, true, true, true, true, true, true, true, true, true, false, false, false, false, false, false, false, false, false, false, false, false, false, false] mixed (by kernel_rfl) (by kernel_rfl) (by kernel_rfl) (fun _ _ h hb => h.trans (hb.mono h.size)) ((Below.refl _ _).drew) ⟨?_, ?_, ?_, ?_, ?_, ?_, ?_, ?_, ?_, ?_, ?_, ?_, ?_, ?_, ?_, ?_, ?_, ?_, ?_, ?_, ?_, ?_, ?_, ?_, ?_, ?_, ?_, ?_, ?_, ?_, ?_, ?_, ?_, ?_, ?_, ?_, ?_, ?_, ?_, ?_, ?_, ?_, ?_, ?_, ?_, ?_, ?_, ?_, ?_, ?_, ?_, ?_, ?_, ?_, ?_, trivial⟩ ?_
    · exact .moveC (.inl rfl) (.inl rfl) rfl (fun a w' hC hs => (hs 7 (by kernel_rfl)))
    · exact .value (.inl rfl) (by intro T e; cases e) rfl rfl (fun a w' hC hs hl => by
        have e0 : a.eval (.tmp 36) = (.int .i64 (0)) := (hl 36 (by kernel_rfl) (by kernel_rfl))
        simp only [execOp, e0]
        simp only [Act.eval]
        simp [go_sem] <;> rfl)
    · exact .move (.inl rfl) (.inl rfl) rfl (by kernel_rfl) (by kernel_rfl) rfl
    · exact .moveC (.inr ⟨2, false, 38, by decide, rfl, rfl, rfl⟩) (.inl rfl) rfl (fun a w' hC hs => (hs 7 (by kernel_rfl)))
    · exact .value (.inr ⟨2, false, 38, by decide, rfl, rfl, rfl⟩) (by intro T e; cases e) rfl rfl (fun a w' hC hs hl => by
        have e0 : a.eval (.tmp 39) = (.int .i64 (0)) := (hl 39 (by kernel_rfl) (by kernel_rfl))
        simp only [execOp, e0]
        simp only [Act.eval]
        simp [go_sem] <;> rfl)
    · exact .pick (b := false) (.inl rfl) rfl rfl (fun a w' hC hs hl => ⟨(hl 38 (by kernel_rfl) (by kernel_rfl)), (hl 40 (by kernel_rfl) (by kernel_rfl))⟩)
    · exact .move (.inl rfl) (.inl rfl) rfl (by kernel_rfl) (by kernel_rfl) rfl
    · exact .load (.agg #[.bool b2, .slice A2 n2 c2, .slice D2 m2 k2]) (.inr ⟨6, false, 42, by decide, rfl, rfl, rfl⟩) rfl rfl (fun a w' hC hs hl => by rw [show a.eval (.tmp 4) = (.pointer (some ⟨w.heap.size + 1, 0, none⟩) : Value) from (hs 4 (by kernel_rfl))]; exact ⟨ld_Rat_ ((K2.out.below' hC).at_ 0 rfl) ((K2.out.below' hC).at_ 1 rfl) ((K2.out.below' hC).at_ 2 rfl), a2.out⟩)
    · exact .load (.agg #[.bool b1, .slice A1 n1 c1, .slice D1 m1 k1]) (.inr ⟨6, false, 42, by decide, rfl, rfl, rfl⟩) rfl rfl (fun a w' hC hs hl => by rw [show a.eval (.tmp 3) = (.pointer (some ⟨w.heap.size, 0, none⟩) : Value) from (hs 3 (by kernel_rfl))]; exact ⟨ld_Rat_ ((K1.out.below' hC).at_ 0 rfl) ((K1.out.below' hC).at_ 1 rfl) ((K1.out.below' hC).at_ 2 rfl), a1.out⟩)
    · exact .call (.inr ⟨6, false, 42, by decide, rfl, rfl, rfl⟩) rfl rfl fn_rCmp (fun a w' hC hs hl => rCmp_eq (RCan.arg (RCan.below (hl 43 (by kernel_rfl) (by kernel_rfl)) (b0.out.trans (hC.mono b0.out.size))) (S2.out.up (by decide))) (RCan.arg (RCan.below (hl 44 (by kernel_rfl) (by kernel_rfl)) (b0.out.trans (hC.mono b0.out.size))) (S1.out.up (by decide))) (T.out.below (b0.out.trans (hC.mono b0.out.size))) (0) (by have h0 := h0.out; exact cmpQ_e (by first | exact h0 | exact h0.symm)))
    · exact .moveC (.inr ⟨6, false, 42, by decide, rfl, rfl, rfl⟩) (.inl rfl) rfl (fun a w' hC hs => (hs 7 (by kernel_rfl)))
    · exact .value (.inr ⟨6, false, 42, by decide, rfl, rfl, rfl⟩) (by intro T e; cases e) rfl rfl (fun a w' hC hs hl => by
        have e0 : a.eval (.tmp 46) = (.int .i64 (0)) := (hl 46 (by kernel_rfl) (by kernel_rfl))
        simp only [execOp, e0]
        skip
        simp [go_sem] <;> rfl)
    · exact .value (.inr ⟨6, false, 42, by decide, rfl, rfl, rfl⟩) (by intro T e; cases e) rfl rfl (fun a w' hC hs hl => by
        have e0 : a.eval (.tmp 45) = (.int .i64 (0)) := (hl 45 (by kernel_rfl) (by kernel_rfl))
        have e1 : a.eval (.tmp 47) = (.int .i64 (0)) := (hl 47 (by kernel_rfl) (by kernel_rfl))
        simp only [execOp, e0, e1]
        skip
        simp [go_sem] <;> rfl)
    · exact .pick (b := false) (.inl rfl) rfl rfl (fun a w' hC hs hl => ⟨(hl 42 (by kernel_rfl) (by kernel_rfl)), (hl 48 (by kernel_rfl) (by kernel_rfl))⟩)
    · exact .move (.inl rfl) (.inl rfl) rfl (by kernel_rfl) (by kernel_rfl) rfl
    · exact .moveC (.inr ⟨14, false, 50, by decide, rfl, rfl, rfl⟩) (.inl rfl) rfl (fun a w' hC hs => (hs 7 (by kernel_rfl)))
    · exact .value (.inr ⟨14, false, 50, by decide, rfl, rfl, rfl⟩) (by intro T e; cases e) rfl rfl (fun a w' hC hs hl => by
        have e0 : a.eval (.tmp 51) = (.int .i64 (0)) := (hl 51 (by kernel_rfl) (by kernel_rfl))
        simp only [execOp, e0]
        simp only [Act.eval]
        simp [go_sem] <;> rfl)
    · exact .load (.agg #[.bool b1, .slice A1 n1 c1, .slice D1 m1 k1]) (.inr ⟨14, false, 50, by decide, rfl, rfl, rfl⟩) rfl rfl (fun a w' hC hs hl => by rw [show a.eval (.tmp 3) = (.pointer (some ⟨w.heap.size, 0, none⟩) : Value) from (hs 3 (by kernel_rfl))]; exact ⟨ld_Rat_ ((K1.out.below' hC).at_ 0 rfl) ((K1.out.below' hC).at_ 1 rfl) ((K1.out.below' hC).at_ 2 rfl), a1.out⟩)
    · exact .load (.agg #[.bool b2, .slice A2 n2 c2, .slice D2 m2 k2]) (.inr ⟨14, false, 50, by decide, rfl, rfl, rfl⟩) rfl rfl (fun a w' hC hs hl => by rw [show a.eval (.tmp 4) = (.pointer (some ⟨w.heap.size + 1, 0, none⟩) : Value) from (hs 4 (by kernel_rfl))]; exact ⟨ld_Rat_ ((K2.out.below' hC).at_ 0 rfl) ((K2.out.below' hC).at_ 1 rfl) ((K2.out.below' hC).at_ 2 rfl), a2.out⟩)
    · exact .call (.inr ⟨14, false, 50, by decide, rfl, rfl, rfl⟩) rfl rfl fn_rsame (fun a w' hC hs hl => rsame_yes (RCan.below (hl 53 (by kernel_rfl) (by kernel_rfl)) (b0.out.trans (hC.mono b0.out.size))) (RCan.below (hl 54 (by kernel_rfl) (by kernel_rfl)) (b0.out.trans (hC.mono b0.out.size))) (by have h0 := h0.out; exact h0))
    · exact .value (.inr ⟨14, false, 50, by decide, rfl, rfl, rfl⟩) (by intro T e; cases e) rfl rfl (fun a w' hC hs hl => by
        have e0 : a.eval (.tmp 52) = (.bool true) := (hl 52 (by kernel_rfl) (by kernel_rfl))
        have e1 : a.eval (.tmp 55) = (.bool true) := (hl 55 (by kernel_rfl) (by kernel_rfl))
        simp only [execOp, e0, e1]
        skip
        simp [go_sem] <;> rfl)
    · exact .pick (b := false) (.inl rfl) rfl rfl (fun a w' hC hs hl => ⟨(hl 50 (by kernel_rfl) (by kernel_rfl)), (hl 56 (by kernel_rfl) (by kernel_rfl))⟩)
    · exact .move (.inl rfl) (.inl rfl) rfl (by kernel_rfl) (by kernel_rfl) rfl
    · exact .load (.agg #[.bool b1, .slice A1 n1 c1, .slice D1 m1 k1]) (.inr ⟨22, false, 58, by decide, rfl, rfl, rfl⟩) rfl rfl (fun a w' hC hs hl => by rw [show a.eval (.tmp 3) = (.pointer (some ⟨w.heap.size, 0, none⟩) : Value) from (hs 3 (by kernel_rfl))]; exact ⟨ld_Rat_ ((K1.out.below' hC).at_ 0 rfl) ((K1.out.below' hC).at_ 1 rfl) ((K1.out.below' hC).at_ 2 rfl), a1.out⟩)
    · exact .load (.agg #[.bool b3, .slice A3 n3 c3, .slice D3 m3 k3]) (.inr ⟨22, false, 58, by decide, rfl, rfl, rfl⟩) rfl rfl (fun a w' hC hs hl => by rw [show a.eval (.tmp 5) = (.pointer (some ⟨w.heap.size + 1 + 1, 0, none⟩) : Value) from (hs 5 (by kernel_rfl))]; exact ⟨ld_Rat_ ((K3.out.below' hC).at_ 0 rfl) ((K3.out.below' hC).at_ 1 rfl) ((K3.out.below' hC).at_ 2 rfl), a3.out⟩)
    · exact .call (.inr ⟨22, false, 58, by decide, rfl, rfl, rfl⟩) rfl rfl fn_rAdd (fun a w' hC hs hl => rAdd_C (RCan.arg (RCan.below (hl 59 (by kernel_rfl) (by kernel_rfl)) (b0.out.trans (hC.mono b0.out.size))) (S1.out.up (by decide))) (RCan.arg (RCan.below (hl 60 (by kernel_rfl) (by kernel_rfl)) (b0.out.trans (hC.mono b0.out.size))) (S3.out.up (by decide))) (T.out.below (b0.out.trans (hC.mono b0.out.size))))
    · exact .load (.agg #[.bool b2, .slice A2 n2 c2, .slice D2 m2 k2]) (.inr ⟨22, false, 58, by decide, rfl, rfl, rfl⟩) rfl rfl (fun a w' hC hs hl => by rw [show a.eval (.tmp 4) = (.pointer (some ⟨w.heap.size + 1, 0, none⟩) : Value) from (hs 4 (by kernel_rfl))]; exact ⟨ld_Rat_ ((K2.out.below' hC).at_ 0 rfl) ((K2.out.below' hC).at_ 1 rfl) ((K2.out.below' hC).at_ 2 rfl), a2.out⟩)
    · exact .load (.agg #[.bool b3, .slice A3 n3 c3, .slice D3 m3 k3]) (.inr ⟨22, false, 58, by decide, rfl, rfl, rfl⟩) rfl rfl (fun a w' hC hs hl => by rw [show a.eval (.tmp 5) = (.pointer (some ⟨w.heap.size + 1 + 1, 0, none⟩) : Value) from (hs 5 (by kernel_rfl))]; exact ⟨ld_Rat_ ((K3.out.below' hC).at_ 0 rfl) ((K3.out.below' hC).at_ 1 rfl) ((K3.out.below' hC).at_ 2 rfl), a3.out⟩)
    · exact .call (.inr ⟨22, false, 58, by decide, rfl, rfl, rfl⟩) rfl rfl fn_rAdd (fun a w' hC hs hl => rAdd_C (RCan.arg (RCan.below (hl 62 (by kernel_rfl) (by kernel_rfl)) (b0.out.trans (hC.mono b0.out.size))) (S2.out.up (by decide))) (RCan.arg (RCan.below (hl 63 (by kernel_rfl) (by kernel_rfl)) (b0.out.trans (hC.mono b0.out.size))) (S3.out.up (by decide))) (T.out.below (b0.out.trans (hC.mono b0.out.size))))
    · exact .call (.inr ⟨22, false, 58, by decide, rfl, rfl, rfl⟩) rfl rfl fn_rCmp (fun a w' hC hs hl => rCmp_eq (RCan.arg (hl 61 (by kernel_rfl) (by kernel_rfl)) (Q1_.out.up (by decide))) (RCan.arg (hl 64 (by kernel_rfl) (by kernel_rfl)) (Q2_.out.up (by decide))) (T.out.below (b0.out.trans (hC.mono b0.out.size))) (0) (by have h0 := h0.out; exact cmpQ_e (by grind)))
    · exact .moveC (.inr ⟨22, false, 58, by decide, rfl, rfl, rfl⟩) (.inl rfl) rfl (fun a w' hC hs => (hs 7 (by kernel_rfl)))
    · exact .value (.inr ⟨22, false, 58, by decide, rfl, rfl, rfl⟩) (by intro T e; cases e) rfl rfl (fun a w' hC hs hl => by
        have e0 : a.eval (.tmp 65) = (.int .i64 (0)) := (hl 65 (by kernel_rfl) (by kernel_rfl))
        have e1 : a.eval (.tmp 66) = (.int .i64 (0)) := (hl 66 (by kernel_rfl) (by kernel_rfl))
        simp only [execOp, e0, e1]
        skip
        simp [go_sem] <;> rfl)
    · exact .pick (b := false) (.inl rfl) rfl rfl (fun a w' hC hs hl => ⟨(hl 58 (by kernel_rfl) (by kernel_rfl)), (hl 67 (by kernel_rfl) (by kernel_rfl))⟩)
    · exact .move (.inl rfl) (.inl rfl) rfl (by kernel_rfl) (by kernel_rfl) rfl
    · exact .load (.agg #[.bool b1, .slice A1 n1 c1, .slice D1 m1 k1]) (.inr ⟨33, false, 69, by decide, rfl, rfl, rfl⟩) rfl rfl (fun a w' hC hs hl => by rw [show a.eval (.tmp 3) = (.pointer (some ⟨w.heap.size, 0, none⟩) : Value) from (hs 3 (by kernel_rfl))]; exact ⟨ld_Rat_ ((K1.out.below' hC).at_ 0 rfl) ((K1.out.below' hC).at_ 1 rfl) ((K1.out.below' hC).at_ 2 rfl), a1.out⟩)
    · exact .load (.agg #[.bool b2, .slice A2 n2 c2, .slice D2 m2 k2]) (.inr ⟨33, false, 69, by decide, rfl, rfl, rfl⟩) rfl rfl (fun a w' hC hs hl => by rw [show a.eval (.tmp 4) = (.pointer (some ⟨w.heap.size + 1, 0, none⟩) : Value) from (hs 4 (by kernel_rfl))]; exact ⟨ld_Rat_ ((K2.out.below' hC).at_ 0 rfl) ((K2.out.below' hC).at_ 1 rfl) ((K2.out.below' hC).at_ 2 rfl), a2.out⟩)
    · exact .call (.inr ⟨33, false, 69, by decide, rfl, rfl, rfl⟩) rfl rfl fn_rSub (fun a w' hC hs hl => rSub_C (RCan.arg (RCan.below (hl 70 (by kernel_rfl) (by kernel_rfl)) (b0.out.trans (hC.mono b0.out.size))) (S1.out.up (by decide))) (RCan.arg (RCan.below (hl 71 (by kernel_rfl) (by kernel_rfl)) (b0.out.trans (hC.mono b0.out.size))) (S2.out.up (by decide))) (T.out.below (b0.out.trans (hC.mono b0.out.size))))
    · exact .call (.inr ⟨33, false, 69, by decide, rfl, rfl, rfl⟩) rfl rfl fn_rSign (fun a w' hC hs hl => rSign_eq (RCan.arg (hl 72 (by kernel_rfl) (by kernel_rfl)) (Q3_.out.up (by decide))) (T.out.below (b0.out.trans (hC.mono b0.out.size))) (0) (by have h0 := h0.out; exact cmpQ_e (by grind)))
    · exact .moveC (.inr ⟨33, false, 69, by decide, rfl, rfl, rfl⟩) (.inl rfl) rfl (fun a w' hC hs => (hs 7 (by kernel_rfl)))
    · exact .value (.inr ⟨33, false, 69, by decide, rfl, rfl, rfl⟩) (by intro T e; cases e) rfl rfl (fun a w' hC hs hl => by
        have e0 : a.eval (.tmp 73) = (.int .i64 (0)) := (hl 73 (by kernel_rfl) (by kernel_rfl))
        have e1 : a.eval (.tmp 74) = (.int .i64 (0)) := (hl 74 (by kernel_rfl) (by kernel_rfl))
        simp only [execOp, e0, e1]
        skip
        simp [go_sem] <;> rfl)
    · exact .pick (b := false) (.inl rfl) rfl rfl (fun a w' hC hs hl => ⟨(hl 69 (by kernel_rfl) (by kernel_rfl)), (hl 75 (by kernel_rfl) (by kernel_rfl))⟩)
    · exact .move (.inl rfl) (.inl rfl) rfl (by kernel_rfl) (by kernel_rfl) rfl
    · exact .load (.agg #[.bool b1, .slice A1 n1 c1, .slice D1 m1 k1]) (.inr ⟨41, false, 77, by decide, rfl, rfl, rfl⟩) rfl rfl (fun a w' hC hs hl => by rw [show a.eval (.tmp 3) = (.pointer (some ⟨w.heap.size, 0, none⟩) : Value) from (hs 3 (by kernel_rfl))]; exact ⟨ld_Rat_ ((K1.out.below' hC).at_ 0 rfl) ((K1.out.below' hC).at_ 1 rfl) ((K1.out.below' hC).at_ 2 rfl), a1.out⟩)
    · exact .load (.agg #[.bool b3, .slice A3 n3 c3, .slice D3 m3 k3]) (.inr ⟨41, false, 77, by decide, rfl, rfl, rfl⟩) rfl rfl (fun a w' hC hs hl => by rw [show a.eval (.tmp 5) = (.pointer (some ⟨w.heap.size + 1 + 1, 0, none⟩) : Value) from (hs 5 (by kernel_rfl))]; exact ⟨ld_Rat_ ((K3.out.below' hC).at_ 0 rfl) ((K3.out.below' hC).at_ 1 rfl) ((K3.out.below' hC).at_ 2 rfl), a3.out⟩)
    · exact .call (.inr ⟨41, false, 77, by decide, rfl, rfl, rfl⟩) rfl rfl fn_rMul (fun a w' hC hs hl => rMul_C (RCan.arg (RCan.below (hl 78 (by kernel_rfl) (by kernel_rfl)) (b0.out.trans (hC.mono b0.out.size))) (S1.out.up (by decide))) (RCan.arg (RCan.below (hl 79 (by kernel_rfl) (by kernel_rfl)) (b0.out.trans (hC.mono b0.out.size))) (S3.out.up (by decide))) (T.out.below (b0.out.trans (hC.mono b0.out.size))))
    · exact .load (.agg #[.bool b2, .slice A2 n2 c2, .slice D2 m2 k2]) (.inr ⟨41, false, 77, by decide, rfl, rfl, rfl⟩) rfl rfl (fun a w' hC hs hl => by rw [show a.eval (.tmp 4) = (.pointer (some ⟨w.heap.size + 1, 0, none⟩) : Value) from (hs 4 (by kernel_rfl))]; exact ⟨ld_Rat_ ((K2.out.below' hC).at_ 0 rfl) ((K2.out.below' hC).at_ 1 rfl) ((K2.out.below' hC).at_ 2 rfl), a2.out⟩)
    · exact .load (.agg #[.bool b3, .slice A3 n3 c3, .slice D3 m3 k3]) (.inr ⟨41, false, 77, by decide, rfl, rfl, rfl⟩) rfl rfl (fun a w' hC hs hl => by rw [show a.eval (.tmp 5) = (.pointer (some ⟨w.heap.size + 1 + 1, 0, none⟩) : Value) from (hs 5 (by kernel_rfl))]; exact ⟨ld_Rat_ ((K3.out.below' hC).at_ 0 rfl) ((K3.out.below' hC).at_ 1 rfl) ((K3.out.below' hC).at_ 2 rfl), a3.out⟩)
    · exact .call (.inr ⟨41, false, 77, by decide, rfl, rfl, rfl⟩) rfl rfl fn_rMul (fun a w' hC hs hl => rMul_C (RCan.arg (RCan.below (hl 81 (by kernel_rfl) (by kernel_rfl)) (b0.out.trans (hC.mono b0.out.size))) (S2.out.up (by decide))) (RCan.arg (RCan.below (hl 82 (by kernel_rfl) (by kernel_rfl)) (b0.out.trans (hC.mono b0.out.size))) (S3.out.up (by decide))) (T.out.below (b0.out.trans (hC.mono b0.out.size))))
    · exact .call (.inr ⟨41, false, 77, by decide, rfl, rfl, rfl⟩) rfl rfl fn_rCmp (fun a w' hC hs hl => rCmp_eq (RCan.arg (hl 80 (by kernel_rfl) (by kernel_rfl)) (Q4_.out.up (by decide))) (RCan.arg (hl 83 (by kernel_rfl) (by kernel_rfl)) (Q5_.out.up (by decide))) (T.out.below (b0.out.trans (hC.mono b0.out.size))) (0 * s) ((cmpQ_mul_eq h0.out).trans (by rw [es.out])))
    · exact .moveC (.inr ⟨41, false, 77, by decide, rfl, rfl, rfl⟩) (.inl rfl) rfl (fun a w' hC hs => (hs 7 (by kernel_rfl)))
    · exact .load (.agg #[.bool b3, .slice A3 n3 c3, .slice D3 m3 k3]) (.inr ⟨41, false, 77, by decide, rfl, rfl, rfl⟩) rfl rfl (fun a w' hC hs hl => by rw [show a.eval (.tmp 5) = (.pointer (some ⟨w.heap.size + 1 + 1, 0, none⟩) : Value) from (hs 5 (by kernel_rfl))]; exact ⟨ld_Rat_ ((K3.out.below' hC).at_ 0 rfl) ((K3.out.below' hC).at_ 1 rfl) ((K3.out.below' hC).at_ 2 rfl), a3.out⟩)
    · exact .call (.inr ⟨41, false, 77, by decide, rfl, rfl, rfl⟩) rfl rfl fn_rSign (fun a w' hC hs hl => rSign_eq (RCan.arg (RCan.below (hl 86 (by kernel_rfl) (by kernel_rfl)) (b0.out.trans (hC.mono b0.out.size))) (S3.out.up (by decide))) (T.out.below (b0.out.trans (hC.mono b0.out.size))) (s) (es.out))
    · exact .value (.inr ⟨41, false, 77, by decide, rfl, rfl, rfl⟩) (by intro T e; cases e) rfl rfl (fun a w' hC hs hl => by
        have e0 : a.eval (.tmp 85) = (.int .i64 (0)) := (hl 85 (by kernel_rfl) (by kernel_rfl))
        have e1 : a.eval (.tmp 87) = (.int .i64 (s)) := (hl 87 (by kernel_rfl) (by kernel_rfl))
        simp only [execOp, e0, e1]
        skip
        rcases hs3 with rfl | rfl | rfl <;> simp [go_sem] <;> rfl)
    · exact .value (.inr ⟨41, false, 77, by decide, rfl, rfl, rfl⟩) (by intro T e; cases e) rfl rfl (fun a w' hC hs hl => by
        have e0 : a.eval (.tmp 84) = (.int .i64 (0 * s)) := (hl 84 (by kernel_rfl) (by kernel_rfl))
        have e1 : a.eval (.tmp 88) = (.int .i64 (0 * s)) := (hl 88 (by kernel_rfl) (by kernel_rfl))
        simp only [execOp, e0, e1]
        skip
        simp [go_sem] <;> rfl)
    · exact .pick (b := false) (.inl rfl) rfl rfl (fun a w' hC hs hl => ⟨(hl 77 (by kernel_rfl) (by kernel_rfl)), (hl 89 (by kernel_rfl) (by kernel_rfl))⟩)
    intro f w7 hC hF _
    have f0 : f 90 = .bool false := hF 90 (by kernel_rfl)
    clear hF
    simp only [patch, List.drop]
    rw [f0]
    clear f0
    try change wpList _ _ _ [] _ _
    generalize f 36 = y36_ at *
    generalize f 37 = y37_ at *
    generalize f 38 = y38_ at *
    generalize f 39 = y39_ at *
    generalize f 40 = y40_ at *
    generalize f 41 = y41_ at *
    generalize f 42 = y42_ at *
    generalize f 43 = y43_ at *
    generalize f 44 = y44_ at *
    generalize f 45 = y45_ at *
    generalize f 46 = y46_ at *
    generalize f 47 = y47_ at *
    generalize f 48 = y48_ at *
    generalize f 49 = y49_ at *
    generalize f 50 = y50_ at *
    generalize f 51 = y51_ at *
    generalize f 52 = y52_ at *
    generalize f 53 = y53_ at *
    generalize f 54 = y54_ at *
    generalize f 55 = y55_ at *
    generalize f 56 = y56_ at *
    generalize f 57 = y57_ at *
    generalize f 58 = y58_ at *
    generalize f 59 = y59_ at *
    generalize f 60 = y60_ at *
    generalize f 61 = y61_ at *
    generalize f 62 = y62_ at *
    generalize f 63 = y63_ at *
    generalize f 64 = y64_ at *
    generalize f 65 = y65_ at *
    generalize f 66 = y66_ at *
    generalize f 67 = y67_ at *
    generalize f 68 = y68_ at *
    generalize f 69 = y69_ at *
    generalize f 70 = y70_ at *
    generalize f 71 = y71_ at *
    generalize f 72 = y72_ at *
    generalize f 73 = y73_ at *
    generalize f 74 = y74_ at *
    generalize f 75 = y75_ at *
    generalize f 76 = y76_ at *
    generalize f 77 = y77_ at *
    generalize f 78 = y78_ at *
    generalize f 79 = y79_ at *
    generalize f 80 = y80_ at *
    generalize f 81 = y81_ at *
    generalize f 82 = y82_ at *
    generalize f 83 = y83_ at *
    generalize f 84 = y84_ at *
    generalize f 85 = y85_ at *
    generalize f 86 = y86_ at *
    generalize f 87 = y87_ at *
    generalize f 88 = y88_ at *
    generalize f 89 = y89_ at *
    replace K1 := hide (K1.out.below' hC)
    replace K2 := hide (K2.out.below' hC)
    replace K3 := hide (K3.out.below' hC)
    replace b0 := hide (b0.out.trans (hC.mono b0.out.size))
    clear hC
    have K1c0 : w7.cell? ⟨w.heap.size, 0, none⟩ = some (.bool b1) := K1.out.at_ 0 rfl
    have K1c1 : w7.cell? ⟨w.heap.size, 1, none⟩ = some (.slice A1 n1 c1) := K1.out.at_ 1 rfl
    have K1c2 : w7.cell? ⟨w.heap.size, 2, none⟩ = some (.slice D1 m1 k1) := K1.out.at_ 2 rfl
    have K2c0 : w7.cell? ⟨w.heap.size + 1, 0, none⟩ = some (.bool b2) := K2.out.at_ 0 rfl
    have K2c1 : w7.cell? ⟨w.heap.size + 1, 1, none⟩ = some (.slice A2 n2 c2) := K2.out.at_ 1 rfl
    have K2c2 : w7.cell? ⟨w.heap.size + 1, 2, none⟩ = some (.slice D2 m2 k2) := K2.out.at_ 2 rfl
    have K3c0 : w7.cell? ⟨w.heap.size + 1 + 1, 0, none⟩ = some (.bool b3) := K3.out.at_ 0 rfl
    have K3c1 : w7.cell? ⟨w.heap.size + 1 + 1, 1, none⟩ = some (.slice A3 n3 c3) := K3.out.at_ 1 rfl
    have K3c2 : w7.cell? ⟨w.heap.size + 1 + 1, 2, none⟩ = some (.slice D3 m3 k3) := K3.out.at_ 2 rfl
    rcases rat_tri y z with hb | hb | hb
    case inl =>
      replace hb := hide hb
      go_wp2_with fail
      refine (rCmp_eq ((a2.out.below b0.out).arg (S2.out.up (by decide))) ((a3.out.below b0.out).arg (S3.out.up (by decide))) (T.out.below b0.out) (-1) (by have h0 := h0.out; have hb := hb.out; exact cmpQ_lt (by exact hb))).mono ?_
      rintro e w8 ⟨_, rfl, d0, rfl⟩
      replace K1 := hide (K1.out.below' d0)
      replace K2 := hide (K2.out.below' d0)
      replace K3 := hide (K3.out.below' d0)
      replace b0 := hide (below_tr b0.out d0)
      clear d0
      clear K1c0 K1c1 K1c2 K2c0 K2c1 K2c2 K3c0 K3c1 K3c2
      have K1c0 : w8.cell? ⟨w.heap.size, 0, none⟩ = some (.bool b1) := K1.out.at_ 0 rfl
      have K1c1 : w8.cell? ⟨w.heap.size, 1, none⟩ = some (.slice A1 n1 c1) := K1.out.at_ 1 rfl
      have K1c2 : w8.cell? ⟨w.heap.size, 2, none⟩ = some (.slice D1 m1 k1) := K1.out.at_ 2 rfl
      have K2c0 : w8.cell? ⟨w.heap.size + 1, 0, none⟩ = some (.bool b2) := K2.out.at_ 0 rfl
      have K2c1 : w8.cell? ⟨w.heap.size + 1, 1, none⟩ = some (.slice A2 n2 c2) := K2.out.at_ 1 rfl
      have K2c2 : w8.cell? ⟨w.heap.size + 1, 2, none⟩ = some (.slice D2 m2 k2) := K2.out.at_ 2 rfl
      have K3c0 : w8.cell? ⟨w.heap.size + 1 + 1, 0, none⟩ = some (.bool b3) := K3.out.at_ 0 rfl
      have K3c1 : w8.cell? ⟨w.heap.size + 1 + 1, 1, none⟩ = some (.slice A3 n3 c3) := K3.out.at_ 1 rfl
      have K3c2 : w8.cell? ⟨w.heap.size + 1 + 1, 2, none⟩ = some (.slice D3 m3 k3) := K3.out.at_ 2 rfl
      go_wp2_with fail
      refine (rCmp_eq ((a1.out.below b0.out).arg (S1.out.up (by decide))) ((a3.out.below b0.out).arg (S3.out.up (by decide))) (T.out.below b0.out) (-1) (by have h0 := h0.out; have hb := hb.out; exact cmpQ_lt (by grind))).mono ?_
      rintro e w9 ⟨_, rfl, d0, rfl⟩
      replace K1 := hide (K1.out.below' d0)
      replace K2 := hide (K2.out.below' d0)
      replace K3 := hide (K3.out.below' d0)
      replace b0 := hide (below_tr b0.out d0)
      clear d0
      clear K1c0 K1c1 K1c2 K2c0 K2c1 K2c2 K3c0 K3c1 K3c2
      go_wp2
      exact opq_end hR ⟨rfl, b0⟩
    case inr.inl =>
      replace hb := hide hb
      go_wp2_with fail
      refine (rCmp_eq ((a2.out.below b0.out).arg (S2.out.up (by decide))) ((a3.out.below b0.out).arg (S3.out.up (by decide))) (T.out.below b0.out) (0) (by have h0 := h0.out; have hb := hb.out; exact cmpQ_e (by exact hb))).mono ?_
      rintro e w8 ⟨_, rfl, d0, rfl⟩
      replace K1 := hide (K1.out.below' d0)
      replace K2 := hide (K2.out.below' d0)
      replace K3 := hide (K3.out.below' d0)
      replace b0 := hide (below_tr b0.out d0)
      clear d0
      clear K1c0 K1c1 K1c2 K2c0 K2c1 K2c2 K3c0 K3c1 K3c2
      have K1c0 : w8.cell? ⟨w.heap.size, 0, none⟩ = some (.bool b1) := K1.out.at_ 0 rfl
      have K1c1 : w8.cell? ⟨w.heap.size, 1, none⟩ = some (.slice A1 n1 c1) := K1.out.at_ 1 rfl
      have K1c2 : w8.cell? ⟨w.heap.size, 2, none⟩ = some (.slice D1 m1 k1) := K1.out.at_ 2 rfl
      have K2c0 : w8.cell? ⟨w.heap.size + 1, 0, none⟩ = some (.bool b2) := K2.out.at_ 0 rfl
      have K2c1 : w8.cell? ⟨w.heap.size + 1, 1, none⟩ = some (.slice A2 n2 c2) := K2.out.at_ 1 rfl
      have K2c2 : w8.cell? ⟨w.heap.size + 1, 2, none⟩ = some (.slice D2 m2 k2) := K2.out.at_ 2 rfl
      have K3c0 : w8.cell? ⟨w.heap.size + 1 + 1, 0, none⟩ = some (.bool b3) := K3.out.at_ 0 rfl
      have K3c1 : w8.cell? ⟨w.heap.size + 1 + 1, 1, none⟩ = some (.slice A3 n3 c3) := K3.out.at_ 1 rfl
      have K3c2 : w8.cell? ⟨w.heap.size + 1 + 1, 2, none⟩ = some (.slice D3 m3 k3) := K3.out.at_ 2 rfl
      go_wp2_with fail
      refine (rCmp_eq ((a1.out.below b0.out).arg (S1.out.up (by decide))) ((a3.out.below b0.out).arg (S3.out.up (by decide))) (T.out.below b0.out) (0) (by have h0 := h0.out; have hb := hb.out; exact cmpQ_e (by grind))).mono ?_
      rintro e w9 ⟨_, rfl, d0, rfl⟩
      replace K1 := hide (K1.out.below' d0)
      replace K2 := hide (K2.out.below' d0)
      replace K3 := hide (K3.out.below' d0)
      replace b0 := hide (below_tr b0.out d0)
      clear d0
      clear K1c0 K1c1 K1c2 K2c0 K2c1 K2c2 K3c0 K3c1 K3c2
      go_wp2
      exact opq_end hR ⟨rfl, b0⟩
    case inr.inr =>
      replace hb := hide hb
      go_wp2_with fail
      refine (rCmp_eq ((a2.out.below b0.out).arg (S2.out.up (by decide))) ((a3.out.below b0.out).arg (S3.out.up (by decide))) (T.out.below b0.out) (1) (by have h0 := h0.out; have hb := hb.out; exact cmpQ_gt (by exact hb))).mono ?_
      rintro e w8 ⟨_, rfl, d0, rfl⟩
      replace K1 := hide (K1.out.below' d0)
      replace K2 := hide (K2.out.below' d0)
      replace K3 := hide (K3.out.below' d0)
      replace b0 := hide (below_tr b0.out d0)
      clear d0
      clear K1c0 K1c1 K1c2 K2c0 K2c1 K2c2 K3c0 K3c1 K3c2
      go_wp2
      exact opq_end hR ⟨rfl, b0⟩
  case inr.inr =>
    replace h0 := hide h0
    have K1c0 : w5.cell? ⟨w.heap.size, 0, none⟩ = some (.bool b1) := K1.out.at_ 0 rfl
    have K1c1 : w5.cell? ⟨w.heap.size, 1, none⟩ = some (.slice A1 n1 c1) := K1.out.at_ 1 rfl
    have K1c2 : w5.cell? ⟨w.heap.size, 2, none⟩ = some (.slice D1 m1 k1) := K1.out.at_ 2 rfl
    have K2c0 : w5.cell? ⟨w.heap.size + 1, 0, none⟩ = some (.bool b2) := K2.out.at_ 0 rfl
    have K2c1 : w5.cell? ⟨w.heap.size + 1, 1, none⟩ = some (.slice A2 n2 c2) := K2.out.at_ 1 rfl
    have K2c2 : w5.cell? ⟨w.heap.size + 1, 2, none⟩ = some (.slice D2 m2 k2) := K2.out.at_ 2 rfl
    have K3c0 : w5.cell? ⟨w.heap.size + 1 + 1, 0, none⟩ = some (.bool b3) := K3.out.at_ 0 rfl
    have K3c1 : w5.cell? ⟨w.heap.size + 1 + 1, 1, none⟩ = some (.slice A3 n3 c3) := K3.out.at_ 1 rfl
    have K3c2 : w5.cell? ⟨w.heap.size + 1 + 1, 2, none⟩ = some (.slice D3 m3 k3) := K3.out.at_ 2 rfl
    go_wp2_with fail
    refine (rCmp_eq ((a1.out.below b0.out).arg (S1.out.up (by decide))) ((a2.out.below b0.out).arg (S2.out.up (by decide))) (T.out.below b0.out) (1) (by have h0 := h0.out; exact cmpQ_gt (by exact h0))).mono ?_
    rintro e w6 ⟨_, rfl, d0, rfl⟩
    replace K1 := hide (K1.out.below' d0)
    replace K2 := hide (K2.out.below' d0)
    replace K3 := hide (K3.out.below' d0)
    replace b0 := hide (below_tr b0.out d0)
    clear d0
    clear K1c0 K1c1 K1c2 K2c0 K2c1 K2c2 K3c0 K3c1 K3c2
    go_wp2
    have Q1_ : Hid (H ((x + z)) 51) := H_add S1.out S3.out (by decide)
    have Q2_ : Hid (H ((y + z)) 51) := H_add S2.out S3.out (by decide)
    have Q3_ : Hid (H ((x - y)) 51) := H_sub S1.out S2.out (by decide)
    have Q4_ : Hid (H ((x * z)) 50) := H_mul S1.out S3.out (by decide)
    have Q5_ : Hid (H ((y * z)) 50) := H_mul S2.out S3.out (by decide)
    refine wp_region_facts 55 (fun w' => Below w6.heap.size w6 w') [(36, .eq (.int .i64 (1))), (37, .eq (.bool false)), (38, .eq (.bool false)), (39, .eq (.int .i64 (1))), (40, .eq (.bool false)), (41, .eq (.bool false)), (42, .eq (.bool false)), (43, (.rat0 w y)), (44, (.rat0 w x)), (45, .eq (.int .i64 (-1))), (46, .eq (.int .i64 (1))), (47, .eq (.int .i64 (-1))), (48, .eq (.bool false)), (49, .eq (.bool false)), (50, .eq (.bool false)), (51, .eq (.int .i64 (1))), (52, .eq (.bool false)), (53, (.rat0 w x)), (54, (.rat0 w y)), (55, .eq (.bool false)), (56, .eq (.bool false)), (57, .eq (.bool false)), (58, .eq (.bool false)), (59, (.rat0 w x)), (60, (.rat0 w z)), (61, (.rat (x + z))), (62, (.rat0 w y)), (63, (.rat0 w z)), (64, (.rat (y + z))), (65, .eq (.int .i64 (1))), (66, .eq (.int .i64 (1))), (67, .eq (.bool false)), (68, .eq (.bool false)), (69, .eq (.bool false)), (70, (.rat0 w x)), (71, (.rat0 w y)), (72, (.rat (x - y))), (73, .eq (.int .i64 (1))), (74, .eq (.int .i64 (1))), (75, .eq (.bool false)), (76, .eq (.bool false)), (77, .eq (.bool false)), (78, (.rat0 w x)), (79, (.rat0 w z)), (80, (.rat (x * z))), (81, (.rat0 w y)), (82, (.rat0 w z)), (83, (.rat (y * z))), (84, .eq (.int .i64 (1 * s))), (85, .eq (.int .i64 (1))), (86, (.rat0 w z)), (87, .eq (.int .i64 (s))), (88, .eq (.int .i64 (1 * s))), (89, .eq (.bool false)), (90, .eq (.bool false))] [false, false, false, false, false, false, false, false, false, false, false, false, false, false, false, false, false, false, false, false, false, false, false, false, false, false, false, false, false, false, false, false, false, false, false, false, true, true, true, true, true, true, true, true, true, true, true, true, true, true, true, true, true, true, true, true, true, true, true, true, true, true, true, true, true, true, true, true, true, true, true, true, true, true, true, true, true, true, true, true, true, true, true, true, true, true, true, true, true, true, true, false, false, false, false, false, false, false, false, false, false, false, false, false, false] mixed (by kernel_rfl) (by kernel_rfl) (by kernel_rfl) (fun _ _ h hb => h.trans (hb.mono h.size)) ((Below.refl _ _).drew) ⟨?_, ?_, ?_, ?_, ?_, ?_, ?_, ?_, ?_, ?_, ?_, ?_, ?_, ?_, ?_, ?_, ?_, ?_, ?_, ?_, ?_, ?_, ?_, ?_, ?_, ?_, ?_, ?_, ?_, ?_, ?_, ?_, ?_, ?_, ?_, ?_, ?_, ?_, ?_, ?_, ?_, ?_, ?_, ?_, ?_, ?_, ?_, ?_, ?_, ?_, ?_, ?_, ?_, ?_, ?_, trivial⟩ ?_
    · exact .moveC (.inl rfl) (.inl rfl) rfl (fun a w' hC hs => (hs 7 (by kernel_rfl)))
    · exact .value (.inl rfl) (by intro T e; cases e) rfl rfl (fun a w' hC hs hl => by
        have e0 : a.eval (.tmp 36) = (.int .i64 (1)) := (hl 36 (by kernel_rfl) (by kernel_rfl))
        simp only [execOp, e0]
        simp only [Act.eval]
        simp [go_sem] <;> rfl)
    · exact .move (.inl rfl) (.inl rfl) rfl (by kernel_rfl) (by kernel_rfl) rfl
    · exact .moveC (.inr ⟨2, false, 38, by decide, rfl, rfl, rfl⟩) (.inl rfl) rfl (fun a w' hC hs => (hs 7 (by kernel_rfl)))
    · exact .value (.inr ⟨2, false, 38, by decide, rfl, rfl, rfl⟩) (by intro T e; cases e) rfl rfl (fun a w' hC hs hl => by
        have e0 : a.eval (.tmp 39) = (.int .i64 (1)) := (hl 39 (by kernel_rfl) (by kernel_rfl))
        simp only [execOp, e0]
        simp only [Act.eval]
        simp [go_sem] <;> rfl)
    · exact .pick (b := false) (.inl rfl) rfl rfl (fun a w' hC hs hl => ⟨(hl 38 (by kernel_rfl) (by kernel_rfl)), (hl 40 (by kernel_rfl) (by kernel_rfl))⟩)
    · exact .move (.inl rfl) (.inl rfl) rfl (by kernel_rfl) (by kernel_rfl) rfl
    · exact .load (.agg #[.bool b2, .slice A2 n2 c2, .slice D2 m2 k2]) (.inr ⟨6, false, 42, by decide, rfl, rfl, rfl⟩) rfl rfl (fun a w' hC hs hl => by rw [show a.eval (.tmp 4) = (.pointer (some ⟨w.heap.size + 1, 0, none⟩) : Value) from (hs 4 (by kernel_rfl))]; exact ⟨ld_Rat_ ((K2.out.below' hC).at_ 0 rfl) ((K2.out.below' hC).at_ 1 rfl) ((K2.out.below' hC).at_ 2 rfl), a2.out⟩)
    · exact .load (.agg #[.bool b1, .slice A1 n1 c1, .slice D1 m1 k1]) (.inr ⟨6, false, 42, by decide, rfl, rfl, rfl⟩) rfl rfl (fun a w' hC hs hl => by rw [show a.eval (.tmp 3) = (.pointer (some ⟨w.heap.size, 0, none⟩) : Value) from (hs 3 (by kernel_rfl))]; exact ⟨ld_Rat_ ((K1.out.below' hC).at_ 0 rfl) ((K1.out.below' hC).at_ 1 rfl) ((K1.out.below' hC).at_ 2 rfl), a1.out⟩)
    · exact .call (.inr ⟨6, false, 42, by decide, rfl, rfl, rfl⟩) rfl rfl fn_rCmp (fun a w' hC hs hl => rCmp_eq (RCan.arg (RCan.below (hl 43 (by kernel_rfl) (by kernel_rfl)) (b0.out.trans (hC.mono b0.out.size))) (S2.out.up (by decide))) (RCan.arg (RCan.below (hl 44 (by kernel_rfl) (by kernel_rfl)) (b0.out.trans (hC.mono b0.out.size))) (S1.out.up (by decide))) (T.out.below (b0.out.trans (hC.mono b0.out.size))) (-1) (by have h0 := h0.out; exact cmpQ_lt (by first | exact h0 | exact h0.symm)))
    · exact .moveC (.inr ⟨6, false, 42, by decide, rfl, rfl, rfl⟩) (.inl rfl) rfl (fun a w' hC hs => (hs 7 (by kernel_rfl)))
    · exact .value (.inr ⟨6, false, 42, by decide, rfl, rfl, rfl⟩) (by intro T e; cases e) rfl rfl (fun a w' hC hs hl => by
        have e0 : a.eval (.tmp 46) = (.int .i64 (1)) := (hl 46 (by kernel_rfl) (by kernel_rfl))
        simp only [execOp, e0]
        skip
        simp [go_sem] <;> rfl)
    · exact .value (.inr ⟨6, false, 42, by decide, rfl, rfl, rfl⟩) (by intro T e; cases e) rfl rfl (fun a w' hC hs hl => by
        have e0 : a.eval (.tmp 45) = (.int .i64 (-1)) := (hl 45 (by kernel_rfl) (by kernel_rfl))
        have e1 : a.eval (.tmp 47) = (.int .i64 (-1)) := (hl 47 (by kernel_rfl) (by kernel_rfl))
        simp only [execOp, e0, e1]
        skip
        simp [go_sem] <;> rfl)
    · exact .pick (b := false) (.inl rfl) rfl rfl (fun a w' hC hs hl => ⟨(hl 42 (by kernel_rfl) (by kernel_rfl)), (hl 48 (by kernel_rfl) (by kernel_rfl))⟩)
    · exact .move (.inl rfl) (.inl rfl) rfl (by kernel_rfl) (by kernel_rfl) rfl
    · exact .moveC (.inr ⟨14, false, 50, by decide, rfl, rfl, rfl⟩) (.inl rfl) rfl (fun a w' hC hs => (hs 7 (by kernel_rfl)))
    · exact .value (.inr ⟨14, false, 50, by decide, rfl, rfl, rfl⟩) (by intro T e; cases e) rfl rfl (fun a w' hC hs hl => by
        have e0 : a.eval (.tmp 51) = (.int .i64 (1)) := (hl 51 (by kernel_rfl) (by kernel_rfl))
        simp only [execOp, e0]
        simp only [Act.eval]
        simp [go_sem] <;> rfl)
    · exact .load (.agg #[.bool b1, .slice A1 n1 c1, .slice D1 m1 k1]) (.inr ⟨14, false, 50, by decide, rfl, rfl, rfl⟩) rfl rfl (fun a w' hC hs hl => by rw [show a.eval (.tmp 3) = (.pointer (some ⟨w.heap.size, 0, none⟩) : Value) from (hs 3 (by kernel_rfl))]; exact ⟨ld_Rat_ ((K1.out.below' hC).at_ 0 rfl) ((K1.out.below' hC).at_ 1 rfl) ((K1.out.below' hC).at_ 2 rfl), a1.out⟩)
    · exact .load (.agg #[.bool b2, .slice A2 n2 c2, .slice D2 m2 k2]) (.inr ⟨14, false, 50, by decide, rfl, rfl, rfl⟩) rfl rfl (fun a w' hC hs hl => by rw [show a.eval (.tmp 4) = (.pointer (some ⟨w.heap.size + 1, 0, none⟩) : Value) from (hs 4 (by kernel_rfl))]; exact ⟨ld_Rat_ ((K2.out.below' hC).at_ 0 rfl) ((K2.out.below' hC).at_ 1 rfl) ((K2.out.below' hC).at_ 2 rfl), a2.out⟩)
    · exact .call (.inr ⟨14, false, 50, by decide, rfl, rfl, rfl⟩) rfl rfl fn_rsame (fun a w' hC hs hl => rsame_no (RCan.below (hl 53 (by kernel_rfl) (by kernel_rfl)) (b0.out.trans (hC.mono b0.out.size))) (RCan.below (hl 54 (by kernel_rfl) (by kernel_rfl)) (b0.out.trans (hC.mono b0.out.size))) (by have h0 := h0.out; grind))
    · exact .value (.inr ⟨14, false, 50, by decide, rfl, rfl, rfl⟩) (by intro T e; cases e) rfl rfl (fun a w' hC hs hl => by
        have e0 : a.eval (.tmp 52) = (.bool false) := (hl 52 (by kernel_rfl) (by kernel_rfl))
        have e1 : a.eval (.tmp 55) = (.bool false) := (hl 55 (by kernel_rfl) (by kernel_rfl))
        simp only [execOp, e0, e1]
        skip
        simp [go_sem] <;> rfl)
    · exact .pick (b := false) (.inl rfl) rfl rfl (fun a w' hC hs hl => ⟨(hl 50 (by kernel_rfl) (by kernel_rfl)), (hl 56 (by kernel_rfl) (by kernel_rfl))⟩)
    · exact .move (.inl rfl) (.inl rfl) rfl (by kernel_rfl) (by kernel_rfl) rfl
    · exact .load (.agg #[.bool b1, .slice A1 n1 c1, .slice D1 m1 k1]) (.inr ⟨22, false, 58, by decide, rfl, rfl, rfl⟩) rfl rfl (fun a w' hC hs hl => by rw [show a.eval (.tmp 3) = (.pointer (some ⟨w.heap.size, 0, none⟩) : Value) from (hs 3 (by kernel_rfl))]; exact ⟨ld_Rat_ ((K1.out.below' hC).at_ 0 rfl) ((K1.out.below' hC).at_ 1 rfl) ((K1.out.below' hC).at_ 2 rfl), a1.out⟩)
    · exact .load (.agg #[.bool b3, .slice A3 n3 c3, .slice D3 m3 k3]) (.inr ⟨22, false, 58, by decide, rfl, rfl, rfl⟩) rfl rfl (fun a w' hC hs hl => by rw [show a.eval (.tmp 5) = (.pointer (some ⟨w.heap.size + 1 + 1, 0, none⟩) : Value) from (hs 5 (by kernel_rfl))]; exact ⟨ld_Rat_ ((K3.out.below' hC).at_ 0 rfl) ((K3.out.below' hC).at_ 1 rfl) ((K3.out.below' hC).at_ 2 rfl), a3.out⟩)
    · exact .call (.inr ⟨22, false, 58, by decide, rfl, rfl, rfl⟩) rfl rfl fn_rAdd (fun a w' hC hs hl => rAdd_C (RCan.arg (RCan.below (hl 59 (by kernel_rfl) (by kernel_rfl)) (b0.out.trans (hC.mono b0.out.size))) (S1.out.up (by decide))) (RCan.arg (RCan.below (hl 60 (by kernel_rfl) (by kernel_rfl)) (b0.out.trans (hC.mono b0.out.size))) (S3.out.up (by decide))) (T.out.below (b0.out.trans (hC.mono b0.out.size))))
    · exact .load (.agg #[.bool b2, .slice A2 n2 c2, .slice D2 m2 k2]) (.inr ⟨22, false, 58, by decide, rfl, rfl, rfl⟩) rfl rfl (fun a w' hC hs hl => by rw [show a.eval (.tmp 4) = (.pointer (some ⟨w.heap.size + 1, 0, none⟩) : Value) from (hs 4 (by kernel_rfl))]; exact ⟨ld_Rat_ ((K2.out.below' hC).at_ 0 rfl) ((K2.out.below' hC).at_ 1 rfl) ((K2.out.below' hC).at_ 2 rfl), a2.out⟩)
    · exact .load (.agg #[.bool b3, .slice A3 n3 c3, .slice D3 m3 k3]) (.inr ⟨22, false, 58, by decide, rfl, rfl, rfl⟩) rfl rfl (fun a w' hC hs hl => by rw [show a.eval (.tmp 5) = (.pointer (some ⟨w.heap.size + 1 + 1, 0, none⟩) : Value) from (hs 5 (by kernel_rfl))]; exact ⟨ld_Rat_ ((K3.out.below' hC).at_ 0 rfl) ((K3.out.below' hC).at_ 1 rfl) ((K3.out.below' hC).at_ 2 rfl), a3.out⟩)
    · exact .call (.inr ⟨22, false, 58, by decide, rfl, rfl, rfl⟩) rfl rfl fn_rAdd (fun a w' hC hs hl => rAdd_C (RCan.arg (RCan.below (hl 62 (by kernel_rfl) (by kernel_rfl)) (b0.out.trans (hC.mono b0.out.size))) (S2.out.up (by decide))) (RCan.arg (RCan.below (hl 63 (by kernel_rfl) (by kernel_rfl)) (b0.out.trans (hC.mono b0.out.size))) (S3.out.up (by decide))) (T.out.below (b0.out.trans (hC.mono b0.out.size))))
    · exact .call (.inr ⟨22, false, 58, by decide, rfl, rfl, rfl⟩) rfl rfl fn_rCmp (fun a w' hC hs hl => rCmp_eq (RCan.arg (hl 61 (by kernel_rfl) (by kernel_rfl)) (Q1_.out.up (by decide))) (RCan.arg (hl 64 (by kernel_rfl) (by kernel_rfl)) (Q2_.out.up (by decide))) (T.out.below (b0.out.trans (hC.mono b0.out.size))) (1) (by have h0 := h0.out; exact cmpQ_gt (by grind)))
    · exact .moveC (.inr ⟨22, false, 58, by decide, rfl, rfl, rfl⟩) (.inl rfl) rfl (fun a w' hC hs => (hs 7 (by kernel_rfl)))
    · exact .value (.inr ⟨22, false, 58, by decide, rfl, rfl, rfl⟩) (by intro T e; cases e) rfl rfl (fun a w' hC hs hl => by
        have e0 : a.eval (.tmp 65) = (.int .i64 (1)) := (hl 65 (by kernel_rfl) (by kernel_rfl))
        have e1 : a.eval (.tmp 66) = (.int .i64 (1)) := (hl 66 (by kernel_rfl) (by kernel_rfl))
        simp only [execOp, e0, e1]
        skip
        simp [go_sem] <;> rfl)
    · exact .pick (b := false) (.inl rfl) rfl rfl (fun a w' hC hs hl => ⟨(hl 58 (by kernel_rfl) (by kernel_rfl)), (hl 67 (by kernel_rfl) (by kernel_rfl))⟩)
    · exact .move (.inl rfl) (.inl rfl) rfl (by kernel_rfl) (by kernel_rfl) rfl
    · exact .load (.agg #[.bool b1, .slice A1 n1 c1, .slice D1 m1 k1]) (.inr ⟨33, false, 69, by decide, rfl, rfl, rfl⟩) rfl rfl (fun a w' hC hs hl => by rw [show a.eval (.tmp 3) = (.pointer (some ⟨w.heap.size, 0, none⟩) : Value) from (hs 3 (by kernel_rfl))]; exact ⟨ld_Rat_ ((K1.out.below' hC).at_ 0 rfl) ((K1.out.below' hC).at_ 1 rfl) ((K1.out.below' hC).at_ 2 rfl), a1.out⟩)
    · exact .load (.agg #[.bool b2, .slice A2 n2 c2, .slice D2 m2 k2]) (.inr ⟨33, false, 69, by decide, rfl, rfl, rfl⟩) rfl rfl (fun a w' hC hs hl => by rw [show a.eval (.tmp 4) = (.pointer (some ⟨w.heap.size + 1, 0, none⟩) : Value) from (hs 4 (by kernel_rfl))]; exact ⟨ld_Rat_ ((K2.out.below' hC).at_ 0 rfl) ((K2.out.below' hC).at_ 1 rfl) ((K2.out.below' hC).at_ 2 rfl), a2.out⟩)
    · exact .call (.inr ⟨33, false, 69, by decide, rfl, rfl, rfl⟩) rfl rfl fn_rSub (fun a w' hC hs hl => rSub_C (RCan.arg (RCan.below (hl 70 (by kernel_rfl) (by kernel_rfl)) (b0.out.trans (hC.mono b0.out.size))) (S1.out.up (by decide))) (RCan.arg (RCan.below (hl 71 (by kernel_rfl) (by kernel_rfl)) (b0.out.trans (hC.mono b0.out.size))) (S2.out.up (by decide))) (T.out.below (b0.out.trans (hC.mono b0.out.size))))
    · exact .call (.inr ⟨33, false, 69, by decide, rfl, rfl, rfl⟩) rfl rfl fn_rSign (fun a w' hC hs hl => rSign_eq (RCan.arg (hl 72 (by kernel_rfl) (by kernel_rfl)) (Q3_.out.up (by decide))) (T.out.below (b0.out.trans (hC.mono b0.out.size))) (1) (by have h0 := h0.out; exact cmpQ_gt (by grind)))
    · exact .moveC (.inr ⟨33, false, 69, by decide, rfl, rfl, rfl⟩) (.inl rfl) rfl (fun a w' hC hs => (hs 7 (by kernel_rfl)))
    · exact .value (.inr ⟨33, false, 69, by decide, rfl, rfl, rfl⟩) (by intro T e; cases e) rfl rfl (fun a w' hC hs hl => by
        have e0 : a.eval (.tmp 73) = (.int .i64 (1)) := (hl 73 (by kernel_rfl) (by kernel_rfl))
        have e1 : a.eval (.tmp 74) = (.int .i64 (1)) := (hl 74 (by kernel_rfl) (by kernel_rfl))
        simp only [execOp, e0, e1]
        skip
        simp [go_sem] <;> rfl)
    · exact .pick (b := false) (.inl rfl) rfl rfl (fun a w' hC hs hl => ⟨(hl 69 (by kernel_rfl) (by kernel_rfl)), (hl 75 (by kernel_rfl) (by kernel_rfl))⟩)
    · exact .move (.inl rfl) (.inl rfl) rfl (by kernel_rfl) (by kernel_rfl) rfl
    · exact .load (.agg #[.bool b1, .slice A1 n1 c1, .slice D1 m1 k1]) (.inr ⟨41, false, 77, by decide, rfl, rfl, rfl⟩) rfl rfl (fun a w' hC hs hl => by rw [show a.eval (.tmp 3) = (.pointer (some ⟨w.heap.size, 0, none⟩) : Value) from (hs 3 (by kernel_rfl))]; exact ⟨ld_Rat_ ((K1.out.below' hC).at_ 0 rfl) ((K1.out.below' hC).at_ 1 rfl) ((K1.out.below' hC).at_ 2 rfl), a1.out⟩)
    · exact .load (.agg #[.bool b3, .slice A3 n3 c3, .slice D3 m3 k3]) (.inr ⟨41, false, 77, by decide, rfl, rfl, rfl⟩) rfl rfl (fun a w' hC hs hl => by rw [show a.eval (.tmp 5) = (.pointer (some ⟨w.heap.size + 1 + 1, 0, none⟩) : Value) from (hs 5 (by kernel_rfl))]; exact ⟨ld_Rat_ ((K3.out.below' hC).at_ 0 rfl) ((K3.out.below' hC).at_ 1 rfl) ((K3.out.below' hC).at_ 2 rfl), a3.out⟩)
    · exact .call (.inr ⟨41, false, 77, by decide, rfl, rfl, rfl⟩) rfl rfl fn_rMul (fun a w' hC hs hl => rMul_C (RCan.arg (RCan.below (hl 78 (by kernel_rfl) (by kernel_rfl)) (b0.out.trans (hC.mono b0.out.size))) (S1.out.up (by decide))) (RCan.arg (RCan.below (hl 79 (by kernel_rfl) (by kernel_rfl)) (b0.out.trans (hC.mono b0.out.size))) (S3.out.up (by decide))) (T.out.below (b0.out.trans (hC.mono b0.out.size))))
    · exact .load (.agg #[.bool b2, .slice A2 n2 c2, .slice D2 m2 k2]) (.inr ⟨41, false, 77, by decide, rfl, rfl, rfl⟩) rfl rfl (fun a w' hC hs hl => by rw [show a.eval (.tmp 4) = (.pointer (some ⟨w.heap.size + 1, 0, none⟩) : Value) from (hs 4 (by kernel_rfl))]; exact ⟨ld_Rat_ ((K2.out.below' hC).at_ 0 rfl) ((K2.out.below' hC).at_ 1 rfl) ((K2.out.below' hC).at_ 2 rfl), a2.out⟩)
    · exact .load (.agg #[.bool b3, .slice A3 n3 c3, .slice D3 m3 k3]) (.inr ⟨41, false, 77, by decide, rfl, rfl, rfl⟩) rfl rfl (fun a w' hC hs hl => by rw [show a.eval (.tmp 5) = (.pointer (some ⟨w.heap.size + 1 + 1, 0, none⟩) : Value) from (hs 5 (by kernel_rfl))]; exact ⟨ld_Rat_ ((K3.out.below' hC).at_ 0 rfl) ((K3.out.below' hC).at_ 1 rfl) ((K3.out.below' hC).at_ 2 rfl), a3.out⟩)
    · exact .call (.inr ⟨41, false, 77, by decide, rfl, rfl, rfl⟩) rfl rfl fn_rMul (fun a w' hC hs hl => rMul_C (RCan.arg (RCan.below (hl 81 (by kernel_rfl) (by kernel_rfl)) (b0.out.trans (hC.mono b0.out.size))) (S2.out.up (by decide))) (RCan.arg (RCan.below (hl 82 (by kernel_rfl) (by kernel_rfl)) (b0.out.trans (hC.mono b0.out.size))) (S3.out.up (by decide))) (T.out.below (b0.out.trans (hC.mono b0.out.size))))
    · exact .call (.inr ⟨41, false, 77, by decide, rfl, rfl, rfl⟩) rfl rfl fn_rCmp (fun a w' hC hs hl => rCmp_eq (RCan.arg (hl 80 (by kernel_rfl) (by kernel_rfl)) (Q4_.out.up (by decide))) (RCan.arg (hl 83 (by kernel_rfl) (by kernel_rfl)) (Q5_.out.up (by decide))) (T.out.below (b0.out.trans (hC.mono b0.out.size))) (1 * s) ((cmpQ_mul_gt h0.out).trans (by rw [es.out])))
    · exact .moveC (.inr ⟨41, false, 77, by decide, rfl, rfl, rfl⟩) (.inl rfl) rfl (fun a w' hC hs => (hs 7 (by kernel_rfl)))
    · exact .load (.agg #[.bool b3, .slice A3 n3 c3, .slice D3 m3 k3]) (.inr ⟨41, false, 77, by decide, rfl, rfl, rfl⟩) rfl rfl (fun a w' hC hs hl => by rw [show a.eval (.tmp 5) = (.pointer (some ⟨w.heap.size + 1 + 1, 0, none⟩) : Value) from (hs 5 (by kernel_rfl))]; exact ⟨ld_Rat_ ((K3.out.below' hC).at_ 0 rfl) ((K3.out.below' hC).at_ 1 rfl) ((K3.out.below' hC).at_ 2 rfl), a3.out⟩)
    · exact .call (.inr ⟨41, false, 77, by decide, rfl, rfl, rfl⟩) rfl rfl fn_rSign (fun a w' hC hs hl => rSign_eq (RCan.arg (RCan.below (hl 86 (by kernel_rfl) (by kernel_rfl)) (b0.out.trans (hC.mono b0.out.size))) (S3.out.up (by decide))) (T.out.below (b0.out.trans (hC.mono b0.out.size))) (s) (es.out))
    · exact .value (.inr ⟨41, false, 77, by decide, rfl, rfl, rfl⟩) (by intro T e; cases e) rfl rfl (fun a w' hC hs hl => by
        have e0 : a.eval (.tmp 85) = (.int .i64 (1)) := (hl 85 (by kernel_rfl) (by kernel_rfl))
        have e1 : a.eval (.tmp 87) = (.int .i64 (s)) := (hl 87 (by kernel_rfl) (by kernel_rfl))
        simp only [execOp, e0, e1]
        skip
        rcases hs3 with rfl | rfl | rfl <;> simp [go_sem] <;> rfl)
    · exact .value (.inr ⟨41, false, 77, by decide, rfl, rfl, rfl⟩) (by intro T e; cases e) rfl rfl (fun a w' hC hs hl => by
        have e0 : a.eval (.tmp 84) = (.int .i64 (1 * s)) := (hl 84 (by kernel_rfl) (by kernel_rfl))
        have e1 : a.eval (.tmp 88) = (.int .i64 (1 * s)) := (hl 88 (by kernel_rfl) (by kernel_rfl))
        simp only [execOp, e0, e1]
        skip
        simp [go_sem] <;> rfl)
    · exact .pick (b := false) (.inl rfl) rfl rfl (fun a w' hC hs hl => ⟨(hl 77 (by kernel_rfl) (by kernel_rfl)), (hl 89 (by kernel_rfl) (by kernel_rfl))⟩)
    intro f w7 hC hF _
    have f0 : f 90 = .bool false := hF 90 (by kernel_rfl)
    clear hF
    simp only [patch, List.drop]
    rw [f0]
    clear f0
    try change wpList _ _ _ [] _ _
    generalize f 36 = y36_ at *
    generalize f 37 = y37_ at *
    generalize f 38 = y38_ at *
    generalize f 39 = y39_ at *
    generalize f 40 = y40_ at *
    generalize f 41 = y41_ at *
    generalize f 42 = y42_ at *
    generalize f 43 = y43_ at *
    generalize f 44 = y44_ at *
    generalize f 45 = y45_ at *
    generalize f 46 = y46_ at *
    generalize f 47 = y47_ at *
    generalize f 48 = y48_ at *
    generalize f 49 = y49_ at *
    generalize f 50 = y50_ at *
    generalize f 51 = y51_ at *
    generalize f 52 = y52_ at *
    generalize f 53 = y53_ at *
    generalize f 54 = y54_ at *
    generalize f 55 = y55_ at *
    generalize f 56 = y56_ at *
    generalize f 57 = y57_ at *
    generalize f 58 = y58_ at *
    generalize f 59 = y59_ at *
    generalize f 60 = y60_ at *
    generalize f 61 = y61_ at *
    generalize f 62 = y62_ at *
    generalize f 63 = y63_ at *
    generalize f 64 = y64_ at *
    generalize f 65 = y65_ at *
    generalize f 66 = y66_ at *
    generalize f 67 = y67_ at *
    generalize f 68 = y68_ at *
    generalize f 69 = y69_ at *
    generalize f 70 = y70_ at *
    generalize f 71 = y71_ at *
    generalize f 72 = y72_ at *
    generalize f 73 = y73_ at *
    generalize f 74 = y74_ at *
    generalize f 75 = y75_ at *
    generalize f 76 = y76_ at *
    generalize f 77 = y77_ at *
    generalize f 78 = y78_ at *
    generalize f 79 = y79_ at *
    generalize f 80 = y80_ at *
    generalize f 81 = y81_ at *
    generalize f 82 = y82_ at *
    generalize f 83 = y83_ at *
    generalize f 84 = y84_ at *
    generalize f 85 = y85_ at *
    generalize f 86 = y86_ at *
    generalize f 87 = y87_ at *
    generalize f 88 = y88_ at *
    generalize f 89 = y89_ at *
    replace K1 := hide (K1.out.below' hC)
    replace K2 := hide (K2.out.below' hC)
    replace K3 := hide (K3.out.below' hC)
    replace b0 := hide (b0.out.trans (hC.mono b0.out.size))
    clear hC
    go_wp2
    exact opq_end hR ⟨rfl, b0⟩
end Go.Proofs.YtnpfochbpdfcmaaGreatDoor
