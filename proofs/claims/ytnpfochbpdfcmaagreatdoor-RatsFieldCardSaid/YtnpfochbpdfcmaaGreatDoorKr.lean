/- the laws of rats: RatsField. -/
import Derived.Test.YtnpfochbpdfcmaaGreatDoorKk
set_option linter.unusedVariables false
set_option linter.unusedSimpArgs false
set_option maxRecDepth 100000
namespace Go.Proofs.YtnpfochbpdfcmaaGreatDoor
open Go.RowKit

set_option maxHeartbeats 8000000 in
theorem RatsField_ok (w : World) (b1 : Bool) (A1 : Option Addr) (n1 c1 : Nat) (xs1 : List Nat) (D1 : Option Addr) (m1 k1 : Nat) (ys1 : List Nat) (b2 : Bool) (A2 : Option Addr) (n2 c2 : Nat) (xs2 : List Nat) (D2 : Option Addr) (m2 k2 : Nat) (ys2 : List Nat) (b3 : Bool) (A3 : Option Addr) (n3 c3 : Nat) (xs3 : List Nat) (D3 : Option Addr) (m3 k3 : Nat) (ys3 : List Nat) (h1 : Rd w A1 n1 xs1) (i1 : Is32 xs1) (l1 : n1 ≤ c1) (t1 : n1 ≤ 70368744177664) (h1' : Rd w D1 m1 ys1) (i1' : Is32 ys1) (l1' : m1 ≤ k1) (t1' : m1 ≤ 70368744177664) (h2 : Rd w A2 n2 xs2) (i2 : Is32 xs2) (l2 : n2 ≤ c2) (t2 : n2 ≤ 70368744177664) (h2' : Rd w D2 m2 ys2) (i2' : Is32 ys2) (l2' : m2 ≤ k2) (t2' : m2 ≤ 70368744177664) (h3 : Rd w A3 n3 xs3) (i3 : Is32 xs3) (l3 : n3 ≤ c3) (t3 : n3 ≤ 70368744177664) (h3' : Rd w D3 m3 ys3) (i3' : Is32 ys3) (l3' : m3 ≤ k3) (t3' : m3 ≤ 70368744177664) (hT : Tab w) (hM : MaxL w) :
    Calls Tryz.prog 5 #[.agg #[.bool b1, .slice A1 n1 c1, .slice D1 m1 k1], .agg #[.bool b2, .slice A2 n2 c2, .slice D2 m2 k2], .agg #[.bool b3, .slice A3 n3 c3, .slice D3 m3 k3]] w fun e w' => e = .returned (.bool true) ∧ Hid (Below w.heap.size w w') := by
  refine opq fun R hR => ?_
  have T := hide hT
  have M := hide hM
  clear hT hM
  replace h1 := hide h1
  replace i1 := hide i1
  replace h1' := hide h1'
  replace i1' := hide i1'
  replace h2 := hide h2
  replace i2 := hide i2
  replace h2' := hide h2'
  replace i2' := hide i2'
  replace h3 := hide h3
  replace i3 := hide i3
  replace h3' := hide h3'
  replace i3' := hide i3'
  go_enter Tryz.func5, Tryz.ntmps5
  have b0 := hide (Below.refl w.heap.size w)
  have K1 := hide (Blk.new_at w (w.heap.size) (by simp) 27 #[.bool b1, .slice A1 n1 c1, .slice D1 m1 k1])
  have y := (Below.refl w.heap.size w).alloc (Nat.le_refl _) (.cells #[.bool b1, .slice A1 n1 c1, .slice D1 m1 k1] 27)
  replace b0 := hide (below_tr b0.out y)
  clear y
  have K2 := hide (Blk.new_at (w.alloc (.cells #[.bool b1, .slice A1 n1 c1, .slice D1 m1 k1] 27)) (w.heap.size + 1) (by simp) 27 #[.bool b2, .slice A2 n2 c2, .slice D2 m2 k2])
  have y := (Below.refl (w.alloc (.cells #[.bool b1, .slice A1 n1 c1, .slice D1 m1 k1] 27)).heap.size (w.alloc (.cells #[.bool b1, .slice A1 n1 c1, .slice D1 m1 k1] 27))).alloc (Nat.le_refl _) (.cells #[.bool b2, .slice A2 n2 c2, .slice D2 m2 k2] 27)
  replace K1 := hide (K1.out.below' y)
  replace b0 := hide (below_tr b0.out y)
  clear y
  have K3 := hide (Blk.new_at ((w.alloc (.cells #[.bool b1, .slice A1 n1 c1, .slice D1 m1 k1] 27)).alloc (.cells #[.bool b2, .slice A2 n2 c2, .slice D2 m2 k2] 27)) (w.heap.size + 1 + 1) (by simp) 27 #[.bool b3, .slice A3 n3 c3, .slice D3 m3 k3])
  have y := (Below.refl ((w.alloc (.cells #[.bool b1, .slice A1 n1 c1, .slice D1 m1 k1] 27)).alloc (.cells #[.bool b2, .slice A2 n2 c2, .slice D2 m2 k2] 27)).heap.size ((w.alloc (.cells #[.bool b1, .slice A1 n1 c1, .slice D1 m1 k1] 27)).alloc (.cells #[.bool b2, .slice A2 n2 c2, .slice D2 m2 k2] 27))).alloc (Nat.le_refl _) (.cells #[.bool b3, .slice A3 n3 c3, .slice D3 m3 k3] 27)
  replace K1 := hide (K1.out.below' y)
  replace K2 := hide (K2.out.below' y)
  replace b0 := hide (below_tr b0.out y)
  clear y
  go_wp2_with fail
  refine (ralive_P _ (T.out.below b0.out) (M.out.below b0.out)).mono ?_
  rintro e w1 ⟨_, rfl, d0, rfl⟩
  replace K1 := hide (K1.out.below' d0)
  replace K2 := hide (K2.out.below' d0)
  replace K3 := hide (K3.out.below' d0)
  replace b0 := hide (below_tr b0.out d0)
  clear d0
  have K1c0 : w1.cell? ⟨w.heap.size, 0, none⟩ = some (.bool b1) := K1.out.at_ 0 rfl
  have K1c1 : w1.cell? ⟨w.heap.size, 1, none⟩ = some (.slice A1 n1 c1) := K1.out.at_ 1 rfl
  have K1c2 : w1.cell? ⟨w.heap.size, 2, none⟩ = some (.slice D1 m1 k1) := K1.out.at_ 2 rfl
  have K2c0 : w1.cell? ⟨w.heap.size + 1, 0, none⟩ = some (.bool b2) := K2.out.at_ 0 rfl
  have K2c1 : w1.cell? ⟨w.heap.size + 1, 1, none⟩ = some (.slice A2 n2 c2) := K2.out.at_ 1 rfl
  have K2c2 : w1.cell? ⟨w.heap.size + 1, 2, none⟩ = some (.slice D2 m2 k2) := K2.out.at_ 2 rfl
  have K3c0 : w1.cell? ⟨w.heap.size + 1 + 1, 0, none⟩ = some (.bool b3) := K3.out.at_ 0 rfl
  have K3c1 : w1.cell? ⟨w.heap.size + 1 + 1, 1, none⟩ = some (.slice A3 n3 c3) := K3.out.at_ 1 rfl
  have K3c2 : w1.cell? ⟨w.heap.size + 1 + 1, 2, none⟩ = some (.slice D3 m3 k3) := K3.out.at_ 2 rfl
  by_cases gg : 20 < n1 + m1 ∨ 20 < n2 + m2 ∨ 20 < n3 + m3
  case pos =>
    have y := (Below.refl w1.heap.size w1).alloc (Nat.le_refl _) (.cells #[.bool b1, .slice A1 n1 c1, .slice D1 m1 k1, .bool b2, .slice A2 n2 c2, .slice D2 m2 k2, .bool b3, .slice A3 n3 c3, .slice D3 m3 k3] 27)
    replace K1 := hide (K1.out.below' y)
    replace K2 := hide (K2.out.below' y)
    replace K3 := hide (K3.out.below' y)
    replace b0 := hide (below_tr b0.out y)
    clear y
    go_wp2_with fail
    refine (rgreat3 (w := w1) rfl 20 (by decide) t1 t1' t2 t2' t3 t3' true (by simp; omega)).mono ?_
    rintro e w2 ⟨_, rfl, d0, rfl⟩
    replace K1 := hide (K1.out.below' d0)
    replace K2 := hide (K2.out.below' d0)
    replace K3 := hide (K3.out.below' d0)
    replace b0 := hide (below_tr b0.out d0)
    clear d0
    go_wp2_with fail
    refine (ralive_P _ (T.out.below b0.out) (M.out.below b0.out)).mono ?_
    rintro e w3 ⟨_, rfl, d0, rfl⟩
    replace K1 := hide (K1.out.below' d0)
    replace K2 := hide (K2.out.below' d0)
    replace K3 := hide (K3.out.below' d0)
    replace b0 := hide (below_tr b0.out d0)
    clear d0
    go_wp2
    exact opq_end hR ⟨rfl, b0⟩
  have y := (Below.refl w1.heap.size w1).alloc (Nat.le_refl _) (.cells #[.bool b1, .slice A1 n1 c1, .slice D1 m1 k1, .bool b2, .slice A2 n2 c2, .slice D2 m2 k2, .bool b3, .slice A3 n3 c3, .slice D3 m3 k3] 27)
  replace K1 := hide (K1.out.below' y)
  replace K2 := hide (K2.out.below' y)
  replace K3 := hide (K3.out.below' y)
  replace b0 := hide (below_tr b0.out y)
  clear y
  go_wp2_with fail
  refine (rgreat3 (w := w1) rfl 20 (by decide) t1 t1' t2 t2' t3 t3' false (by simp; omega)).mono ?_
  rintro e w2 ⟨_, rfl, d0, rfl⟩
  replace K1 := hide (K1.out.below' d0)
  replace K2 := hide (K2.out.below' d0)
  replace K3 := hide (K3.out.below' d0)
  replace b0 := hide (below_tr b0.out d0)
  clear d0
  clear K1c0 K1c1 K1c2 K2c0 K2c1 K2c2 K3c0 K3c1 K3c2
  have K1c0 : w2.cell? ⟨w.heap.size, 0, none⟩ = some (.bool b1) := K1.out.at_ 0 rfl
  have K1c1 : w2.cell? ⟨w.heap.size, 1, none⟩ = some (.slice A1 n1 c1) := K1.out.at_ 1 rfl
  have K1c2 : w2.cell? ⟨w.heap.size, 2, none⟩ = some (.slice D1 m1 k1) := K1.out.at_ 2 rfl
  have K2c0 : w2.cell? ⟨w.heap.size + 1, 0, none⟩ = some (.bool b2) := K2.out.at_ 0 rfl
  have K2c1 : w2.cell? ⟨w.heap.size + 1, 1, none⟩ = some (.slice A2 n2 c2) := K2.out.at_ 1 rfl
  have K2c2 : w2.cell? ⟨w.heap.size + 1, 2, none⟩ = some (.slice D2 m2 k2) := K2.out.at_ 2 rfl
  have K3c0 : w2.cell? ⟨w.heap.size + 1 + 1, 0, none⟩ = some (.bool b3) := K3.out.at_ 0 rfl
  have K3c1 : w2.cell? ⟨w.heap.size + 1 + 1, 1, none⟩ = some (.slice A3 n3 c3) := K3.out.at_ 1 rfl
  have K3c2 : w2.cell? ⟨w.heap.size + 1 + 1, 2, none⟩ = some (.slice D3 m3 k3) := K3.out.at_ 2 rfl
  have P1 := hide (rprt_of b1 h1.out i1.out l1 (by omega) h1'.out i1'.out l1' (by omega))
  have S1 : Hid (H (rv b1 xs1 ys1) 20) := H_rv i1.out i1'.out (by rw [h1.out.1]; omega) (by rw [h1'.out.1]; omega) (by decide)
  have P2 := hide (rprt_of b2 h2.out i2.out l2 (by omega) h2'.out i2'.out l2' (by omega))
  have S2 : Hid (H (rv b2 xs2 ys2) 20) := H_rv i2.out i2'.out (by rw [h2.out.1]; omega) (by rw [h2'.out.1]; omega) (by decide)
  have P3 := hide (rprt_of b3 h3.out i3.out l3 (by omega) h3'.out i3'.out l3' (by omega))
  have S3 : Hid (H (rv b3 xs3 ys3) 20) := H_rv i3.out i3'.out (by rw [h3.out.1]; omega) (by rw [h3'.out.1]; omega) (by decide)
  have a1 := hide (P1.out.arg (by rw [h1.out.1]; omega) (by rw [h1'.out.1]; omega))
  clear P1 h1 i1 h1' i1' 
  generalize rv b1 xs1 ys1 = x at *
  have a2 := hide (P2.out.arg (by rw [h2.out.1]; omega) (by rw [h2'.out.1]; omega))
  clear P2 h2 i2 h2' i2' 
  generalize rv b2 xs2 ys2 = y at *
  have a3 := hide (P3.out.arg (by rw [h3.out.1]; omega) (by rw [h3'.out.1]; omega))
  clear P3 h3 i3 h3' i3' 
  generalize rv b3 xs3 ys3 = z at *
  clear gg
  clear K1c0 K1c1 K1c2 K2c0 K2c1 K2c2 K3c0 K3c1 K3c2
  have K1c0 : w2.cell? ⟨w.heap.size, 0, none⟩ = some (.bool b1) := K1.out.at_ 0 rfl
  have K1c1 : w2.cell? ⟨w.heap.size, 1, none⟩ = some (.slice A1 n1 c1) := K1.out.at_ 1 rfl
  have K1c2 : w2.cell? ⟨w.heap.size, 2, none⟩ = some (.slice D1 m1 k1) := K1.out.at_ 2 rfl
  have K2c0 : w2.cell? ⟨w.heap.size + 1, 0, none⟩ = some (.bool b2) := K2.out.at_ 0 rfl
  have K2c1 : w2.cell? ⟨w.heap.size + 1, 1, none⟩ = some (.slice A2 n2 c2) := K2.out.at_ 1 rfl
  have K2c2 : w2.cell? ⟨w.heap.size + 1, 2, none⟩ = some (.slice D2 m2 k2) := K2.out.at_ 2 rfl
  have K3c0 : w2.cell? ⟨w.heap.size + 1 + 1, 0, none⟩ = some (.bool b3) := K3.out.at_ 0 rfl
  have K3c1 : w2.cell? ⟨w.heap.size + 1 + 1, 1, none⟩ = some (.slice A3 n3 c3) := K3.out.at_ 1 rfl
  have K3c2 : w2.cell? ⟨w.heap.size + 1 + 1, 2, none⟩ = some (.slice D3 m3 k3) := K3.out.at_ 2 rfl
  have Q1_ : Hid (H ((x + y)) 41) := H_add S1.out S2.out (by decide)
  go_wp2_with fail
  refine (rAdd_C (a1.out.below b0.out) (a2.out.below b0.out) (T.out.below b0.out)).mono ?_
  rintro e w3 ⟨v7, rfl, d0, r7⟩
  replace K1 := hide (K1.out.below' d0)
  replace K2 := hide (K2.out.below' d0)
  replace K3 := hide (K3.out.below' d0)
  replace b0 := hide (below_tr b0.out d0)
  have s := hide (r7)
  clear d0
  clear r7
  obtain ⟨b7, A7, n7, c7, D7, m7, k7, rfl⟩ := s.out.slice
  have K7 := hide (Blk.new_at w3 (w3.heap.size) (by simp) 27 #[.bool b7, .slice A7 n7 c7, .slice D7 m7 k7])
  have y := (Below.refl w3.heap.size w3).alloc (Nat.le_refl _) (.cells #[.bool b7, .slice A7 n7 c7, .slice D7 m7 k7] 27)
  replace K1 := hide (K1.out.below' y)
  replace K2 := hide (K2.out.below' y)
  replace K3 := hide (K3.out.below' y)
  replace s := hide (s.out.below y)
  replace b0 := hide (below_tr b0.out y)
  clear y
  clear K1c0 K1c1 K1c2 K2c0 K2c1 K2c2 K3c0 K3c1 K3c2
  have K1c0 : (w3.alloc (.cells #[.bool b7, .slice A7 n7 c7, .slice D7 m7 k7] 27)).cell? ⟨w.heap.size, 0, none⟩ = some (.bool b1) := K1.out.at_ 0 rfl
  have K1c1 : (w3.alloc (.cells #[.bool b7, .slice A7 n7 c7, .slice D7 m7 k7] 27)).cell? ⟨w.heap.size, 1, none⟩ = some (.slice A1 n1 c1) := K1.out.at_ 1 rfl
  have K1c2 : (w3.alloc (.cells #[.bool b7, .slice A7 n7 c7, .slice D7 m7 k7] 27)).cell? ⟨w.heap.size, 2, none⟩ = some (.slice D1 m1 k1) := K1.out.at_ 2 rfl
  have K2c0 : (w3.alloc (.cells #[.bool b7, .slice A7 n7 c7, .slice D7 m7 k7] 27)).cell? ⟨w.heap.size + 1, 0, none⟩ = some (.bool b2) := K2.out.at_ 0 rfl
  have K2c1 : (w3.alloc (.cells #[.bool b7, .slice A7 n7 c7, .slice D7 m7 k7] 27)).cell? ⟨w.heap.size + 1, 1, none⟩ = some (.slice A2 n2 c2) := K2.out.at_ 1 rfl
  have K2c2 : (w3.alloc (.cells #[.bool b7, .slice A7 n7 c7, .slice D7 m7 k7] 27)).cell? ⟨w.heap.size + 1, 2, none⟩ = some (.slice D2 m2 k2) := K2.out.at_ 2 rfl
  have K3c0 : (w3.alloc (.cells #[.bool b7, .slice A7 n7 c7, .slice D7 m7 k7] 27)).cell? ⟨w.heap.size + 1 + 1, 0, none⟩ = some (.bool b3) := K3.out.at_ 0 rfl
  have K3c1 : (w3.alloc (.cells #[.bool b7, .slice A7 n7 c7, .slice D7 m7 k7] 27)).cell? ⟨w.heap.size + 1 + 1, 1, none⟩ = some (.slice A3 n3 c3) := K3.out.at_ 1 rfl
  have K3c2 : (w3.alloc (.cells #[.bool b7, .slice A7 n7 c7, .slice D7 m7 k7] 27)).cell? ⟨w.heap.size + 1 + 1, 2, none⟩ = some (.slice D3 m3 k3) := K3.out.at_ 2 rfl
  have Q2_ : Hid (H ((x * y)) 40) := H_mul S1.out S2.out (by decide)
  go_wp2_with fail
  refine (rMul_C (a1.out.below b0.out) (a2.out.below b0.out) (T.out.below b0.out)).mono ?_
  rintro e w4 ⟨v8, rfl, d0, r8⟩
  replace K1 := hide (K1.out.below' d0)
  replace K2 := hide (K2.out.below' d0)
  replace K3 := hide (K3.out.below' d0)
  replace s := hide (s.out.below d0)
  replace K7 := hide (K7.out.below' d0)
  replace b0 := hide (below_tr b0.out d0)
  have p := hide (r8)
  clear d0
  clear r8
  obtain ⟨b8, A8, n8, c8, D8, m8, k8, rfl⟩ := p.out.slice
  clear K1c0 K1c1 K1c2 K2c0 K2c1 K2c2 K3c0 K3c1 K3c2
  have K8 := hide (Blk.new_at w4 (w4.heap.size) (by simp) 27 #[.bool b8, .slice A8 n8 c8, .slice D8 m8 k8])
  have y := (Below.refl w4.heap.size w4).alloc (Nat.le_refl _) (.cells #[.bool b8, .slice A8 n8 c8, .slice D8 m8 k8] 27)
  replace K1 := hide (K1.out.below' y)
  replace K2 := hide (K2.out.below' y)
  replace K3 := hide (K3.out.below' y)
  replace s := hide (s.out.below y)
  replace K7 := hide (K7.out.below' y)
  replace p := hide (p.out.below y)
  replace b0 := hide (below_tr b0.out y)
  clear y
  go_wp2
  obtain ⟨V1_4, hV⟩ : ∃ V, (w4.alloc (.cells #[.bool b8, .slice A8 n8 c8, .slice D8 m8 k8] 27)) = V := ⟨_, rfl⟩
  rw [hV] at K1 K2 K3 s K7 p K8 b0
  rw [hV]
  clear hV
  have Q3_ : Hid (H ((y + x)) 41) := H_add S2.out S1.out (by decide)
  have Q4_ : Hid (H ((y * x)) 40) := H_mul S2.out S1.out (by decide)
  have Q5_ : Hid (H (((x + y) + z)) 62) := H_add Q1_.out S3.out (by decide)
  have Q6_ : Hid (H ((y + z)) 41) := H_add S2.out S3.out (by decide)
  have Q7_ : Hid (H ((x + (y + z))) 62) := H_add S1.out Q6_.out (by decide)
  have Q8_ : Hid (H (((x * y) * z)) 60) := H_mul Q2_.out S3.out (by decide)
  have Q9_ : Hid (H ((y * z)) 40) := H_mul S2.out S3.out (by decide)
  have Q10_ : Hid (H ((x * (y * z))) 60) := H_mul S1.out Q9_.out (by decide)
  have Q11_ : Hid (H (((x + y) * z)) 61) := H_mul Q1_.out S3.out (by decide)
  have Q12_ : Hid (H ((x * z)) 40) := H_mul S1.out S3.out (by decide)
  have Q13_ : Hid (H (((x * z) + (y * z))) 81) := H_add Q12_.out Q9_.out (by decide)
  refine wp_region_facts 56 (fun w' => Below V1_4.heap.size V1_4 w') [(25, (.rat0 V1_4 (x + y))), (26, .eq (.bool true)), (27, .eq (.bool true)), (28, (.rat0 V1_4 (x * y))), (29, .eq (.bool true)), (30, .eq (.bool true)), (31, .eq (.bool true)), (32, (.rat0 V1_4 (x + y))), (33, (.rarg0 w y)), (34, (.rarg0 w x)), (35, (.rat (y + x))), (36, .eq (.bool true)), (37, .eq (.bool true)), (38, .eq (.bool true)), (39, (.rat0 V1_4 (x * y))), (40, (.rarg0 w y)), (41, (.rarg0 w x)), (42, (.rat (y * x))), (43, .eq (.bool true)), (44, .eq (.bool true)), (45, .eq (.bool true)), (46, (.rat0 V1_4 (x + y))), (47, (.rarg0 w z)), (48, (.rat ((x + y) + z))), (49, (.rarg0 w x)), (50, (.rarg0 w y)), (51, (.rarg0 w z)), (52, (.rat (y + z))), (53, (.rat (x + (y + z)))), (54, .eq (.bool true)), (55, .eq (.bool true)), (56, .eq (.bool true)), (57, (.rat0 V1_4 (x * y))), (58, (.rarg0 w z)), (59, (.rat ((x * y) * z))), (60, (.rarg0 w x)), (61, (.rarg0 w y)), (62, (.rarg0 w z)), (63, (.rat (y * z))), (64, (.rat (x * (y * z)))), (65, .eq (.bool true)), (66, .eq (.bool true)), (67, .eq (.bool true)), (68, (.rat0 V1_4 (x + y))), (69, (.rarg0 w z)), (70, (.rat ((x + y) * z))), (71, (.rarg0 w x)), (72, (.rarg0 w z)), (73, (.rat (x * z))), (74, (.rarg0 w y)), (75, (.rarg0 w z)), (76, (.rat (y * z))), (77, (.rat ((x * z) + (y * z)))), (78, .eq (.bool true)), (79, .eq (.bool true)), (6, .eq (.bool true))] [false, false, false, false, false, false, true, false, false, false, false, false, false, false, false, false, false, false, false, false, false, false, false, false, false, true, true, true, true, true, true, true, true, true, true, true, true, true, true, true, true, true, true, true, true, true, true, true, true, true, true, true, true, true, true, true, true, true, true, true, true, true, true, true, true, true, true, true, true, true, true, true, true, true, true, true, true, true, true, true] mixed (by kernel_rfl) (by kernel_rfl) (by kernel_rfl) (fun _ _ h hb => h.trans (hb.mono h.size)) ((Below.refl _ _).drew) ⟨?_, ?_, ?_, ?_, ?_, ?_, ?_, ?_, ?_, ?_, ?_, ?_, ?_, ?_, ?_, ?_, ?_, ?_, ?_, ?_, ?_, ?_, ?_, ?_, ?_, ?_, ?_, ?_, ?_, ?_, ?_, ?_, ?_, ?_, ?_, ?_, ?_, ?_, ?_, ?_, ?_, ?_, ?_, ?_, ?_, ?_, ?_, ?_, ?_, ?_, ?_, ?_, ?_, ?_, ?_, ?_, trivial⟩ ?_
  · exact .load (.agg #[.bool b7, .slice A7 n7 c7, .slice D7 m7 k7]) (.inl rfl) rfl rfl (fun a w' hC hs hl => by rw [show a.eval (.tmp 7) = (.pointer (some ⟨w3.heap.size, 0, none⟩) : Value) from (hs 7 (by kernel_rfl))]; exact ⟨ld_Rat_ ((K7.out.below' hC).at_ 0 rfl) ((K7.out.below' hC).at_ 1 rfl) ((K7.out.below' hC).at_ 2 rfl), s.out⟩)
  · exact .call (.inl rfl) rfl rfl fn_rCheck (fun a w' hC hs hl => rCheck_can (RCan.below (hl 25 (by kernel_rfl) (by kernel_rfl)) hC) (Q1_.out.up (by decide)) (T.out.below (b0.out.trans (hC.mono b0.out.size))))
  · exact .move (.inl rfl) (.inl rfl) rfl (by kernel_rfl) (by kernel_rfl) rfl
  · exact .load (.agg #[.bool b8, .slice A8 n8 c8, .slice D8 m8 k8]) (.inr ⟨2, true, 27, by decide, rfl, rfl, rfl⟩) rfl rfl (fun a w' hC hs hl => by rw [show a.eval (.tmp 8) = (.pointer (some ⟨w4.heap.size, 0, none⟩) : Value) from (hs 8 (by kernel_rfl))]; exact ⟨ld_Rat_ ((K8.out.below' hC).at_ 0 rfl) ((K8.out.below' hC).at_ 1 rfl) ((K8.out.below' hC).at_ 2 rfl), p.out⟩)
  · exact .call (.inr ⟨2, true, 27, by decide, rfl, rfl, rfl⟩) rfl rfl fn_rCheck (fun a w' hC hs hl => rCheck_can (RCan.below (hl 28 (by kernel_rfl) (by kernel_rfl)) hC) (Q2_.out.up (by decide)) (T.out.below (b0.out.trans (hC.mono b0.out.size))))
  · exact .pick (b := true) (.inl rfl) rfl rfl (fun a w' hC hs hl => ⟨(hl 27 (by kernel_rfl) (by kernel_rfl)), (hl 29 (by kernel_rfl) (by kernel_rfl))⟩)
  · exact .move (.inl rfl) (.inl rfl) rfl (by kernel_rfl) (by kernel_rfl) rfl
  · exact .load (.agg #[.bool b7, .slice A7 n7 c7, .slice D7 m7 k7]) (.inr ⟨6, true, 31, by decide, rfl, rfl, rfl⟩) rfl rfl (fun a w' hC hs hl => by rw [show a.eval (.tmp 7) = (.pointer (some ⟨w3.heap.size, 0, none⟩) : Value) from (hs 7 (by kernel_rfl))]; exact ⟨ld_Rat_ ((K7.out.below' hC).at_ 0 rfl) ((K7.out.below' hC).at_ 1 rfl) ((K7.out.below' hC).at_ 2 rfl), s.out⟩)
  · exact .load (.agg #[.bool b2, .slice A2 n2 c2, .slice D2 m2 k2]) (.inr ⟨6, true, 31, by decide, rfl, rfl, rfl⟩) rfl rfl (fun a w' hC hs hl => by rw [show a.eval (.tmp 4) = (.pointer (some ⟨w.heap.size + 1, 0, none⟩) : Value) from (hs 4 (by kernel_rfl))]; exact ⟨ld_Rat_ ((K2.out.below' hC).at_ 0 rfl) ((K2.out.below' hC).at_ 1 rfl) ((K2.out.below' hC).at_ 2 rfl), a2.out⟩)
  · exact .load (.agg #[.bool b1, .slice A1 n1 c1, .slice D1 m1 k1]) (.inr ⟨6, true, 31, by decide, rfl, rfl, rfl⟩) rfl rfl (fun a w' hC hs hl => by rw [show a.eval (.tmp 3) = (.pointer (some ⟨w.heap.size, 0, none⟩) : Value) from (hs 3 (by kernel_rfl))]; exact ⟨ld_Rat_ ((K1.out.below' hC).at_ 0 rfl) ((K1.out.below' hC).at_ 1 rfl) ((K1.out.below' hC).at_ 2 rfl), a1.out⟩)
  · exact .call (.inr ⟨6, true, 31, by decide, rfl, rfl, rfl⟩) rfl rfl fn_rAdd (fun a w' hC hs hl => rAdd_C (RArg.below (hl 33 (by kernel_rfl) (by kernel_rfl)) (b0.out.trans (hC.mono b0.out.size))) (RArg.below (hl 34 (by kernel_rfl) (by kernel_rfl)) (b0.out.trans (hC.mono b0.out.size))) (T.out.below (b0.out.trans (hC.mono b0.out.size))))
  · exact .call (.inr ⟨6, true, 31, by decide, rfl, rfl, rfl⟩) rfl rfl fn_rsame (fun a w' hC hs hl => rsame_yes (RCan.below (hl 32 (by kernel_rfl) (by kernel_rfl)) hC) (hl 35 (by kernel_rfl) (by kernel_rfl)) (by grind))
  · exact .pick (b := true) (.inl rfl) rfl rfl (fun a w' hC hs hl => ⟨(hl 31 (by kernel_rfl) (by kernel_rfl)), (hl 36 (by kernel_rfl) (by kernel_rfl))⟩)
  · exact .move (.inl rfl) (.inl rfl) rfl (by kernel_rfl) (by kernel_rfl) rfl
  · exact .load (.agg #[.bool b8, .slice A8 n8 c8, .slice D8 m8 k8]) (.inr ⟨13, true, 38, by decide, rfl, rfl, rfl⟩) rfl rfl (fun a w' hC hs hl => by rw [show a.eval (.tmp 8) = (.pointer (some ⟨w4.heap.size, 0, none⟩) : Value) from (hs 8 (by kernel_rfl))]; exact ⟨ld_Rat_ ((K8.out.below' hC).at_ 0 rfl) ((K8.out.below' hC).at_ 1 rfl) ((K8.out.below' hC).at_ 2 rfl), p.out⟩)
  · exact .load (.agg #[.bool b2, .slice A2 n2 c2, .slice D2 m2 k2]) (.inr ⟨13, true, 38, by decide, rfl, rfl, rfl⟩) rfl rfl (fun a w' hC hs hl => by rw [show a.eval (.tmp 4) = (.pointer (some ⟨w.heap.size + 1, 0, none⟩) : Value) from (hs 4 (by kernel_rfl))]; exact ⟨ld_Rat_ ((K2.out.below' hC).at_ 0 rfl) ((K2.out.below' hC).at_ 1 rfl) ((K2.out.below' hC).at_ 2 rfl), a2.out⟩)
  · exact .load (.agg #[.bool b1, .slice A1 n1 c1, .slice D1 m1 k1]) (.inr ⟨13, true, 38, by decide, rfl, rfl, rfl⟩) rfl rfl (fun a w' hC hs hl => by rw [show a.eval (.tmp 3) = (.pointer (some ⟨w.heap.size, 0, none⟩) : Value) from (hs 3 (by kernel_rfl))]; exact ⟨ld_Rat_ ((K1.out.below' hC).at_ 0 rfl) ((K1.out.below' hC).at_ 1 rfl) ((K1.out.below' hC).at_ 2 rfl), a1.out⟩)
  · exact .call (.inr ⟨13, true, 38, by decide, rfl, rfl, rfl⟩) rfl rfl fn_rMul (fun a w' hC hs hl => rMul_C (RArg.below (hl 40 (by kernel_rfl) (by kernel_rfl)) (b0.out.trans (hC.mono b0.out.size))) (RArg.below (hl 41 (by kernel_rfl) (by kernel_rfl)) (b0.out.trans (hC.mono b0.out.size))) (T.out.below (b0.out.trans (hC.mono b0.out.size))))
  · exact .call (.inr ⟨13, true, 38, by decide, rfl, rfl, rfl⟩) rfl rfl fn_rsame (fun a w' hC hs hl => rsame_yes (RCan.below (hl 39 (by kernel_rfl) (by kernel_rfl)) hC) (hl 42 (by kernel_rfl) (by kernel_rfl)) (by grind))
  · exact .pick (b := true) (.inl rfl) rfl rfl (fun a w' hC hs hl => ⟨(hl 38 (by kernel_rfl) (by kernel_rfl)), (hl 43 (by kernel_rfl) (by kernel_rfl))⟩)
  · exact .move (.inl rfl) (.inl rfl) rfl (by kernel_rfl) (by kernel_rfl) rfl
  · exact .load (.agg #[.bool b7, .slice A7 n7 c7, .slice D7 m7 k7]) (.inr ⟨20, true, 45, by decide, rfl, rfl, rfl⟩) rfl rfl (fun a w' hC hs hl => by rw [show a.eval (.tmp 7) = (.pointer (some ⟨w3.heap.size, 0, none⟩) : Value) from (hs 7 (by kernel_rfl))]; exact ⟨ld_Rat_ ((K7.out.below' hC).at_ 0 rfl) ((K7.out.below' hC).at_ 1 rfl) ((K7.out.below' hC).at_ 2 rfl), s.out⟩)
  · exact .load (.agg #[.bool b3, .slice A3 n3 c3, .slice D3 m3 k3]) (.inr ⟨20, true, 45, by decide, rfl, rfl, rfl⟩) rfl rfl (fun a w' hC hs hl => by rw [show a.eval (.tmp 5) = (.pointer (some ⟨w.heap.size + 1 + 1, 0, none⟩) : Value) from (hs 5 (by kernel_rfl))]; exact ⟨ld_Rat_ ((K3.out.below' hC).at_ 0 rfl) ((K3.out.below' hC).at_ 1 rfl) ((K3.out.below' hC).at_ 2 rfl), a3.out⟩)
  · exact .call (.inr ⟨20, true, 45, by decide, rfl, rfl, rfl⟩) rfl rfl fn_rAdd (fun a w' hC hs hl => rAdd_C (RCan.arg (RCan.below (hl 46 (by kernel_rfl) (by kernel_rfl)) hC) (Q1_.out.up (by decide))) (RArg.below (hl 47 (by kernel_rfl) (by kernel_rfl)) (b0.out.trans (hC.mono b0.out.size))) (T.out.below (b0.out.trans (hC.mono b0.out.size))))
  · exact .load (.agg #[.bool b1, .slice A1 n1 c1, .slice D1 m1 k1]) (.inr ⟨20, true, 45, by decide, rfl, rfl, rfl⟩) rfl rfl (fun a w' hC hs hl => by rw [show a.eval (.tmp 3) = (.pointer (some ⟨w.heap.size, 0, none⟩) : Value) from (hs 3 (by kernel_rfl))]; exact ⟨ld_Rat_ ((K1.out.below' hC).at_ 0 rfl) ((K1.out.below' hC).at_ 1 rfl) ((K1.out.below' hC).at_ 2 rfl), a1.out⟩)
  · exact .load (.agg #[.bool b2, .slice A2 n2 c2, .slice D2 m2 k2]) (.inr ⟨20, true, 45, by decide, rfl, rfl, rfl⟩) rfl rfl (fun a w' hC hs hl => by rw [show a.eval (.tmp 4) = (.pointer (some ⟨w.heap.size + 1, 0, none⟩) : Value) from (hs 4 (by kernel_rfl))]; exact ⟨ld_Rat_ ((K2.out.below' hC).at_ 0 rfl) ((K2.out.below' hC).at_ 1 rfl) ((K2.out.below' hC).at_ 2 rfl), a2.out⟩)
  · exact .load (.agg #[.bool b3, .slice A3 n3 c3, .slice D3 m3 k3]) (.inr ⟨20, true, 45, by decide, rfl, rfl, rfl⟩) rfl rfl (fun a w' hC hs hl => by rw [show a.eval (.tmp 5) = (.pointer (some ⟨w.heap.size + 1 + 1, 0, none⟩) : Value) from (hs 5 (by kernel_rfl))]; exact ⟨ld_Rat_ ((K3.out.below' hC).at_ 0 rfl) ((K3.out.below' hC).at_ 1 rfl) ((K3.out.below' hC).at_ 2 rfl), a3.out⟩)
  · exact .call (.inr ⟨20, true, 45, by decide, rfl, rfl, rfl⟩) rfl rfl fn_rAdd (fun a w' hC hs hl => rAdd_C (RArg.below (hl 50 (by kernel_rfl) (by kernel_rfl)) (b0.out.trans (hC.mono b0.out.size))) (RArg.below (hl 51 (by kernel_rfl) (by kernel_rfl)) (b0.out.trans (hC.mono b0.out.size))) (T.out.below (b0.out.trans (hC.mono b0.out.size))))
  · exact .call (.inr ⟨20, true, 45, by decide, rfl, rfl, rfl⟩) rfl rfl fn_rAdd (fun a w' hC hs hl => rAdd_C (RArg.below (hl 49 (by kernel_rfl) (by kernel_rfl)) (b0.out.trans (hC.mono b0.out.size))) (RCan.arg (hl 52 (by kernel_rfl) (by kernel_rfl)) (Q6_.out.up (by decide))) (T.out.below (b0.out.trans (hC.mono b0.out.size))))
  · exact .call (.inr ⟨20, true, 45, by decide, rfl, rfl, rfl⟩) rfl rfl fn_rsame (fun a w' hC hs hl => rsame_yes (hl 48 (by kernel_rfl) (by kernel_rfl)) (hl 53 (by kernel_rfl) (by kernel_rfl)) (by grind))
  · exact .pick (b := true) (.inl rfl) rfl rfl (fun a w' hC hs hl => ⟨(hl 45 (by kernel_rfl) (by kernel_rfl)), (hl 54 (by kernel_rfl) (by kernel_rfl))⟩)
  · exact .move (.inl rfl) (.inl rfl) rfl (by kernel_rfl) (by kernel_rfl) rfl
  · exact .load (.agg #[.bool b8, .slice A8 n8 c8, .slice D8 m8 k8]) (.inr ⟨31, true, 56, by decide, rfl, rfl, rfl⟩) rfl rfl (fun a w' hC hs hl => by rw [show a.eval (.tmp 8) = (.pointer (some ⟨w4.heap.size, 0, none⟩) : Value) from (hs 8 (by kernel_rfl))]; exact ⟨ld_Rat_ ((K8.out.below' hC).at_ 0 rfl) ((K8.out.below' hC).at_ 1 rfl) ((K8.out.below' hC).at_ 2 rfl), p.out⟩)
  · exact .load (.agg #[.bool b3, .slice A3 n3 c3, .slice D3 m3 k3]) (.inr ⟨31, true, 56, by decide, rfl, rfl, rfl⟩) rfl rfl (fun a w' hC hs hl => by rw [show a.eval (.tmp 5) = (.pointer (some ⟨w.heap.size + 1 + 1, 0, none⟩) : Value) from (hs 5 (by kernel_rfl))]; exact ⟨ld_Rat_ ((K3.out.below' hC).at_ 0 rfl) ((K3.out.below' hC).at_ 1 rfl) ((K3.out.below' hC).at_ 2 rfl), a3.out⟩)
  · exact .call (.inr ⟨31, true, 56, by decide, rfl, rfl, rfl⟩) rfl rfl fn_rMul (fun a w' hC hs hl => rMul_C (RCan.arg (RCan.below (hl 57 (by kernel_rfl) (by kernel_rfl)) hC) (Q2_.out.up (by decide))) (RArg.below (hl 58 (by kernel_rfl) (by kernel_rfl)) (b0.out.trans (hC.mono b0.out.size))) (T.out.below (b0.out.trans (hC.mono b0.out.size))))
  · exact .load (.agg #[.bool b1, .slice A1 n1 c1, .slice D1 m1 k1]) (.inr ⟨31, true, 56, by decide, rfl, rfl, rfl⟩) rfl rfl (fun a w' hC hs hl => by rw [show a.eval (.tmp 3) = (.pointer (some ⟨w.heap.size, 0, none⟩) : Value) from (hs 3 (by kernel_rfl))]; exact ⟨ld_Rat_ ((K1.out.below' hC).at_ 0 rfl) ((K1.out.below' hC).at_ 1 rfl) ((K1.out.below' hC).at_ 2 rfl), a1.out⟩)
  · exact .load (.agg #[.bool b2, .slice A2 n2 c2, .slice D2 m2 k2]) (.inr ⟨31, true, 56, by decide, rfl, rfl, rfl⟩) rfl rfl (fun a w' hC hs hl => by rw [show a.eval (.tmp 4) = (.pointer (some ⟨w.heap.size + 1, 0, none⟩) : Value) from (hs 4 (by kernel_rfl))]; exact ⟨ld_Rat_ ((K2.out.below' hC).at_ 0 rfl) ((K2.out.below' hC).at_ 1 rfl) ((K2.out.below' hC).at_ 2 rfl), a2.out⟩)
  · exact .load (.agg #[.bool b3, .slice A3 n3 c3, .slice D3 m3 k3]) (.inr ⟨31, true, 56, by decide, rfl, rfl, rfl⟩) rfl rfl (fun a w' hC hs hl => by rw [show a.eval (.tmp 5) = (.pointer (some ⟨w.heap.size + 1 + 1, 0, none⟩) : Value) from (hs 5 (by kernel_rfl))]; exact ⟨ld_Rat_ ((K3.out.below' hC).at_ 0 rfl) ((K3.out.below' hC).at_ 1 rfl) ((K3.out.below' hC).at_ 2 rfl), a3.out⟩)
  · exact .call (.inr ⟨31, true, 56, by decide, rfl, rfl, rfl⟩) rfl rfl fn_rMul (fun a w' hC hs hl => rMul_C (RArg.below (hl 61 (by kernel_rfl) (by kernel_rfl)) (b0.out.trans (hC.mono b0.out.size))) (RArg.below (hl 62 (by kernel_rfl) (by kernel_rfl)) (b0.out.trans (hC.mono b0.out.size))) (T.out.below (b0.out.trans (hC.mono b0.out.size))))
  · exact .call (.inr ⟨31, true, 56, by decide, rfl, rfl, rfl⟩) rfl rfl fn_rMul (fun a w' hC hs hl => rMul_C (RArg.below (hl 60 (by kernel_rfl) (by kernel_rfl)) (b0.out.trans (hC.mono b0.out.size))) (RCan.arg (hl 63 (by kernel_rfl) (by kernel_rfl)) (Q9_.out.up (by decide))) (T.out.below (b0.out.trans (hC.mono b0.out.size))))
  · exact .call (.inr ⟨31, true, 56, by decide, rfl, rfl, rfl⟩) rfl rfl fn_rsame (fun a w' hC hs hl => rsame_yes (hl 59 (by kernel_rfl) (by kernel_rfl)) (hl 64 (by kernel_rfl) (by kernel_rfl)) (by grind))
  · exact .pick (b := true) (.inl rfl) rfl rfl (fun a w' hC hs hl => ⟨(hl 56 (by kernel_rfl) (by kernel_rfl)), (hl 65 (by kernel_rfl) (by kernel_rfl))⟩)
  · exact .move (.inl rfl) (.inl rfl) rfl (by kernel_rfl) (by kernel_rfl) rfl
  · exact .load (.agg #[.bool b7, .slice A7 n7 c7, .slice D7 m7 k7]) (.inr ⟨42, true, 67, by decide, rfl, rfl, rfl⟩) rfl rfl (fun a w' hC hs hl => by rw [show a.eval (.tmp 7) = (.pointer (some ⟨w3.heap.size, 0, none⟩) : Value) from (hs 7 (by kernel_rfl))]; exact ⟨ld_Rat_ ((K7.out.below' hC).at_ 0 rfl) ((K7.out.below' hC).at_ 1 rfl) ((K7.out.below' hC).at_ 2 rfl), s.out⟩)
  · exact .load (.agg #[.bool b3, .slice A3 n3 c3, .slice D3 m3 k3]) (.inr ⟨42, true, 67, by decide, rfl, rfl, rfl⟩) rfl rfl (fun a w' hC hs hl => by rw [show a.eval (.tmp 5) = (.pointer (some ⟨w.heap.size + 1 + 1, 0, none⟩) : Value) from (hs 5 (by kernel_rfl))]; exact ⟨ld_Rat_ ((K3.out.below' hC).at_ 0 rfl) ((K3.out.below' hC).at_ 1 rfl) ((K3.out.below' hC).at_ 2 rfl), a3.out⟩)
  · exact .call (.inr ⟨42, true, 67, by decide, rfl, rfl, rfl⟩) rfl rfl fn_rMul (fun a w' hC hs hl => rMul_C (RCan.arg (RCan.below (hl 68 (by kernel_rfl) (by kernel_rfl)) hC) (Q1_.out.up (by decide))) (RArg.below (hl 69 (by kernel_rfl) (by kernel_rfl)) (b0.out.trans (hC.mono b0.out.size))) (T.out.below (b0.out.trans (hC.mono b0.out.size))))
  · exact .load (.agg #[.bool b1, .slice A1 n1 c1, .slice D1 m1 k1]) (.inr ⟨42, true, 67, by decide, rfl, rfl, rfl⟩) rfl rfl (fun a w' hC hs hl => by rw [show a.eval (.tmp 3) = (.pointer (some ⟨w.heap.size, 0, none⟩) : Value) from (hs 3 (by kernel_rfl))]; exact ⟨ld_Rat_ ((K1.out.below' hC).at_ 0 rfl) ((K1.out.below' hC).at_ 1 rfl) ((K1.out.below' hC).at_ 2 rfl), a1.out⟩)
  · exact .load (.agg #[.bool b3, .slice A3 n3 c3, .slice D3 m3 k3]) (.inr ⟨42, true, 67, by decide, rfl, rfl, rfl⟩) rfl rfl (fun a w' hC hs hl => by rw [show a.eval (.tmp 5) = (.pointer (some ⟨w.heap.size + 1 + 1, 0, none⟩) : Value) from (hs 5 (by kernel_rfl))]; exact ⟨ld_Rat_ ((K3.out.below' hC).at_ 0 rfl) ((K3.out.below' hC).at_ 1 rfl) ((K3.out.below' hC).at_ 2 rfl), a3.out⟩)
  · exact .call (.inr ⟨42, true, 67, by decide, rfl, rfl, rfl⟩) rfl rfl fn_rMul (fun a w' hC hs hl => rMul_C (RArg.below (hl 71 (by kernel_rfl) (by kernel_rfl)) (b0.out.trans (hC.mono b0.out.size))) (RArg.below (hl 72 (by kernel_rfl) (by kernel_rfl)) (b0.out.trans (hC.mono b0.out.size))) (T.out.below (b0.out.trans (hC.mono b0.out.size))))
  · exact .load (.agg #[.bool b2, .slice A2 n2 c2, .slice D2 m2 k2]) (.inr ⟨42, true, 67, by decide, rfl, rfl, rfl⟩) rfl rfl (fun a w' hC hs hl => by rw [show a.eval (.tmp 4) = (.pointer (some ⟨w.heap.size + 1, 0, none⟩) : Value) from (hs 4 (by kernel_rfl))]; exact ⟨ld_Rat_ ((K2.out.below' hC).at_ 0 rfl) ((K2.out.below' hC).at_ 1 rfl) ((K2.out.below' hC).at_ 2 rfl), a2.out⟩)
  · exact .load (.agg #[.bool b3, .slice A3 n3 c3, .slice D3 m3 k3]) (.inr ⟨42, true, 67, by decide, rfl, rfl, rfl⟩) rfl rfl (fun a w' hC hs hl => by rw [show a.eval (.tmp 5) = (.pointer (some ⟨w.heap.size + 1 + 1, 0, none⟩) : Value) from (hs 5 (by kernel_rfl))]; exact ⟨ld_Rat_ ((K3.out.below' hC).at_ 0 rfl) ((K3.out.below' hC).at_ 1 rfl) ((K3.out.below' hC).at_ 2 rfl), a3.out⟩)
  · exact .call (.inr ⟨42, true, 67, by decide, rfl, rfl, rfl⟩) rfl rfl fn_rMul (fun a w' hC hs hl => rMul_C (RArg.below (hl 74 (by kernel_rfl) (by kernel_rfl)) (b0.out.trans (hC.mono b0.out.size))) (RArg.below (hl 75 (by kernel_rfl) (by kernel_rfl)) (b0.out.trans (hC.mono b0.out.size))) (T.out.below (b0.out.trans (hC.mono b0.out.size))))
  · exact .call (.inr ⟨42, true, 67, by decide, rfl, rfl, rfl⟩) rfl rfl fn_rAdd (fun a w' hC hs hl => rAdd_C (RCan.arg (hl 73 (by kernel_rfl) (by kernel_rfl)) (Q12_.out.up (by decide))) (RCan.arg (hl 76 (by kernel_rfl) (by kernel_rfl)) (Q9_.out.up (by decide))) (T.out.below (b0.out.trans (hC.mono b0.out.size))))
  · exact .call (.inr ⟨42, true, 67, by decide, rfl, rfl, rfl⟩) rfl rfl fn_rsame (fun a w' hC hs hl => rsame_yes (hl 70 (by kernel_rfl) (by kernel_rfl)) (hl 77 (by kernel_rfl) (by kernel_rfl)) (by grind))
  · exact .pick (b := true) (.inl rfl) rfl rfl (fun a w' hC hs hl => ⟨(hl 67 (by kernel_rfl) (by kernel_rfl)), (hl 78 (by kernel_rfl) (by kernel_rfl))⟩)
  · exact .move (.inl rfl) (.inr rfl) rfl (by kernel_rfl) (by kernel_rfl) rfl
  intro f w99 hC hF _
  have f0 : f 6 = .bool true := hF 6 (by kernel_rfl)
  clear hF
  simp only [patch, List.drop]
  have B9 := hide (b0.out.trans (hC.mono b0.out.size))
  clear hC
  rw [f0]
  try change wpList _ _ _ [] _ _
  go_wp2
  exact opq_end hR ⟨rfl, B9⟩
end Go.Proofs.YtnpfochbpdfcmaaGreatDoor
