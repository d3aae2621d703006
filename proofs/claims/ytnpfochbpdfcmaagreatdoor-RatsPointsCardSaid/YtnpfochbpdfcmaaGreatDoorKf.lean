/- rats: Div, Floor, Text; SameRat; the laws' of, same, great. -/
import Derived.Test.YtnpfochbpdfcmaaGreatDoorKe
set_option linter.unusedVariables false
set_option linter.unusedSimpArgs false
set_option maxRecDepth 100000
namespace Go.Proofs.YtnpfochbpdfcmaaGreatDoor
open Go.RowKit

set_option maxHeartbeats 2000000 in
theorem rDiv_zero {w : World} {v1 : Value} {q1 : Rat} (h1 : RCan w v1 q1) (s1 : H q1 100000000000) {v2 : Value} {q2 : Rat} (h2 : RCan w v2 q2) (s2 : H q2 100000000000) (hT : Tab w) (hq : q2 = 0) :
    Calls Tryz.prog 32 #[v1, v2] w fun e w' => e = .returned (.tuple #[.agg #[.bool false, .slice none 0 0, .slice none 0 0], .int .i64 10]) ∧ Below w.heap.size w w' := by
  refine opq fun R hR => ?_
  obtain ⟨b1, A1, n1, c1, D1, m1, k1, rfl⟩ := h1.slice
  have S1 := hide s1
  replace h1 := hide h1
  clear s1
  obtain ⟨b2, A2, n2, c2, D2, m2, k2, rfl⟩ := h2.slice
  have S2 := hide s2
  replace h2 := hide h2
  clear s2
  have T := hide hT
  clear hT
  replace hq := hide hq
  have X := hide (H_cross S1.out S2.out (Nat.le_refl _))
  go_enter Tryz.func32, Tryz.ntmps32
  have b0 := hide (Below.refl w.heap.size w)
  have K1 := hide (Blk.new_at w (w.heap.size) (by simp) 27 #[.bool b1, .slice A1 n1 c1, .slice D1 m1 k1])
  have y := (Below.refl w.heap.size w).alloc (Nat.le_refl _) (.cells #[.bool b1, .slice A1 n1 c1, .slice D1 m1 k1] 27)
  replace b0 := hide (below_tr b0.out y)
  clear y
  have K2 := hide (Blk.new_at (w.alloc (.cells #[.bool b1, .slice A1 n1 c1, .slice D1 m1 k1] 27)) (w.heap.size + 1) (by simp) 27 #[.bool b2, .slice A2 n2 c2, .slice D2 m2 k2])
  have y := (Below.refl (w.alloc (.cells #[.bool b1, .slice A1 n1 c1, .slice D1 m1 k1] 27)).heap.size (w.alloc (.cells #[.bool b1, .slice A1 n1 c1, .slice D1 m1 k1] 27))).alloc (Nat.le_refl _) (.cells #[.bool b2, .slice A2 n2 c2, .slice D2 m2 k2] 27)
  replace K1 := hide (K1.out.below' y)
  replace b0 := hide (below_tr b0.out y)
  clear y
  have K3 := hide (Blk.new_at ((w.alloc (.cells #[.bool b1, .slice A1 n1 c1, .slice D1 m1 k1] 27)).alloc (.cells #[.bool b2, .slice A2 n2 c2, .slice D2 m2 k2] 27)) (w.heap.size + 1 + 1) (by simp) 27 #[.bool false, .slice none 0 0, .slice none 0 0])
  have y := (Below.refl ((w.alloc (.cells #[.bool b1, .slice A1 n1 c1, .slice D1 m1 k1] 27)).alloc (.cells #[.bool b2, .slice A2 n2 c2, .slice D2 m2 k2] 27)).heap.size ((w.alloc (.cells #[.bool b1, .slice A1 n1 c1, .slice D1 m1 k1] 27)).alloc (.cells #[.bool b2, .slice A2 n2 c2, .slice D2 m2 k2] 27))).alloc (Nat.le_refl _) (.cells #[.bool false, .slice none 0 0, .slice none 0 0] 27)
  replace K1 := hide (K1.out.below' y)
  replace K2 := hide (K2.out.below' y)
  replace b0 := hide (below_tr b0.out y)
  clear y
  have K1c0 : (((w.alloc (.cells #[.bool b1, .slice A1 n1 c1, .slice D1 m1 k1] 27)).alloc (.cells #[.bool b2, .slice A2 n2 c2, .slice D2 m2 k2] 27)).alloc (.cells #[.bool false, .slice none 0 0, .slice none 0 0] 27)).cell? ⟨w.heap.size, 0, none⟩ = some (.bool b1) := K1.out.at_ 0 rfl
  have K1c1 : (((w.alloc (.cells #[.bool b1, .slice A1 n1 c1, .slice D1 m1 k1] 27)).alloc (.cells #[.bool b2, .slice A2 n2 c2, .slice D2 m2 k2] 27)).alloc (.cells #[.bool false, .slice none 0 0, .slice none 0 0] 27)).cell? ⟨w.heap.size, 1, none⟩ = some (.slice A1 n1 c1) := K1.out.at_ 1 rfl
  have K1c2 : (((w.alloc (.cells #[.bool b1, .slice A1 n1 c1, .slice D1 m1 k1] 27)).alloc (.cells #[.bool b2, .slice A2 n2 c2, .slice D2 m2 k2] 27)).alloc (.cells #[.bool false, .slice none 0 0, .slice none 0 0] 27)).cell? ⟨w.heap.size, 2, none⟩ = some (.slice D1 m1 k1) := K1.out.at_ 2 rfl
  have K2c0 : (((w.alloc (.cells #[.bool b1, .slice A1 n1 c1, .slice D1 m1 k1] 27)).alloc (.cells #[.bool b2, .slice A2 n2 c2, .slice D2 m2 k2] 27)).alloc (.cells #[.bool false, .slice none 0 0, .slice none 0 0] 27)).cell? ⟨w.heap.size + 1, 0, none⟩ = some (.bool b2) := K2.out.at_ 0 rfl
  have K2c1 : (((w.alloc (.cells #[.bool b1, .slice A1 n1 c1, .slice D1 m1 k1] 27)).alloc (.cells #[.bool b2, .slice A2 n2 c2, .slice D2 m2 k2] 27)).alloc (.cells #[.bool false, .slice none 0 0, .slice none 0 0] 27)).cell? ⟨w.heap.size + 1, 1, none⟩ = some (.slice A2 n2 c2) := K2.out.at_ 1 rfl
  have K2c2 : (((w.alloc (.cells #[.bool b1, .slice A1 n1 c1, .slice D1 m1 k1] 27)).alloc (.cells #[.bool b2, .slice A2 n2 c2, .slice D2 m2 k2] 27)).alloc (.cells #[.bool false, .slice none 0 0, .slice none 0 0] 27)).cell? ⟨w.heap.size + 1, 2, none⟩ = some (.slice D2 m2 k2) := K2.out.at_ 2 rfl
  go_wp2_with fail
  refine (rCheck_P ((h1.out.below b0.out).prt (S1.out.up (by decide))) (T.out.below b0.out) true (rok_self _)).mono ?_
  rintro e w1 ⟨_, rfl, d0, rfl⟩
  replace K1 := hide (K1.out.below' d0)
  replace K2 := hide (K2.out.below' d0)
  replace K3 := hide (K3.out.below' d0)
  replace b0 := hide (below_tr b0.out d0)
  clear d0
  clear K1c0 K1c1 K1c2 K2c0 K2c1 K2c2
  have K1c0 : w1.cell? ⟨w.heap.size, 0, none⟩ = some (.bool b1) := K1.out.at_ 0 rfl
  have K1c1 : w1.cell? ⟨w.heap.size, 1, none⟩ = some (.slice A1 n1 c1) := K1.out.at_ 1 rfl
  have K1c2 : w1.cell? ⟨w.heap.size, 2, none⟩ = some (.slice D1 m1 k1) := K1.out.at_ 2 rfl
  have K2c0 : w1.cell? ⟨w.heap.size + 1, 0, none⟩ = some (.bool b2) := K2.out.at_ 0 rfl
  have K2c1 : w1.cell? ⟨w.heap.size + 1, 1, none⟩ = some (.slice A2 n2 c2) := K2.out.at_ 1 rfl
  have K2c2 : w1.cell? ⟨w.heap.size + 1, 2, none⟩ = some (.slice D2 m2 k2) := K2.out.at_ 2 rfl
  go_wp2_with fail
  refine (rCheck_P ((h2.out.below b0.out).prt (S2.out.up (by decide))) (T.out.below b0.out) true (rok_self _)).mono ?_
  rintro e w2 ⟨_, rfl, d0, rfl⟩
  replace K1 := hide (K1.out.below' d0)
  replace K2 := hide (K2.out.below' d0)
  replace K3 := hide (K3.out.below' d0)
  replace b0 := hide (below_tr b0.out d0)
  clear d0
  clear K1c0 K1c1 K1c2 K2c0 K2c1 K2c2
  have K1c0 : w2.cell? ⟨w.heap.size, 0, none⟩ = some (.bool b1) := K1.out.at_ 0 rfl
  have K1c1 : w2.cell? ⟨w.heap.size, 1, none⟩ = some (.slice A1 n1 c1) := K1.out.at_ 1 rfl
  have K1c2 : w2.cell? ⟨w.heap.size, 2, none⟩ = some (.slice D1 m1 k1) := K1.out.at_ 2 rfl
  have K2c0 : w2.cell? ⟨w.heap.size + 1, 0, none⟩ = some (.bool b2) := K2.out.at_ 0 rfl
  have K2c1 : w2.cell? ⟨w.heap.size + 1, 1, none⟩ = some (.slice A2 n2 c2) := K2.out.at_ 1 rfl
  have K2c2 : w2.cell? ⟨w.heap.size + 1, 2, none⟩ = some (.slice D2 m2 k2) := K2.out.at_ 2 rfl
  go_wp2_with fail
  refine (rcross_P ((h1.out.below b0.out).arg S1.out) ((h2.out.below b0.out).arg S2.out) (T.out.below b0.out)).mono ?_
  rintro e w3 ⟨b3, A3, n3, c3, b4, A4, n4, c4, D5, m5, k5, rfl, d0, i1, i2, _⟩
  replace K1 := hide (K1.out.below' d0)
  replace K2 := hide (K2.out.below' d0)
  replace K3 := hide (K3.out.below' d0)
  replace b0 := hide (below_tr b0.out d0)
  have I1 := hide (i1)
  have I2 := hide (i2)
  clear d0
  clear i1 i2
  clear K1c0 K1c1 K1c2 K2c0 K2c1 K2c2
  have K4 := hide (Blk.new_at w3 (w3.heap.size) (by simp) 101 #[.bool b3, .slice A3 n3 c3, .bool b4, .slice A4 n4 c4])
  have y := (Below.refl w3.heap.size w3).alloc (Nat.le_refl _) (.cells #[.bool b3, .slice A3 n3 c3, .bool b4, .slice A4 n4 c4] 101)
  replace K1 := hide (K1.out.below' y)
  replace K2 := hide (K2.out.below' y)
  replace K3 := hide (K3.out.below' y)
  replace I1 := hide (I1.out.below y)
  replace I2 := hide (I2.out.below y)
  replace b0 := hide (below_tr b0.out y)
  clear y
  go_wp2_with fail
  refine (rMake_zero I1.out I2.out (L_up X.out.1 (by decide)) (L_up X.out.2.1 (by decide)) (by rw [hq.out]; simp) (T.out.below b0.out)).mono ?_
  rintro e w4 ⟨rfl, d0⟩
  replace K1 := hide (K1.out.below' d0)
  replace K2 := hide (K2.out.below' d0)
  replace K3 := hide (K3.out.below' d0)
  replace I1 := hide (I1.out.below d0)
  replace I2 := hide (I2.out.below d0)
  replace K4 := hide (K4.out.below' d0)
  replace b0 := hide (below_tr b0.out d0)
  clear d0
  have K3c0 : w4.cell? ⟨w.heap.size + 1 + 1, 0, none⟩ = some (.bool false) := K3.out.at_ 0 rfl
  have K3c1 : w4.cell? ⟨w.heap.size + 1 + 1, 1, none⟩ = some (.slice none 0 0) := K3.out.at_ 1 rfl
  have K3c2 : w4.cell? ⟨w.heap.size + 1 + 1, 2, none⟩ = some (.slice none 0 0) := K3.out.at_ 2 rfl
  have eq0 := hq
  clear eq0
  have p0 : w4.frozen? ⟨w.heap.size + 1 + 1, 0, none⟩ = false := K3.out.frozen 0
  have p1 : w4.frozen? ⟨w.heap.size + 1 + 1, 1, none⟩ = false := K3.out.frozen 1
  have p2 : w4.frozen? ⟨w.heap.size + 1 + 1, 2, none⟩ = false := K3.out.frozen 2
  go_wp2
  refine bodyPost_ret (v := .tuple #[.agg #[.bool false, .slice none 0 0, .slice none 0 0], .int .i64 10]) (by simp [results, Tryz.results32, go_sem, K3c0, K3c1, K3c2, p0, p1, p2]) rfl ?_
  exact opq_end hR ⟨rfl, (by (repeat (first | exact b0 | exact Below.refl _ _ | refine Below.setCell ?_ (by first | (simp; done) | (simp; omega)) _ | refine Below.alloc ?_ (by first | (simp; done) | (simp; omega)) _)))⟩
set_option maxHeartbeats 2000000 in
theorem rDiv_ok {w : World} {v1 : Value} {q1 : Rat} (h1 : RCan w v1 q1) (s1 : H q1 100000000000) {v2 : Value} {q2 : Rat} (h2 : RCan w v2 q2) (s2 : H q2 100000000000) (hT : Tab w) (hq : q2 ≠ 0) :
    Calls Tryz.prog 32 #[v1, v2] w fun e w' => ∃ u, e = .returned (.tuple #[u, .int .i64 0]) ∧ Below w.heap.size w w' ∧ RatR (q1 / q2) w.heap.size w' u := by
  refine opq fun R hR => ?_
  obtain ⟨b1, A1, n1, c1, D1, m1, k1, rfl⟩ := h1.slice
  have S1 := hide s1
  replace h1 := hide h1
  clear s1
  obtain ⟨b2, A2, n2, c2, D2, m2, k2, rfl⟩ := h2.slice
  have S2 := hide s2
  replace h2 := hide h2
  clear s2
  have T := hide hT
  clear hT
  replace hq := hide hq
  have X := hide (H_cross S1.out S2.out (Nat.le_refl _))
  go_enter Tryz.func32, Tryz.ntmps32
  have b0 := hide (Below.refl w.heap.size w)
  have K1 := hide (Blk.new_at w (w.heap.size) (by simp) 27 #[.bool b1, .slice A1 n1 c1, .slice D1 m1 k1])
  have y := (Below.refl w.heap.size w).alloc (Nat.le_refl _) (.cells #[.bool b1, .slice A1 n1 c1, .slice D1 m1 k1] 27)
  replace b0 := hide (below_tr b0.out y)
  clear y
  have K2 := hide (Blk.new_at (w.alloc (.cells #[.bool b1, .slice A1 n1 c1, .slice D1 m1 k1] 27)) (w.heap.size + 1) (by simp) 27 #[.bool b2, .slice A2 n2 c2, .slice D2 m2 k2])
  have y := (Below.refl (w.alloc (.cells #[.bool b1, .slice A1 n1 c1, .slice D1 m1 k1] 27)).heap.size (w.alloc (.cells #[.bool b1, .slice A1 n1 c1, .slice D1 m1 k1] 27))).alloc (Nat.le_refl _) (.cells #[.bool b2, .slice A2 n2 c2, .slice D2 m2 k2] 27)
  replace K1 := hide (K1.out.below' y)
  replace b0 := hide (below_tr b0.out y)
  clear y
  have K3 := hide (Blk.new_at ((w.alloc (.cells #[.bool b1, .slice A1 n1 c1, .slice D1 m1 k1] 27)).alloc (.cells #[.bool b2, .slice A2 n2 c2, .slice D2 m2 k2] 27)) (w.heap.size + 1 + 1) (by simp) 27 #[.bool false, .slice none 0 0, .slice none 0 0])
  have y := (Below.refl ((w.alloc (.cells #[.bool b1, .slice A1 n1 c1, .slice D1 m1 k1] 27)).alloc (.cells #[.bool b2, .slice A2 n2 c2, .slice D2 m2 k2] 27)).heap.size ((w.alloc (.cells #[.bool b1, .slice A1 n1 c1, .slice D1 m1 k1] 27)).alloc (.cells #[.bool b2, .slice A2 n2 c2, .slice D2 m2 k2] 27))).alloc (Nat.le_refl _) (.cells #[.bool false, .slice none 0 0, .slice none 0 0] 27)
  replace K1 := hide (K1.out.below' y)
  replace K2 := hide (K2.out.below' y)
  replace b0 := hide (below_tr b0.out y)
  clear y
  have K1c0 : (((w.alloc (.cells #[.bool b1, .slice A1 n1 c1, .slice D1 m1 k1] 27)).alloc (.cells #[.bool b2, .slice A2 n2 c2, .slice D2 m2 k2] 27)).alloc (.cells #[.bool false, .slice none 0 0, .slice none 0 0] 27)).cell? ⟨w.heap.size, 0, none⟩ = some (.bool b1) := K1.out.at_ 0 rfl
  have K1c1 : (((w.alloc (.cells #[.bool b1, .slice A1 n1 c1, .slice D1 m1 k1] 27)).alloc (.cells #[.bool b2, .slice A2 n2 c2, .slice D2 m2 k2] 27)).alloc (.cells #[.bool false, .slice none 0 0, .slice none 0 0] 27)).cell? ⟨w.heap.size, 1, none⟩ = some (.slice A1 n1 c1) := K1.out.at_ 1 rfl
  have K1c2 : (((w.alloc (.cells #[.bool b1, .slice A1 n1 c1, .slice D1 m1 k1] 27)).alloc (.cells #[.bool b2, .slice A2 n2 c2, .slice D2 m2 k2] 27)).alloc (.cells #[.bool false, .slice none 0 0, .slice none 0 0] 27)).cell? ⟨w.heap.size, 2, none⟩ = some (.slice D1 m1 k1) := K1.out.at_ 2 rfl
  have K2c0 : (((w.alloc (.cells #[.bool b1, .slice A1 n1 c1, .slice D1 m1 k1] 27)).alloc (.cells #[.bool b2, .slice A2 n2 c2, .slice D2 m2 k2] 27)).alloc (.cells #[.bool false, .slice none 0 0, .slice none 0 0] 27)).cell? ⟨w.heap.size + 1, 0, none⟩ = some (.bool b2) := K2.out.at_ 0 rfl
  have K2c1 : (((w.alloc (.cells #[.bool b1, .slice A1 n1 c1, .slice D1 m1 k1] 27)).alloc (.cells #[.bool b2, .slice A2 n2 c2, .slice D2 m2 k2] 27)).alloc (.cells #[.bool false, .slice none 0 0, .slice none 0 0] 27)).cell? ⟨w.heap.size + 1, 1, none⟩ = some (.slice A2 n2 c2) := K2.out.at_ 1 rfl
  have K2c2 : (((w.alloc (.cells #[.bool b1, .slice A1 n1 c1, .slice D1 m1 k1] 27)).alloc (.cells #[.bool b2, .slice A2 n2 c2, .slice D2 m2 k2] 27)).alloc (.cells #[.bool false, .slice none 0 0, .slice none 0 0] 27)).cell? ⟨w.heap.size + 1, 2, none⟩ = some (.slice D2 m2 k2) := K2.out.at_ 2 rfl
  go_wp2_with fail
  refine (rCheck_P ((h1.out.below b0.out).prt (S1.out.up (by decide))) (T.out.below b0.out) true (rok_self _)).mono ?_
  rintro e w1 ⟨_, rfl, d0, rfl⟩
  replace K1 := hide (K1.out.below' d0)
  replace K2 := hide (K2.out.below' d0)
  replace K3 := hide (K3.out.below' d0)
  replace b0 := hide (below_tr b0.out d0)
  clear d0
  clear K1c0 K1c1 K1c2 K2c0 K2c1 K2c2
  have K1c0 : w1.cell? ⟨w.heap.size, 0, none⟩ = some (.bool b1) := K1.out.at_ 0 rfl
  have K1c1 : w1.cell? ⟨w.heap.size, 1, none⟩ = some (.slice A1 n1 c1) := K1.out.at_ 1 rfl
  have K1c2 : w1.cell? ⟨w.heap.size, 2, none⟩ = some (.slice D1 m1 k1) := K1.out.at_ 2 rfl
  have K2c0 : w1.cell? ⟨w.heap.size + 1, 0, none⟩ = some (.bool b2) := K2.out.at_ 0 rfl
  have K2c1 : w1.cell? ⟨w.heap.size + 1, 1, none⟩ = some (.slice A2 n2 c2) := K2.out.at_ 1 rfl
  have K2c2 : w1.cell? ⟨w.heap.size + 1, 2, none⟩ = some (.slice D2 m2 k2) := K2.out.at_ 2 rfl
  go_wp2_with fail
  refine (rCheck_P ((h2.out.below b0.out).prt (S2.out.up (by decide))) (T.out.below b0.out) true (rok_self _)).mono ?_
  rintro e w2 ⟨_, rfl, d0, rfl⟩
  replace K1 := hide (K1.out.below' d0)
  replace K2 := hide (K2.out.below' d0)
  replace K3 := hide (K3.out.below' d0)
  replace b0 := hide (below_tr b0.out d0)
  clear d0
  clear K1c0 K1c1 K1c2 K2c0 K2c1 K2c2
  have K1c0 : w2.cell? ⟨w.heap.size, 0, none⟩ = some (.bool b1) := K1.out.at_ 0 rfl
  have K1c1 : w2.cell? ⟨w.heap.size, 1, none⟩ = some (.slice A1 n1 c1) := K1.out.at_ 1 rfl
  have K1c2 : w2.cell? ⟨w.heap.size, 2, none⟩ = some (.slice D1 m1 k1) := K1.out.at_ 2 rfl
  have K2c0 : w2.cell? ⟨w.heap.size + 1, 0, none⟩ = some (.bool b2) := K2.out.at_ 0 rfl
  have K2c1 : w2.cell? ⟨w.heap.size + 1, 1, none⟩ = some (.slice A2 n2 c2) := K2.out.at_ 1 rfl
  have K2c2 : w2.cell? ⟨w.heap.size + 1, 2, none⟩ = some (.slice D2 m2 k2) := K2.out.at_ 2 rfl
  go_wp2_with fail
  refine (rcross_P ((h1.out.below b0.out).arg S1.out) ((h2.out.below b0.out).arg S2.out) (T.out.below b0.out)).mono ?_
  rintro e w3 ⟨b3, A3, n3, c3, b4, A4, n4, c4, D5, m5, k5, rfl, d0, i1, i2, _⟩
  replace K1 := hide (K1.out.below' d0)
  replace K2 := hide (K2.out.below' d0)
  replace K3 := hide (K3.out.below' d0)
  replace b0 := hide (below_tr b0.out d0)
  have I1 := hide (i1)
  have I2 := hide (i2)
  clear d0
  clear i1 i2
  clear K1c0 K1c1 K1c2 K2c0 K2c1 K2c2
  have K4 := hide (Blk.new_at w3 (w3.heap.size) (by simp) 101 #[.bool b3, .slice A3 n3 c3, .bool b4, .slice A4 n4 c4])
  have y := (Below.refl w3.heap.size w3).alloc (Nat.le_refl _) (.cells #[.bool b3, .slice A3 n3 c3, .bool b4, .slice A4 n4 c4] 101)
  replace K1 := hide (K1.out.below' y)
  replace K2 := hide (K2.out.below' y)
  replace K3 := hide (K3.out.below' y)
  replace I1 := hide (I1.out.below y)
  replace I2 := hide (I2.out.below y)
  replace b0 := hide (below_tr b0.out y)
  clear y
  have hn : Hid (q2.num * (q1.den : Int) ≠ 0) := Int.mul_ne_zero (fun e => hq.out (Rat.num_eq_zero.1 e)) (by have := q1.den_nz; omega)
  go_wp2_with fail
  refine (rMake_ok I1.out I2.out (L_up X.out.1 (by decide)) (L_up X.out.2.1 (by decide)) hn.out (T.out.below b0.out)).mono ?_
  rintro e w4 ⟨v8, rfl, d0, r8⟩
  have bz := b0.out.size
  replace K1 := hide (K1.out.below' d0)
  replace K2 := hide (K2.out.below' d0)
  replace K3 := hide (K3.out.below' d0)
  replace I1 := hide (I1.out.below d0)
  replace I2 := hide (I2.out.below d0)
  replace K4 := hide (K4.out.below' d0)
  replace b0 := hide (below_tr b0.out d0)
  have R8 := hide (r8.mono (B' := w.heap.size) bz)
  clear d0 bz
  clear r8
  obtain ⟨b8, A8, n8, c8, D8, m8, k8, rfl⟩ := R8.out.slice
  have K3c0 : w4.cell? ⟨w.heap.size + 1 + 1, 0, none⟩ = some (.bool false) := K3.out.at_ 0 rfl
  have K3c1 : w4.cell? ⟨w.heap.size + 1 + 1, 1, none⟩ = some (.slice none 0 0) := K3.out.at_ 1 rfl
  have K3c2 : w4.cell? ⟨w.heap.size + 1 + 1, 2, none⟩ = some (.slice none 0 0) := K3.out.at_ 2 rfl
  have p0 : w4.frozen? ⟨w.heap.size + 1 + 1, 0, none⟩ = false := K3.out.frozen 0
  have p1 : w4.frozen? ⟨w.heap.size + 1 + 1, 1, none⟩ = false := K3.out.frozen 1
  have p2 : w4.frozen? ⟨w.heap.size + 1 + 1, 2, none⟩ = false := K3.out.frozen 2
  go_wp2
  refine bodyPost_ret (v := .tuple #[.agg #[.bool b8, .slice A8 n8 c8, .slice D8 m8 k8], .int .i64 0]) (by simp [results, Tryz.results32, go_sem, K3c0, K3c1, K3c2, p0, p1, p2]) rfl ?_
  exact opq_end hR ⟨_, rfl, (by (repeat (first | exact b0 | exact Below.refl _ _ | refine Below.setCell ?_ (by first | (simp; done) | (simp; omega)) _ | refine Below.alloc ?_ (by first | (simp; done) | (simp; omega)) _))), (by rw [← div_cross]; exact R8.out.only K3.out (by decide) ((((Only.refl _ _).set _ _).set _ _).set _ _))⟩
theorem rat_eq_iff {p q : Rat} : p = q ↔ p.num = q.num ∧ p.den = q.den := ⟨fun e => by subst e; exact ⟨rfl, rfl⟩, fun ⟨h1, h2⟩ => Rat.ext h1 h2⟩
theorem nSame_P {w : World} {v v' : Value} {M N : Nat} (h : Can w v M) (h' : Can w v' N) :
    Calls Tryz.prog 87 #[v, v'] w fun e w' => ∃ u, e = .returned u ∧ Below w.heap.size w w' ∧ u = .bool (decide (M = N)) :=
  (Same_can h h').mono fun e w' ⟨h1, h2⟩ => ⟨_, h1, h2.out, rfl⟩
set_option maxHeartbeats 1000000 in
theorem rSame_P {w : World} {v1 v2 : Value} {p q : Rat} (h1 : RCan w v1 p) (h2 : RCan w v2 q) :
    Calls Tryz.prog 45 #[v1, v2] w fun e w' => ∃ u, e = .returned u ∧ Below w.heap.size w w' ∧ u = .bool (decide (p = q)) := by
  refine opq fun R hR => ?_
  obtain ⟨b1, A1, n1, c1, D1, m1, k1, rfl⟩ := h1.slice
  obtain ⟨b2, A2, n2, c2, D2, m2, k2, rfl⟩ := h2.slice
  replace h1 := hide h1
  replace h2 := hide h2
  have ei : Hid (decide (p = q) = (decide (p.num = q.num) && decide (p.den = q.den))) := by
    show _ = _
    rw [Bool.eq_iff_iff]; simp [rat_eq_iff]
  go_enter Tryz.func45, Tryz.ntmps45
  have b0 := hide (Below.refl w.heap.size w)
  have K1 := hide (Blk.new_at w (w.heap.size) (by simp) 27 #[.bool b1, .slice A1 n1 c1, .slice D1 m1 k1])
  have y := (Below.refl w.heap.size w).alloc (Nat.le_refl _) (.cells #[.bool b1, .slice A1 n1 c1, .slice D1 m1 k1] 27)
  replace h1 := hide (h1.out.below y)
  replace h2 := hide (h2.out.below y)
  replace b0 := hide (below_tr b0.out y)
  clear y
  have K2 := hide (Blk.new_at (w.alloc (.cells #[.bool b1, .slice A1 n1 c1, .slice D1 m1 k1] 27)) (w.heap.size + 1) (by simp) 27 #[.bool b2, .slice A2 n2 c2, .slice D2 m2 k2])
  have y := (Below.refl (w.alloc (.cells #[.bool b1, .slice A1 n1 c1, .slice D1 m1 k1] 27)).heap.size (w.alloc (.cells #[.bool b1, .slice A1 n1 c1, .slice D1 m1 k1] 27))).alloc (Nat.le_refl _) (.cells #[.bool b2, .slice A2 n2 c2, .slice D2 m2 k2] 27)
  replace h1 := hide (h1.out.below y)
  replace h2 := hide (h2.out.below y)
  replace K1 := hide (K1.out.below' y)
  replace b0 := hide (below_tr b0.out y)
  clear y
  have K1c0 : ((w.alloc (.cells #[.bool b1, .slice A1 n1 c1, .slice D1 m1 k1] 27)).alloc (.cells #[.bool b2, .slice A2 n2 c2, .slice D2 m2 k2] 27)).cell? ⟨w.heap.size, 0, none⟩ = some (.bool b1) := K1.out.at_ 0 rfl
  have K1c1 : ((w.alloc (.cells #[.bool b1, .slice A1 n1 c1, .slice D1 m1 k1] 27)).alloc (.cells #[.bool b2, .slice A2 n2 c2, .slice D2 m2 k2] 27)).cell? ⟨w.heap.size, 1, none⟩ = some (.slice A1 n1 c1) := K1.out.at_ 1 rfl
  have K1c2 : ((w.alloc (.cells #[.bool b1, .slice A1 n1 c1, .slice D1 m1 k1] 27)).alloc (.cells #[.bool b2, .slice A2 n2 c2, .slice D2 m2 k2] 27)).cell? ⟨w.heap.size, 2, none⟩ = some (.slice D1 m1 k1) := K1.out.at_ 2 rfl
  have K2c0 : ((w.alloc (.cells #[.bool b1, .slice A1 n1 c1, .slice D1 m1 k1] 27)).alloc (.cells #[.bool b2, .slice A2 n2 c2, .slice D2 m2 k2] 27)).cell? ⟨w.heap.size + 1, 0, none⟩ = some (.bool b2) := K2.out.at_ 0 rfl
  have K2c1 : ((w.alloc (.cells #[.bool b1, .slice A1 n1 c1, .slice D1 m1 k1] 27)).alloc (.cells #[.bool b2, .slice A2 n2 c2, .slice D2 m2 k2] 27)).cell? ⟨w.heap.size + 1, 1, none⟩ = some (.slice A2 n2 c2) := K2.out.at_ 1 rfl
  have K2c2 : ((w.alloc (.cells #[.bool b1, .slice A1 n1 c1, .slice D1 m1 k1] 27)).alloc (.cells #[.bool b2, .slice A2 n2 c2, .slice D2 m2 k2] 27)).cell? ⟨w.heap.size + 1, 2, none⟩ = some (.slice D2 m2 k2) := K2.out.at_ 2 rfl
  go_wp2_with fail
  refine (iSame_ok h1.out.num h2.out.num).mono ?_
  rintro e w1 ⟨_, rfl, d0, rfl⟩
  replace h1 := hide (h1.out.below d0)
  replace h2 := hide (h2.out.below d0)
  replace K1 := hide (K1.out.below' d0)
  replace K2 := hide (K2.out.below' d0)
  replace b0 := hide (below_tr b0.out d0)
  clear d0
  clear K1c0 K1c1 K1c2 K2c0 K2c1 K2c2
  have K1c0 : w1.cell? ⟨w.heap.size, 0, none⟩ = some (.bool b1) := K1.out.at_ 0 rfl
  have K1c1 : w1.cell? ⟨w.heap.size, 1, none⟩ = some (.slice A1 n1 c1) := K1.out.at_ 1 rfl
  have K1c2 : w1.cell? ⟨w.heap.size, 2, none⟩ = some (.slice D1 m1 k1) := K1.out.at_ 2 rfl
  have K2c0 : w1.cell? ⟨w.heap.size + 1, 0, none⟩ = some (.bool b2) := K2.out.at_ 0 rfl
  have K2c1 : w1.cell? ⟨w.heap.size + 1, 1, none⟩ = some (.slice A2 n2 c2) := K2.out.at_ 1 rfl
  have K2c2 : w1.cell? ⟨w.heap.size + 1, 2, none⟩ = some (.slice D2 m2 k2) := K2.out.at_ 2 rfl
  cases e0 : decide (p.num = q.num)
  case false =>
    replace e0 := hide e0
    have ef : Hid (decide (p = q) = false) := by show _ = _; rw [ei.out, e0.out]; rfl
    clear ei e0
    go_wp2
    exact opq_end hR ⟨_, rfl, b0.out, by first | (rw [ef.out]; done) | (rw [ef.out]; rfl)⟩
  case true =>
    have ef : Hid (decide (p = q) = decide (p.den = q.den)) := by show _ = _; rw [ei.out, e0]; rfl
    clear ei e0
    go_wp2_with fail
    refine (nSame_P h1.out.den h2.out.den).mono ?_
    rintro e w2 ⟨_, rfl, d0, rfl⟩
    replace h1 := hide (h1.out.below d0)
    replace h2 := hide (h2.out.below d0)
    replace K1 := hide (K1.out.below' d0)
    replace K2 := hide (K2.out.below' d0)
    replace b0 := hide (below_tr b0.out d0)
    clear d0
    rw [← ef.out]
    go_wp2
    exact opq_end hR ⟨_, rfl, b0.out, rfl⟩
set_option maxHeartbeats 1000000 in
theorem rsame_P {w : World} {v1 v2 : Value} {p q : Rat} (h1 : RCan w v1 p) (h2 : RCan w v2 q) (r : Bool) (hr : decide (p = q) = r) :
    Calls Tryz.prog 22 #[v1, v2] w fun e w' => ∃ u, e = .returned u ∧ Below w.heap.size w w' ∧ u = .bool r := by
  refine opq fun R hR => ?_
  obtain ⟨b1, A1, n1, c1, D1, m1, k1, rfl⟩ := h1.slice
  obtain ⟨b2, A2, n2, c2, D2, m2, k2, rfl⟩ := h2.slice
  replace h1 := hide h1
  replace h2 := hide h2
  subst hr
  go_enter Tryz.func22, Tryz.ntmps22
  have b0 := hide (Below.refl w.heap.size w)
  have K1 := hide (Blk.new_at w (w.heap.size) (by simp) 27 #[.bool b1, .slice A1 n1 c1, .slice D1 m1 k1])
  have y := (Below.refl w.heap.size w).alloc (Nat.le_refl _) (.cells #[.bool b1, .slice A1 n1 c1, .slice D1 m1 k1] 27)
  replace h1 := hide (h1.out.below y)
  replace h2 := hide (h2.out.below y)
  replace b0 := hide (below_tr b0.out y)
  clear y
  have K2 := hide (Blk.new_at (w.alloc (.cells #[.bool b1, .slice A1 n1 c1, .slice D1 m1 k1] 27)) (w.heap.size + 1) (by simp) 27 #[.bool b2, .slice A2 n2 c2, .slice D2 m2 k2])
  have y := (Below.refl (w.alloc (.cells #[.bool b1, .slice A1 n1 c1, .slice D1 m1 k1] 27)).heap.size (w.alloc (.cells #[.bool b1, .slice A1 n1 c1, .slice D1 m1 k1] 27))).alloc (Nat.le_refl _) (.cells #[.bool b2, .slice A2 n2 c2, .slice D2 m2 k2] 27)
  replace h1 := hide (h1.out.below y)
  replace h2 := hide (h2.out.below y)
  replace K1 := hide (K1.out.below' y)
  replace b0 := hide (below_tr b0.out y)
  clear y
  go_wp2_with fail
  refine (rSame_P h1.out h2.out).mono ?_
  rintro e w1 ⟨_, rfl, d0, rfl⟩
  replace h1 := hide (h1.out.below d0)
  replace h2 := hide (h2.out.below d0)
  replace K1 := hide (K1.out.below' d0)
  replace K2 := hide (K2.out.below' d0)
  replace b0 := hide (below_tr b0.out d0)
  clear d0
  go_wp2
  exact opq_end hR ⟨_, rfl, b0.out, rfl⟩
theorem int64_L {z : Int} (h0 : -9223372036854775808 ≤ z) (h1 : z < 9223372036854775808) : L z.natAbs ≤ 1000000000000 := L_up (Z_64 h0 h1) (by decide)
set_option maxHeartbeats 1000000 in
theorem rlof_P (w : World) (n d : Int) (h0 : -9223372036854775808 ≤ n) (h1 : n < 9223372036854775808) (h2 : -9223372036854775808 ≤ d) (h3 : d < 9223372036854775808) (hd : d ≠ 0) (hT : Tab w) :
    Calls Tryz.prog 23 #[.int .i64 n, .int .i64 d] w fun e w' => ∃ u, e = .returned u ∧ Below w.heap.size w w' ∧ RatR (Rat.divInt n d) w.heap.size w' u := by
  refine opq fun R hR => ?_
  have T := hide hT
  have sn := hide (int64_L h0 h1)
  have sd := hide (int64_L h2 h3)
  have O1 := hide (fun w => iOf_ok w n h0 h1)
  have O2 := hide (fun w => iOf_ok w d h2 h3)
  replace hd := hide hd
  clear hT h0 h1 h2 h3
  go_enter Tryz.func23, Tryz.ntmps23
  have b0 := hide (Below.refl w.heap.size w)
  have K3 := hide (Blk.new_at w (w.heap.size) (by simp) 27 #[.bool false, .slice none 0 0, .slice none 0 0])
  have y := (Below.refl w.heap.size w).alloc (Nat.le_refl _) (.cells #[.bool false, .slice none 0 0, .slice none 0 0] 27)
  replace b0 := hide (below_tr b0.out y)
  clear y
  go_wp2_with fail
  refine (O1.out _).mono ?_
  rintro e w1 ⟨v1, rfl, d0, r1⟩
  replace K3 := hide (K3.out.below' d0)
  replace b0 := hide (below_tr b0.out d0)
  have I1 := hide (r1.can)
  clear d0
  clear r1
  obtain ⟨b1, A1, n1, c1, rfl⟩ := I1.out.slice
  go_wp2_with fail
  refine (O2.out _).mono ?_
  rintro e w2 ⟨v2, rfl, d0, r2⟩
  replace K3 := hide (K3.out.below' d0)
  replace I1 := hide (I1.out.below d0)
  replace b0 := hide (below_tr b0.out d0)
  have I2 := hide (r2.can)
  clear d0
  clear r2
  obtain ⟨b2, A2, n2, c2, rfl⟩ := I2.out.slice
  go_wp2_with fail
  refine (rMake_ok I1.out I2.out sn.out sd.out hd.out (T.out.below b0.out)).mono ?_
  rintro e w3 ⟨v8, rfl, d0, r8⟩
  have bz := b0.out.size
  replace K3 := hide (K3.out.below' d0)
  replace I1 := hide (I1.out.below d0)
  replace I2 := hide (I2.out.below d0)
  replace b0 := hide (below_tr b0.out d0)
  have R8 := hide (r8.mono (B' := w.heap.size) bz)
  clear d0 bz
  clear r8
  obtain ⟨b8, A8, n8, c8, D8, m8, k8, rfl⟩ := R8.out.slice
  have K4 := hide (Blk.new_at w3 (w3.heap.size) (by simp) 27 #[.bool b8, .slice A8 n8 c8, .slice D8 m8 k8])
  have y := (Below.refl w3.heap.size w3).alloc (Nat.le_refl _) (.cells #[.bool b8, .slice A8 n8 c8, .slice D8 m8 k8] 27)
  replace K3 := hide (K3.out.below' y)
  replace I1 := hide (I1.out.below y)
  replace I2 := hide (I2.out.below y)
  replace R8 := hide (R8.out.below y)
  replace b0 := hide (below_tr b0.out y)
  clear y
  have K3c0 : (w3.alloc (.cells #[.bool b8, .slice A8 n8 c8, .slice D8 m8 k8] 27)).cell? ⟨w.heap.size, 0, none⟩ = some (.bool false) := K3.out.at_ 0 rfl
  have K3c1 : (w3.alloc (.cells #[.bool b8, .slice A8 n8 c8, .slice D8 m8 k8] 27)).cell? ⟨w.heap.size, 1, none⟩ = some (.slice none 0 0) := K3.out.at_ 1 rfl
  have K3c2 : (w3.alloc (.cells #[.bool b8, .slice A8 n8 c8, .slice D8 m8 k8] 27)).cell? ⟨w.heap.size, 2, none⟩ = some (.slice none 0 0) := K3.out.at_ 2 rfl
  have p0 : (w3.alloc (.cells #[.bool b8, .slice A8 n8 c8, .slice D8 m8 k8] 27)).frozen? ⟨w.heap.size, 0, none⟩ = false := K3.out.frozen 0
  have p1 : (w3.alloc (.cells #[.bool b8, .slice A8 n8 c8, .slice D8 m8 k8] 27)).frozen? ⟨w.heap.size, 1, none⟩ = false := K3.out.frozen 1
  have p2 : (w3.alloc (.cells #[.bool b8, .slice A8 n8 c8, .slice D8 m8 k8] 27)).frozen? ⟨w.heap.size, 2, none⟩ = false := K3.out.frozen 2
  go_wp2
  refine bodyPost_ret (v := .agg #[.bool b8, .slice A8 n8 c8, .slice D8 m8 k8]) (by simp [results, Tryz.results23, go_sem, K3c0, K3c1, K3c2, p0, p1, p2]) rfl ?_
  exact opq_end hR ⟨_, rfl, (by (repeat (first | exact b0 | exact Below.refl _ _ | refine Below.setCell ?_ (by first | (simp; done) | (simp; omega)) _ | refine Below.alloc ?_ (by first | (simp; done) | (simp; omega)) _))), R8.out.only K3.out (by decide) ((((Only.refl _ _).set _ _).set _ _).set _ _)⟩
abbrev GR : Type := (Option Addr × Nat × Nat) × (Option Addr × Nat × Nat)
theorem rany_step {l : List GR} {p : GR → Bool} {i : Nat} {x : GR} (h : (l.take i).any p = false) (hx : l[i]? = some x) (hp : p x = false) : (l.take (i + 1)).any p = false := by
  obtain ⟨hi, e⟩ := List.getElem?_eq_some_iff.1 hx
  rw [List.take_succ_eq_append_getElem hi, List.any_append, h, e]
  simp [hp]
theorem wrap_add_lens {n m : Nat} (hn : n ≤ 70368744177664) (hm : m ≤ 70368744177664) : wrap64 ((n : Int) + m) = ((n + m : Nat) : Int) := by unfold wrap64; omega
set_option maxHeartbeats 1000000 in
theorem rgreat_ok (w : World) (g K : Nat) (hK : K ≤ 1000) (l : List GR) (hc : ∀ (j : Nat) x, l[j]? = some x → w.cell? ⟨g, j * 3 + 1, none⟩ = some (.slice x.1.1 x.1.2.1 x.1.2.2) ∧ w.cell? ⟨g, j * 3 + 2, none⟩ = some (.slice x.2.1 x.2.2.1 x.2.2.2)) (hs : ∀ x ∈ l, x.1.2.1 ≤ 70368744177664 ∧ x.2.2.1 ≤ 70368744177664) (hl : l.length ≤ 1000) :
    Calls Tryz.prog 18 #[.int .i64 (K : Nat), .slice (some ⟨g, 0, none⟩) l.length l.length] w fun e w' => e = .returned (.bool (l.any fun x => decide (K < x.1.2.1 + x.2.2.1))) ∧ Hid (Below w.heap.size w w') := by
  refine opq fun R hR => ?_
  have HC := hide hc
  have HS := hide hs
  clear hc hs
  go_enter Tryz.func18, Tryz.ntmps18
  go_wp2
  go_loopw [5] (fun iv wr => ∃ i : Nat, i ≤ l.length ∧ iv = .int .i64 (i : Nat) ∧ Hid (Below w.heap.size w wr) ∧ Hid ((l.take i).any (fun x => decide (K < x.1.2.1 + x.2.2.1)) = false)) (fun iv _ => l.length - (intOf iv).toNat)
  case atStart => exact ⟨0, by omega, rfl, Below.refl _ _, rfl⟩
  case round =>
    obtain ⟨i, hi, rfl, B, hs⟩ := hrel
    by_cases hlt : i < l.length
    · obtain ⟨⟨⟨a, n, c⟩, ⟨d, m, k⟩⟩, hx⟩ : ∃ y, l[i]? = some y := ⟨_, List.getElem?_eq_getElem hlt⟩
      obtain ⟨hc1, hc2⟩ := HC.out i _ hx
      replace hc1 := cell_below B.out hc1
      replace hc2 := cell_below B.out hc2
      obtain ⟨q1, q2⟩ := HS.out _ (List.mem_of_getElem? hx)
      have e1 := wrap_add_lens q1 q2
      have S1 := hide (fun hp => rany_step hs.out hx hp)
      have S2 : Hid (K < n + m → l.any (fun x => decide (K < x.1.2.1 + x.2.2.1)) = true) := fun q => List.any_eq_true.2 ⟨_, List.mem_of_getElem? hx, by simpa using q⟩
      clear hx
      by_cases hn : K < n + m
      · have S3 := hide (S2.out hn)
        clear S1 S2
        go_wp2
        go_quiet (fail)
        go_wp2
        exact opq_end hR ⟨ret_bool S3.out.symm, below_drewN B.out _⟩
      · have S3 := hide (S1.out (by simpa using hn))
        clear S1 S2
        go_wp2
        go_quiet (fail)
        go_wp2
        go_roundw
        case rel => exact ⟨i + 1, by omega, by go_num, below_drewN B.out _, S3⟩
        case measure => simp [intOf]; omega
    · obtain rfl : i = l.length := by omega
      have e := hs.out
      rw [List.take_length] at e
      have E := hide e
      clear e
      go_wp2
      exact opq_end hR ⟨ret_bool E.out.symm, B⟩
end Go.Proofs.YtnpfochbpdfcmaaGreatDoor
