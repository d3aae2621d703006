/- rats: Div and Make of what may not be; the document's Make. -/
import Derived.Test.YtfadehkagbcjaaaGreatDoorRq
set_option linter.unusedVariables false
set_option linter.unusedSimpArgs false
set_option maxRecDepth 100000
namespace Go.Proofs.YtfadehkagbcjaaaGreatDoor
open Go.RowKit

theorem fr_assayerref02_Signed (args : Array Value) (w : World) : (callFunc 126 args).run Tryz.prog w = .ok (.enter 126 args) w := callFunc_enter Tryz.func126 (by kernel_rfl) rfl args w
theorem fr_assayerref03_lowest (args : Array Value) (w : World) : (callFunc 197 args).run Tryz.prog w = .ok (.enter 197 args) w := callFunc_enter Tryz.func197 (by kernel_rfl) rfl args w
set_option maxHeartbeats 1000000 in
theorem rDiv_bad {w : World} {v v' : Value} {b1 b2 : Bool} {xs1 ys1 xs2 ys2 : List Nat} (h1 : RPrt w v b1 xs1 ys1) (h2 : RPrt w v' b2 xs2 ys2) (hT : Tab w) (hb : (rok b1 xs1 ys1 && rok b2 xs2 ys2) = false) :
    Calls Tryz.prog 70 #[v, v'] w fun e w' => e = .returned (.tuple #[.agg #[.bool false, .slice none 0 0, .slice none 0 0], .int .i64 1]) ∧ Below w.heap.size w w' := by
  refine opq fun R hR => ?_
  obtain ⟨u1, w1', rfl, U1, V1⟩ := id h1
  obtain ⟨u2, w2', rfl, U2, V2⟩ := id h2
  obtain ⟨A1, n1, d1, rfl, _⟩ := U1.slice
  obtain ⟨D1, m1, k1, rfl, _⟩ := V1.slice
  obtain ⟨A2, n2, d2, rfl, _⟩ := U2.slice
  obtain ⟨D2, m2, k2, rfl, _⟩ := V2.slice
  clear U1 V1 U2 V2
  replace h1 := hide h1
  replace h2 := hide h2
  have T := hide hT
  clear hT
  go_enter Tryz.func70, Tryz.ntmps70
  have b0 := hide (Below.refl w.heap.size w)
  have K1 := hide (Blk.new_at w (w.heap.size) (by simp) 70 #[.bool b1, .slice A1 n1 d1, .slice D1 m1 k1])
  have y := (Below.refl w.heap.size w).alloc (Nat.le_refl _) (.cells #[.bool b1, .slice A1 n1 d1, .slice D1 m1 k1] 70)
  replace b0 := hide (below_tr b0.out y)
  clear y
  have K2 := hide (Blk.new_at (w.alloc (.cells #[.bool b1, .slice A1 n1 d1, .slice D1 m1 k1] 70)) (w.heap.size + 1) (by simp) 70 #[.bool b2, .slice A2 n2 d2, .slice D2 m2 k2])
  have y := (Below.refl (w.alloc (.cells #[.bool b1, .slice A1 n1 d1, .slice D1 m1 k1] 70)).heap.size (w.alloc (.cells #[.bool b1, .slice A1 n1 d1, .slice D1 m1 k1] 70))).alloc (Nat.le_refl _) (.cells #[.bool b2, .slice A2 n2 d2, .slice D2 m2 k2] 70)
  replace K1 := hide (K1.out.below' y)
  replace b0 := hide (below_tr b0.out y)
  clear y
  have K3 := hide (Blk.new_at ((w.alloc (.cells #[.bool b1, .slice A1 n1 d1, .slice D1 m1 k1] 70)).alloc (.cells #[.bool b2, .slice A2 n2 d2, .slice D2 m2 k2] 70)) (w.heap.size + 1 + 1) (by simp) 70 #[.bool false, .slice none 0 0, .slice none 0 0])
  have y := (Below.refl ((w.alloc (.cells #[.bool b1, .slice A1 n1 d1, .slice D1 m1 k1] 70)).alloc (.cells #[.bool b2, .slice A2 n2 d2, .slice D2 m2 k2] 70)).heap.size ((w.alloc (.cells #[.bool b1, .slice A1 n1 d1, .slice D1 m1 k1] 70)).alloc (.cells #[.bool b2, .slice A2 n2 d2, .slice D2 m2 k2] 70))).alloc (Nat.le_refl _) (.cells #[.bool false, .slice none 0 0, .slice none 0 0] 70)
  replace K1 := hide (K1.out.below' y)
  replace K2 := hide (K2.out.below' y)
  replace b0 := hide (below_tr b0.out y)
  clear y
  have K1c0 : (((w.alloc (.cells #[.bool b1, .slice A1 n1 d1, .slice D1 m1 k1] 70)).alloc (.cells #[.bool b2, .slice A2 n2 d2, .slice D2 m2 k2] 70)).alloc (.cells #[.bool false, .slice none 0 0, .slice none 0 0] 70)).cell? ⟨w.heap.size, 0, none⟩ = some (.bool b1) := K1.out.at_ 0 rfl
  have K1c1 : (((w.alloc (.cells #[.bool b1, .slice A1 n1 d1, .slice D1 m1 k1] 70)).alloc (.cells #[.bool b2, .slice A2 n2 d2, .slice D2 m2 k2] 70)).alloc (.cells #[.bool false, .slice none 0 0, .slice none 0 0] 70)).cell? ⟨w.heap.size, 1, none⟩ = some (.slice A1 n1 d1) := K1.out.at_ 1 rfl
  have K1c2 : (((w.alloc (.cells #[.bool b1, .slice A1 n1 d1, .slice D1 m1 k1] 70)).alloc (.cells #[.bool b2, .slice A2 n2 d2, .slice D2 m2 k2] 70)).alloc (.cells #[.bool false, .slice none 0 0, .slice none 0 0] 70)).cell? ⟨w.heap.size, 2, none⟩ = some (.slice D1 m1 k1) := K1.out.at_ 2 rfl
  have K2c0 : (((w.alloc (.cells #[.bool b1, .slice A1 n1 d1, .slice D1 m1 k1] 70)).alloc (.cells #[.bool b2, .slice A2 n2 d2, .slice D2 m2 k2] 70)).alloc (.cells #[.bool false, .slice none 0 0, .slice none 0 0] 70)).cell? ⟨w.heap.size + 1, 0, none⟩ = some (.bool b2) := K2.out.at_ 0 rfl
  have K2c1 : (((w.alloc (.cells #[.bool b1, .slice A1 n1 d1, .slice D1 m1 k1] 70)).alloc (.cells #[.bool b2, .slice A2 n2 d2, .slice D2 m2 k2] 70)).alloc (.cells #[.bool false, .slice none 0 0, .slice none 0 0] 70)).cell? ⟨w.heap.size + 1, 1, none⟩ = some (.slice A2 n2 d2) := K2.out.at_ 1 rfl
  have K2c2 : (((w.alloc (.cells #[.bool b1, .slice A1 n1 d1, .slice D1 m1 k1] 70)).alloc (.cells #[.bool b2, .slice A2 n2 d2, .slice D2 m2 k2] 70)).alloc (.cells #[.bool false, .slice none 0 0, .slice none 0 0] 70)).cell? ⟨w.heap.size + 1, 2, none⟩ = some (.slice D2 m2 k2) := K2.out.at_ 2 rfl
  have K3c0 : (((w.alloc (.cells #[.bool b1, .slice A1 n1 d1, .slice D1 m1 k1] 70)).alloc (.cells #[.bool b2, .slice A2 n2 d2, .slice D2 m2 k2] 70)).alloc (.cells #[.bool false, .slice none 0 0, .slice none 0 0] 70)).cell? ⟨w.heap.size + 1 + 1, 0, none⟩ = some (.bool false) := K3.out.at_ 0 rfl
  have K3c1 : (((w.alloc (.cells #[.bool b1, .slice A1 n1 d1, .slice D1 m1 k1] 70)).alloc (.cells #[.bool b2, .slice A2 n2 d2, .slice D2 m2 k2] 70)).alloc (.cells #[.bool false, .slice none 0 0, .slice none 0 0] 70)).cell? ⟨w.heap.size + 1 + 1, 1, none⟩ = some (.slice none 0 0) := K3.out.at_ 1 rfl
  have K3c2 : (((w.alloc (.cells #[.bool b1, .slice A1 n1 d1, .slice D1 m1 k1] 70)).alloc (.cells #[.bool b2, .slice A2 n2 d2, .slice D2 m2 k2] 70)).alloc (.cells #[.bool false, .slice none 0 0, .slice none 0 0] 70)).cell? ⟨w.heap.size + 1 + 1, 2, none⟩ = some (.slice none 0 0) := K3.out.at_ 2 rfl
  cases r1 : rok b1 xs1 ys1
  case false =>
    go_wp2_with fail
    refine (rCheck_P (h1.out.below b0.out) (T.out.below b0.out) false r1).mono ?_
    rintro e w1 ⟨_, rfl, d0, rfl⟩
    replace K1 := hide (K1.out.below' d0)
    replace K2 := hide (K2.out.below' d0)
    replace K3 := hide (K3.out.below' d0)
    replace b0 := hide (below_tr b0.out d0)
    clear d0
    clear K1c0 K1c1 K1c2 K2c0 K2c1 K2c2 K3c0 K3c1 K3c2
    have K1c0 : w1.cell? ⟨w.heap.size, 0, none⟩ = some (.bool b1) := K1.out.at_ 0 rfl
    have K1c1 : w1.cell? ⟨w.heap.size, 1, none⟩ = some (.slice A1 n1 d1) := K1.out.at_ 1 rfl
    have K1c2 : w1.cell? ⟨w.heap.size, 2, none⟩ = some (.slice D1 m1 k1) := K1.out.at_ 2 rfl
    have K2c0 : w1.cell? ⟨w.heap.size + 1, 0, none⟩ = some (.bool b2) := K2.out.at_ 0 rfl
    have K2c1 : w1.cell? ⟨w.heap.size + 1, 1, none⟩ = some (.slice A2 n2 d2) := K2.out.at_ 1 rfl
    have K2c2 : w1.cell? ⟨w.heap.size + 1, 2, none⟩ = some (.slice D2 m2 k2) := K2.out.at_ 2 rfl
    have K3c0 : w1.cell? ⟨w.heap.size + 1 + 1, 0, none⟩ = some (.bool false) := K3.out.at_ 0 rfl
    have K3c1 : w1.cell? ⟨w.heap.size + 1 + 1, 1, none⟩ = some (.slice none 0 0) := K3.out.at_ 1 rfl
    have K3c2 : w1.cell? ⟨w.heap.size + 1 + 1, 2, none⟩ = some (.slice none 0 0) := K3.out.at_ 2 rfl
    have p0 : w1.frozen? ⟨w.heap.size + 1 + 1, 0, none⟩ = false := K3.out.frozen 0
    have p1 : w1.frozen? ⟨w.heap.size + 1 + 1, 1, none⟩ = false := K3.out.frozen 1
    have p2 : w1.frozen? ⟨w.heap.size + 1 + 1, 2, none⟩ = false := K3.out.frozen 2
    go_wp2
    refine bodyPost_ret (v := .tuple #[.agg #[.bool false, .slice none 0 0, .slice none 0 0], .int .i64 1]) (by simp [results, Tryz.results70, go_sem, K3c0, K3c1, K3c2, p0, p1, p2]) rfl ?_
    exact opq_end hR ⟨rfl, (by (repeat (first | exact b0 | exact Below.refl _ _ | refine Below.setCell ?_ (by first | (simp; done) | (simp; omega)) _ | refine Below.alloc ?_ (by first | (simp; done) | (simp; omega)) _)))⟩
  rw [r1, Bool.true_and] at hb
  go_wp2_with fail
  refine (rCheck_P (h1.out.below b0.out) (T.out.below b0.out) true r1).mono ?_
  rintro e w1 ⟨_, rfl, d0, rfl⟩
  replace K1 := hide (K1.out.below' d0)
  replace K2 := hide (K2.out.below' d0)
  replace K3 := hide (K3.out.below' d0)
  replace b0 := hide (below_tr b0.out d0)
  clear d0
  clear K1c0 K1c1 K1c2 K2c0 K2c1 K2c2 K3c0 K3c1 K3c2
  have K1c0 : w1.cell? ⟨w.heap.size, 0, none⟩ = some (.bool b1) := K1.out.at_ 0 rfl
  have K1c1 : w1.cell? ⟨w.heap.size, 1, none⟩ = some (.slice A1 n1 d1) := K1.out.at_ 1 rfl
  have K1c2 : w1.cell? ⟨w.heap.size, 2, none⟩ = some (.slice D1 m1 k1) := K1.out.at_ 2 rfl
  have K2c0 : w1.cell? ⟨w.heap.size + 1, 0, none⟩ = some (.bool b2) := K2.out.at_ 0 rfl
  have K2c1 : w1.cell? ⟨w.heap.size + 1, 1, none⟩ = some (.slice A2 n2 d2) := K2.out.at_ 1 rfl
  have K2c2 : w1.cell? ⟨w.heap.size + 1, 2, none⟩ = some (.slice D2 m2 k2) := K2.out.at_ 2 rfl
  have K3c0 : w1.cell? ⟨w.heap.size + 1 + 1, 0, none⟩ = some (.bool false) := K3.out.at_ 0 rfl
  have K3c1 : w1.cell? ⟨w.heap.size + 1 + 1, 1, none⟩ = some (.slice none 0 0) := K3.out.at_ 1 rfl
  have K3c2 : w1.cell? ⟨w.heap.size + 1 + 1, 2, none⟩ = some (.slice none 0 0) := K3.out.at_ 2 rfl
  go_wp2_with fail
  refine (rCheck_P (h2.out.below b0.out) (T.out.below b0.out) false hb).mono ?_
  rintro e w2 ⟨_, rfl, d0, rfl⟩
  replace K1 := hide (K1.out.below' d0)
  replace K2 := hide (K2.out.below' d0)
  replace K3 := hide (K3.out.below' d0)
  replace b0 := hide (below_tr b0.out d0)
  clear d0
  clear K1c0 K1c1 K1c2 K2c0 K2c1 K2c2 K3c0 K3c1 K3c2
  have K1c0 : w2.cell? ⟨w.heap.size, 0, none⟩ = some (.bool b1) := K1.out.at_ 0 rfl
  have K1c1 : w2.cell? ⟨w.heap.size, 1, none⟩ = some (.slice A1 n1 d1) := K1.out.at_ 1 rfl
  have K1c2 : w2.cell? ⟨w.heap.size, 2, none⟩ = some (.slice D1 m1 k1) := K1.out.at_ 2 rfl
  have K2c0 : w2.cell? ⟨w.heap.size + 1, 0, none⟩ = some (.bool b2) := K2.out.at_ 0 rfl
  have K2c1 : w2.cell? ⟨w.heap.size + 1, 1, none⟩ = some (.slice A2 n2 d2) := K2.out.at_ 1 rfl
  have K2c2 : w2.cell? ⟨w.heap.size + 1, 2, none⟩ = some (.slice D2 m2 k2) := K2.out.at_ 2 rfl
  have K3c0 : w2.cell? ⟨w.heap.size + 1 + 1, 0, none⟩ = some (.bool false) := K3.out.at_ 0 rfl
  have K3c1 : w2.cell? ⟨w.heap.size + 1 + 1, 1, none⟩ = some (.slice none 0 0) := K3.out.at_ 1 rfl
  have K3c2 : w2.cell? ⟨w.heap.size + 1 + 1, 2, none⟩ = some (.slice none 0 0) := K3.out.at_ 2 rfl
  have p0 : w2.frozen? ⟨w.heap.size + 1 + 1, 0, none⟩ = false := K3.out.frozen 0
  have p1 : w2.frozen? ⟨w.heap.size + 1 + 1, 1, none⟩ = false := K3.out.frozen 1
  have p2 : w2.frozen? ⟨w.heap.size + 1 + 1, 2, none⟩ = false := K3.out.frozen 2
  go_wp2
  refine bodyPost_ret (v := .tuple #[.agg #[.bool false, .slice none 0 0, .slice none 0 0], .int .i64 1]) (by simp [results, Tryz.results70, go_sem, K3c0, K3c1, K3c2, p0, p1, p2]) rfl ?_
  exact opq_end hR ⟨rfl, (by (repeat (first | exact b0 | exact Below.refl _ _ | refine Below.setCell ?_ (by first | (simp; done) | (simp; omega)) _ | refine Below.alloc ?_ (by first | (simp; done) | (simp; omega)) _)))⟩
set_option maxHeartbeats 1000000 in
theorem krDiv_bad {w : World} {v v' : Value} {b1 b2 : Bool} {xs1 ys1 xs2 ys2 : List Nat} (h1 : RPrt w v b1 xs1 ys1) (h2 : RPrt w v' b2 xs2 ys2) (hb : (rok b1 xs1 ys1 && rok b2 xs2 ys2) = false) :
    Calls Tryz.prog 71 #[v, v'] w fun e w' => e = .returned (.tuple #[.agg #[.bool false, .slice none 0 0, .slice none 0 0], .int .i64 1]) ∧ Below w.heap.size w w' := by
  refine opq fun R hR => ?_
  obtain ⟨u1, w1', rfl, U1, V1⟩ := id h1
  obtain ⟨u2, w2', rfl, U2, V2⟩ := id h2
  obtain ⟨A1, n1, d1, rfl, _⟩ := U1.slice
  obtain ⟨D1, m1, k1, rfl, _⟩ := V1.slice
  obtain ⟨A2, n2, d2, rfl, _⟩ := U2.slice
  obtain ⟨D2, m2, k2, rfl, _⟩ := V2.slice
  clear U1 V1 U2 V2
  replace h1 := hide h1
  replace h2 := hide h2
  go_enter Tryz.func71, Tryz.ntmps71
  have b0 := hide (Below.refl w.heap.size w)
  have K1 := hide (Blk.new_at w (w.heap.size) (by simp) 70 #[.bool b1, .slice A1 n1 d1, .slice D1 m1 k1])
  have y := (Below.refl w.heap.size w).alloc (Nat.le_refl _) (.cells #[.bool b1, .slice A1 n1 d1, .slice D1 m1 k1] 70)
  replace b0 := hide (below_tr b0.out y)
  clear y
  have K2 := hide (Blk.new_at (w.alloc (.cells #[.bool b1, .slice A1 n1 d1, .slice D1 m1 k1] 70)) (w.heap.size + 1) (by simp) 70 #[.bool b2, .slice A2 n2 d2, .slice D2 m2 k2])
  have y := (Below.refl (w.alloc (.cells #[.bool b1, .slice A1 n1 d1, .slice D1 m1 k1] 70)).heap.size (w.alloc (.cells #[.bool b1, .slice A1 n1 d1, .slice D1 m1 k1] 70))).alloc (Nat.le_refl _) (.cells #[.bool b2, .slice A2 n2 d2, .slice D2 m2 k2] 70)
  replace K1 := hide (K1.out.below' y)
  replace b0 := hide (below_tr b0.out y)
  clear y
  have K3 := hide (Blk.new_at ((w.alloc (.cells #[.bool b1, .slice A1 n1 d1, .slice D1 m1 k1] 70)).alloc (.cells #[.bool b2, .slice A2 n2 d2, .slice D2 m2 k2] 70)) (w.heap.size + 1 + 1) (by simp) 70 #[.bool false, .slice none 0 0, .slice none 0 0])
  have y := (Below.refl ((w.alloc (.cells #[.bool b1, .slice A1 n1 d1, .slice D1 m1 k1] 70)).alloc (.cells #[.bool b2, .slice A2 n2 d2, .slice D2 m2 k2] 70)).heap.size ((w.alloc (.cells #[.bool b1, .slice A1 n1 d1, .slice D1 m1 k1] 70)).alloc (.cells #[.bool b2, .slice A2 n2 d2, .slice D2 m2 k2] 70))).alloc (Nat.le_refl _) (.cells #[.bool false, .slice none 0 0, .slice none 0 0] 70)
  replace K1 := hide (K1.out.below' y)
  replace K2 := hide (K2.out.below' y)
  replace b0 := hide (below_tr b0.out y)
  clear y
  have K1c0 : (((w.alloc (.cells #[.bool b1, .slice A1 n1 d1, .slice D1 m1 k1] 70)).alloc (.cells #[.bool b2, .slice A2 n2 d2, .slice D2 m2 k2] 70)).alloc (.cells #[.bool false, .slice none 0 0, .slice none 0 0] 70)).cell? ⟨w.heap.size, 0, none⟩ = some (.bool b1) := K1.out.at_ 0 rfl
  have K1c1 : (((w.alloc (.cells #[.bool b1, .slice A1 n1 d1, .slice D1 m1 k1] 70)).alloc (.cells #[.bool b2, .slice A2 n2 d2, .slice D2 m2 k2] 70)).alloc (.cells #[.bool false, .slice none 0 0, .slice none 0 0] 70)).cell? ⟨w.heap.size, 1, none⟩ = some (.slice A1 n1 d1) := K1.out.at_ 1 rfl
  have K1c2 : (((w.alloc (.cells #[.bool b1, .slice A1 n1 d1, .slice D1 m1 k1] 70)).alloc (.cells #[.bool b2, .slice A2 n2 d2, .slice D2 m2 k2] 70)).alloc (.cells #[.bool false, .slice none 0 0, .slice none 0 0] 70)).cell? ⟨w.heap.size, 2, none⟩ = some (.slice D1 m1 k1) := K1.out.at_ 2 rfl
  have K2c0 : (((w.alloc (.cells #[.bool b1, .slice A1 n1 d1, .slice D1 m1 k1] 70)).alloc (.cells #[.bool b2, .slice A2 n2 d2, .slice D2 m2 k2] 70)).alloc (.cells #[.bool false, .slice none 0 0, .slice none 0 0] 70)).cell? ⟨w.heap.size + 1, 0, none⟩ = some (.bool b2) := K2.out.at_ 0 rfl
  have K2c1 : (((w.alloc (.cells #[.bool b1, .slice A1 n1 d1, .slice D1 m1 k1] 70)).alloc (.cells #[.bool b2, .slice A2 n2 d2, .slice D2 m2 k2] 70)).alloc (.cells #[.bool false, .slice none 0 0, .slice none 0 0] 70)).cell? ⟨w.heap.size + 1, 1, none⟩ = some (.slice A2 n2 d2) := K2.out.at_ 1 rfl
  have K2c2 : (((w.alloc (.cells #[.bool b1, .slice A1 n1 d1, .slice D1 m1 k1] 70)).alloc (.cells #[.bool b2, .slice A2 n2 d2, .slice D2 m2 k2] 70)).alloc (.cells #[.bool false, .slice none 0 0, .slice none 0 0] 70)).cell? ⟨w.heap.size + 1, 2, none⟩ = some (.slice D2 m2 k2) := K2.out.at_ 2 rfl
  have K3c0 : (((w.alloc (.cells #[.bool b1, .slice A1 n1 d1, .slice D1 m1 k1] 70)).alloc (.cells #[.bool b2, .slice A2 n2 d2, .slice D2 m2 k2] 70)).alloc (.cells #[.bool false, .slice none 0 0, .slice none 0 0] 70)).cell? ⟨w.heap.size + 1 + 1, 0, none⟩ = some (.bool false) := K3.out.at_ 0 rfl
  have K3c1 : (((w.alloc (.cells #[.bool b1, .slice A1 n1 d1, .slice D1 m1 k1] 70)).alloc (.cells #[.bool b2, .slice A2 n2 d2, .slice D2 m2 k2] 70)).alloc (.cells #[.bool false, .slice none 0 0, .slice none 0 0] 70)).cell? ⟨w.heap.size + 1 + 1, 1, none⟩ = some (.slice none 0 0) := K3.out.at_ 1 rfl
  have K3c2 : (((w.alloc (.cells #[.bool b1, .slice A1 n1 d1, .slice D1 m1 k1] 70)).alloc (.cells #[.bool b2, .slice A2 n2 d2, .slice D2 m2 k2] 70)).alloc (.cells #[.bool false, .slice none 0 0, .slice none 0 0] 70)).cell? ⟨w.heap.size + 1 + 1, 2, none⟩ = some (.slice none 0 0) := K3.out.at_ 2 rfl
  cases r1 : rok b1 xs1 ys1
  case false =>
    go_wp2_with fail
    refine (krCheck_P (h1.out.below b0.out) false r1).mono ?_
    rintro e w1 ⟨_, rfl, d0, rfl⟩
    replace K1 := hide (K1.out.below' d0)
    replace K2 := hide (K2.out.below' d0)
    replace K3 := hide (K3.out.below' d0)
    replace b0 := hide (below_tr b0.out d0)
    clear d0
    clear K1c0 K1c1 K1c2 K2c0 K2c1 K2c2 K3c0 K3c1 K3c2
    have K1c0 : w1.cell? ⟨w.heap.size, 0, none⟩ = some (.bool b1) := K1.out.at_ 0 rfl
    have K1c1 : w1.cell? ⟨w.heap.size, 1, none⟩ = some (.slice A1 n1 d1) := K1.out.at_ 1 rfl
    have K1c2 : w1.cell? ⟨w.heap.size, 2, none⟩ = some (.slice D1 m1 k1) := K1.out.at_ 2 rfl
    have K2c0 : w1.cell? ⟨w.heap.size + 1, 0, none⟩ = some (.bool b2) := K2.out.at_ 0 rfl
    have K2c1 : w1.cell? ⟨w.heap.size + 1, 1, none⟩ = some (.slice A2 n2 d2) := K2.out.at_ 1 rfl
    have K2c2 : w1.cell? ⟨w.heap.size + 1, 2, none⟩ = some (.slice D2 m2 k2) := K2.out.at_ 2 rfl
    have K3c0 : w1.cell? ⟨w.heap.size + 1 + 1, 0, none⟩ = some (.bool false) := K3.out.at_ 0 rfl
    have K3c1 : w1.cell? ⟨w.heap.size + 1 + 1, 1, none⟩ = some (.slice none 0 0) := K3.out.at_ 1 rfl
    have K3c2 : w1.cell? ⟨w.heap.size + 1 + 1, 2, none⟩ = some (.slice none 0 0) := K3.out.at_ 2 rfl
    have p0 : w1.frozen? ⟨w.heap.size + 1 + 1, 0, none⟩ = false := K3.out.frozen 0
    have p1 : w1.frozen? ⟨w.heap.size + 1 + 1, 1, none⟩ = false := K3.out.frozen 1
    have p2 : w1.frozen? ⟨w.heap.size + 1 + 1, 2, none⟩ = false := K3.out.frozen 2
    go_wp2
    refine bodyPost_ret (v := .tuple #[.agg #[.bool false, .slice none 0 0, .slice none 0 0], .int .i64 1]) (by simp [results, Tryz.results71, go_sem, K3c0, K3c1, K3c2, p0, p1, p2]) rfl ?_
    exact opq_end hR ⟨rfl, (by (repeat (first | exact b0 | exact Below.refl _ _ | refine Below.setCell ?_ (by first | (simp; done) | (simp; omega)) _ | refine Below.alloc ?_ (by first | (simp; done) | (simp; omega)) _)))⟩
  rw [r1, Bool.true_and] at hb
  go_wp2_with fail
  refine (krCheck_P (h1.out.below b0.out) true r1).mono ?_
  rintro e w1 ⟨_, rfl, d0, rfl⟩
  replace K1 := hide (K1.out.below' d0)
  replace K2 := hide (K2.out.below' d0)
  replace K3 := hide (K3.out.below' d0)
  replace b0 := hide (below_tr b0.out d0)
  clear d0
  clear K1c0 K1c1 K1c2 K2c0 K2c1 K2c2 K3c0 K3c1 K3c2
  have K1c0 : w1.cell? ⟨w.heap.size, 0, none⟩ = some (.bool b1) := K1.out.at_ 0 rfl
  have K1c1 : w1.cell? ⟨w.heap.size, 1, none⟩ = some (.slice A1 n1 d1) := K1.out.at_ 1 rfl
  have K1c2 : w1.cell? ⟨w.heap.size, 2, none⟩ = some (.slice D1 m1 k1) := K1.out.at_ 2 rfl
  have K2c0 : w1.cell? ⟨w.heap.size + 1, 0, none⟩ = some (.bool b2) := K2.out.at_ 0 rfl
  have K2c1 : w1.cell? ⟨w.heap.size + 1, 1, none⟩ = some (.slice A2 n2 d2) := K2.out.at_ 1 rfl
  have K2c2 : w1.cell? ⟨w.heap.size + 1, 2, none⟩ = some (.slice D2 m2 k2) := K2.out.at_ 2 rfl
  have K3c0 : w1.cell? ⟨w.heap.size + 1 + 1, 0, none⟩ = some (.bool false) := K3.out.at_ 0 rfl
  have K3c1 : w1.cell? ⟨w.heap.size + 1 + 1, 1, none⟩ = some (.slice none 0 0) := K3.out.at_ 1 rfl
  have K3c2 : w1.cell? ⟨w.heap.size + 1 + 1, 2, none⟩ = some (.slice none 0 0) := K3.out.at_ 2 rfl
  go_wp2_with fail
  refine (krCheck_P (h2.out.below b0.out) false hb).mono ?_
  rintro e w2 ⟨_, rfl, d0, rfl⟩
  replace K1 := hide (K1.out.below' d0)
  replace K2 := hide (K2.out.below' d0)
  replace K3 := hide (K3.out.below' d0)
  replace b0 := hide (below_tr b0.out d0)
  clear d0
  clear K1c0 K1c1 K1c2 K2c0 K2c1 K2c2 K3c0 K3c1 K3c2
  have K1c0 : w2.cell? ⟨w.heap.size, 0, none⟩ = some (.bool b1) := K1.out.at_ 0 rfl
  have K1c1 : w2.cell? ⟨w.heap.size, 1, none⟩ = some (.slice A1 n1 d1) := K1.out.at_ 1 rfl
  have K1c2 : w2.cell? ⟨w.heap.size, 2, none⟩ = some (.slice D1 m1 k1) := K1.out.at_ 2 rfl
  have K2c0 : w2.cell? ⟨w.heap.size + 1, 0, none⟩ = some (.bool b2) := K2.out.at_ 0 rfl
  have K2c1 : w2.cell? ⟨w.heap.size + 1, 1, none⟩ = some (.slice A2 n2 d2) := K2.out.at_ 1 rfl
  have K2c2 : w2.cell? ⟨w.heap.size + 1, 2, none⟩ = some (.slice D2 m2 k2) := K2.out.at_ 2 rfl
  have K3c0 : w2.cell? ⟨w.heap.size + 1 + 1, 0, none⟩ = some (.bool false) := K3.out.at_ 0 rfl
  have K3c1 : w2.cell? ⟨w.heap.size + 1 + 1, 1, none⟩ = some (.slice none 0 0) := K3.out.at_ 1 rfl
  have K3c2 : w2.cell? ⟨w.heap.size + 1 + 1, 2, none⟩ = some (.slice none 0 0) := K3.out.at_ 2 rfl
  have p0 : w2.frozen? ⟨w.heap.size + 1 + 1, 0, none⟩ = false := K3.out.frozen 0
  have p1 : w2.frozen? ⟨w.heap.size + 1 + 1, 1, none⟩ = false := K3.out.frozen 1
  have p2 : w2.frozen? ⟨w.heap.size + 1 + 1, 2, none⟩ = false := K3.out.frozen 2
  go_wp2
  refine bodyPost_ret (v := .tuple #[.agg #[.bool false, .slice none 0 0, .slice none 0 0], .int .i64 1]) (by simp [results, Tryz.results71, go_sem, K3c0, K3c1, K3c2, p0, p1, p2]) rfl ?_
  exact opq_end hR ⟨rfl, (by (repeat (first | exact b0 | exact Below.refl _ _ | refine Below.setCell ?_ (by first | (simp; done) | (simp; omega)) _ | refine Below.alloc ?_ (by first | (simp; done) | (simp; omega)) _)))⟩
set_option maxHeartbeats 1000000 in
theorem rMake_bad {w : World} {v v' : Value} {b1 b2 : Bool} {xs1 xs2 : List Nat} (h1 : IPrt w v b1 xs1) (h2 : IPrt w v' b2 xs2) (hb : (iok b1 xs1 && iok b2 xs2) = false) :
    Calls Tryz.prog 51 #[v, v'] w fun e w' => e = .returned (.tuple #[.agg #[.bool false, .slice none 0 0, .slice none 0 0], .int .i64 1]) ∧ Below w.heap.size w w' := by
  refine opq fun R hR => ?_
  obtain ⟨u1, rfl, p1⟩ := id h1
  obtain ⟨u2, rfl, p2⟩ := id h2
  obtain ⟨A1, n1, d1, rfl, _⟩ := p1.slice
  obtain ⟨A2, n2, d2, rfl, _⟩ := p2.slice
  clear p1 p2
  replace h1 := hide h1
  replace h2 := hide h2
  go_enter Tryz.func51, Tryz.ntmps51
  have b0 := hide (Below.refl w.heap.size w)
  have K1 := hide (Blk.new_at w (w.heap.size) (by simp) 25 #[.bool b1, .slice A1 n1 d1])
  have y := (Below.refl w.heap.size w).alloc (Nat.le_refl _) (.cells #[.bool b1, .slice A1 n1 d1] 25)
  replace b0 := hide (below_tr b0.out y)
  clear y
  have K2 := hide (Blk.new_at (w.alloc (.cells #[.bool b1, .slice A1 n1 d1] 25)) (w.heap.size + 1) (by simp) 25 #[.bool b2, .slice A2 n2 d2])
  have y := (Below.refl (w.alloc (.cells #[.bool b1, .slice A1 n1 d1] 25)).heap.size (w.alloc (.cells #[.bool b1, .slice A1 n1 d1] 25))).alloc (Nat.le_refl _) (.cells #[.bool b2, .slice A2 n2 d2] 25)
  replace K1 := hide (K1.out.below' y)
  replace b0 := hide (below_tr b0.out y)
  clear y
  have K3 := hide (Blk.new_at ((w.alloc (.cells #[.bool b1, .slice A1 n1 d1] 25)).alloc (.cells #[.bool b2, .slice A2 n2 d2] 25)) (w.heap.size + 1 + 1) (by simp) 70 #[.bool false, .slice none 0 0, .slice none 0 0])
  have y := (Below.refl ((w.alloc (.cells #[.bool b1, .slice A1 n1 d1] 25)).alloc (.cells #[.bool b2, .slice A2 n2 d2] 25)).heap.size ((w.alloc (.cells #[.bool b1, .slice A1 n1 d1] 25)).alloc (.cells #[.bool b2, .slice A2 n2 d2] 25))).alloc (Nat.le_refl _) (.cells #[.bool false, .slice none 0 0, .slice none 0 0] 70)
  replace K1 := hide (K1.out.below' y)
  replace K2 := hide (K2.out.below' y)
  replace b0 := hide (below_tr b0.out y)
  clear y
  have K1c0 : (((w.alloc (.cells #[.bool b1, .slice A1 n1 d1] 25)).alloc (.cells #[.bool b2, .slice A2 n2 d2] 25)).alloc (.cells #[.bool false, .slice none 0 0, .slice none 0 0] 70)).cell? ⟨w.heap.size, 0, none⟩ = some (.bool b1) := K1.out.at_ 0 rfl
  have K1c1 : (((w.alloc (.cells #[.bool b1, .slice A1 n1 d1] 25)).alloc (.cells #[.bool b2, .slice A2 n2 d2] 25)).alloc (.cells #[.bool false, .slice none 0 0, .slice none 0 0] 70)).cell? ⟨w.heap.size, 1, none⟩ = some (.slice A1 n1 d1) := K1.out.at_ 1 rfl
  have K2c0 : (((w.alloc (.cells #[.bool b1, .slice A1 n1 d1] 25)).alloc (.cells #[.bool b2, .slice A2 n2 d2] 25)).alloc (.cells #[.bool false, .slice none 0 0, .slice none 0 0] 70)).cell? ⟨w.heap.size + 1, 0, none⟩ = some (.bool b2) := K2.out.at_ 0 rfl
  have K2c1 : (((w.alloc (.cells #[.bool b1, .slice A1 n1 d1] 25)).alloc (.cells #[.bool b2, .slice A2 n2 d2] 25)).alloc (.cells #[.bool false, .slice none 0 0, .slice none 0 0] 70)).cell? ⟨w.heap.size + 1, 1, none⟩ = some (.slice A2 n2 d2) := K2.out.at_ 1 rfl
  have K3c0 : (((w.alloc (.cells #[.bool b1, .slice A1 n1 d1] 25)).alloc (.cells #[.bool b2, .slice A2 n2 d2] 25)).alloc (.cells #[.bool false, .slice none 0 0, .slice none 0 0] 70)).cell? ⟨w.heap.size + 1 + 1, 0, none⟩ = some (.bool false) := K3.out.at_ 0 rfl
  have K3c1 : (((w.alloc (.cells #[.bool b1, .slice A1 n1 d1] 25)).alloc (.cells #[.bool b2, .slice A2 n2 d2] 25)).alloc (.cells #[.bool false, .slice none 0 0, .slice none 0 0] 70)).cell? ⟨w.heap.size + 1 + 1, 1, none⟩ = some (.slice none 0 0) := K3.out.at_ 1 rfl
  have K3c2 : (((w.alloc (.cells #[.bool b1, .slice A1 n1 d1] 25)).alloc (.cells #[.bool b2, .slice A2 n2 d2] 25)).alloc (.cells #[.bool false, .slice none 0 0, .slice none 0 0] 70)).cell? ⟨w.heap.size + 1 + 1, 2, none⟩ = some (.slice none 0 0) := K3.out.at_ 2 rfl
  cases r1 : iok b1 xs1
  case false =>
    go_wp2_with fail
    refine (iCheck_P (h1.out.below b0.out) false r1).mono ?_
    rintro e w1 ⟨_, rfl, d0, rfl⟩
    replace K1 := hide (K1.out.below' d0)
    replace K2 := hide (K2.out.below' d0)
    replace K3 := hide (K3.out.below' d0)
    replace b0 := hide (below_tr b0.out d0)
    clear d0
    clear K1c0 K1c1 K2c0 K2c1 K3c0 K3c1 K3c2
    have K1c0 : w1.cell? ⟨w.heap.size, 0, none⟩ = some (.bool b1) := K1.out.at_ 0 rfl
    have K1c1 : w1.cell? ⟨w.heap.size, 1, none⟩ = some (.slice A1 n1 d1) := K1.out.at_ 1 rfl
    have K2c0 : w1.cell? ⟨w.heap.size + 1, 0, none⟩ = some (.bool b2) := K2.out.at_ 0 rfl
    have K2c1 : w1.cell? ⟨w.heap.size + 1, 1, none⟩ = some (.slice A2 n2 d2) := K2.out.at_ 1 rfl
    have K3c0 : w1.cell? ⟨w.heap.size + 1 + 1, 0, none⟩ = some (.bool false) := K3.out.at_ 0 rfl
    have K3c1 : w1.cell? ⟨w.heap.size + 1 + 1, 1, none⟩ = some (.slice none 0 0) := K3.out.at_ 1 rfl
    have K3c2 : w1.cell? ⟨w.heap.size + 1 + 1, 2, none⟩ = some (.slice none 0 0) := K3.out.at_ 2 rfl
    have p0 : w1.frozen? ⟨w.heap.size + 1 + 1, 0, none⟩ = false := K3.out.frozen 0
    have p1 : w1.frozen? ⟨w.heap.size + 1 + 1, 1, none⟩ = false := K3.out.frozen 1
    have p2 : w1.frozen? ⟨w.heap.size + 1 + 1, 2, none⟩ = false := K3.out.frozen 2
    go_wp2
    refine bodyPost_ret (v := .tuple #[.agg #[.bool false, .slice none 0 0, .slice none 0 0], .int .i64 1]) (by simp [results, Tryz.results51, go_sem, K3c0, K3c1, K3c2, p0, p1, p2]) rfl ?_
    exact opq_end hR ⟨rfl, (by (repeat (first | exact b0 | exact Below.refl _ _ | refine Below.setCell ?_ (by first | (simp; done) | (simp; omega)) _ | refine Below.alloc ?_ (by first | (simp; done) | (simp; omega)) _)))⟩
  rw [r1, Bool.true_and] at hb
  go_wp2_with fail
  refine (iCheck_P (h1.out.below b0.out) true r1).mono ?_
  rintro e w1 ⟨_, rfl, d0, rfl⟩
  replace K1 := hide (K1.out.below' d0)
  replace K2 := hide (K2.out.below' d0)
  replace K3 := hide (K3.out.below' d0)
  replace b0 := hide (below_tr b0.out d0)
  clear d0
  clear K1c0 K1c1 K2c0 K2c1 K3c0 K3c1 K3c2
  have K1c0 : w1.cell? ⟨w.heap.size, 0, none⟩ = some (.bool b1) := K1.out.at_ 0 rfl
  have K1c1 : w1.cell? ⟨w.heap.size, 1, none⟩ = some (.slice A1 n1 d1) := K1.out.at_ 1 rfl
  have K2c0 : w1.cell? ⟨w.heap.size + 1, 0, none⟩ = some (.bool b2) := K2.out.at_ 0 rfl
  have K2c1 : w1.cell? ⟨w.heap.size + 1, 1, none⟩ = some (.slice A2 n2 d2) := K2.out.at_ 1 rfl
  have K3c0 : w1.cell? ⟨w.heap.size + 1 + 1, 0, none⟩ = some (.bool false) := K3.out.at_ 0 rfl
  have K3c1 : w1.cell? ⟨w.heap.size + 1 + 1, 1, none⟩ = some (.slice none 0 0) := K3.out.at_ 1 rfl
  have K3c2 : w1.cell? ⟨w.heap.size + 1 + 1, 2, none⟩ = some (.slice none 0 0) := K3.out.at_ 2 rfl
  go_wp2_with fail
  refine (iCheck_P (h2.out.below b0.out) false hb).mono ?_
  rintro e w2 ⟨_, rfl, d0, rfl⟩
  replace K1 := hide (K1.out.below' d0)
  replace K2 := hide (K2.out.below' d0)
  replace K3 := hide (K3.out.below' d0)
  replace b0 := hide (below_tr b0.out d0)
  clear d0
  clear K1c0 K1c1 K2c0 K2c1 K3c0 K3c1 K3c2
  have K1c0 : w2.cell? ⟨w.heap.size, 0, none⟩ = some (.bool b1) := K1.out.at_ 0 rfl
  have K1c1 : w2.cell? ⟨w.heap.size, 1, none⟩ = some (.slice A1 n1 d1) := K1.out.at_ 1 rfl
  have K2c0 : w2.cell? ⟨w.heap.size + 1, 0, none⟩ = some (.bool b2) := K2.out.at_ 0 rfl
  have K2c1 : w2.cell? ⟨w.heap.size + 1, 1, none⟩ = some (.slice A2 n2 d2) := K2.out.at_ 1 rfl
  have K3c0 : w2.cell? ⟨w.heap.size + 1 + 1, 0, none⟩ = some (.bool false) := K3.out.at_ 0 rfl
  have K3c1 : w2.cell? ⟨w.heap.size + 1 + 1, 1, none⟩ = some (.slice none 0 0) := K3.out.at_ 1 rfl
  have K3c2 : w2.cell? ⟨w.heap.size + 1 + 1, 2, none⟩ = some (.slice none 0 0) := K3.out.at_ 2 rfl
  have p0 : w2.frozen? ⟨w.heap.size + 1 + 1, 0, none⟩ = false := K3.out.frozen 0
  have p1 : w2.frozen? ⟨w.heap.size + 1 + 1, 1, none⟩ = false := K3.out.frozen 1
  have p2 : w2.frozen? ⟨w.heap.size + 1 + 1, 2, none⟩ = false := K3.out.frozen 2
  go_wp2
  refine bodyPost_ret (v := .tuple #[.agg #[.bool false, .slice none 0 0, .slice none 0 0], .int .i64 1]) (by simp [results, Tryz.results51, go_sem, K3c0, K3c1, K3c2, p0, p1, p2]) rfl ?_
  exact opq_end hR ⟨rfl, (by (repeat (first | exact b0 | exact Below.refl _ _ | refine Below.setCell ?_ (by first | (simp; done) | (simp; omega)) _ | refine Below.alloc ?_ (by first | (simp; done) | (simp; omega)) _)))⟩
set_option maxHeartbeats 1000000 in
theorem krMake_bad {w : World} {v v' : Value} {b1 b2 : Bool} {xs1 xs2 : List Nat} (h1 : IPrt w v b1 xs1) (h2 : IPrt w v' b2 xs2) (hb : (iok b1 xs1 && iok b2 xs2) = false) :
    Calls Tryz.prog 52 #[v, v'] w fun e w' => e = .returned (.tuple #[.agg #[.bool false, .slice none 0 0, .slice none 0 0], .int .i64 1]) ∧ Below w.heap.size w w' := by
  refine opq fun R hR => ?_
  obtain ⟨u1, rfl, p1⟩ := id h1
  obtain ⟨u2, rfl, p2⟩ := id h2
  obtain ⟨A1, n1, d1, rfl, _⟩ := p1.slice
  obtain ⟨A2, n2, d2, rfl, _⟩ := p2.slice
  clear p1 p2
  replace h1 := hide h1
  replace h2 := hide h2
  go_enter Tryz.func52, Tryz.ntmps52
  have b0 := hide (Below.refl w.heap.size w)
  have K1 := hide (Blk.new_at w (w.heap.size) (by simp) 25 #[.bool b1, .slice A1 n1 d1])
  have y := (Below.refl w.heap.size w).alloc (Nat.le_refl _) (.cells #[.bool b1, .slice A1 n1 d1] 25)
  replace b0 := hide (below_tr b0.out y)
  clear y
  have K2 := hide (Blk.new_at (w.alloc (.cells #[.bool b1, .slice A1 n1 d1] 25)) (w.heap.size + 1) (by simp) 25 #[.bool b2, .slice A2 n2 d2])
  have y := (Below.refl (w.alloc (.cells #[.bool b1, .slice A1 n1 d1] 25)).heap.size (w.alloc (.cells #[.bool b1, .slice A1 n1 d1] 25))).alloc (Nat.le_refl _) (.cells #[.bool b2, .slice A2 n2 d2] 25)
  replace K1 := hide (K1.out.below' y)
  replace b0 := hide (below_tr b0.out y)
  clear y
  have K3 := hide (Blk.new_at ((w.alloc (.cells #[.bool b1, .slice A1 n1 d1] 25)).alloc (.cells #[.bool b2, .slice A2 n2 d2] 25)) (w.heap.size + 1 + 1) (by simp) 70 #[.bool false, .slice none 0 0, .slice none 0 0])
  have y := (Below.refl ((w.alloc (.cells #[.bool b1, .slice A1 n1 d1] 25)).alloc (.cells #[.bool b2, .slice A2 n2 d2] 25)).heap.size ((w.alloc (.cells #[.bool b1, .slice A1 n1 d1] 25)).alloc (.cells #[.bool b2, .slice A2 n2 d2] 25))).alloc (Nat.le_refl _) (.cells #[.bool false, .slice none 0 0, .slice none 0 0] 70)
  replace K1 := hide (K1.out.below' y)
  replace K2 := hide (K2.out.below' y)
  replace b0 := hide (below_tr b0.out y)
  clear y
  have K1c0 : (((w.alloc (.cells #[.bool b1, .slice A1 n1 d1] 25)).alloc (.cells #[.bool b2, .slice A2 n2 d2] 25)).alloc (.cells #[.bool false, .slice none 0 0, .slice none 0 0] 70)).cell? ⟨w.heap.size, 0, none⟩ = some (.bool b1) := K1.out.at_ 0 rfl
  have K1c1 : (((w.alloc (.cells #[.bool b1, .slice A1 n1 d1] 25)).alloc (.cells #[.bool b2, .slice A2 n2 d2] 25)).alloc (.cells #[.bool false, .slice none 0 0, .slice none 0 0] 70)).cell? ⟨w.heap.size, 1, none⟩ = some (.slice A1 n1 d1) := K1.out.at_ 1 rfl
  have K2c0 : (((w.alloc (.cells #[.bool b1, .slice A1 n1 d1] 25)).alloc (.cells #[.bool b2, .slice A2 n2 d2] 25)).alloc (.cells #[.bool false, .slice none 0 0, .slice none 0 0] 70)).cell? ⟨w.heap.size + 1, 0, none⟩ = some (.bool b2) := K2.out.at_ 0 rfl
  have K2c1 : (((w.alloc (.cells #[.bool b1, .slice A1 n1 d1] 25)).alloc (.cells #[.bool b2, .slice A2 n2 d2] 25)).alloc (.cells #[.bool false, .slice none 0 0, .slice none 0 0] 70)).cell? ⟨w.heap.size + 1, 1, none⟩ = some (.slice A2 n2 d2) := K2.out.at_ 1 rfl
  have K3c0 : (((w.alloc (.cells #[.bool b1, .slice A1 n1 d1] 25)).alloc (.cells #[.bool b2, .slice A2 n2 d2] 25)).alloc (.cells #[.bool false, .slice none 0 0, .slice none 0 0] 70)).cell? ⟨w.heap.size + 1 + 1, 0, none⟩ = some (.bool false) := K3.out.at_ 0 rfl
  have K3c1 : (((w.alloc (.cells #[.bool b1, .slice A1 n1 d1] 25)).alloc (.cells #[.bool b2, .slice A2 n2 d2] 25)).alloc (.cells #[.bool false, .slice none 0 0, .slice none 0 0] 70)).cell? ⟨w.heap.size + 1 + 1, 1, none⟩ = some (.slice none 0 0) := K3.out.at_ 1 rfl
  have K3c2 : (((w.alloc (.cells #[.bool b1, .slice A1 n1 d1] 25)).alloc (.cells #[.bool b2, .slice A2 n2 d2] 25)).alloc (.cells #[.bool false, .slice none 0 0, .slice none 0 0] 70)).cell? ⟨w.heap.size + 1 + 1, 2, none⟩ = some (.slice none 0 0) := K3.out.at_ 2 rfl
  cases r1 : iok b1 xs1
  case false =>
    go_wp2_with fail
    refine (qCheck_P (h1.out.below b0.out) false r1).mono ?_
    rintro e w1 ⟨_, rfl, d0, rfl⟩
    replace K1 := hide (K1.out.below' d0)
    replace K2 := hide (K2.out.below' d0)
    replace K3 := hide (K3.out.below' d0)
    replace b0 := hide (below_tr b0.out d0)
    clear d0
    clear K1c0 K1c1 K2c0 K2c1 K3c0 K3c1 K3c2
    have K1c0 : w1.cell? ⟨w.heap.size, 0, none⟩ = some (.bool b1) := K1.out.at_ 0 rfl
    have K1c1 : w1.cell? ⟨w.heap.size, 1, none⟩ = some (.slice A1 n1 d1) := K1.out.at_ 1 rfl
    have K2c0 : w1.cell? ⟨w.heap.size + 1, 0, none⟩ = some (.bool b2) := K2.out.at_ 0 rfl
    have K2c1 : w1.cell? ⟨w.heap.size + 1, 1, none⟩ = some (.slice A2 n2 d2) := K2.out.at_ 1 rfl
    have K3c0 : w1.cell? ⟨w.heap.size + 1 + 1, 0, none⟩ = some (.bool false) := K3.out.at_ 0 rfl
    have K3c1 : w1.cell? ⟨w.heap.size + 1 + 1, 1, none⟩ = some (.slice none 0 0) := K3.out.at_ 1 rfl
    have K3c2 : w1.cell? ⟨w.heap.size + 1 + 1, 2, none⟩ = some (.slice none 0 0) := K3.out.at_ 2 rfl
    have p0 : w1.frozen? ⟨w.heap.size + 1 + 1, 0, none⟩ = false := K3.out.frozen 0
    have p1 : w1.frozen? ⟨w.heap.size + 1 + 1, 1, none⟩ = false := K3.out.frozen 1
    have p2 : w1.frozen? ⟨w.heap.size + 1 + 1, 2, none⟩ = false := K3.out.frozen 2
    go_wp2
    refine bodyPost_ret (v := .tuple #[.agg #[.bool false, .slice none 0 0, .slice none 0 0], .int .i64 1]) (by simp [results, Tryz.results52, go_sem, K3c0, K3c1, K3c2, p0, p1, p2]) rfl ?_
    exact opq_end hR ⟨rfl, (by (repeat (first | exact b0 | exact Below.refl _ _ | refine Below.setCell ?_ (by first | (simp; done) | (simp; omega)) _ | refine Below.alloc ?_ (by first | (simp; done) | (simp; omega)) _)))⟩
  rw [r1, Bool.true_and] at hb
  go_wp2_with fail
  refine (qCheck_P (h1.out.below b0.out) true r1).mono ?_
  rintro e w1 ⟨_, rfl, d0, rfl⟩
  replace K1 := hide (K1.out.below' d0)
  replace K2 := hide (K2.out.below' d0)
  replace K3 := hide (K3.out.below' d0)
  replace b0 := hide (below_tr b0.out d0)
  clear d0
  clear K1c0 K1c1 K2c0 K2c1 K3c0 K3c1 K3c2
  have K1c0 : w1.cell? ⟨w.heap.size, 0, none⟩ = some (.bool b1) := K1.out.at_ 0 rfl
  have K1c1 : w1.cell? ⟨w.heap.size, 1, none⟩ = some (.slice A1 n1 d1) := K1.out.at_ 1 rfl
  have K2c0 : w1.cell? ⟨w.heap.size + 1, 0, none⟩ = some (.bool b2) := K2.out.at_ 0 rfl
  have K2c1 : w1.cell? ⟨w.heap.size + 1, 1, none⟩ = some (.slice A2 n2 d2) := K2.out.at_ 1 rfl
  have K3c0 : w1.cell? ⟨w.heap.size + 1 + 1, 0, none⟩ = some (.bool false) := K3.out.at_ 0 rfl
  have K3c1 : w1.cell? ⟨w.heap.size + 1 + 1, 1, none⟩ = some (.slice none 0 0) := K3.out.at_ 1 rfl
  have K3c2 : w1.cell? ⟨w.heap.size + 1 + 1, 2, none⟩ = some (.slice none 0 0) := K3.out.at_ 2 rfl
  go_wp2_with fail
  refine (qCheck_P (h2.out.below b0.out) false hb).mono ?_
  rintro e w2 ⟨_, rfl, d0, rfl⟩
  replace K1 := hide (K1.out.below' d0)
  replace K2 := hide (K2.out.below' d0)
  replace K3 := hide (K3.out.below' d0)
  replace b0 := hide (below_tr b0.out d0)
  clear d0
  clear K1c0 K1c1 K2c0 K2c1 K3c0 K3c1 K3c2
  have K1c0 : w2.cell? ⟨w.heap.size, 0, none⟩ = some (.bool b1) := K1.out.at_ 0 rfl
  have K1c1 : w2.cell? ⟨w.heap.size, 1, none⟩ = some (.slice A1 n1 d1) := K1.out.at_ 1 rfl
  have K2c0 : w2.cell? ⟨w.heap.size + 1, 0, none⟩ = some (.bool b2) := K2.out.at_ 0 rfl
  have K2c1 : w2.cell? ⟨w.heap.size + 1, 1, none⟩ = some (.slice A2 n2 d2) := K2.out.at_ 1 rfl
  have K3c0 : w2.cell? ⟨w.heap.size + 1 + 1, 0, none⟩ = some (.bool false) := K3.out.at_ 0 rfl
  have K3c1 : w2.cell? ⟨w.heap.size + 1 + 1, 1, none⟩ = some (.slice none 0 0) := K3.out.at_ 1 rfl
  have K3c2 : w2.cell? ⟨w.heap.size + 1 + 1, 2, none⟩ = some (.slice none 0 0) := K3.out.at_ 2 rfl
  have p0 : w2.frozen? ⟨w.heap.size + 1 + 1, 0, none⟩ = false := K3.out.frozen 0
  have p1 : w2.frozen? ⟨w.heap.size + 1 + 1, 1, none⟩ = false := K3.out.frozen 1
  have p2 : w2.frozen? ⟨w.heap.size + 1 + 1, 2, none⟩ = false := K3.out.frozen 2
  go_wp2
  refine bodyPost_ret (v := .tuple #[.agg #[.bool false, .slice none 0 0, .slice none 0 0], .int .i64 1]) (by simp [results, Tryz.results52, go_sem, K3c0, K3c1, K3c2, p0, p1, p2]) rfl ?_
  exact opq_end hR ⟨rfl, (by (repeat (first | exact b0 | exact Below.refl _ _ | refine Below.setCell ?_ (by first | (simp; done) | (simp; omega)) _ | refine Below.alloc ?_ (by first | (simp; done) | (simp; omega)) _)))⟩
set_option maxHeartbeats 2000000 in
theorem krMake_zero {w : World} {v v' : Value} {z n : Int} (h1 : ICan w v z) (h2 : ICan w v' n) (s : L z.natAbs ≤ 1000000000000) (s' : L n.natAbs ≤ 1000000000000) (hn : n = 0) :
    Calls Tryz.prog 52 #[v, v'] w fun e w' => e = .returned (.tuple #[.agg #[.bool false, .slice none 0 0, .slice none 0 0], .int .i64 10]) ∧ Below w.heap.size w w' := by
  refine opq fun R hR => ?_
  obtain ⟨b1, A1, n1, c1, rfl⟩ := h1.slice
  obtain ⟨b2, A2, n2, c2, rfl⟩ := h2.slice
  have I1 := hide h1
  have I2 := hide h2
  have P1 := hide (h1.prt (L_up s (by decide)))
  have P2 := hide (h2.prt (L_up s' (by decide)))
  have ln : n2 = (limbs n.natAbs).length := by
    obtain ⟨A, c, e, _⟩ := h2.nat.1
    cases e
    rfl
  clear h1 h2
  have l0 : n2 = 0 := by rw [ln, hn]; exact is_zero_len.2 (by simp)
  subst l0
  clear ln hn s s'
  go_enter Tryz.func52, Tryz.ntmps52
  have b0 := hide (Below.refl w.heap.size w)
  have K1 := hide (Blk.new_at w (w.heap.size) (by simp) 25 #[.bool b1, .slice A1 n1 c1])
  have y := (Below.refl w.heap.size w).alloc (Nat.le_refl _) (.cells #[.bool b1, .slice A1 n1 c1] 25)
  replace I1 := hide (I1.out.below y)
  replace I2 := hide (I2.out.below y)
  replace b0 := hide (below_tr b0.out y)
  clear y
  have K2 := hide (Blk.new_at (w.alloc (.cells #[.bool b1, .slice A1 n1 c1] 25)) (w.heap.size + 1) (by simp) 25 #[.bool b2, .slice A2 0 c2])
  have y := (Below.refl (w.alloc (.cells #[.bool b1, .slice A1 n1 c1] 25)).heap.size (w.alloc (.cells #[.bool b1, .slice A1 n1 c1] 25))).alloc (Nat.le_refl _) (.cells #[.bool b2, .slice A2 0 c2] 25)
  replace I1 := hide (I1.out.below y)
  replace I2 := hide (I2.out.below y)
  replace K1 := hide (K1.out.below' y)
  replace b0 := hide (below_tr b0.out y)
  clear y
  have K3 := hide (Blk.new_at ((w.alloc (.cells #[.bool b1, .slice A1 n1 c1] 25)).alloc (.cells #[.bool b2, .slice A2 0 c2] 25)) (w.heap.size + 1 + 1) (by simp) 70 #[.bool false, .slice none 0 0, .slice none 0 0])
  have y := (Below.refl ((w.alloc (.cells #[.bool b1, .slice A1 n1 c1] 25)).alloc (.cells #[.bool b2, .slice A2 0 c2] 25)).heap.size ((w.alloc (.cells #[.bool b1, .slice A1 n1 c1] 25)).alloc (.cells #[.bool b2, .slice A2 0 c2] 25))).alloc (Nat.le_refl _) (.cells #[.bool false, .slice none 0 0, .slice none 0 0] 70)
  replace I1 := hide (I1.out.below y)
  replace I2 := hide (I2.out.below y)
  replace K1 := hide (K1.out.below' y)
  replace K2 := hide (K2.out.below' y)
  replace b0 := hide (below_tr b0.out y)
  clear y
  have K1c0 : (((w.alloc (.cells #[.bool b1, .slice A1 n1 c1] 25)).alloc (.cells #[.bool b2, .slice A2 0 c2] 25)).alloc (.cells #[.bool false, .slice none 0 0, .slice none 0 0] 70)).cell? ⟨w.heap.size, 0, none⟩ = some (.bool b1) := K1.out.at_ 0 rfl
  have K1c1 : (((w.alloc (.cells #[.bool b1, .slice A1 n1 c1] 25)).alloc (.cells #[.bool b2, .slice A2 0 c2] 25)).alloc (.cells #[.bool false, .slice none 0 0, .slice none 0 0] 70)).cell? ⟨w.heap.size, 1, none⟩ = some (.slice A1 n1 c1) := K1.out.at_ 1 rfl
  have K2c0 : (((w.alloc (.cells #[.bool b1, .slice A1 n1 c1] 25)).alloc (.cells #[.bool b2, .slice A2 0 c2] 25)).alloc (.cells #[.bool false, .slice none 0 0, .slice none 0 0] 70)).cell? ⟨w.heap.size + 1, 0, none⟩ = some (.bool b2) := K2.out.at_ 0 rfl
  have K2c1 : (((w.alloc (.cells #[.bool b1, .slice A1 n1 c1] 25)).alloc (.cells #[.bool b2, .slice A2 0 c2] 25)).alloc (.cells #[.bool false, .slice none 0 0, .slice none 0 0] 70)).cell? ⟨w.heap.size + 1, 1, none⟩ = some (.slice A2 0 c2) := K2.out.at_ 1 rfl
  go_wp2_with fail
  refine (qCheck_P (P1.out.below b0.out) true (iok_self _)).mono ?_
  rintro e w1 ⟨_, rfl, d0, rfl⟩
  replace I1 := hide (I1.out.below d0)
  replace I2 := hide (I2.out.below d0)
  replace K1 := hide (K1.out.below' d0)
  replace K2 := hide (K2.out.below' d0)
  replace K3 := hide (K3.out.below' d0)
  replace b0 := hide (below_tr b0.out d0)
  clear d0
  clear K1c0 K1c1 K2c0 K2c1
  have K1c0 : w1.cell? ⟨w.heap.size, 0, none⟩ = some (.bool b1) := K1.out.at_ 0 rfl
  have K1c1 : w1.cell? ⟨w.heap.size, 1, none⟩ = some (.slice A1 n1 c1) := K1.out.at_ 1 rfl
  have K2c0 : w1.cell? ⟨w.heap.size + 1, 0, none⟩ = some (.bool b2) := K2.out.at_ 0 rfl
  have K2c1 : w1.cell? ⟨w.heap.size + 1, 1, none⟩ = some (.slice A2 0 c2) := K2.out.at_ 1 rfl
  go_wp2_with fail
  refine (qCheck_P (P2.out.below b0.out) true (iok_self _)).mono ?_
  rintro e w2 ⟨_, rfl, d0, rfl⟩
  replace I1 := hide (I1.out.below d0)
  replace I2 := hide (I2.out.below d0)
  replace K1 := hide (K1.out.below' d0)
  replace K2 := hide (K2.out.below' d0)
  replace K3 := hide (K3.out.below' d0)
  replace b0 := hide (below_tr b0.out d0)
  clear d0
  clear K1c0 K1c1 K2c0 K2c1
  have K1c0 : w2.cell? ⟨w.heap.size, 0, none⟩ = some (.bool b1) := K1.out.at_ 0 rfl
  have K1c1 : w2.cell? ⟨w.heap.size, 1, none⟩ = some (.slice A1 n1 c1) := K1.out.at_ 1 rfl
  have K2c0 : w2.cell? ⟨w.heap.size + 1, 0, none⟩ = some (.bool b2) := K2.out.at_ 0 rfl
  have K2c1 : w2.cell? ⟨w.heap.size + 1, 1, none⟩ = some (.slice A2 0 c2) := K2.out.at_ 1 rfl
  have K3c0 : w2.cell? ⟨w.heap.size + 1 + 1, 0, none⟩ = some (.bool false) := K3.out.at_ 0 rfl
  have K3c1 : w2.cell? ⟨w.heap.size + 1 + 1, 1, none⟩ = some (.slice none 0 0) := K3.out.at_ 1 rfl
  have K3c2 : w2.cell? ⟨w.heap.size + 1 + 1, 2, none⟩ = some (.slice none 0 0) := K3.out.at_ 2 rfl
  have p0 : w2.frozen? ⟨w.heap.size + 1 + 1, 0, none⟩ = false := K3.out.frozen 0
  have p1 : w2.frozen? ⟨w.heap.size + 1 + 1, 1, none⟩ = false := K3.out.frozen 1
  have p2 : w2.frozen? ⟨w.heap.size + 1 + 1, 2, none⟩ = false := K3.out.frozen 2
  go_wp2
  refine bodyPost_ret (v := .tuple #[.agg #[.bool false, .slice none 0 0, .slice none 0 0], .int .i64 10]) (by simp [results, Tryz.results52, go_sem, K3c0, K3c1, K3c2, p0, p1, p2]) rfl ?_
  exact opq_end hR ⟨rfl, (by (repeat (first | exact b0 | exact Below.refl _ _ | refine Below.setCell ?_ (by first | (simp; done) | (simp; omega)) _ | refine Below.alloc ?_ (by first | (simp; done) | (simp; omega)) _)))⟩
set_option maxHeartbeats 2000000 in
theorem krMake_ok {w : World} {v v' : Value} {z n : Int} (h1 : ICan w v z) (h2 : ICan w v' n) (s : L z.natAbs ≤ 1000000000000) (s' : L n.natAbs ≤ 1000000000000) (hn : n ≠ 0) :
    Calls Tryz.prog 52 #[v, v'] w fun e w' => ∃ u, e = .returned (.tuple #[u, .int .i64 0]) ∧ Below w.heap.size w w' ∧ RatR (Rat.divInt z n) w.heap.size w' u := by
  refine opq fun R hR => ?_
  obtain ⟨b1, A1, n1, c1, rfl⟩ := h1.slice
  obtain ⟨b2, A2, n2, c2, rfl⟩ := h2.slice
  have I1 := hide h1
  have I2 := hide h2
  have P1 := hide (h1.prt (L_up s (by decide)))
  have P2 := hide (h2.prt (L_up s' (by decide)))
  have ln : n2 = (limbs n.natAbs).length := by
    obtain ⟨A, c, e, _⟩ := h2.nat.1
    cases e
    rfl
  clear h1 h2
  have l0 : 0 < n2 := by
    rw [ln]
    rcases Nat.eq_zero_or_pos (limbs n.natAbs).length with z | z
    · exact absurd (by have := is_zero_len.1 z; omega) hn
    · exact z
  clear ln
  have hy := hide hn
  replace s := hide s
  replace s' := hide s'
  clear hn
  go_enter Tryz.func52, Tryz.ntmps52
  have b0 := hide (Below.refl w.heap.size w)
  have K1 := hide (Blk.new_at w (w.heap.size) (by simp) 25 #[.bool b1, .slice A1 n1 c1])
  have y := (Below.refl w.heap.size w).alloc (Nat.le_refl _) (.cells #[.bool b1, .slice A1 n1 c1] 25)
  replace I1 := hide (I1.out.below y)
  replace I2 := hide (I2.out.below y)
  replace b0 := hide (below_tr b0.out y)
  clear y
  have K2 := hide (Blk.new_at (w.alloc (.cells #[.bool b1, .slice A1 n1 c1] 25)) (w.heap.size + 1) (by simp) 25 #[.bool b2, .slice A2 n2 c2])
  have y := (Below.refl (w.alloc (.cells #[.bool b1, .slice A1 n1 c1] 25)).heap.size (w.alloc (.cells #[.bool b1, .slice A1 n1 c1] 25))).alloc (Nat.le_refl _) (.cells #[.bool b2, .slice A2 n2 c2] 25)
  replace I1 := hide (I1.out.below y)
  replace I2 := hide (I2.out.below y)
  replace K1 := hide (K1.out.below' y)
  replace b0 := hide (below_tr b0.out y)
  clear y
  have K3 := hide (Blk.new_at ((w.alloc (.cells #[.bool b1, .slice A1 n1 c1] 25)).alloc (.cells #[.bool b2, .slice A2 n2 c2] 25)) (w.heap.size + 1 + 1) (by simp) 70 #[.bool false, .slice none 0 0, .slice none 0 0])
  have y := (Below.refl ((w.alloc (.cells #[.bool b1, .slice A1 n1 c1] 25)).alloc (.cells #[.bool b2, .slice A2 n2 c2] 25)).heap.size ((w.alloc (.cells #[.bool b1, .slice A1 n1 c1] 25)).alloc (.cells #[.bool b2, .slice A2 n2 c2] 25))).alloc (Nat.le_refl _) (.cells #[.bool false, .slice none 0 0, .slice none 0 0] 70)
  replace I1 := hide (I1.out.below y)
  replace I2 := hide (I2.out.below y)
  replace K1 := hide (K1.out.below' y)
  replace K2 := hide (K2.out.below' y)
  replace b0 := hide (below_tr b0.out y)
  clear y
  have K1c0 : (((w.alloc (.cells #[.bool b1, .slice A1 n1 c1] 25)).alloc (.cells #[.bool b2, .slice A2 n2 c2] 25)).alloc (.cells #[.bool false, .slice none 0 0, .slice none 0 0] 70)).cell? ⟨w.heap.size, 0, none⟩ = some (.bool b1) := K1.out.at_ 0 rfl
  have K1c1 : (((w.alloc (.cells #[.bool b1, .slice A1 n1 c1] 25)).alloc (.cells #[.bool b2, .slice A2 n2 c2] 25)).alloc (.cells #[.bool false, .slice none 0 0, .slice none 0 0] 70)).cell? ⟨w.heap.size, 1, none⟩ = some (.slice A1 n1 c1) := K1.out.at_ 1 rfl
  have K2c0 : (((w.alloc (.cells #[.bool b1, .slice A1 n1 c1] 25)).alloc (.cells #[.bool b2, .slice A2 n2 c2] 25)).alloc (.cells #[.bool false, .slice none 0 0, .slice none 0 0] 70)).cell? ⟨w.heap.size + 1, 0, none⟩ = some (.bool b2) := K2.out.at_ 0 rfl
  have K2c1 : (((w.alloc (.cells #[.bool b1, .slice A1 n1 c1] 25)).alloc (.cells #[.bool b2, .slice A2 n2 c2] 25)).alloc (.cells #[.bool false, .slice none 0 0, .slice none 0 0] 70)).cell? ⟨w.heap.size + 1, 1, none⟩ = some (.slice A2 n2 c2) := K2.out.at_ 1 rfl
  go_wp2_with fail
  refine (qCheck_P (P1.out.below b0.out) true (iok_self _)).mono ?_
  rintro e w1 ⟨_, rfl, d0, rfl⟩
  replace I1 := hide (I1.out.below d0)
  replace I2 := hide (I2.out.below d0)
  replace K1 := hide (K1.out.below' d0)
  replace K2 := hide (K2.out.below' d0)
  replace K3 := hide (K3.out.below' d0)
  replace b0 := hide (below_tr b0.out d0)
  clear d0
  clear K1c0 K1c1 K2c0 K2c1
  have K1c0 : w1.cell? ⟨w.heap.size, 0, none⟩ = some (.bool b1) := K1.out.at_ 0 rfl
  have K1c1 : w1.cell? ⟨w.heap.size, 1, none⟩ = some (.slice A1 n1 c1) := K1.out.at_ 1 rfl
  have K2c0 : w1.cell? ⟨w.heap.size + 1, 0, none⟩ = some (.bool b2) := K2.out.at_ 0 rfl
  have K2c1 : w1.cell? ⟨w.heap.size + 1, 1, none⟩ = some (.slice A2 n2 c2) := K2.out.at_ 1 rfl
  go_wp2_with fail
  refine (qCheck_P (P2.out.below b0.out) true (iok_self _)).mono ?_
  rintro e w2 ⟨_, rfl, d0, rfl⟩
  replace I1 := hide (I1.out.below d0)
  replace I2 := hide (I2.out.below d0)
  replace K1 := hide (K1.out.below' d0)
  replace K2 := hide (K2.out.below' d0)
  replace K3 := hide (K3.out.below' d0)
  replace b0 := hide (below_tr b0.out d0)
  clear d0
  clear K1c0 K1c1 K2c0 K2c1
  have K1c0 : w2.cell? ⟨w.heap.size, 0, none⟩ = some (.bool b1) := K1.out.at_ 0 rfl
  have K1c1 : w2.cell? ⟨w.heap.size, 1, none⟩ = some (.slice A1 n1 c1) := K1.out.at_ 1 rfl
  have K2c0 : w2.cell? ⟨w.heap.size + 1, 0, none⟩ = some (.bool b2) := K2.out.at_ 0 rfl
  have K2c1 : w2.cell? ⟨w.heap.size + 1, 1, none⟩ = some (.slice A2 n2 c2) := K2.out.at_ 1 rfl
  go_wp2_with fail
  clear K1c0 K1c1 K2c0 K2c1
  have DS := hide (div_sign (I1.out.sign) (I2.out.sign) hy.out)
  refine wp_region_facts 11 (fun w' => Below w2.heap.size w2 w') [(20, .eq ((.pointer (some ⟨w.heap.size, 0, none⟩) : Value))), (21, .eq (.bool b1)), (22, .eq ((.pointer (some ⟨w.heap.size + 1, 0, none⟩) : Value))), (23, .eq (.bool b2)), (24, .eq (.bool (b1 != b2))), (25, .eq ((.pointer (some ⟨w.heap.size, 1, none⟩) : Value))), (26, .eq (.slice A1 n1 c1)), (27, (.int (if n < 0 then -z else z))), (28, .eq ((.pointer (some ⟨w.heap.size + 1, 1, none⟩) : Value))), (29, .eq (.slice A2 n2 c2)), (30, (.ratR (mkRat (if n < 0 then -z else z) (n).natAbs) w.heap.size))] [false, false, false, false, false, false, false, false, false, false, false, false, false, false, false, false, false, false, false, false, true, true, true, true, true, true, true, true, true, true, true] mixed (by kernel_rfl) (by kernel_rfl) (by kernel_rfl) (fun _ _ h hb => h.trans (hb.mono h.size)) ((Below.refl _ _).drew) ⟨?_, ?_, ?_, ?_, ?_, ?_, ?_, ?_, ?_, ?_, ?_, trivial⟩ ?_
  · exact .fieldAddr (.inl rfl) rfl rfl rfl (fun a w' hC hs hl => by rw [show a.eval (.tmp 2) = (.pointer (some ⟨w.heap.size, 0, none⟩) : Value) from (hs 2 (by kernel_rfl))]; exact fa_Int0_)
  · exact .load (.bool b1) (.inl rfl) rfl rfl (fun a w' hC hs hl => by rw [show a.eval (.tmp 20) = (.pointer (some ⟨w.heap.size, 0, none⟩) : Value) from (hl 20 (by kernel_rfl) (by kernel_rfl))]; exact ⟨ld_bool ((K1.out.below' hC).at_ 0 rfl), rfl⟩)
  · exact .fieldAddr (.inl rfl) rfl rfl rfl (fun a w' hC hs hl => by rw [show a.eval (.tmp 3) = (.pointer (some ⟨w.heap.size + 1, 0, none⟩) : Value) from (hs 3 (by kernel_rfl))]; exact fa_Int0_)
  · exact .load (.bool b2) (.inl rfl) rfl rfl (fun a w' hC hs hl => by rw [show a.eval (.tmp 22) = (.pointer (some ⟨w.heap.size + 1, 0, none⟩) : Value) from (hl 22 (by kernel_rfl) (by kernel_rfl))]; exact ⟨ld_bool ((K2.out.below' hC).at_ 0 rfl), rfl⟩)
  · exact .value (.inl rfl) (by intro T e; cases e) rfl rfl (fun a w' hC hs hl => by
      have e0 : a.eval (.tmp 21) = (.bool b1) := (hl 21 (by kernel_rfl) (by kernel_rfl))
      have e1 : a.eval (.tmp 23) = (.bool b2) := (hl 23 (by kernel_rfl) (by kernel_rfl))
      simp only [execOp, e0, e1]
      skip
      cases b1 <;> cases b2 <;> simp [go_sem] <;> rfl)
  · exact .fieldAddr (.inl rfl) rfl rfl rfl (fun a w' hC hs hl => by rw [show a.eval (.tmp 2) = (.pointer (some ⟨w.heap.size, 0, none⟩) : Value) from (hs 2 (by kernel_rfl))]; exact fa_Int1_)
  · exact .load (.slice A1 n1 c1) (.inl rfl) rfl rfl (fun a w' hC hs hl => by rw [show a.eval (.tmp 25) = (.pointer (some ⟨w.heap.size, 1, none⟩) : Value) from (hl 25 (by kernel_rfl) (by kernel_rfl))]; exact ⟨ld_Nat ((K1.out.below' hC).at_ 1 rfl), rfl⟩)
  · exact .call (.inl rfl) rfl rfl fr_assayerref02_Signed (fun a w' hC hs hl => by
      show Calls _ _ #[a.eval (.tmp 24), a.eval (.tmp 26)] _ _
      rw [show a.eval (.tmp 24) = (.bool (b1 != b2) : Value) from (hl 24 (by kernel_rfl) (by kernel_rfl)), show a.eval (.tmp 26) = (.slice A1 n1 c1 : Value) from (hl 26 (by kernel_rfl) (by kernel_rfl))]
      exact qsigned_C (z := (if n < 0 then -z else z)) (I1.out.nat.1.below hC) DS.out.1 DS.out.2.1)
  · exact .fieldAddr (.inl rfl) rfl rfl rfl (fun a w' hC hs hl => by rw [show a.eval (.tmp 3) = (.pointer (some ⟨w.heap.size + 1, 0, none⟩) : Value) from (hs 3 (by kernel_rfl))]; exact fa_Int1_)
  · exact .load (.slice A2 n2 c2) (.inl rfl) rfl rfl (fun a w' hC hs hl => by rw [show a.eval (.tmp 28) = (.pointer (some ⟨w.heap.size + 1, 1, none⟩) : Value) from (hl 28 (by kernel_rfl) (by kernel_rfl))]; exact ⟨ld_Nat ((K2.out.below' hC).at_ 1 rfl), rfl⟩)
  · exact .call (.inl rfl) rfl rfl fr_assayerref03_lowest (fun a w' hC hs hl => by
      show Calls _ _ #[a.eval (.tmp 27), a.eval (.tmp 29)] _ _
      rw [show a.eval (.tmp 29) = (.slice A2 n2 c2 : Value) from (hl 29 (by kernel_rfl) (by kernel_rfl))]
      exact krlow_R w.heap.size (Nat.le_trans b0.out.size hC.size) (hl 27 (by kernel_rfl) (by kernel_rfl)) (I2.out.nat.1.below hC) (by rw [DS.out.1]; exact L_up s.out (by decide)) (L_up s'.out (by decide)) DS.out.2.2.2)
  intro f w3 hC hF _
  have R8 : RatR (mkRat (if n < 0 then -z else z) (n).natAbs) w.heap.size w3 (f 30) := hF 30 (by kernel_rfl)
  clear hF
  simp only [patch, List.drop]
  obtain ⟨b8, A8, n8, c8, D8, m8, k8, e8⟩ := R8.slice
  generalize f 20 = y20 at *
  generalize f 21 = y21 at *
  generalize f 22 = y22 at *
  generalize f 23 = y23 at *
  generalize f 24 = y24 at *
  generalize f 25 = y25 at *
  generalize f 26 = y26 at *
  generalize f 27 = y27 at *
  generalize f 28 = y28 at *
  generalize f 29 = y29 at *
  generalize f 30 = y30 at *
  subst e8
  replace R8 := hide R8
  replace I1 := hide (I1.out.below hC)
  replace I2 := hide (I2.out.below hC)
  replace K1 := hide (K1.out.below' hC)
  replace K2 := hide (K2.out.below' hC)
  replace K3 := hide (K3.out.below' hC)
  replace b0 := hide (b0.out.trans (hC.mono b0.out.size))
  clear hC
  have K3c0 : w3.cell? ⟨w.heap.size + 1 + 1, 0, none⟩ = some (.bool false) := K3.out.at_ 0 rfl
  have K3c1 : w3.cell? ⟨w.heap.size + 1 + 1, 1, none⟩ = some (.slice none 0 0) := K3.out.at_ 1 rfl
  have K3c2 : w3.cell? ⟨w.heap.size + 1 + 1, 2, none⟩ = some (.slice none 0 0) := K3.out.at_ 2 rfl
  have p0 : w3.frozen? ⟨w.heap.size + 1 + 1, 0, none⟩ = false := K3.out.frozen 0
  have p1 : w3.frozen? ⟨w.heap.size + 1 + 1, 1, none⟩ = false := K3.out.frozen 1
  have p2 : w3.frozen? ⟨w.heap.size + 1 + 1, 2, none⟩ = false := K3.out.frozen 2
  go_wp2
  refine bodyPost_ret (v := .tuple #[.agg #[.bool b8, .slice A8 n8 c8, .slice D8 m8 k8], .int .i64 0]) (by simp [results, Tryz.results52, go_sem, K3c0, K3c1, K3c2, p0, p1, p2]) rfl ?_
  exact opq_end hR ⟨_, rfl, (by (repeat (first | exact b0 | exact Below.refl _ _ | refine Below.setCell ?_ (by first | (simp; done) | (simp; omega)) _ | refine Below.alloc ?_ (by first | (simp; done) | (simp; omega)) _))), (by rw [← DS.out.2.2.1]; exact R8.out.only K3.out (by decide) ((((Only.refl _ _).set _ _).set _ _).set _ _))⟩
end Go.Proofs.YtfadehkagbcjaaaGreatDoor
