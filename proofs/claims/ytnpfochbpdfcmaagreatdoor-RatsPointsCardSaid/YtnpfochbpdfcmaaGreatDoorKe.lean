/- rats: with, Add, Sub, Mul, Cmp, Sign. -/
import Derived.Test.YtnpfochbpdfcmaaGreatDoorKd
set_option linter.unusedVariables false
set_option linter.unusedSimpArgs false
set_option maxRecDepth 100000
namespace Go.Proofs.YtnpfochbpdfcmaaGreatDoor
open Go.RowKit

set_option maxHeartbeats 1000000 in
theorem rAdd1_P {w : World} {v v' : Value} {x y : Int} (h : IArg w v x) (h' : IArg w v' y) :
    Calls Tryz.prog 65 #[v, v'] w fun e w' => ∃ u, e = .returned u ∧ Below w.heap.size w w' ∧ ICan w' u (x + y) := by
  refine opq fun R hR => ?_
  obtain ⟨b1, A1, n1, c1, rfl⟩ := h.slice
  obtain ⟨b2, A2, n2, c2, rfl⟩ := h'.slice
  replace h := hide h
  replace h' := hide h'
  go_enter Tryz.func65, Tryz.ntmps65
  have b0 := hide (Below.refl w.heap.size w)
  have K1 := hide (Blk.new_at w (w.heap.size) (by simp) 25 #[.bool b1, .slice A1 n1 c1])
  have y := (Below.refl w.heap.size w).alloc (Nat.le_refl _) (.cells #[.bool b1, .slice A1 n1 c1] 25)
  replace b0 := hide (below_tr b0.out y)
  clear y
  have K2 := hide (Blk.new_at (w.alloc (.cells #[.bool b1, .slice A1 n1 c1] 25)) (w.heap.size + 1) (by simp) 25 #[.bool b2, .slice A2 n2 c2])
  have y := (Below.refl (w.alloc (.cells #[.bool b1, .slice A1 n1 c1] 25)).heap.size (w.alloc (.cells #[.bool b1, .slice A1 n1 c1] 25))).alloc (Nat.le_refl _) (.cells #[.bool b2, .slice A2 n2 c2] 25)
  replace K1 := hide (K1.out.below' y)
  replace b0 := hide (below_tr b0.out y)
  clear y
  have K3 := hide (Blk.new_at ((w.alloc (.cells #[.bool b1, .slice A1 n1 c1] 25)).alloc (.cells #[.bool b2, .slice A2 n2 c2] 25)) (w.heap.size + 1 + 1) (by simp) 25 #[.bool false, .slice none 0 0])
  have y := (Below.refl ((w.alloc (.cells #[.bool b1, .slice A1 n1 c1] 25)).alloc (.cells #[.bool b2, .slice A2 n2 c2] 25)).heap.size ((w.alloc (.cells #[.bool b1, .slice A1 n1 c1] 25)).alloc (.cells #[.bool b2, .slice A2 n2 c2] 25))).alloc (Nat.le_refl _) (.cells #[.bool false, .slice none 0 0] 25)
  replace K1 := hide (K1.out.below' y)
  replace K2 := hide (K2.out.below' y)
  replace b0 := hide (below_tr b0.out y)
  clear y
  go_wp2_with fail
  refine (iAdd_ok (h.out.below b0.out) (h'.out.below b0.out)).mono ?_
  rintro e w1 ⟨v9, rfl, d0, r9⟩
  have bz := b0.out.size
  replace K1 := hide (K1.out.below' d0)
  replace K2 := hide (K2.out.below' d0)
  replace K3 := hide (K3.out.below' d0)
  replace b0 := hide (below_tr b0.out d0)
  have R9 := hide (r9.mono (B' := w.heap.size) bz)
  clear d0 bz
  clear r9
  obtain ⟨b9, A9, n9, c9, rfl⟩ := R9.out.slice
  have K3c0 : w1.cell? ⟨w.heap.size + 1 + 1, 0, none⟩ = some (.bool false) := K3.out.at_ 0 rfl
  have K3c1 : w1.cell? ⟨w.heap.size + 1 + 1, 1, none⟩ = some (.slice none 0 0) := K3.out.at_ 1 rfl
  have p0 : w1.frozen? ⟨w.heap.size + 1 + 1, 0, none⟩ = false := K3.out.frozen 0
  have p1 : w1.frozen? ⟨w.heap.size + 1 + 1, 1, none⟩ = false := K3.out.frozen 1
  go_wp2
  refine bodyPost_ret (v := .agg #[.bool b9, .slice A9 n9 c9]) (by simp [results, Tryz.results65, go_sem, K3c0, K3c1, p0, p1]) rfl ?_
  exact opq_end hR ⟨_, rfl, (by (repeat (first | exact b0 | exact Below.refl _ _ | refine Below.setCell ?_ (by first | (simp; done) | (simp; omega)) _ | refine Below.alloc ?_ (by first | (simp; done) | (simp; omega)) _))), (R9.out.only K3.out (by decide) (((Only.refl _ _).set _ _).set _ _)).can⟩
set_option maxHeartbeats 1000000 in
theorem rSub1_P {w : World} {v v' : Value} {x y : Int} (h : IArg w v x) (h' : IArg w v' y) :
    Calls Tryz.prog 74 #[v, v'] w fun e w' => ∃ u, e = .returned u ∧ Below w.heap.size w w' ∧ ICan w' u (x - y) := by
  refine opq fun R hR => ?_
  obtain ⟨b1, A1, n1, c1, rfl⟩ := h.slice
  obtain ⟨b2, A2, n2, c2, rfl⟩ := h'.slice
  replace h := hide h
  replace h' := hide h'
  go_enter Tryz.func74, Tryz.ntmps74
  have b0 := hide (Below.refl w.heap.size w)
  have K1 := hide (Blk.new_at w (w.heap.size) (by simp) 25 #[.bool b1, .slice A1 n1 c1])
  have y := (Below.refl w.heap.size w).alloc (Nat.le_refl _) (.cells #[.bool b1, .slice A1 n1 c1] 25)
  replace b0 := hide (below_tr b0.out y)
  clear y
  have K2 := hide (Blk.new_at (w.alloc (.cells #[.bool b1, .slice A1 n1 c1] 25)) (w.heap.size + 1) (by simp) 25 #[.bool b2, .slice A2 n2 c2])
  have y := (Below.refl (w.alloc (.cells #[.bool b1, .slice A1 n1 c1] 25)).heap.size (w.alloc (.cells #[.bool b1, .slice A1 n1 c1] 25))).alloc (Nat.le_refl _) (.cells #[.bool b2, .slice A2 n2 c2] 25)
  replace K1 := hide (K1.out.below' y)
  replace b0 := hide (below_tr b0.out y)
  clear y
  have K3 := hide (Blk.new_at ((w.alloc (.cells #[.bool b1, .slice A1 n1 c1] 25)).alloc (.cells #[.bool b2, .slice A2 n2 c2] 25)) (w.heap.size + 1 + 1) (by simp) 25 #[.bool false, .slice none 0 0])
  have y := (Below.refl ((w.alloc (.cells #[.bool b1, .slice A1 n1 c1] 25)).alloc (.cells #[.bool b2, .slice A2 n2 c2] 25)).heap.size ((w.alloc (.cells #[.bool b1, .slice A1 n1 c1] 25)).alloc (.cells #[.bool b2, .slice A2 n2 c2] 25))).alloc (Nat.le_refl _) (.cells #[.bool false, .slice none 0 0] 25)
  replace K1 := hide (K1.out.below' y)
  replace K2 := hide (K2.out.below' y)
  replace b0 := hide (below_tr b0.out y)
  clear y
  go_wp2_with fail
  refine (iSub_ok (h.out.below b0.out) (h'.out.below b0.out)).mono ?_
  rintro e w1 ⟨v9, rfl, d0, r9⟩
  have bz := b0.out.size
  replace K1 := hide (K1.out.below' d0)
  replace K2 := hide (K2.out.below' d0)
  replace K3 := hide (K3.out.below' d0)
  replace b0 := hide (below_tr b0.out d0)
  have R9 := hide (r9.mono (B' := w.heap.size) bz)
  clear d0 bz
  clear r9
  obtain ⟨b9, A9, n9, c9, rfl⟩ := R9.out.slice
  have K3c0 : w1.cell? ⟨w.heap.size + 1 + 1, 0, none⟩ = some (.bool false) := K3.out.at_ 0 rfl
  have K3c1 : w1.cell? ⟨w.heap.size + 1 + 1, 1, none⟩ = some (.slice none 0 0) := K3.out.at_ 1 rfl
  have p0 : w1.frozen? ⟨w.heap.size + 1 + 1, 0, none⟩ = false := K3.out.frozen 0
  have p1 : w1.frozen? ⟨w.heap.size + 1 + 1, 1, none⟩ = false := K3.out.frozen 1
  go_wp2
  refine bodyPost_ret (v := .agg #[.bool b9, .slice A9 n9 c9]) (by simp [results, Tryz.results74, go_sem, K3c0, K3c1, p0, p1]) rfl ?_
  exact opq_end hR ⟨_, rfl, (by (repeat (first | exact b0 | exact Below.refl _ _ | refine Below.setCell ?_ (by first | (simp; done) | (simp; omega)) _ | refine Below.alloc ?_ (by first | (simp; done) | (simp; omega)) _))), (R9.out.only K3.out (by decide) (((Only.refl _ _).set _ _).set _ _)).can⟩
set_option maxHeartbeats 1000000 in
theorem rMul1_P {w : World} {v v' : Value} {x y : Int} {p q : Rat} {g1 g2 : Nat} {b3 : Bool} {u3 d3 : Value} {b4 : Bool} {u4 d4 : Value} (h : ICan w v x) (h' : ICan w v' y) (k1 : Blk w g1 TR #[.bool b3, u3, d3]) (k2 : Blk w g2 TR #[.bool b4, u4, d4])
    (C1 : RCan w (.agg #[.bool b3, u3, d3]) p) (C2 : RCan w (.agg #[.bool b4, u4, d4]) q) (s1 : H p 100000000000) (s2 : H q 100000000000) :
    Calls Tryz.prog 67 #[v, v', .pointer (some ⟨g1, 0, none⟩), .pointer (some ⟨g2, 0, none⟩)] w fun e w' => ∃ u, e = .returned u ∧ Below w.heap.size w w' ∧ ICan w' u (p.num * q.num) := by
  refine opq fun R hR => ?_
  obtain ⟨b1, A1, n1, c1, rfl⟩ := h.slice
  obtain ⟨b2, A2, n2, c2, rfl⟩ := h'.slice
  replace C1 := hide C1
  replace C2 := hide C2
  have J1 := hide k1
  have J2 := hide k2
  have S1 := hide s1
  have S2 := hide s2
  clear h h' k1 k2 s1 s2
  go_enter Tryz.func67, Tryz.ntmps67
  have b0 := hide (Below.refl w.heap.size w)
  have K1 := hide (Blk.new_at w (w.heap.size) (by simp) 25 #[.bool b1, .slice A1 n1 c1])
  have y := (Below.refl w.heap.size w).alloc (Nat.le_refl _) (.cells #[.bool b1, .slice A1 n1 c1] 25)
  replace C1 := hide (C1.out.below y)
  replace C2 := hide (C2.out.below y)
  replace J1 := hide (J1.out.below' y)
  replace J2 := hide (J2.out.below' y)
  replace b0 := hide (below_tr b0.out y)
  clear y
  have K2 := hide (Blk.new_at (w.alloc (.cells #[.bool b1, .slice A1 n1 c1] 25)) (w.heap.size + 1) (by simp) 25 #[.bool b2, .slice A2 n2 c2])
  have y := (Below.refl (w.alloc (.cells #[.bool b1, .slice A1 n1 c1] 25)).heap.size (w.alloc (.cells #[.bool b1, .slice A1 n1 c1] 25))).alloc (Nat.le_refl _) (.cells #[.bool b2, .slice A2 n2 c2] 25)
  replace C1 := hide (C1.out.below y)
  replace C2 := hide (C2.out.below y)
  replace J1 := hide (J1.out.below' y)
  replace J2 := hide (J2.out.below' y)
  replace K1 := hide (K1.out.below' y)
  replace b0 := hide (below_tr b0.out y)
  clear y
  have K3 := hide (Blk.new_at ((w.alloc (.cells #[.bool b1, .slice A1 n1 c1] 25)).alloc (.cells #[.bool b2, .slice A2 n2 c2] 25)) (w.heap.size + 1 + 1) (by simp) 25 #[.bool false, .slice none 0 0])
  have y := (Below.refl ((w.alloc (.cells #[.bool b1, .slice A1 n1 c1] 25)).alloc (.cells #[.bool b2, .slice A2 n2 c2] 25)).heap.size ((w.alloc (.cells #[.bool b1, .slice A1 n1 c1] 25)).alloc (.cells #[.bool b2, .slice A2 n2 c2] 25))).alloc (Nat.le_refl _) (.cells #[.bool false, .slice none 0 0] 25)
  replace C1 := hide (C1.out.below y)
  replace C2 := hide (C2.out.below y)
  replace J1 := hide (J1.out.below' y)
  replace J2 := hide (J2.out.below' y)
  replace K1 := hide (K1.out.below' y)
  replace K2 := hide (K2.out.below' y)
  replace b0 := hide (below_tr b0.out y)
  clear y
  have J1c0 : (((w.alloc (.cells #[.bool b1, .slice A1 n1 c1] 25)).alloc (.cells #[.bool b2, .slice A2 n2 c2] 25)).alloc (.cells #[.bool false, .slice none 0 0] 25)).cell? ⟨g1, 0, none⟩ = some (.bool b3) := J1.out.at_ 0 rfl
  have J1c1 : (((w.alloc (.cells #[.bool b1, .slice A1 n1 c1] 25)).alloc (.cells #[.bool b2, .slice A2 n2 c2] 25)).alloc (.cells #[.bool false, .slice none 0 0] 25)).cell? ⟨g1, 1, none⟩ = some (u3) := J1.out.at_ 1 rfl
  have J2c0 : (((w.alloc (.cells #[.bool b1, .slice A1 n1 c1] 25)).alloc (.cells #[.bool b2, .slice A2 n2 c2] 25)).alloc (.cells #[.bool false, .slice none 0 0] 25)).cell? ⟨g2, 0, none⟩ = some (.bool b4) := J2.out.at_ 0 rfl
  have J2c1 : (((w.alloc (.cells #[.bool b1, .slice A1 n1 c1] 25)).alloc (.cells #[.bool b2, .slice A2 n2 c2] 25)).alloc (.cells #[.bool false, .slice none 0 0] 25)).cell? ⟨g2, 1, none⟩ = some (u4) := J2.out.at_ 1 rfl
  go_wp2_with fail
  refine (iMul_ok (ICan.arg C1.out.num (L_up S1.out.1 (by decide))) (ICan.arg C2.out.num (L_up S2.out.1 (by decide)))).mono ?_
  rintro e w1 ⟨v9, rfl, d0, r9⟩
  have bz := b0.out.size
  replace C1 := hide (C1.out.below d0)
  replace C2 := hide (C2.out.below d0)
  replace J1 := hide (J1.out.below' d0)
  replace J2 := hide (J2.out.below' d0)
  replace K1 := hide (K1.out.below' d0)
  replace K2 := hide (K2.out.below' d0)
  replace K3 := hide (K3.out.below' d0)
  replace b0 := hide (below_tr b0.out d0)
  have R9 := hide (r9.mono (B' := w.heap.size) bz)
  clear d0 bz
  clear r9
  obtain ⟨b9, A9, n9, c9, rfl⟩ := R9.out.slice
  clear J1c0 J1c1 J2c0 J2c1
  have K3c0 : w1.cell? ⟨w.heap.size + 1 + 1, 0, none⟩ = some (.bool false) := K3.out.at_ 0 rfl
  have K3c1 : w1.cell? ⟨w.heap.size + 1 + 1, 1, none⟩ = some (.slice none 0 0) := K3.out.at_ 1 rfl
  have p0 : w1.frozen? ⟨w.heap.size + 1 + 1, 0, none⟩ = false := K3.out.frozen 0
  have p1 : w1.frozen? ⟨w.heap.size + 1 + 1, 1, none⟩ = false := K3.out.frozen 1
  go_wp2
  refine bodyPost_ret (v := .agg #[.bool b9, .slice A9 n9 c9]) (by simp [results, Tryz.results67, go_sem, K3c0, K3c1, p0, p1]) rfl ?_
  exact opq_end hR ⟨_, rfl, (by (repeat (first | exact b0 | exact Below.refl _ _ | refine Below.setCell ?_ (by first | (simp; done) | (simp; omega)) _ | refine Below.alloc ?_ (by first | (simp; done) | (simp; omega)) _))), (R9.out.only K3.out (by decide) (((Only.refl _ _).set _ _).set _ _)).can⟩
set_option maxHeartbeats 2000000 in
theorem rwithAdd_P {w : World} {v v' : Value} {p q : Rat} (h : RArg w v p) (h' : RArg w v' q) (hT : Tab w) :
    Calls Tryz.prog 64 #[v, v', .func (.func 65) #[] #[]] w fun e w' => ∃ u, e = .returned u ∧ Below w.heap.size w w' ∧ RatR (p + q) w.heap.size w' u := by
  refine opq fun R hR => ?_
  obtain ⟨b1, A1, n1, c1, D1, m1, k1, rfl⟩ := h.slice
  obtain ⟨b2, A2, n2, c2, D2, m2, k2, rfl⟩ := h'.slice
  have S1 := hide h.size
  have S2 := hide h'.size
  replace h := hide h
  replace h' := hide h'
  have T := hide hT
  clear hT
  have eq : Hid (p + q = mkRat (p.num * (q.den : Int) + q.num * (p.den : Int)) (p.den * q.den)) := Rat.add_def' p q
  have hd : Hid (p.den * q.den ≠ 0) := Nat.mul_ne_zero p.den_nz q.den_nz
  go_enter Tryz.func64, Tryz.ntmps64
  have b0 := hide (Below.refl w.heap.size w)
  have K1 := hide (Blk.new_at w (w.heap.size) (by simp) 27 #[.bool b1, .slice A1 n1 c1, .slice D1 m1 k1])
  have y := (Below.refl w.heap.size w).alloc (Nat.le_refl _) (.cells #[.bool b1, .slice A1 n1 c1, .slice D1 m1 k1] 27)
  replace b0 := hide (below_tr b0.out y)
  clear y
  have K2 := hide (Blk.new_at (w.alloc (.cells #[.bool b1, .slice A1 n1 c1, .slice D1 m1 k1] 27)) (w.heap.size + 1) (by simp) 27 #[.bool b2, .slice A2 n2 c2, .slice D2 m2 k2])
  have y := (Below.refl (w.alloc (.cells #[.bool b1, .slice A1 n1 c1, .slice D1 m1 k1] 27)).heap.size (w.alloc (.cells #[.bool b1, .slice A1 n1 c1, .slice D1 m1 k1] 27))).alloc (Nat.le_refl _) (.cells #[.bool b2, .slice A2 n2 c2, .slice D2 m2 k2] 27)
  replace K1 := hide (K1.out.below' y)
  replace b0 := hide (below_tr b0.out y)
  clear y
  have K3 := hide (Blk.new_at ((w.alloc (.cells #[.bool b1, .slice A1 n1 c1, .slice D1 m1 k1] 27)).alloc (.cells #[.bool b2, .slice A2 n2 c2, .slice D2 m2 k2] 27)) (w.heap.size + 1 + 1) (by simp) 27 #[.bool false, .slice none 0 0, .slice none 0 0])
  have y := (Below.refl ((w.alloc (.cells #[.bool b1, .slice A1 n1 c1, .slice D1 m1 k1] 27)).alloc (.cells #[.bool b2, .slice A2 n2 c2, .slice D2 m2 k2] 27)).heap.size ((w.alloc (.cells #[.bool b1, .slice A1 n1 c1, .slice D1 m1 k1] 27)).alloc (.cells #[.bool b2, .slice A2 n2 c2, .slice D2 m2 k2] 27))).alloc (Nat.le_refl _) (.cells #[.bool false, .slice none 0 0, .slice none 0 0] 27)
  replace K1 := hide (K1.out.below' y)
  replace K2 := hide (K2.out.below' y)
  replace b0 := hide (below_tr b0.out y)
  clear y
  go_wp2_with fail
  refine (rcross_P (h.out.below b0.out) (h'.out.below b0.out) (T.out.below b0.out)).mono ?_
  rintro e w1 ⟨b3, A3, n3, c3, b4, A4, n4, c4, D5, m5, k5, rfl, d0, i1, i2, j3⟩
  replace K1 := hide (K1.out.below' d0)
  replace K2 := hide (K2.out.below' d0)
  replace K3 := hide (K3.out.below' d0)
  replace b0 := hide (below_tr b0.out d0)
  have I1 := hide (i1)
  have I2 := hide (i2)
  have N3 := hide (j3)
  clear d0
  clear i1 i2 j3
  have K4 := hide (Blk.new_at w1 (w1.heap.size) (by simp) 101 #[.bool b3, .slice A3 n3 c3, .bool b4, .slice A4 n4 c4])
  have y := (Below.refl w1.heap.size w1).alloc (Nat.le_refl _) (.cells #[.bool b3, .slice A3 n3 c3, .bool b4, .slice A4 n4 c4] 101)
  replace K1 := hide (K1.out.below' y)
  replace K2 := hide (K2.out.below' y)
  replace K3 := hide (K3.out.below' y)
  replace I1 := hide (I1.out.below y)
  replace I2 := hide (I2.out.below y)
  replace N3 := hide (N3.out.below y)
  replace b0 := hide (below_tr b0.out y)
  clear y
  have X := hide (H_cross S1.out S2.out (Nat.le_refl _))
  go_wp2_with fail
  refine (rAdd1_P (ICan.arg I1.out (L_up X.out.1 (by decide))) (ICan.arg I2.out (L_up X.out.2.1 (by decide)))).mono ?_
  rintro e w2 ⟨v6, rfl, d0, r6⟩
  replace K1 := hide (K1.out.below' d0)
  replace K2 := hide (K2.out.below' d0)
  replace K3 := hide (K3.out.below' d0)
  replace I1 := hide (I1.out.below d0)
  replace I2 := hide (I2.out.below d0)
  replace N3 := hide (N3.out.below d0)
  replace K4 := hide (K4.out.below' d0)
  replace b0 := hide (below_tr b0.out d0)
  have Y := hide (r6)
  clear d0
  clear r6
  obtain ⟨b6, A6, n6, c6, rfl⟩ := Y.out.slice
  go_wp2_with fail
  refine (rlowest_P Y.out N3.out (L_up (Z_add X.out.1 X.out.2.1 (Nat.lt_succ_self _)) (by decide)) (L_up X.out.2.2 (by decide)) hd.out (T.out.below b0.out)).mono ?_
  rintro e w3 ⟨v8, rfl, d0, r8⟩
  have bz := b0.out.size
  replace K1 := hide (K1.out.below' d0)
  replace K2 := hide (K2.out.below' d0)
  replace K3 := hide (K3.out.below' d0)
  replace I1 := hide (I1.out.below d0)
  replace I2 := hide (I2.out.below d0)
  replace N3 := hide (N3.out.below d0)
  replace K4 := hide (K4.out.below' d0)
  replace Y := hide (Y.out.below d0)
  replace b0 := hide (below_tr b0.out d0)
  have R8 := hide (r8.mono (B' := w.heap.size) bz)
  clear d0 bz
  clear r8
  obtain ⟨b8, A8, n8, c8, D8, m8, k8, rfl⟩ := R8.out.slice
  have K3c0 : w3.cell? ⟨w.heap.size + 1 + 1, 0, none⟩ = some (.bool false) := K3.out.at_ 0 rfl
  have K3c1 : w3.cell? ⟨w.heap.size + 1 + 1, 1, none⟩ = some (.slice none 0 0) := K3.out.at_ 1 rfl
  have K3c2 : w3.cell? ⟨w.heap.size + 1 + 1, 2, none⟩ = some (.slice none 0 0) := K3.out.at_ 2 rfl
  have p0 : w3.frozen? ⟨w.heap.size + 1 + 1, 0, none⟩ = false := K3.out.frozen 0
  have p1 : w3.frozen? ⟨w.heap.size + 1 + 1, 1, none⟩ = false := K3.out.frozen 1
  have p2 : w3.frozen? ⟨w.heap.size + 1 + 1, 2, none⟩ = false := K3.out.frozen 2
  go_wp2
  refine bodyPost_ret (v := .agg #[.bool b8, .slice A8 n8 c8, .slice D8 m8 k8]) (by simp [results, Tryz.results64, go_sem, K3c0, K3c1, K3c2, p0, p1, p2]) rfl ?_
  exact opq_end hR ⟨_, rfl, (by (repeat (first | exact b0 | exact Below.refl _ _ | refine Below.setCell ?_ (by first | (simp; done) | (simp; omega)) _ | refine Below.alloc ?_ (by first | (simp; done) | (simp; omega)) _))), (by rw [eq.out]; exact R8.out.only K3.out (by decide) ((((Only.refl _ _).set _ _).set _ _).set _ _))⟩
set_option maxHeartbeats 2000000 in
theorem rwithSub_P {w : World} {v v' : Value} {p q : Rat} (h : RArg w v p) (h' : RArg w v' q) (hT : Tab w) :
    Calls Tryz.prog 64 #[v, v', .func (.func 74) #[] #[]] w fun e w' => ∃ u, e = .returned u ∧ Below w.heap.size w w' ∧ RatR (p - q) w.heap.size w' u := by
  refine opq fun R hR => ?_
  obtain ⟨b1, A1, n1, c1, D1, m1, k1, rfl⟩ := h.slice
  obtain ⟨b2, A2, n2, c2, D2, m2, k2, rfl⟩ := h'.slice
  have S1 := hide h.size
  have S2 := hide h'.size
  replace h := hide h
  replace h' := hide h'
  have T := hide hT
  clear hT
  have eq : Hid (p - q = mkRat (p.num * (q.den : Int) - q.num * (p.den : Int)) (p.den * q.den)) := Rat.sub_def' p q
  have hd : Hid (p.den * q.den ≠ 0) := Nat.mul_ne_zero p.den_nz q.den_nz
  go_enter Tryz.func64, Tryz.ntmps64
  have b0 := hide (Below.refl w.heap.size w)
  have K1 := hide (Blk.new_at w (w.heap.size) (by simp) 27 #[.bool b1, .slice A1 n1 c1, .slice D1 m1 k1])
  have y := (Below.refl w.heap.size w).alloc (Nat.le_refl _) (.cells #[.bool b1, .slice A1 n1 c1, .slice D1 m1 k1] 27)
  replace b0 := hide (below_tr b0.out y)
  clear y
  have K2 := hide (Blk.new_at (w.alloc (.cells #[.bool b1, .slice A1 n1 c1, .slice D1 m1 k1] 27)) (w.heap.size + 1) (by simp) 27 #[.bool b2, .slice A2 n2 c2, .slice D2 m2 k2])
  have y := (Below.refl (w.alloc (.cells #[.bool b1, .slice A1 n1 c1, .slice D1 m1 k1] 27)).heap.size (w.alloc (.cells #[.bool b1, .slice A1 n1 c1, .slice D1 m1 k1] 27))).alloc (Nat.le_refl _) (.cells #[.bool b2, .slice A2 n2 c2, .slice D2 m2 k2] 27)
  replace K1 := hide (K1.out.below' y)
  replace b0 := hide (below_tr b0.out y)
  clear y
  have K3 := hide (Blk.new_at ((w.alloc (.cells #[.bool b1, .slice A1 n1 c1, .slice D1 m1 k1] 27)).alloc (.cells #[.bool b2, .slice A2 n2 c2, .slice D2 m2 k2] 27)) (w.heap.size + 1 + 1) (by simp) 27 #[.bool false, .slice none 0 0, .slice none 0 0])
  have y := (Below.refl ((w.alloc (.cells #[.bool b1, .slice A1 n1 c1, .slice D1 m1 k1] 27)).alloc (.cells #[.bool b2, .slice A2 n2 c2, .slice D2 m2 k2] 27)).heap.size ((w.alloc (.cells #[.bool b1, .slice A1 n1 c1, .slice D1 m1 k1] 27)).alloc (.cells #[.bool b2, .slice A2 n2 c2, .slice D2 m2 k2] 27))).alloc (Nat.le_refl _) (.cells #[.bool false, .slice none 0 0, .slice none 0 0] 27)
  replace K1 := hide (K1.out.below' y)
  replace K2 := hide (K2.out.below' y)
  replace b0 := hide (below_tr b0.out y)
  clear y
  go_wp2_with fail
  refine (rcross_P (h.out.below b0.out) (h'.out.below b0.out) (T.out.below b0.out)).mono ?_
  rintro e w1 ⟨b3, A3, n3, c3, b4, A4, n4, c4, D5, m5, k5, rfl, d0, i1, i2, j3⟩
  replace K1 := hide (K1.out.below' d0)
  replace K2 := hide (K2.out.below' d0)
  replace K3 := hide (K3.out.below' d0)
  replace b0 := hide (below_tr b0.out d0)
  have I1 := hide (i1)
  have I2 := hide (i2)
  have N3 := hide (j3)
  clear d0
  clear i1 i2 j3
  have K4 := hide (Blk.new_at w1 (w1.heap.size) (by simp) 101 #[.bool b3, .slice A3 n3 c3, .bool b4, .slice A4 n4 c4])
  have y := (Below.refl w1.heap.size w1).alloc (Nat.le_refl _) (.cells #[.bool b3, .slice A3 n3 c3, .bool b4, .slice A4 n4 c4] 101)
  replace K1 := hide (K1.out.below' y)
  replace K2 := hide (K2.out.below' y)
  replace K3 := hide (K3.out.below' y)
  replace I1 := hide (I1.out.below y)
  replace I2 := hide (I2.out.below y)
  replace N3 := hide (N3.out.below y)
  replace b0 := hide (below_tr b0.out y)
  clear y
  have X := hide (H_cross S1.out S2.out (Nat.le_refl _))
  go_wp2_with fail
  refine (rSub1_P (ICan.arg I1.out (L_up X.out.1 (by decide))) (ICan.arg I2.out (L_up X.out.2.1 (by decide)))).mono ?_
  rintro e w2 ⟨v6, rfl, d0, r6⟩
  replace K1 := hide (K1.out.below' d0)
  replace K2 := hide (K2.out.below' d0)
  replace K3 := hide (K3.out.below' d0)
  replace I1 := hide (I1.out.below d0)
  replace I2 := hide (I2.out.below d0)
  replace N3 := hide (N3.out.below d0)
  replace K4 := hide (K4.out.below' d0)
  replace b0 := hide (below_tr b0.out d0)
  have Y := hide (r6)
  clear d0
  clear r6
  obtain ⟨b6, A6, n6, c6, rfl⟩ := Y.out.slice
  go_wp2_with fail
  refine (rlowest_P Y.out N3.out (L_up (Z_sub X.out.1 X.out.2.1 (Nat.lt_succ_self _)) (by decide)) (L_up X.out.2.2 (by decide)) hd.out (T.out.below b0.out)).mono ?_
  rintro e w3 ⟨v8, rfl, d0, r8⟩
  have bz := b0.out.size
  replace K1 := hide (K1.out.below' d0)
  replace K2 := hide (K2.out.below' d0)
  replace K3 := hide (K3.out.below' d0)
  replace I1 := hide (I1.out.below d0)
  replace I2 := hide (I2.out.below d0)
  replace N3 := hide (N3.out.below d0)
  replace K4 := hide (K4.out.below' d0)
  replace Y := hide (Y.out.below d0)
  replace b0 := hide (below_tr b0.out d0)
  have R8 := hide (r8.mono (B' := w.heap.size) bz)
  clear d0 bz
  clear r8
  obtain ⟨b8, A8, n8, c8, D8, m8, k8, rfl⟩ := R8.out.slice
  have K3c0 : w3.cell? ⟨w.heap.size + 1 + 1, 0, none⟩ = some (.bool false) := K3.out.at_ 0 rfl
  have K3c1 : w3.cell? ⟨w.heap.size + 1 + 1, 1, none⟩ = some (.slice none 0 0) := K3.out.at_ 1 rfl
  have K3c2 : w3.cell? ⟨w.heap.size + 1 + 1, 2, none⟩ = some (.slice none 0 0) := K3.out.at_ 2 rfl
  have p0 : w3.frozen? ⟨w.heap.size + 1 + 1, 0, none⟩ = false := K3.out.frozen 0
  have p1 : w3.frozen? ⟨w.heap.size + 1 + 1, 1, none⟩ = false := K3.out.frozen 1
  have p2 : w3.frozen? ⟨w.heap.size + 1 + 1, 2, none⟩ = false := K3.out.frozen 2
  go_wp2
  refine bodyPost_ret (v := .agg #[.bool b8, .slice A8 n8 c8, .slice D8 m8 k8]) (by simp [results, Tryz.results64, go_sem, K3c0, K3c1, K3c2, p0, p1, p2]) rfl ?_
  exact opq_end hR ⟨_, rfl, (by (repeat (first | exact b0 | exact Below.refl _ _ | refine Below.setCell ?_ (by first | (simp; done) | (simp; omega)) _ | refine Below.alloc ?_ (by first | (simp; done) | (simp; omega)) _))), (by rw [eq.out]; exact R8.out.only K3.out (by decide) ((((Only.refl _ _).set _ _).set _ _).set _ _))⟩
set_option maxHeartbeats 2000000 in
theorem rwithMul_P {w : World} {v v' : Value} {p q : Rat} (h : RArg w v p) (h' : RArg w v' q) (hT : Tab w) {g1 g2 : Nat} {b7 : Bool} {u3 d3 : Value} {b9 : Bool} {u4 d4 : Value} (j1 : Blk w g1 TR #[.bool b7, u3, d3]) (j2 : Blk w g2 TR #[.bool b9, u4, d4]) (C1 : RCan w (.agg #[.bool b7, u3, d3]) p) (C2 : RCan w (.agg #[.bool b9, u4, d4]) q) :
    Calls Tryz.prog 64 #[v, v', .func (.func 67) #[] #[.pointer (some ⟨g1, 0, none⟩), .pointer (some ⟨g2, 0, none⟩)]] w fun e w' => ∃ u, e = .returned u ∧ Below w.heap.size w w' ∧ RatR (p * q) w.heap.size w' u := by
  refine opq fun R hR => ?_
  obtain ⟨b1, A1, n1, c1, D1, m1, k1, rfl⟩ := h.slice
  obtain ⟨b2, A2, n2, c2, D2, m2, k2, rfl⟩ := h'.slice
  have S1 := hide h.size
  have S2 := hide h'.size
  replace h := hide h
  replace h' := hide h'
  have T := hide hT
  clear hT
  have J1 := hide j1
  have J2 := hide j2
  replace C1 := hide C1
  replace C2 := hide C2
  clear j1 j2
  have eq : Hid (p * q = mkRat (p.num * q.num) (p.den * q.den)) := Rat.mul_def' p q
  have hd : Hid (p.den * q.den ≠ 0) := Nat.mul_ne_zero p.den_nz q.den_nz
  go_enter Tryz.func64, Tryz.ntmps64
  have b0 := hide (Below.refl w.heap.size w)
  have K1 := hide (Blk.new_at w (w.heap.size) (by simp) 27 #[.bool b1, .slice A1 n1 c1, .slice D1 m1 k1])
  have y := (Below.refl w.heap.size w).alloc (Nat.le_refl _) (.cells #[.bool b1, .slice A1 n1 c1, .slice D1 m1 k1] 27)
  replace b0 := hide (below_tr b0.out y)
  clear y
  have K2 := hide (Blk.new_at (w.alloc (.cells #[.bool b1, .slice A1 n1 c1, .slice D1 m1 k1] 27)) (w.heap.size + 1) (by simp) 27 #[.bool b2, .slice A2 n2 c2, .slice D2 m2 k2])
  have y := (Below.refl (w.alloc (.cells #[.bool b1, .slice A1 n1 c1, .slice D1 m1 k1] 27)).heap.size (w.alloc (.cells #[.bool b1, .slice A1 n1 c1, .slice D1 m1 k1] 27))).alloc (Nat.le_refl _) (.cells #[.bool b2, .slice A2 n2 c2, .slice D2 m2 k2] 27)
  replace K1 := hide (K1.out.below' y)
  replace b0 := hide (below_tr b0.out y)
  clear y
  have K3 := hide (Blk.new_at ((w.alloc (.cells #[.bool b1, .slice A1 n1 c1, .slice D1 m1 k1] 27)).alloc (.cells #[.bool b2, .slice A2 n2 c2, .slice D2 m2 k2] 27)) (w.heap.size + 1 + 1) (by simp) 27 #[.bool false, .slice none 0 0, .slice none 0 0])
  have y := (Below.refl ((w.alloc (.cells #[.bool b1, .slice A1 n1 c1, .slice D1 m1 k1] 27)).alloc (.cells #[.bool b2, .slice A2 n2 c2, .slice D2 m2 k2] 27)).heap.size ((w.alloc (.cells #[.bool b1, .slice A1 n1 c1, .slice D1 m1 k1] 27)).alloc (.cells #[.bool b2, .slice A2 n2 c2, .slice D2 m2 k2] 27))).alloc (Nat.le_refl _) (.cells #[.bool false, .slice none 0 0, .slice none 0 0] 27)
  replace K1 := hide (K1.out.below' y)
  replace K2 := hide (K2.out.below' y)
  replace b0 := hide (below_tr b0.out y)
  clear y
  go_wp2_with fail
  refine (rcross_P (h.out.below b0.out) (h'.out.below b0.out) (T.out.below b0.out)).mono ?_
  rintro e w1 ⟨b3, A3, n3, c3, b4, A4, n4, c4, D5, m5, k5, rfl, d0, i1, i2, j3⟩
  replace K1 := hide (K1.out.below' d0)
  replace K2 := hide (K2.out.below' d0)
  replace K3 := hide (K3.out.below' d0)
  replace b0 := hide (below_tr b0.out d0)
  have I1 := hide (i1)
  have I2 := hide (i2)
  have N3 := hide (j3)
  clear d0
  clear i1 i2 j3
  have K4 := hide (Blk.new_at w1 (w1.heap.size) (by simp) 101 #[.bool b3, .slice A3 n3 c3, .bool b4, .slice A4 n4 c4])
  have y := (Below.refl w1.heap.size w1).alloc (Nat.le_refl _) (.cells #[.bool b3, .slice A3 n3 c3, .bool b4, .slice A4 n4 c4] 101)
  replace K1 := hide (K1.out.below' y)
  replace K2 := hide (K2.out.below' y)
  replace K3 := hide (K3.out.below' y)
  replace I1 := hide (I1.out.below y)
  replace I2 := hide (I2.out.below y)
  replace N3 := hide (N3.out.below y)
  replace b0 := hide (below_tr b0.out y)
  clear y
  have X := hide (H_cross S1.out S2.out (Nat.le_refl _))
  go_wp2_with fail
  refine (rMul1_P I1.out I2.out (J1.out.below' b0.out) (J2.out.below' b0.out) (C1.out.below b0.out) (C2.out.below b0.out) S1.out S2.out).mono ?_
  rintro e w2 ⟨v6, rfl, d0, r6⟩
  replace K1 := hide (K1.out.below' d0)
  replace K2 := hide (K2.out.below' d0)
  replace K3 := hide (K3.out.below' d0)
  replace I1 := hide (I1.out.below d0)
  replace I2 := hide (I2.out.below d0)
  replace N3 := hide (N3.out.below d0)
  replace K4 := hide (K4.out.below' d0)
  replace b0 := hide (below_tr b0.out d0)
  have Y := hide (r6)
  clear d0
  clear r6
  obtain ⟨b6, A6, n6, c6, rfl⟩ := Y.out.slice
  go_wp2_with fail
  refine (rlowest_P Y.out N3.out (L_up (Z_mul S1.out.1 S2.out.1 (Nat.le_refl _)) (by decide)) (L_up X.out.2.2 (by decide)) hd.out (T.out.below b0.out)).mono ?_
  rintro e w3 ⟨v8, rfl, d0, r8⟩
  have bz := b0.out.size
  replace K1 := hide (K1.out.below' d0)
  replace K2 := hide (K2.out.below' d0)
  replace K3 := hide (K3.out.below' d0)
  replace I1 := hide (I1.out.below d0)
  replace I2 := hide (I2.out.below d0)
  replace N3 := hide (N3.out.below d0)
  replace K4 := hide (K4.out.below' d0)
  replace Y := hide (Y.out.below d0)
  replace b0 := hide (below_tr b0.out d0)
  have R8 := hide (r8.mono (B' := w.heap.size) bz)
  clear d0 bz
  clear r8
  obtain ⟨b8, A8, n8, c8, D8, m8, k8, rfl⟩ := R8.out.slice
  have K3c0 : w3.cell? ⟨w.heap.size + 1 + 1, 0, none⟩ = some (.bool false) := K3.out.at_ 0 rfl
  have K3c1 : w3.cell? ⟨w.heap.size + 1 + 1, 1, none⟩ = some (.slice none 0 0) := K3.out.at_ 1 rfl
  have K3c2 : w3.cell? ⟨w.heap.size + 1 + 1, 2, none⟩ = some (.slice none 0 0) := K3.out.at_ 2 rfl
  have p0 : w3.frozen? ⟨w.heap.size + 1 + 1, 0, none⟩ = false := K3.out.frozen 0
  have p1 : w3.frozen? ⟨w.heap.size + 1 + 1, 1, none⟩ = false := K3.out.frozen 1
  have p2 : w3.frozen? ⟨w.heap.size + 1 + 1, 2, none⟩ = false := K3.out.frozen 2
  go_wp2
  refine bodyPost_ret (v := .agg #[.bool b8, .slice A8 n8 c8, .slice D8 m8 k8]) (by simp [results, Tryz.results64, go_sem, K3c0, K3c1, K3c2, p0, p1, p2]) rfl ?_
  exact opq_end hR ⟨_, rfl, (by (repeat (first | exact b0 | exact Below.refl _ _ | refine Below.setCell ?_ (by first | (simp; done) | (simp; omega)) _ | refine Below.alloc ?_ (by first | (simp; done) | (simp; omega)) _))), (by rw [eq.out]; exact R8.out.only K3.out (by decide) ((((Only.refl _ _).set _ _).set _ _).set _ _))⟩
set_option maxHeartbeats 1000000 in
theorem rAdd_P {w : World} {v v' : Value} {p q : Rat} (h : RArg w v p) (h' : RArg w v' q) (hT : Tab w) :
    Calls Tryz.prog 24 #[v, v'] w fun e w' => ∃ u, e = .returned u ∧ Below w.heap.size w w' ∧ RatR (p + q) w.heap.size w' u := by
  refine opq fun R hR => ?_
  obtain ⟨b1, A1, n1, c1, D1, m1, k1, rfl⟩ := h.slice
  obtain ⟨b2, A2, n2, c2, D2, m2, k2, rfl⟩ := h'.slice
  have S1 := hide h.size
  have S2 := hide h'.size
  replace h := hide h
  replace h' := hide h'
  have T := hide hT
  clear hT
  go_enter Tryz.func24, Tryz.ntmps24
  have b0 := hide (Below.refl w.heap.size w)
  have K1 := hide (Blk.new_at w (w.heap.size) (by simp) 27 #[.bool b1, .slice A1 n1 c1, .slice D1 m1 k1])
  have y := (Below.refl w.heap.size w).alloc (Nat.le_refl _) (.cells #[.bool b1, .slice A1 n1 c1, .slice D1 m1 k1] 27)
  replace b0 := hide (below_tr b0.out y)
  clear y
  have K2 := hide (Blk.new_at (w.alloc (.cells #[.bool b1, .slice A1 n1 c1, .slice D1 m1 k1] 27)) (w.heap.size + 1) (by simp) 27 #[.bool b2, .slice A2 n2 c2, .slice D2 m2 k2])
  have y := (Below.refl (w.alloc (.cells #[.bool b1, .slice A1 n1 c1, .slice D1 m1 k1] 27)).heap.size (w.alloc (.cells #[.bool b1, .slice A1 n1 c1, .slice D1 m1 k1] 27))).alloc (Nat.le_refl _) (.cells #[.bool b2, .slice A2 n2 c2, .slice D2 m2 k2] 27)
  replace K1 := hide (K1.out.below' y)
  replace b0 := hide (below_tr b0.out y)
  clear y
  have K3 := hide (Blk.new_at ((w.alloc (.cells #[.bool b1, .slice A1 n1 c1, .slice D1 m1 k1] 27)).alloc (.cells #[.bool b2, .slice A2 n2 c2, .slice D2 m2 k2] 27)) (w.heap.size + 1 + 1) (by simp) 27 #[.bool false, .slice none 0 0, .slice none 0 0])
  have y := (Below.refl ((w.alloc (.cells #[.bool b1, .slice A1 n1 c1, .slice D1 m1 k1] 27)).alloc (.cells #[.bool b2, .slice A2 n2 c2, .slice D2 m2 k2] 27)).heap.size ((w.alloc (.cells #[.bool b1, .slice A1 n1 c1, .slice D1 m1 k1] 27)).alloc (.cells #[.bool b2, .slice A2 n2 c2, .slice D2 m2 k2] 27))).alloc (Nat.le_refl _) (.cells #[.bool false, .slice none 0 0, .slice none 0 0] 27)
  replace K1 := hide (K1.out.below' y)
  replace K2 := hide (K2.out.below' y)
  replace b0 := hide (below_tr b0.out y)
  clear y
  go_wp2_with fail
  refine (rwithAdd_P (h.out.below b0.out) (h'.out.below b0.out) (T.out.below b0.out)).mono ?_
  rintro e w1 ⟨v8, rfl, d0, r8⟩
  have bz := b0.out.size
  replace K1 := hide (K1.out.below' d0)
  replace K2 := hide (K2.out.below' d0)
  replace K3 := hide (K3.out.below' d0)
  replace b0 := hide (below_tr b0.out d0)
  have R8 := hide (r8.mono (B' := w.heap.size) bz)
  clear d0 bz
  clear r8
  obtain ⟨b8, A8, n8, c8, D8, m8, k8, rfl⟩ := R8.out.slice
  have K3c0 : w1.cell? ⟨w.heap.size + 1 + 1, 0, none⟩ = some (.bool false) := K3.out.at_ 0 rfl
  have K3c1 : w1.cell? ⟨w.heap.size + 1 + 1, 1, none⟩ = some (.slice none 0 0) := K3.out.at_ 1 rfl
  have K3c2 : w1.cell? ⟨w.heap.size + 1 + 1, 2, none⟩ = some (.slice none 0 0) := K3.out.at_ 2 rfl
  have p0 : w1.frozen? ⟨w.heap.size + 1 + 1, 0, none⟩ = false := K3.out.frozen 0
  have p1 : w1.frozen? ⟨w.heap.size + 1 + 1, 1, none⟩ = false := K3.out.frozen 1
  have p2 : w1.frozen? ⟨w.heap.size + 1 + 1, 2, none⟩ = false := K3.out.frozen 2
  go_wp2
  refine bodyPost_ret (v := .agg #[.bool b8, .slice A8 n8 c8, .slice D8 m8 k8]) (by simp [results, Tryz.results24, go_sem, K3c0, K3c1, K3c2, p0, p1, p2]) rfl ?_
  exact opq_end hR ⟨_, rfl, (by (repeat (first | exact b0 | exact Below.refl _ _ | refine Below.setCell ?_ (by first | (simp; done) | (simp; omega)) _ | refine Below.alloc ?_ (by first | (simp; done) | (simp; omega)) _))), R8.out.only K3.out (by decide) ((((Only.refl _ _).set _ _).set _ _).set _ _)⟩
set_option maxHeartbeats 1000000 in
theorem rSub_P {w : World} {v v' : Value} {p q : Rat} (h : RArg w v p) (h' : RArg w v' q) (hT : Tab w) :
    Calls Tryz.prog 31 #[v, v'] w fun e w' => ∃ u, e = .returned u ∧ Below w.heap.size w w' ∧ RatR (p - q) w.heap.size w' u := by
  refine opq fun R hR => ?_
  obtain ⟨b1, A1, n1, c1, D1, m1, k1, rfl⟩ := h.slice
  obtain ⟨b2, A2, n2, c2, D2, m2, k2, rfl⟩ := h'.slice
  have S1 := hide h.size
  have S2 := hide h'.size
  replace h := hide h
  replace h' := hide h'
  have T := hide hT
  clear hT
  go_enter Tryz.func31, Tryz.ntmps31
  have b0 := hide (Below.refl w.heap.size w)
  have K1 := hide (Blk.new_at w (w.heap.size) (by simp) 27 #[.bool b1, .slice A1 n1 c1, .slice D1 m1 k1])
  have y := (Below.refl w.heap.size w).alloc (Nat.le_refl _) (.cells #[.bool b1, .slice A1 n1 c1, .slice D1 m1 k1] 27)
  replace b0 := hide (below_tr b0.out y)
  clear y
  have K2 := hide (Blk.new_at (w.alloc (.cells #[.bool b1, .slice A1 n1 c1, .slice D1 m1 k1] 27)) (w.heap.size + 1) (by simp) 27 #[.bool b2, .slice A2 n2 c2, .slice D2 m2 k2])
  have y := (Below.refl (w.alloc (.cells #[.bool b1, .slice A1 n1 c1, .slice D1 m1 k1] 27)).heap.size (w.alloc (.cells #[.bool b1, .slice A1 n1 c1, .slice D1 m1 k1] 27))).alloc (Nat.le_refl _) (.cells #[.bool b2, .slice A2 n2 c2, .slice D2 m2 k2] 27)
  replace K1 := hide (K1.out.below' y)
  replace b0 := hide (below_tr b0.out y)
  clear y
  have K3 := hide (Blk.new_at ((w.alloc (.cells #[.bool b1, .slice A1 n1 c1, .slice D1 m1 k1] 27)).alloc (.cells #[.bool b2, .slice A2 n2 c2, .slice D2 m2 k2] 27)) (w.heap.size + 1 + 1) (by simp) 27 #[.bool false, .slice none 0 0, .slice none 0 0])
  have y := (Below.refl ((w.alloc (.cells #[.bool b1, .slice A1 n1 c1, .slice D1 m1 k1] 27)).alloc (.cells #[.bool b2, .slice A2 n2 c2, .slice D2 m2 k2] 27)).heap.size ((w.alloc (.cells #[.bool b1, .slice A1 n1 c1, .slice D1 m1 k1] 27)).alloc (.cells #[.bool b2, .slice A2 n2 c2, .slice D2 m2 k2] 27))).alloc (Nat.le_refl _) (.cells #[.bool false, .slice none 0 0, .slice none 0 0] 27)
  replace K1 := hide (K1.out.below' y)
  replace K2 := hide (K2.out.below' y)
  replace b0 := hide (below_tr b0.out y)
  clear y
  go_wp2_with fail
  refine (rwithSub_P (h.out.below b0.out) (h'.out.below b0.out) (T.out.below b0.out)).mono ?_
  rintro e w1 ⟨v8, rfl, d0, r8⟩
  have bz := b0.out.size
  replace K1 := hide (K1.out.below' d0)
  replace K2 := hide (K2.out.below' d0)
  replace K3 := hide (K3.out.below' d0)
  replace b0 := hide (below_tr b0.out d0)
  have R8 := hide (r8.mono (B' := w.heap.size) bz)
  clear d0 bz
  clear r8
  obtain ⟨b8, A8, n8, c8, D8, m8, k8, rfl⟩ := R8.out.slice
  have K3c0 : w1.cell? ⟨w.heap.size + 1 + 1, 0, none⟩ = some (.bool false) := K3.out.at_ 0 rfl
  have K3c1 : w1.cell? ⟨w.heap.size + 1 + 1, 1, none⟩ = some (.slice none 0 0) := K3.out.at_ 1 rfl
  have K3c2 : w1.cell? ⟨w.heap.size + 1 + 1, 2, none⟩ = some (.slice none 0 0) := K3.out.at_ 2 rfl
  have p0 : w1.frozen? ⟨w.heap.size + 1 + 1, 0, none⟩ = false := K3.out.frozen 0
  have p1 : w1.frozen? ⟨w.heap.size + 1 + 1, 1, none⟩ = false := K3.out.frozen 1
  have p2 : w1.frozen? ⟨w.heap.size + 1 + 1, 2, none⟩ = false := K3.out.frozen 2
  go_wp2
  refine bodyPost_ret (v := .agg #[.bool b8, .slice A8 n8 c8, .slice D8 m8 k8]) (by simp [results, Tryz.results31, go_sem, K3c0, K3c1, K3c2, p0, p1, p2]) rfl ?_
  exact opq_end hR ⟨_, rfl, (by (repeat (first | exact b0 | exact Below.refl _ _ | refine Below.setCell ?_ (by first | (simp; done) | (simp; omega)) _ | refine Below.alloc ?_ (by first | (simp; done) | (simp; omega)) _))), R8.out.only K3.out (by decide) ((((Only.refl _ _).set _ _).set _ _).set _ _)⟩
set_option maxHeartbeats 1000000 in
theorem rMul_P {w : World} {v v' : Value} {p q : Rat} (h : RArg w v p) (h' : RArg w v' q) (hT : Tab w) :
    Calls Tryz.prog 25 #[v, v'] w fun e w' => ∃ u, e = .returned u ∧ Below w.heap.size w w' ∧ RatR (p * q) w.heap.size w' u := by
  refine opq fun R hR => ?_
  obtain ⟨b1, A1, n1, c1, D1, m1, k1, rfl⟩ := h.slice
  obtain ⟨b2, A2, n2, c2, D2, m2, k2, rfl⟩ := h'.slice
  have S1 := hide h.size
  have S2 := hide h'.size
  replace h := hide h
  replace h' := hide h'
  have T := hide hT
  clear hT
  go_enter Tryz.func25, Tryz.ntmps25
  have b0 := hide (Below.refl w.heap.size w)
  have K1 := hide (Blk.new_at w (w.heap.size) (by simp) 27 #[.bool b1, .slice A1 n1 c1, .slice D1 m1 k1])
  have y := (Below.refl w.heap.size w).alloc (Nat.le_refl _) (.cells #[.bool b1, .slice A1 n1 c1, .slice D1 m1 k1] 27)
  replace b0 := hide (below_tr b0.out y)
  clear y
  have K2 := hide (Blk.new_at (w.alloc (.cells #[.bool b1, .slice A1 n1 c1, .slice D1 m1 k1] 27)) (w.heap.size + 1) (by simp) 27 #[.bool b2, .slice A2 n2 c2, .slice D2 m2 k2])
  have y := (Below.refl (w.alloc (.cells #[.bool b1, .slice A1 n1 c1, .slice D1 m1 k1] 27)).heap.size (w.alloc (.cells #[.bool b1, .slice A1 n1 c1, .slice D1 m1 k1] 27))).alloc (Nat.le_refl _) (.cells #[.bool b2, .slice A2 n2 c2, .slice D2 m2 k2] 27)
  replace K1 := hide (K1.out.below' y)
  replace b0 := hide (below_tr b0.out y)
  clear y
  have K3 := hide (Blk.new_at ((w.alloc (.cells #[.bool b1, .slice A1 n1 c1, .slice D1 m1 k1] 27)).alloc (.cells #[.bool b2, .slice A2 n2 c2, .slice D2 m2 k2] 27)) (w.heap.size + 1 + 1) (by simp) 27 #[.bool false, .slice none 0 0, .slice none 0 0])
  have y := (Below.refl ((w.alloc (.cells #[.bool b1, .slice A1 n1 c1, .slice D1 m1 k1] 27)).alloc (.cells #[.bool b2, .slice A2 n2 c2, .slice D2 m2 k2] 27)).heap.size ((w.alloc (.cells #[.bool b1, .slice A1 n1 c1, .slice D1 m1 k1] 27)).alloc (.cells #[.bool b2, .slice A2 n2 c2, .slice D2 m2 k2] 27))).alloc (Nat.le_refl _) (.cells #[.bool false, .slice none 0 0, .slice none 0 0] 27)
  replace K1 := hide (K1.out.below' y)
  replace K2 := hide (K2.out.below' y)
  replace b0 := hide (below_tr b0.out y)
  clear y
  go_wp2
  obtain ⟨V1_0, hV⟩ : ∃ V, (((w.alloc (.cells #[.bool b1, .slice A1 n1 c1, .slice D1 m1 k1] 27)).alloc (.cells #[.bool b2, .slice A2 n2 c2, .slice D2 m2 k2] 27)).alloc (.cells #[.bool false, .slice none 0 0, .slice none 0 0] 27)) = V := ⟨_, rfl⟩
  rw [hV] at K1 K2 K3 b0
  rw [hV]
  clear hV
  refine wp_region_facts 4 (fun w' => Below V1_0.heap.size V1_0 w') [(5, (.rarg0 w p)), (6, (.rold w p w.heap.size)), (7, (.rarg0 w q)), (8, (.rold w q w.heap.size))] [false, false, false, false, false, true, true, true, true, false, false, false, false] mixed (by kernel_rfl) (by kernel_rfl) (by kernel_rfl) (fun _ _ h hb => h.trans (hb.mono h.size)) ((Below.refl _ _).drew) ⟨?_, ?_, ?_, ?_, trivial⟩ ?_
  · exact .load (.agg #[.bool b1, .slice A1 n1 c1, .slice D1 m1 k1]) (.inl rfl) rfl rfl (fun a w' hC hs hl => by rw [show a.eval (.tmp 2) = (.pointer (some ⟨w.heap.size, 0, none⟩) : Value) from (hs 2 (by kernel_rfl))]; exact ⟨ld_Rat_ ((K1.out.below' hC).at_ 0 rfl) ((K1.out.below' hC).at_ 1 rfl) ((K1.out.below' hC).at_ 2 rfl), h.out⟩)
  · exact .call (.inl rfl) rfl rfl fn_rof (fun a w' hC hs hl => rof_P (hl 5 (by kernel_rfl) (by kernel_rfl)) (b0.out.trans (hC.mono b0.out.size)) (T.out.below (b0.out.trans (hC.mono b0.out.size))) w.heap.size (Nat.le_trans b0.out.size hC.size))
  · exact .load (.agg #[.bool b2, .slice A2 n2 c2, .slice D2 m2 k2]) (.inl rfl) rfl rfl (fun a w' hC hs hl => by rw [show a.eval (.tmp 3) = (.pointer (some ⟨w.heap.size + 1, 0, none⟩) : Value) from (hs 3 (by kernel_rfl))]; exact ⟨ld_Rat_ ((K2.out.below' hC).at_ 0 rfl) ((K2.out.below' hC).at_ 1 rfl) ((K2.out.below' hC).at_ 2 rfl), h'.out⟩)
  · exact .call (.inl rfl) rfl rfl fn_rof (fun a w' hC hs hl => rof_P (hl 7 (by kernel_rfl) (by kernel_rfl)) (b0.out.trans (hC.mono b0.out.size)) (T.out.below (b0.out.trans (hC.mono b0.out.size))) w.heap.size (Nat.le_trans b0.out.size hC.size))
  intro f w1 hC hF _
  have P1 : ROld w p w.heap.size w1 (f 6) := hF 6 (by kernel_rfl)
  have P2 : ROld w q w.heap.size w1 (f 8) := hF 8 (by kernel_rfl)
  clear hF
  simp only [patch, List.drop]
  obtain ⟨b7, A7, n7, c7, D7, m7, k7, e7⟩ := P1.slice
  obtain ⟨b9, A9, n9, c9, D9, m9, k9, e9⟩ := P2.slice
  replace P1 := hide P1
  replace P2 := hide P2
  generalize f 6 = v7 at *
  generalize f 8 = v9 at *
  generalize f 5 = y6 at *
  generalize f 7 = y8 at *
  subst e7 e9
  replace K1 := hide (K1.out.below' hC)
  replace K2 := hide (K2.out.below' hC)
  replace K3 := hide (K3.out.below' hC)
  replace b0 := hide (b0.out.trans (hC.mono b0.out.size))
  clear hC
  have K1f0 : w1.frozen? ⟨w.heap.size, 0, none⟩ = false := K1.out.frozen 0
  have K1f1 : w1.frozen? ⟨w.heap.size, 1, none⟩ = false := K1.out.frozen 1
  have K1f2 : w1.frozen? ⟨w.heap.size, 2, none⟩ = false := K1.out.frozen 2
  have K2f0 : w1.frozen? ⟨w.heap.size + 1, 0, none⟩ = false := K2.out.frozen 0
  have K2f1 : w1.frozen? ⟨w.heap.size + 1, 1, none⟩ = false := K2.out.frozen 1
  have K2f2 : w1.frozen? ⟨w.heap.size + 1, 2, none⟩ = false := K2.out.frozen 2
  have K1c0 : w1.cell? ⟨w.heap.size, 0, none⟩ = some (.bool b1) := K1.out.at_ 0 rfl
  have K1c1 : w1.cell? ⟨w.heap.size, 1, none⟩ = some (.slice A1 n1 c1) := K1.out.at_ 1 rfl
  have K1c2 : w1.cell? ⟨w.heap.size, 2, none⟩ = some (.slice D1 m1 k1) := K1.out.at_ 2 rfl
  have K2c0 : w1.cell? ⟨w.heap.size + 1, 0, none⟩ = some (.bool b2) := K2.out.at_ 0 rfl
  have K2c1 : w1.cell? ⟨w.heap.size + 1, 1, none⟩ = some (.slice A2 n2 c2) := K2.out.at_ 1 rfl
  have K2c2 : w1.cell? ⟨w.heap.size + 1, 2, none⟩ = some (.slice D2 m2 k2) := K2.out.at_ 2 rfl
  go_wp2_with fail
  clear K1c0 K1c1 K1c2 K2c0 K2c1 K2c2
  clear K1f0 K1f1 K1f2 K2f0 K2f1 K2f2
  have F : Only (w.heap.size) w1 (((w1.setCell ⟨w.heap.size, 0, none⟩ (.bool b7)).setCell ⟨w.heap.size, 1, none⟩ (.slice A7 n7 c7)).setCell ⟨w.heap.size, 2, none⟩ (.slice D7 m7 k7)) := ((((Only.refl _ _).set _ _).set _ _).set _ _)
  replace P1 := hide (P1.out.only K1.out (by decide) F)
  replace P2 := hide (P2.out.only K1.out (by decide) F)
  replace K2 := hide (((K2.out.far (p := ⟨w.heap.size, 0, none⟩) (by first | (simp; done) | (simp; omega)) (.bool b7)).far (p := ⟨w.heap.size, 1, none⟩) (by first | (simp; done) | (simp; omega)) (.slice A7 n7 c7)).far (p := ⟨w.heap.size, 2, none⟩) (by first | (simp; done) | (simp; omega)) (.slice D7 m7 k7))
  replace K3 := hide (((K3.out.far (p := ⟨w.heap.size, 0, none⟩) (by first | (simp; done) | (simp; omega)) (.bool b7)).far (p := ⟨w.heap.size, 1, none⟩) (by first | (simp; done) | (simp; omega)) (.slice A7 n7 c7)).far (p := ⟨w.heap.size, 2, none⟩) (by first | (simp; done) | (simp; omega)) (.slice D7 m7 k7))
  have by_ : Hid (Below w.heap.size w (((w1.setCell ⟨w.heap.size, 0, none⟩ (.bool b7)).setCell ⟨w.heap.size, 1, none⟩ (.slice A7 n7 c7)).setCell ⟨w.heap.size, 2, none⟩ (.slice D7 m7 k7))) := (((b0.out.setCell (p := ⟨w.heap.size, 0, none⟩) (by first | exact Nat.le_refl _ | (simp; done) | (simp; omega)) (.bool b7)).setCell (p := ⟨w.heap.size, 1, none⟩) (by first | exact Nat.le_refl _ | (simp; done) | (simp; omega)) (.slice A7 n7 c7)).setCell (p := ⟨w.heap.size, 2, none⟩) (by first | exact Nat.le_refl _ | (simp; done) | (simp; omega)) (.slice D7 m7 k7))
  replace K1 : Hid (Blk (((w1.setCell ⟨w.heap.size, 0, none⟩ (.bool b7)).setCell ⟨w.heap.size, 1, none⟩ (.slice A7 n7 c7)).setCell ⟨w.heap.size, 2, none⟩ (.slice D7 m7 k7)) (w.heap.size) 27 #[.bool b7, .slice A7 n7 c7, .slice D7 m7 k7]) := (((K1.out.set_ 0 (.bool b7)).set_ 1 (.slice A7 n7 c7)).set_ 2 (.slice D7 m7 k7))
  replace b0 := by_
  clear by_ F
  have F : Only (w.heap.size + 1) (((w1.setCell ⟨w.heap.size, 0, none⟩ (.bool b7)).setCell ⟨w.heap.size, 1, none⟩ (.slice A7 n7 c7)).setCell ⟨w.heap.size, 2, none⟩ (.slice D7 m7 k7)) ((((((w1.setCell ⟨w.heap.size, 0, none⟩ (.bool b7)).setCell ⟨w.heap.size, 1, none⟩ (.slice A7 n7 c7)).setCell ⟨w.heap.size, 2, none⟩ (.slice D7 m7 k7)).setCell ⟨w.heap.size + 1, 0, none⟩ (.bool b9)).setCell ⟨w.heap.size + 1, 1, none⟩ (.slice A9 n9 c9)).setCell ⟨w.heap.size + 1, 2, none⟩ (.slice D9 m9 k9)) := ((((Only.refl _ _).set _ _).set _ _).set _ _)
  replace P1 := hide (P1.out.only K2.out (by decide) F)
  replace P2 := hide (P2.out.only K2.out (by decide) F)
  replace K1 := hide (((K1.out.far (p := ⟨w.heap.size + 1, 0, none⟩) (by first | (simp; done) | (simp; omega)) (.bool b9)).far (p := ⟨w.heap.size + 1, 1, none⟩) (by first | (simp; done) | (simp; omega)) (.slice A9 n9 c9)).far (p := ⟨w.heap.size + 1, 2, none⟩) (by first | (simp; done) | (simp; omega)) (.slice D9 m9 k9))
  replace K3 := hide (((K3.out.far (p := ⟨w.heap.size + 1, 0, none⟩) (by first | (simp; done) | (simp; omega)) (.bool b9)).far (p := ⟨w.heap.size + 1, 1, none⟩) (by first | (simp; done) | (simp; omega)) (.slice A9 n9 c9)).far (p := ⟨w.heap.size + 1, 2, none⟩) (by first | (simp; done) | (simp; omega)) (.slice D9 m9 k9))
  have by_ : Hid (Below w.heap.size w ((((((w1.setCell ⟨w.heap.size, 0, none⟩ (.bool b7)).setCell ⟨w.heap.size, 1, none⟩ (.slice A7 n7 c7)).setCell ⟨w.heap.size, 2, none⟩ (.slice D7 m7 k7)).setCell ⟨w.heap.size + 1, 0, none⟩ (.bool b9)).setCell ⟨w.heap.size + 1, 1, none⟩ (.slice A9 n9 c9)).setCell ⟨w.heap.size + 1, 2, none⟩ (.slice D9 m9 k9))) := (((b0.out.setCell (p := ⟨w.heap.size + 1, 0, none⟩) (by first | exact Nat.le_refl _ | (simp; done) | (simp; omega)) (.bool b9)).setCell (p := ⟨w.heap.size + 1, 1, none⟩) (by first | exact Nat.le_refl _ | (simp; done) | (simp; omega)) (.slice A9 n9 c9)).setCell (p := ⟨w.heap.size + 1, 2, none⟩) (by first | exact Nat.le_refl _ | (simp; done) | (simp; omega)) (.slice D9 m9 k9))
  replace K2 : Hid (Blk ((((((w1.setCell ⟨w.heap.size, 0, none⟩ (.bool b7)).setCell ⟨w.heap.size, 1, none⟩ (.slice A7 n7 c7)).setCell ⟨w.heap.size, 2, none⟩ (.slice D7 m7 k7)).setCell ⟨w.heap.size + 1, 0, none⟩ (.bool b9)).setCell ⟨w.heap.size + 1, 1, none⟩ (.slice A9 n9 c9)).setCell ⟨w.heap.size + 1, 2, none⟩ (.slice D9 m9 k9)) (w.heap.size + 1) 27 #[.bool b9, .slice A9 n9 c9, .slice D9 m9 k9]) := (((K2.out.set_ 0 (.bool b9)).set_ 1 (.slice A9 n9 c9)).set_ 2 (.slice D9 m9 k9))
  replace b0 := by_
  clear by_ F
  obtain ⟨V2_1, hV⟩ : ∃ V, ((((((w1.setCell ⟨w.heap.size, 0, none⟩ (.bool b7)).setCell ⟨w.heap.size, 1, none⟩ (.slice A7 n7 c7)).setCell ⟨w.heap.size, 2, none⟩ (.slice D7 m7 k7)).setCell ⟨w.heap.size + 1, 0, none⟩ (.bool b9)).setCell ⟨w.heap.size + 1, 1, none⟩ (.slice A9 n9 c9)).setCell ⟨w.heap.size + 1, 2, none⟩ (.slice D9 m9 k9)) = V := ⟨_, rfl⟩
  rw [hV] at K1 K2 K3 P1 P2 b0
  rw [hV]
  clear hV
  have C1 := hide (P1.out.can b0.out)
  have C2 := hide (P2.out.can b0.out)
  clear P1 P2
  refine (rwithMul_P (C1.out.arg S1.out) (C2.out.arg S2.out) (T.out.below b0.out) K1.out K2.out C1.out C2.out).mono ?_
  rintro e wz ⟨v8, rfl, d0, r8⟩
  have R8 := hide (r8.mono (B' := w.heap.size) b0.out.size)
  replace K1 := hide (K1.out.below' d0)
  replace K2 := hide (K2.out.below' d0)
  replace K3 := hide (K3.out.below' d0)
  replace C1 := hide (C1.out.below d0)
  replace C2 := hide (C2.out.below d0)
  replace b0 := hide (below_tr b0.out d0)
  clear r8 d0
  obtain ⟨b8, A8, n8, c8, D8, m8, k8, rfl⟩ := R8.out.slice
  have K3c0 : wz.cell? ⟨w.heap.size + 1 + 1, 0, none⟩ = some (.bool false) := K3.out.at_ 0 rfl
  have K3c1 : wz.cell? ⟨w.heap.size + 1 + 1, 1, none⟩ = some (.slice none 0 0) := K3.out.at_ 1 rfl
  have K3c2 : wz.cell? ⟨w.heap.size + 1 + 1, 2, none⟩ = some (.slice none 0 0) := K3.out.at_ 2 rfl
  have p0 : wz.frozen? ⟨w.heap.size + 1 + 1, 0, none⟩ = false := K3.out.frozen 0
  have p1 : wz.frozen? ⟨w.heap.size + 1 + 1, 1, none⟩ = false := K3.out.frozen 1
  have p2 : wz.frozen? ⟨w.heap.size + 1 + 1, 2, none⟩ = false := K3.out.frozen 2
  go_wp2
  refine bodyPost_ret (v := .agg #[.bool b8, .slice A8 n8 c8, .slice D8 m8 k8]) (by simp [results, Tryz.results25, go_sem, K3c0, K3c1, K3c2, p0, p1, p2]) rfl ?_
  exact opq_end hR ⟨_, rfl, (by (repeat (first | exact b0 | exact Below.refl _ _ | refine Below.setCell ?_ (by first | (simp; done) | (simp; omega)) _ | refine Below.alloc ?_ (by first | (simp; done) | (simp; omega)) _))), R8.out.only K3.out (by decide) ((((Only.refl _ _).set _ _).set _ _).set _ _)⟩
set_option maxHeartbeats 1000000 in
theorem rCmp_P {w : World} {v v' : Value} {p q : Rat} (h : RArg w v p) (h' : RArg w v' q) (hT : Tab w) :
    Calls Tryz.prog 35 #[v, v'] w fun e w' => ∃ u, e = .returned u ∧ Below w.heap.size w w' ∧ u = .int .i64 (cmpQ p q) := by
  refine opq fun R hR => ?_
  obtain ⟨b1, A1, n1, c1, D1, m1, k1, rfl⟩ := h.slice
  obtain ⟨b2, A2, n2, c2, D2, m2, k2, rfl⟩ := h'.slice
  have S1 := hide h.size
  have S2 := hide h'.size
  replace h := hide h
  replace h' := hide h'
  have T := hide hT
  clear hT
  go_enter Tryz.func35, Tryz.ntmps35
  have b0 := hide (Below.refl w.heap.size w)
  have K1 := hide (Blk.new_at w (w.heap.size) (by simp) 27 #[.bool b1, .slice A1 n1 c1, .slice D1 m1 k1])
  have y := (Below.refl w.heap.size w).alloc (Nat.le_refl _) (.cells #[.bool b1, .slice A1 n1 c1, .slice D1 m1 k1] 27)
  replace b0 := hide (below_tr b0.out y)
  clear y
  have K2 := hide (Blk.new_at (w.alloc (.cells #[.bool b1, .slice A1 n1 c1, .slice D1 m1 k1] 27)) (w.heap.size + 1) (by simp) 27 #[.bool b2, .slice A2 n2 c2, .slice D2 m2 k2])
  have y := (Below.refl (w.alloc (.cells #[.bool b1, .slice A1 n1 c1, .slice D1 m1 k1] 27)).heap.size (w.alloc (.cells #[.bool b1, .slice A1 n1 c1, .slice D1 m1 k1] 27))).alloc (Nat.le_refl _) (.cells #[.bool b2, .slice A2 n2 c2, .slice D2 m2 k2] 27)
  replace K1 := hide (K1.out.below' y)
  replace b0 := hide (below_tr b0.out y)
  clear y
  go_wp2_with fail
  refine (rcross_P (h.out.below b0.out) (h'.out.below b0.out) (T.out.below b0.out)).mono ?_
  rintro e w1 ⟨b3, A3, n3, c3, b4, A4, n4, c4, D5, m5, k5, rfl, d0, i1, i2, j3⟩
  replace K1 := hide (K1.out.below' d0)
  replace K2 := hide (K2.out.below' d0)
  replace b0 := hide (below_tr b0.out d0)
  have I1 := hide (i1)
  have I2 := hide (i2)
  have N3 := hide (j3)
  clear d0
  clear i1 i2 j3
  have K4 := hide (Blk.new_at w1 (w1.heap.size) (by simp) 101 #[.bool b3, .slice A3 n3 c3, .bool b4, .slice A4 n4 c4])
  have y := (Below.refl w1.heap.size w1).alloc (Nat.le_refl _) (.cells #[.bool b3, .slice A3 n3 c3, .bool b4, .slice A4 n4 c4] 101)
  replace K1 := hide (K1.out.below' y)
  replace K2 := hide (K2.out.below' y)
  replace I1 := hide (I1.out.below y)
  replace I2 := hide (I2.out.below y)
  replace N3 := hide (N3.out.below y)
  replace b0 := hide (below_tr b0.out y)
  clear y
  have X := hide (H_cross S1.out S2.out (Nat.le_refl _))
  go_wp2_with fail
  refine (iCmp_eq (ICan.arg I1.out (L_up X.out.1 (by decide))) (ICan.arg I2.out (L_up X.out.2.1 (by decide))) (cmpQ_cross p q)).mono ?_
  rintro e w2 ⟨_, rfl, d0, rfl⟩
  replace K1 := hide (K1.out.below' d0)
  replace K2 := hide (K2.out.below' d0)
  replace I1 := hide (I1.out.below d0)
  replace I2 := hide (I2.out.below d0)
  replace N3 := hide (N3.out.below d0)
  replace K4 := hide (K4.out.below' d0)
  replace b0 := hide (below_tr b0.out d0)
  clear d0
  go_wp2
  exact opq_end hR ⟨_, rfl, b0.out, rfl⟩
theorem field_Rat0 {w : World} {a b c : Value} : (Instr.field 27 (.agg #[a, b, c]) 0).run Tryz.prog w = .ok (.agg #[a, b]) w := by simp [Instr.field, asAgg, go_sem]
theorem field_Rat1 {w : World} {a b c : Value} : (Instr.field 27 (.agg #[a, b, c]) 1).run Tryz.prog w = .ok c w := by simp [Instr.field, asAgg, go_sem]
set_option maxHeartbeats 1000000 in
theorem rSign_P {w : World} {v : Value} {q : Rat} (h : RArg w v q) (hT : Tab w) :
    Calls Tryz.prog 33 #[v] w fun e w' => ∃ u, e = .returned u ∧ Below w.heap.size w w' ∧ u = .int .i64 (cmpQ q 0) := by
  refine opq fun R hR => ?_
  obtain ⟨b1, A1, n1, c1, D1, m1, k1, rfl⟩ := h.slice
  have S := hide h.size
  replace h := hide h
  have T := hide hT
  clear hT
  go_enter Tryz.func33, Tryz.ntmps33
  have b0 := hide (Below.refl w.heap.size w)
  have K1 := hide (Blk.new_at w (w.heap.size) (by simp) 27 #[.bool b1, .slice A1 n1 c1, .slice D1 m1 k1])
  have y := (Below.refl w.heap.size w).alloc (Nat.le_refl _) (.cells #[.bool b1, .slice A1 n1 c1, .slice D1 m1 k1] 27)
  replace b0 := hide (below_tr b0.out y)
  clear y
  go_wp2_with fail
  refine (rof_P h.out b0.out (T.out.below b0.out) w.heap.size b0.out.size).mono ?_
  rintro e w1 ⟨v8, rfl, d0, r8⟩
  replace K1 := hide (K1.out.below' d0)
  replace b0 := hide (below_tr b0.out d0)
  clear d0
  have C := hide (r8.can b0.out)
  clear r8
  obtain ⟨b8, A8, n8, c8, D8, m8, k8, rfl⟩ := C.out.slice
  have fl := field_Rat0 (w := w1) (a := .bool b8) (b := .slice A8 n8 c8) (c := .slice D8 m8 k8)
  go_wp2_with fail
  refine (iSign_P (ICan.arg C.out.num (L_up S.out.1 (by decide))) _ (cmpQ_zero q)).mono ?_
  rintro e w2 ⟨_, rfl, d0, rfl⟩
  replace K1 := hide (K1.out.below' d0)
  replace C := hide (C.out.below d0)
  replace b0 := hide (below_tr b0.out d0)
  clear d0
  go_wp2
  exact opq_end hR ⟨_, rfl, b0.out, rfl⟩
set_option maxHeartbeats 1000000 in
theorem rWhole_P {w : World} {v : Value} {q : Rat} (h : RArg w v q) (hT : Tab w) :
    Calls Tryz.prog 36 #[v] w fun e w' => ∃ u, e = .returned u ∧ Below w.heap.size w w' ∧ u = .bool (decide (q.den = 1)) := by
  refine opq fun R hR => ?_
  obtain ⟨b1, A1, n1, c1, D1, m1, k1, rfl⟩ := h.slice
  have S := hide h.size
  replace h := hide h
  have T := hide hT
  clear hT
  go_enter Tryz.func36, Tryz.ntmps36
  have b0 := hide (Below.refl w.heap.size w)
  have K1 := hide (Blk.new_at w (w.heap.size) (by simp) 27 #[.bool b1, .slice A1 n1 c1, .slice D1 m1 k1])
  have y := (Below.refl w.heap.size w).alloc (Nat.le_refl _) (.cells #[.bool b1, .slice A1 n1 c1, .slice D1 m1 k1] 27)
  replace b0 := hide (below_tr b0.out y)
  clear y
  go_wp2_with fail
  refine (rof_P h.out b0.out (T.out.below b0.out) w.heap.size b0.out.size).mono ?_
  rintro e w1 ⟨v8, rfl, d0, r8⟩
  replace K1 := hide (K1.out.below' d0)
  replace b0 := hide (below_tr b0.out d0)
  clear d0
  have C := hide (r8.can b0.out)
  clear r8
  obtain ⟨b8, A8, n8, c8, D8, m8, k8, rfl⟩ := C.out.slice
  have fl := field_Rat1 (w := w1) (a := .bool b8) (b := .slice A8 n8 c8) (c := .slice D8 m8 k8)
  go_wp2_with fail
  refine (is1_P C.out.den _ rfl).mono ?_
  rintro e w2 ⟨_, rfl, d0, rfl⟩
  replace K1 := hide (K1.out.below' d0)
  replace C := hide (C.out.below d0)
  replace b0 := hide (below_tr b0.out d0)
  clear d0
  go_wp2
  exact opq_end hR ⟨_, rfl, b0.out, rfl⟩
end Go.Proofs.YtnpfochbpdfcmaaGreatDoor
