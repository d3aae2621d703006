/- the reference of ints: Mul, Add, Sub, Cmp. -/
import Derived.Test.YtkefmeddnncacaaDoorRg
import Derived.Test.YtkefmeddnncacaaDoorBi
set_option linter.unusedVariables false
set_option linter.unusedSimpArgs false
set_option maxRecDepth 100000
namespace Go.Proofs.YtkefmeddnncacaaDoor
open Go.RowKit

theorem can_prt {w W : World} {v : Value} {N : Nat} (h : Can w v N) (hb : Below w.heap.size w W) (s : L N ≤ 1000000000000) : Prt W v (limbs N) ∧ nv (limbs N) = N :=
  ⟨(h.prt (L_up s (by decide))).below hb, by rw [nv, chk_limbs, if_pos rfl, val_limbs]⟩
theorem qMul_F {w W : World} {v v' : Value} {M N : Nat} (h : Can w v M) (h' : Can w v' N) (hb : Below w.heap.size w W) (s : L M ≤ 1000000000000) (s' : L N ≤ 1000000000000) :
    Calls Tryd.prog 212 #[v, v'] W fun e w' => ∃ A n c, e = .returned (.slice A n c) ∧ Below W.heap.size W w' ∧ NatR (M * N) W.heap.size w' (.slice A n c) := by
  obtain ⟨p, e1⟩ := can_prt h hb s
  obtain ⟨p', e2⟩ := can_prt h' hb s'
  have := nq_Mul p p'
  rw [e1, e2] at this
  exact this.mono fun e w' ⟨A, n, c, q1, q2, q3⟩ => ⟨A, n, c, q1, q2.out, q3⟩
theorem qAdd_F {w W : World} {v v' : Value} {M N : Nat} (h : Can w v M) (h' : Can w v' N) (hb : Below w.heap.size w W) (s : L M ≤ 1000000000000) (s' : L N ≤ 1000000000000) :
    Calls Tryd.prog 223 #[v, v'] W fun e w' => ∃ A n c, e = .returned (.slice A n c) ∧ Below W.heap.size W w' ∧ NatR (M + N) W.heap.size w' (.slice A n c) := by
  obtain ⟨p, e1⟩ := can_prt h hb s
  obtain ⟨p', e2⟩ := can_prt h' hb s'
  have := nq_Add p p'
  rw [e1, e2] at this
  exact this.mono fun e w' ⟨A, n, c, q1, q2, q3⟩ => ⟨A, n, c, q1, q2.out, q3⟩
theorem qCmp_F {w W : World} {v v' : Value} {M N : Nat} (h : Can w v M) (h' : Can w v' N) (hb : Below w.heap.size w W) (s : L M ≤ 1000000000000) (s' : L N ≤ 1000000000000) :
    Calls Tryd.prog 224 #[v, v'] W fun e w' => e = .returned (.int .i64 (cmpN M N)) ∧ Below W.heap.size W w' := by
  obtain ⟨p, e1⟩ := can_prt h hb s
  obtain ⟨p', e2⟩ := can_prt h' hb s'
  have := nq_Cmp p p'
  rw [e1, e2] at this
  exact this.mono fun e w' ⟨q1, q2⟩ => ⟨q1, q2.out⟩
theorem qSub_F {w W : World} {v v' : Value} {M N : Nat} (h : Can w v M) (h' : Can w v' N) (hb : Below w.heap.size w W) (s : L M ≤ 1000000000000) (s' : L N ≤ 1000000000000) (hle : N ≤ M) :
    Calls Tryd.prog 225 #[v, v'] W fun e w' => ∃ A n c, e = .returned (.tuple #[.slice A n c, .int .i64 0]) ∧ Below W.heap.size W w' ∧ NatR (M - N) W.heap.size w' (.slice A n c) := by
  obtain ⟨p, e1⟩ := can_prt h hb s
  obtain ⟨p', e2⟩ := can_prt h' hb s'
  have := nq_Sub p p'
  have hc : chk (limbs M) = true ∧ chk (limbs N) = true ∧ val (limbs N) ≤ val (limbs M) := ⟨chk_limbs M, chk_limbs N, by rw [val_limbs, val_limbs]; exact hle⟩
  rw [show subD (limbs M) (limbs N) = M - N by rw [subD, if_pos hc, val_limbs, val_limbs], show subK (limbs M) (limbs N) = 0 by rw [subK, if_pos hc]] at this
  exact this.mono fun e w' ⟨A, n, c, q1, q2, q3⟩ => ⟨A, n, c, q1, q2.out, q3⟩
theorem add_same {x y : Int} {b : Bool} (hx : decide (x < 0) = b) (hy : decide (y < 0) = b) : (x + y).natAbs = x.natAbs + y.natAbs ∧ decide (x + y < 0) = (b && decide (x.natAbs + y.natAbs ≠ 0)) := by
  cases b <;> simp at hx hy
  · refine ⟨by omega, ?_⟩
    rw [Bool.eq_iff_iff]
    simp only [Bool.true_and, Bool.false_and, Bool.false_eq_true, decide_eq_true_eq, iff_false, ne_eq]
    omega
  · refine ⟨by omega, ?_⟩
    rw [Bool.eq_iff_iff]
    simp only [Bool.true_and, Bool.false_and, Bool.false_eq_true, decide_eq_true_eq, iff_false, ne_eq]
    omega
theorem add_less {x y : Int} {b b' : Bool} (hx : decide (x < 0) = b) (hy : decide (y < 0) = b') (hne : b ≠ b') (hl : x.natAbs < y.natAbs) : (x + y).natAbs = y.natAbs - x.natAbs ∧ decide (x + y < 0) = (b' && decide (y.natAbs - x.natAbs ≠ 0)) := by
  cases b <;> cases b' <;> simp at hx hy hne
  · refine ⟨by omega, ?_⟩
    rw [Bool.eq_iff_iff]
    simp only [Bool.true_and, Bool.false_and, Bool.false_eq_true, decide_eq_true_eq, iff_false, ne_eq]
    omega
  · refine ⟨by omega, ?_⟩
    rw [Bool.eq_iff_iff]
    simp only [Bool.true_and, Bool.false_and, Bool.false_eq_true, decide_eq_true_eq, iff_false, ne_eq]
    omega
theorem add_more {x y : Int} {b b' : Bool} (hx : decide (x < 0) = b) (hy : decide (y < 0) = b') (hne : b ≠ b') (hl : y.natAbs ≤ x.natAbs) : (x + y).natAbs = x.natAbs - y.natAbs ∧ decide (x + y < 0) = (b && decide (x.natAbs - y.natAbs ≠ 0)) := by
  cases b <;> cases b' <;> simp at hx hy hne
  · refine ⟨by omega, ?_⟩
    rw [Bool.eq_iff_iff]
    simp only [Bool.true_and, Bool.false_and, Bool.false_eq_true, decide_eq_true_eq, iff_false, ne_eq]
    omega
  · refine ⟨by omega, ?_⟩
    rw [Bool.eq_iff_iff]
    simp only [Bool.true_and, Bool.false_and, Bool.false_eq_true, decide_eq_true_eq, iff_false, ne_eq]
    omega
set_option maxHeartbeats 4000000 in
theorem qMul_ok {w : World} {v1 v2 : Value} {x y : Int} (h1 : IArg w v1 x) (h2 : IArg w v2 y) :
    Calls Tryd.prog 192 #[v1, v2] w fun e w' => ∃ u, e = .returned u ∧ Below w.heap.size w w' ∧ IntR (x * y) w.heap.size w' u := by
  refine opq fun R hR => ?_
  obtain ⟨b1, A1, n1, c1, rfl⟩ := h1.slice
  obtain ⟨b2, A2, n2, c2, rfl⟩ := h2.slice
  have S1 := hide h1.size
  have S2 := hide h2.size
  replace h1 := hide h1
  replace h2 := hide h2
  go_enter Tryd.func192, Tryd.ntmps192
  go_wp2_with fail
  obtain ⟨W, hW, K1, K2, K3, BW, ZW⟩ := alloc3 w #[.bool b1, .slice A1 n1 c1] #[.bool b2, .slice A2 n2 c2] #[.bool false, .slice none 0 0] 49 49 49
  rw [hW]
  clear hW ZW
  refine (qfit_F h1.out BW.out).mono ?_
  rintro e w1 ⟨_, rfl, d1, u1, rfl, hu⟩
  have U1 := hide hu
  obtain ⟨X1, k1, rfl, l, r⟩ := hu
  clear l r
  replace K1 := hide (K1.out.below' d1)
  replace K2 := hide (K2.out.below' d1)
  replace K3 := hide (K3.out.below' d1)
  have B1 := hide (BW.out.trans (d1.mono BW.out.size))
  have q0 := K1.out.at_ 0 rfl
  have q1 := K1.out.at_ 1 rfl
  have q2 := K1.out.frozen 0
  have q3 := K1.out.frozen 1
  clear d1
  obtain ⟨m1, hm1⟩ : ∃ n, Hid ((limbs x.natAbs).length = n) := ⟨_, rfl⟩
  rw [hm1.out] at U1 ⊢
  obtain ⟨s1, hs1⟩ : ∃ b, Hid (decide (x < 0) = b) := ⟨_, rfl⟩
  rw [hs1.out]
  obtain ⟨V1, hV⟩ : ∃ V, (w1.setCell ⟨w.heap.size, 0, none⟩ (.bool s1)).setCell ⟨w.heap.size, 1, none⟩ (.slice X1 m1 k1) = V := ⟨_, rfl⟩
  replace K1 : Hid (Blk V1 (w.heap.size) 49 #[.bool s1, .slice X1 m1 k1]) := by
    rw [← hV]; exact (K1.out.set_ 0 _).set_ 1 _
  replace K2 : Hid (Blk V1 (w.heap.size + 1) 49 #[.bool b2, .slice A2 n2 c2]) := by
    rw [← hV]; exact (K2.out.far (p := ⟨w.heap.size, 0, none⟩) (show w.heap.size + 1 ≠ w.heap.size by omega) _).far (p := ⟨w.heap.size, 1, none⟩) (show w.heap.size + 1 ≠ w.heap.size by omega) _
  replace K3 : Hid (Blk V1 (w.heap.size + 1 + 1) 49 #[.bool false, .slice none 0 0]) := by
    rw [← hV]; exact (K3.out.far (p := ⟨w.heap.size, 0, none⟩) (show w.heap.size + 1 + 1 ≠ w.heap.size by omega) _).far (p := ⟨w.heap.size, 1, none⟩) (show w.heap.size + 1 + 1 ≠ w.heap.size by omega) _
  have BV1 : Hid (Below w.heap.size w V1) := by
    rw [← hV]; exact (B1.out.setCell (p := ⟨w.heap.size, 0, none⟩) (show w.heap.size ≤ w.heap.size by omega) _).setCell (p := ⟨w.heap.size, 1, none⟩) (show w.heap.size ≤ w.heap.size by omega) _
  clear B1 BW
  have y0 : V1.cell? ⟨w.heap.size + 1, 0, none⟩ = some (.bool b2) := K2.out.at_ 0 rfl
  have y1 : V1.cell? ⟨w.heap.size + 1, 1, none⟩ = some (.slice A2 n2 c2) := K2.out.at_ 1 rfl
  go_wp2_with fail
  clear y0 y1 q0 q1 q2 q3 hV
  refine (qfit_F h2.out BV1.out).mono ?_
  rintro e w2 ⟨_, rfl, d1, u2, rfl, hu⟩
  have U2 := hide hu
  obtain ⟨X2, k2, rfl, l, r⟩ := hu
  clear l r
  replace K1 := hide (K1.out.below' d1)
  replace K2 := hide (K2.out.below' d1)
  replace K3 := hide (K3.out.below' d1)
  have B1 := hide (BV1.out.trans (d1.mono BV1.out.size))
  have q0 := K2.out.at_ 0 rfl
  have q1 := K2.out.at_ 1 rfl
  have q2 := K2.out.frozen 0
  have q3 := K2.out.frozen 1
  clear d1
  obtain ⟨m2, hm2⟩ : ∃ n, Hid ((limbs y.natAbs).length = n) := ⟨_, rfl⟩
  rw [hm2.out] at U2 ⊢
  obtain ⟨s2, hs2⟩ : ∃ b, Hid (decide (y < 0) = b) := ⟨_, rfl⟩
  rw [hs2.out]
  obtain ⟨V2, hV⟩ : ∃ V, (w2.setCell ⟨w.heap.size + 1, 0, none⟩ (.bool s2)).setCell ⟨w.heap.size + 1, 1, none⟩ (.slice X2 m2 k2) = V := ⟨_, rfl⟩
  replace K1 : Hid (Blk V2 (w.heap.size) 49 #[.bool s1, .slice X1 m1 k1]) := by
    rw [← hV]; exact (K1.out.far (p := ⟨w.heap.size + 1, 0, none⟩) (show w.heap.size ≠ w.heap.size + 1 by omega) _).far (p := ⟨w.heap.size + 1, 1, none⟩) (show w.heap.size ≠ w.heap.size + 1 by omega) _
  replace K2 : Hid (Blk V2 (w.heap.size + 1) 49 #[.bool s2, .slice X2 m2 k2]) := by
    rw [← hV]; exact (K2.out.set_ 0 _).set_ 1 _
  replace K3 : Hid (Blk V2 (w.heap.size + 1 + 1) 49 #[.bool false, .slice none 0 0]) := by
    rw [← hV]; exact (K3.out.far (p := ⟨w.heap.size + 1, 0, none⟩) (show w.heap.size + 1 + 1 ≠ w.heap.size + 1 by omega) _).far (p := ⟨w.heap.size + 1, 1, none⟩) (show w.heap.size + 1 + 1 ≠ w.heap.size + 1 by omega) _
  have BV2 : Hid (Below w.heap.size w V2) := by
    rw [← hV]; exact (B1.out.setCell (p := ⟨w.heap.size + 1, 0, none⟩) (show w.heap.size ≤ w.heap.size + 1 by omega) _).setCell (p := ⟨w.heap.size + 1, 1, none⟩) (show w.heap.size ≤ w.heap.size + 1 by omega) _
  clear B1 BV1
  go_wp2_with fail
  clear q0 q1 q2 q3 hV
  have a10 : V2.cell? ⟨w.heap.size, 0, none⟩ = some (.bool s1) := K1.out.at_ 0 rfl
  have a11 : V2.cell? ⟨w.heap.size, 1, none⟩ = some (.slice X1 m1 k1) := K1.out.at_ 1 rfl
  have a20 : V2.cell? ⟨w.heap.size + 1, 0, none⟩ = some (.bool s2) := K2.out.at_ 0 rfl
  have a21 : V2.cell? ⟨w.heap.size + 1, 1, none⟩ = some (.slice X2 m2 k2) := K2.out.at_ 1 rfl
  go_region_held3 (fun w' => w'.cell? ⟨w.heap.size, 0, none⟩ = some (.bool s1) ∧ w'.cell? ⟨w.heap.size, 1, none⟩ = some (.slice X1 m1 k1) ∧ w'.cell? ⟨w.heap.size + 1, 0, none⟩ = some (.bool s2) ∧ w'.cell? ⟨w.heap.size + 1, 1, none⟩ = some (.slice X2 m2 k2)) (first | (go_keep; done) | exact ⟨((K1w5.out.far (p := ⟨w.heap.size + 1 + 1, 0, none⟩) (show w.heap.size ≠ w.heap.size + 1 + 1 by omega) _).far (p := ⟨w.heap.size + 1 + 1, 1, none⟩) (show w.heap.size ≠ w.heap.size + 1 + 1 by omega) _).at_ 0 rfl, ((K1w5.out.far (p := ⟨w.heap.size + 1 + 1, 0, none⟩) (show w.heap.size ≠ w.heap.size + 1 + 1 by omega) _).far (p := ⟨w.heap.size + 1 + 1, 1, none⟩) (show w.heap.size ≠ w.heap.size + 1 + 1 by omega) _).at_ 1 rfl, ((K2w5.out.far (p := ⟨w.heap.size + 1 + 1, 0, none⟩) (show w.heap.size + 1 ≠ w.heap.size + 1 + 1 by omega) _).far (p := ⟨w.heap.size + 1 + 1, 1, none⟩) (show w.heap.size + 1 ≠ w.heap.size + 1 + 1 by omega) _).at_ 0 rfl, ((K2w5.out.far (p := ⟨w.heap.size + 1 + 1, 0, none⟩) (show w.heap.size + 1 ≠ w.heap.size + 1 + 1 by omega) _).far (p := ⟨w.heap.size + 1 + 1, 1, none⟩) (show w.heap.size + 1 ≠ w.heap.size + 1 + 1 by omega) _).at_ 1 rfl⟩ | go_keep)
    (first
    | (go_at_call 212; refine (qMul_F U1.out U2.out BV2.out.drew S1.out S2.out).mono ?_; rintro e w4 ⟨X3, m3, k3, rfl, d1, f3⟩; have F3 := hide f3; have B4 := hide (below_tr BV2.out.drew d1); have Z4 := hide BV2.out.size; have K1w4 := hide (K1.out.drew.below' d1); have K2w4 := hide (K2.out.drew.below' d1); have K3w4 := hide (K3.out.drew.below' d1); have c10w4 : w4.cell? ⟨w.heap.size, 0, none⟩ = some (.bool s1) := K1w4.out.at_ 0 rfl; have c11w4 : w4.cell? ⟨w.heap.size, 1, none⟩ = some (.slice X1 m1 k1) := K1w4.out.at_ 1 rfl; have c20w4 : w4.cell? ⟨w.heap.size + 1, 0, none⟩ = some (.bool s2) := K2w4.out.at_ 0 rfl; have c21w4 : w4.cell? ⟨w.heap.size + 1, 1, none⟩ = some (.slice X2 m2 k2) := K2w4.out.at_ 1 rfl; clear d1 f3)
    | (go_at_call 180; refine (qsigned_R (z := x * y) F3.out (Int.natAbs_mul x y) (by rw [mul_sign, hs1.out, hs2.out]; cases s1 <;> cases s2 <;> rfl)).mono ?_; rintro e w5 ⟨X4, m4, k4, s4, rfl, d1, f4⟩; have F4 := hide f4; have B5 := hide (below_tr B4.out d1); have K1w5 := hide (K1w4.out.below' d1); have K2w5 := hide (K2w4.out.below' d1); have K3w5 := hide (K3w4.out.below' d1); have c10w5 : w5.cell? ⟨w.heap.size, 0, none⟩ = some (.bool s1) := K1w5.out.at_ 0 rfl; have c11w5 : w5.cell? ⟨w.heap.size, 1, none⟩ = some (.slice X1 m1 k1) := K1w5.out.at_ 1 rfl; have c20w5 : w5.cell? ⟨w.heap.size + 1, 0, none⟩ = some (.bool s2) := K2w5.out.at_ 0 rfl; have c21w5 : w5.cell? ⟨w.heap.size + 1, 1, none⟩ = some (.slice X2 m2 k2) := K2w5.out.at_ 1 rfl; have q0 : w5.cell? ⟨w.heap.size + 1 + 1, 0, none⟩ = some (.bool false) := K3w5.out.at_ 0 rfl; have q1 : w5.cell? ⟨w.heap.size + 1 + 1, 1, none⟩ = some (.slice none 0 0) := K3w5.out.at_ 1 rfl; have q2 : w5.frozen? ⟨w.heap.size + 1 + 1, 0, none⟩ = false := K3w5.out.frozen 0; have q3 : w5.frozen? ⟨w.heap.size + 1 + 1, 1, none⟩ = false := K3w5.out.frozen 1; clear d1 f4))
  all_goals
    go_wp2
    refine bodyPost_ret (v := .agg #[.bool s4, .slice X4 m4 k4]) (by simp [results, Tryd.results192, go_sem, q0, q1, q2, q3]) rfl ?_
    exact opq_end hR ⟨_, rfl, (by (repeat (first | exact B5 | exact Below.refl _ _ | refine Below.setCell ?_ (by first | (simp; done) | (simp; omega)) _ | refine Below.alloc ?_ (by first | (simp; done) | (simp; omega)) _))), (F4.out.mono Z4.out).only K3w5.out (by decide) (((Only.refl _ _).set _ _).set _ _)⟩
set_option maxHeartbeats 4000000 in
theorem qAdd_ok {w : World} {v1 v2 : Value} {x y : Int} (h1 : IArg w v1 x) (h2 : IArg w v2 y) :
    Calls Tryd.prog 210 #[v1, v2] w fun e w' => ∃ u, e = .returned u ∧ Below w.heap.size w w' ∧ IntR (x + y) w.heap.size w' u := by
  refine opq fun R hR => ?_
  obtain ⟨b1, A1, n1, c1, rfl⟩ := h1.slice
  obtain ⟨b2, A2, n2, c2, rfl⟩ := h2.slice
  have S1 := hide h1.size
  have S2 := hide h2.size
  replace h1 := hide h1
  replace h2 := hide h2
  go_enter Tryd.func210, Tryd.ntmps210
  go_wp2_with fail
  obtain ⟨W, hW, K1, K2, K3, BW, ZW⟩ := alloc3 w #[.bool b1, .slice A1 n1 c1] #[.bool b2, .slice A2 n2 c2] #[.bool false, .slice none 0 0] 49 49 49
  rw [hW]
  clear hW ZW
  refine (qfit_F h1.out BW.out).mono ?_
  rintro e w1 ⟨_, rfl, d1, u1, rfl, hu⟩
  have U1 := hide hu
  obtain ⟨X1, k1, rfl, l, r⟩ := hu
  clear l r
  replace K1 := hide (K1.out.below' d1)
  replace K2 := hide (K2.out.below' d1)
  replace K3 := hide (K3.out.below' d1)
  have B1 := hide (BW.out.trans (d1.mono BW.out.size))
  have q0 := K1.out.at_ 0 rfl
  have q1 := K1.out.at_ 1 rfl
  have q2 := K1.out.frozen 0
  have q3 := K1.out.frozen 1
  clear d1
  obtain ⟨m1, hm1⟩ : ∃ n, Hid ((limbs x.natAbs).length = n) := ⟨_, rfl⟩
  rw [hm1.out] at U1 ⊢
  obtain ⟨s1, hs1⟩ : ∃ b, Hid (decide (x < 0) = b) := ⟨_, rfl⟩
  rw [hs1.out]
  obtain ⟨V1, hV⟩ : ∃ V, (w1.setCell ⟨w.heap.size, 0, none⟩ (.bool s1)).setCell ⟨w.heap.size, 1, none⟩ (.slice X1 m1 k1) = V := ⟨_, rfl⟩
  replace K1 : Hid (Blk V1 (w.heap.size) 49 #[.bool s1, .slice X1 m1 k1]) := by
    rw [← hV]; exact (K1.out.set_ 0 _).set_ 1 _
  replace K2 : Hid (Blk V1 (w.heap.size + 1) 49 #[.bool b2, .slice A2 n2 c2]) := by
    rw [← hV]; exact (K2.out.far (p := ⟨w.heap.size, 0, none⟩) (show w.heap.size + 1 ≠ w.heap.size by omega) _).far (p := ⟨w.heap.size, 1, none⟩) (show w.heap.size + 1 ≠ w.heap.size by omega) _
  replace K3 : Hid (Blk V1 (w.heap.size + 1 + 1) 49 #[.bool false, .slice none 0 0]) := by
    rw [← hV]; exact (K3.out.far (p := ⟨w.heap.size, 0, none⟩) (show w.heap.size + 1 + 1 ≠ w.heap.size by omega) _).far (p := ⟨w.heap.size, 1, none⟩) (show w.heap.size + 1 + 1 ≠ w.heap.size by omega) _
  have BV1 : Hid (Below w.heap.size w V1) := by
    rw [← hV]; exact (B1.out.setCell (p := ⟨w.heap.size, 0, none⟩) (show w.heap.size ≤ w.heap.size by omega) _).setCell (p := ⟨w.heap.size, 1, none⟩) (show w.heap.size ≤ w.heap.size by omega) _
  clear B1 BW
  have y0 : V1.cell? ⟨w.heap.size + 1, 0, none⟩ = some (.bool b2) := K2.out.at_ 0 rfl
  have y1 : V1.cell? ⟨w.heap.size + 1, 1, none⟩ = some (.slice A2 n2 c2) := K2.out.at_ 1 rfl
  go_wp2_with fail
  clear y0 y1 q0 q1 q2 q3 hV
  refine (qfit_F h2.out BV1.out).mono ?_
  rintro e w2 ⟨_, rfl, d1, u2, rfl, hu⟩
  have U2 := hide hu
  obtain ⟨X2, k2, rfl, l, r⟩ := hu
  clear l r
  replace K1 := hide (K1.out.below' d1)
  replace K2 := hide (K2.out.below' d1)
  replace K3 := hide (K3.out.below' d1)
  have B1 := hide (BV1.out.trans (d1.mono BV1.out.size))
  have q0 := K2.out.at_ 0 rfl
  have q1 := K2.out.at_ 1 rfl
  have q2 := K2.out.frozen 0
  have q3 := K2.out.frozen 1
  clear d1
  obtain ⟨m2, hm2⟩ : ∃ n, Hid ((limbs y.natAbs).length = n) := ⟨_, rfl⟩
  rw [hm2.out] at U2 ⊢
  obtain ⟨s2, hs2⟩ : ∃ b, Hid (decide (y < 0) = b) := ⟨_, rfl⟩
  rw [hs2.out]
  obtain ⟨V2, hV⟩ : ∃ V, (w2.setCell ⟨w.heap.size + 1, 0, none⟩ (.bool s2)).setCell ⟨w.heap.size + 1, 1, none⟩ (.slice X2 m2 k2) = V := ⟨_, rfl⟩
  replace K1 : Hid (Blk V2 (w.heap.size) 49 #[.bool s1, .slice X1 m1 k1]) := by
    rw [← hV]; exact (K1.out.far (p := ⟨w.heap.size + 1, 0, none⟩) (show w.heap.size ≠ w.heap.size + 1 by omega) _).far (p := ⟨w.heap.size + 1, 1, none⟩) (show w.heap.size ≠ w.heap.size + 1 by omega) _
  replace K2 : Hid (Blk V2 (w.heap.size + 1) 49 #[.bool s2, .slice X2 m2 k2]) := by
    rw [← hV]; exact (K2.out.set_ 0 _).set_ 1 _
  replace K3 : Hid (Blk V2 (w.heap.size + 1 + 1) 49 #[.bool false, .slice none 0 0]) := by
    rw [← hV]; exact (K3.out.far (p := ⟨w.heap.size + 1, 0, none⟩) (show w.heap.size + 1 + 1 ≠ w.heap.size + 1 by omega) _).far (p := ⟨w.heap.size + 1, 1, none⟩) (show w.heap.size + 1 + 1 ≠ w.heap.size + 1 by omega) _
  have BV2 : Hid (Below w.heap.size w V2) := by
    rw [← hV]; exact (B1.out.setCell (p := ⟨w.heap.size + 1, 0, none⟩) (show w.heap.size ≤ w.heap.size + 1 by omega) _).setCell (p := ⟨w.heap.size + 1, 1, none⟩) (show w.heap.size ≤ w.heap.size + 1 by omega) _
  clear B1 BV1
  have a10 : V2.cell? ⟨w.heap.size, 0, none⟩ = some (.bool s1) := K1.out.at_ 0 rfl
  have a11 : V2.cell? ⟨w.heap.size, 1, none⟩ = some (.slice X1 m1 k1) := K1.out.at_ 1 rfl
  have a20 : V2.cell? ⟨w.heap.size + 1, 0, none⟩ = some (.bool s2) := K2.out.at_ 0 rfl
  have a21 : V2.cell? ⟨w.heap.size + 1, 1, none⟩ = some (.slice X2 m2 k2) := K2.out.at_ 1 rfl
  by_cases he : s1 = s2
  · have hq : (s1 == s2) = true := by simp [he]
    replace he := hide he
    go_wp2_with fail
    clear q0 q1 q2 q3 hV hq
    go_region_held3 (fun w' => w'.cell? ⟨w.heap.size, 0, none⟩ = some (.bool s1) ∧ w'.cell? ⟨w.heap.size, 1, none⟩ = some (.slice X1 m1 k1) ∧ w'.cell? ⟨w.heap.size + 1, 0, none⟩ = some (.bool s2) ∧ w'.cell? ⟨w.heap.size + 1, 1, none⟩ = some (.slice X2 m2 k2)) (first | (go_keep; done) | exact ⟨((K1w5.out.far (p := ⟨w.heap.size + 1 + 1, 0, none⟩) (show w.heap.size ≠ w.heap.size + 1 + 1 by omega) _).far (p := ⟨w.heap.size + 1 + 1, 1, none⟩) (show w.heap.size ≠ w.heap.size + 1 + 1 by omega) _).at_ 0 rfl, ((K1w5.out.far (p := ⟨w.heap.size + 1 + 1, 0, none⟩) (show w.heap.size ≠ w.heap.size + 1 + 1 by omega) _).far (p := ⟨w.heap.size + 1 + 1, 1, none⟩) (show w.heap.size ≠ w.heap.size + 1 + 1 by omega) _).at_ 1 rfl, ((K2w5.out.far (p := ⟨w.heap.size + 1 + 1, 0, none⟩) (show w.heap.size + 1 ≠ w.heap.size + 1 + 1 by omega) _).far (p := ⟨w.heap.size + 1 + 1, 1, none⟩) (show w.heap.size + 1 ≠ w.heap.size + 1 + 1 by omega) _).at_ 0 rfl, ((K2w5.out.far (p := ⟨w.heap.size + 1 + 1, 0, none⟩) (show w.heap.size + 1 ≠ w.heap.size + 1 + 1 by omega) _).far (p := ⟨w.heap.size + 1 + 1, 1, none⟩) (show w.heap.size + 1 ≠ w.heap.size + 1 + 1 by omega) _).at_ 1 rfl⟩ | go_keep)
      (first
      | (go_at_call 223; refine (qAdd_F U1.out U2.out BV2.out.drew S1.out S2.out).mono ?_; rintro e w4 ⟨X3, m3, k3, rfl, d1, f3⟩; have F3 := hide f3; have B4 := hide (below_tr BV2.out.drew d1); have Z4 := hide BV2.out.size; have K1w4 := hide (K1.out.drew.below' d1); have K2w4 := hide (K2.out.drew.below' d1); have K3w4 := hide (K3.out.drew.below' d1); have c10w4 : w4.cell? ⟨w.heap.size, 0, none⟩ = some (.bool s1) := K1w4.out.at_ 0 rfl; have c11w4 : w4.cell? ⟨w.heap.size, 1, none⟩ = some (.slice X1 m1 k1) := K1w4.out.at_ 1 rfl; have c20w4 : w4.cell? ⟨w.heap.size + 1, 0, none⟩ = some (.bool s2) := K2w4.out.at_ 0 rfl; have c21w4 : w4.cell? ⟨w.heap.size + 1, 1, none⟩ = some (.slice X2 m2 k2) := K2w4.out.at_ 1 rfl; clear d1 f3)
      | (go_at_call 180; refine (qsigned_R (z := x + y) F3.out (add_same hs1.out (by rw [hs2.out, he.out])).1 (add_same hs1.out (by rw [hs2.out, he.out])).2).mono ?_; rintro e w5 ⟨X4, m4, k4, s4, rfl, d1, f4⟩; have F4 := hide f4; have B5 := hide (below_tr B4.out d1); have K1w5 := hide (K1w4.out.below' d1); have K2w5 := hide (K2w4.out.below' d1); have K3w5 := hide (K3w4.out.below' d1); have c10w5 : w5.cell? ⟨w.heap.size, 0, none⟩ = some (.bool s1) := K1w5.out.at_ 0 rfl; have c11w5 : w5.cell? ⟨w.heap.size, 1, none⟩ = some (.slice X1 m1 k1) := K1w5.out.at_ 1 rfl; have c20w5 : w5.cell? ⟨w.heap.size + 1, 0, none⟩ = some (.bool s2) := K2w5.out.at_ 0 rfl; have c21w5 : w5.cell? ⟨w.heap.size + 1, 1, none⟩ = some (.slice X2 m2 k2) := K2w5.out.at_ 1 rfl; have q0 : w5.cell? ⟨w.heap.size + 1 + 1, 0, none⟩ = some (.bool false) := K3w5.out.at_ 0 rfl; have q1 : w5.cell? ⟨w.heap.size + 1 + 1, 1, none⟩ = some (.slice none 0 0) := K3w5.out.at_ 1 rfl; have q2 : w5.frozen? ⟨w.heap.size + 1 + 1, 0, none⟩ = false := K3w5.out.frozen 0; have q3 : w5.frozen? ⟨w.heap.size + 1 + 1, 1, none⟩ = false := K3w5.out.frozen 1; clear d1 f4))
    all_goals
      go_wp2
      refine bodyPost_ret (v := .agg #[.bool s4, .slice X4 m4 k4]) (by simp [results, Tryd.results210, go_sem, q0, q1, q2, q3]) rfl ?_
      exact opq_end hR ⟨_, rfl, (by (repeat (first | exact B5 | exact Below.refl _ _ | refine Below.setCell ?_ (by first | (simp; done) | (simp; omega)) _ | refine Below.alloc ?_ (by first | (simp; done) | (simp; omega)) _))), (F4.out.mono Z4.out).only K3w5.out (by decide) (((Only.refl _ _).set _ _).set _ _)⟩
  · have hq : (s1 == s2) = false := by simp [he]
    replace he := hide he
    go_wp2_with fail
    clear q0 q1 q2 q3 hV hq
    rcases Nat.lt_or_ge x.natAbs y.natAbs with hl | hl
    · have hc := qCmp_F U1.out U2.out BV2.out S1.out S2.out
      rw [cmpN_lt hl] at hc
      refine hc.mono ?_
      clear hc
      rintro e w4 ⟨rfl, d1⟩
      have B4 := hide (below_tr BV2.out d1)
      have K1w4 := hide (K1.out.below' d1)
      have K2w4 := hide (K2.out.below' d1)
      have K3w4 := hide (K3.out.below' d1)
      have c10w4 : w4.cell? ⟨w.heap.size, 0, none⟩ = some (.bool s1) := K1w4.out.at_ 0 rfl
      have c11w4 : w4.cell? ⟨w.heap.size, 1, none⟩ = some (.slice X1 m1 k1) := K1w4.out.at_ 1 rfl
      have c20w4 : w4.cell? ⟨w.heap.size + 1, 0, none⟩ = some (.bool s2) := K2w4.out.at_ 0 rfl
      have c21w4 : w4.cell? ⟨w.heap.size + 1, 1, none⟩ = some (.slice X2 m2 k2) := K2w4.out.at_ 1 rfl
      clear d1
      go_wp2_with fail
      refine (qSub_F U2.out U1.out B4.out S2.out S1.out (Nat.le_of_lt hl)).mono ?_
      rintro e w5 ⟨X3, m3, k3, rfl, d1, f3⟩
      have F3 := hide (f3.mono (B' := w.heap.size) B4.out.size)
      have B5 := hide (below_tr B4.out d1)
      have K1w5 := hide (K1w4.out.below' d1)
      have K2w5 := hide (K2w4.out.below' d1)
      have K3w5 := hide (K3w4.out.below' d1)
      have c10w5 : w5.cell? ⟨w.heap.size, 0, none⟩ = some (.bool s1) := K1w5.out.at_ 0 rfl
      have c11w5 : w5.cell? ⟨w.heap.size, 1, none⟩ = some (.slice X1 m1 k1) := K1w5.out.at_ 1 rfl
      have c20w5 : w5.cell? ⟨w.heap.size + 1, 0, none⟩ = some (.bool s2) := K2w5.out.at_ 0 rfl
      have c21w5 : w5.cell? ⟨w.heap.size + 1, 1, none⟩ = some (.slice X2 m2 k2) := K2w5.out.at_ 1 rfl
      clear d1 f3
      go_wp2_with fail
      refine (qsigned_R (z := x + y) F3.out (add_less hs1.out hs2.out he.out hl).1 (add_less hs1.out hs2.out he.out hl).2).mono ?_
      rintro e w6 ⟨X4, m4, k4, s4, rfl, d1, f4⟩
      have F4 := hide f4
      have B6 := hide (below_tr B5.out d1)
      have K3w6 := hide (K3w5.out.below' d1)
      have q0 : w6.cell? ⟨w.heap.size + 1 + 1, 0, none⟩ = some (.bool false) := K3w6.out.at_ 0 rfl
      have q1 : w6.cell? ⟨w.heap.size + 1 + 1, 1, none⟩ = some (.slice none 0 0) := K3w6.out.at_ 1 rfl
      have q2 : w6.frozen? ⟨w.heap.size + 1 + 1, 0, none⟩ = false := K3w6.out.frozen 0
      have q3 : w6.frozen? ⟨w.heap.size + 1 + 1, 1, none⟩ = false := K3w6.out.frozen 1
      clear d1 f4
      go_wp2
      refine bodyPost_ret (v := .agg #[.bool s4, .slice X4 m4 k4]) (by simp [results, Tryd.results210, go_sem, q0, q1, q2, q3]) rfl ?_
      exact opq_end hR ⟨_, rfl, (by (repeat (first | exact B6 | exact Below.refl _ _ | refine Below.setCell ?_ (by first | (simp; done) | (simp; omega)) _ | refine Below.alloc ?_ (by first | (simp; done) | (simp; omega)) _))), F4.out.only K3w6.out (by decide) (((Only.refl _ _).set _ _).set _ _)⟩
    · have hc := qCmp_F U1.out U2.out BV2.out S1.out S2.out
      obtain ⟨r, hr, h0⟩ : ∃ r, cmpN x.natAbs y.natAbs = r ∧ decide (r < 0) = false := ⟨_, rfl, by rcases cmpN_cases x.natAbs y.natAbs with ⟨q, e⟩ | ⟨q, e⟩ | ⟨q, e⟩ <;> first | omega | (rw [e]; rfl)⟩
      rw [hr] at hc
      replace hr := hide hr
      refine hc.mono ?_
      clear hc
      rintro e w4 ⟨rfl, d1⟩
      have B4 := hide (below_tr BV2.out d1)
      have K1w4 := hide (K1.out.below' d1)
      have K2w4 := hide (K2.out.below' d1)
      have K3w4 := hide (K3.out.below' d1)
      have c10w4 : w4.cell? ⟨w.heap.size, 0, none⟩ = some (.bool s1) := K1w4.out.at_ 0 rfl
      have c11w4 : w4.cell? ⟨w.heap.size, 1, none⟩ = some (.slice X1 m1 k1) := K1w4.out.at_ 1 rfl
      have c20w4 : w4.cell? ⟨w.heap.size + 1, 0, none⟩ = some (.bool s2) := K2w4.out.at_ 0 rfl
      have c21w4 : w4.cell? ⟨w.heap.size + 1, 1, none⟩ = some (.slice X2 m2 k2) := K2w4.out.at_ 1 rfl
      clear d1
      go_wp2_with fail
      refine (qSub_F U1.out U2.out B4.out S1.out S2.out hl).mono ?_
      rintro e w5 ⟨X3, m3, k3, rfl, d1, f3⟩
      have F3 := hide (f3.mono (B' := w.heap.size) B4.out.size)
      have B5 := hide (below_tr B4.out d1)
      have K1w5 := hide (K1w4.out.below' d1)
      have K2w5 := hide (K2w4.out.below' d1)
      have K3w5 := hide (K3w4.out.below' d1)
      have c10w5 : w5.cell? ⟨w.heap.size, 0, none⟩ = some (.bool s1) := K1w5.out.at_ 0 rfl
      have c11w5 : w5.cell? ⟨w.heap.size, 1, none⟩ = some (.slice X1 m1 k1) := K1w5.out.at_ 1 rfl
      have c20w5 : w5.cell? ⟨w.heap.size + 1, 0, none⟩ = some (.bool s2) := K2w5.out.at_ 0 rfl
      have c21w5 : w5.cell? ⟨w.heap.size + 1, 1, none⟩ = some (.slice X2 m2 k2) := K2w5.out.at_ 1 rfl
      clear d1 f3
      go_wp2_with fail
      refine (qsigned_R (z := x + y) F3.out (add_more hs1.out hs2.out he.out hl).1 (add_more hs1.out hs2.out he.out hl).2).mono ?_
      rintro e w6 ⟨X4, m4, k4, s4, rfl, d1, f4⟩
      have F4 := hide f4
      have B6 := hide (below_tr B5.out d1)
      have K3w6 := hide (K3w5.out.below' d1)
      have q0 : w6.cell? ⟨w.heap.size + 1 + 1, 0, none⟩ = some (.bool false) := K3w6.out.at_ 0 rfl
      have q1 : w6.cell? ⟨w.heap.size + 1 + 1, 1, none⟩ = some (.slice none 0 0) := K3w6.out.at_ 1 rfl
      have q2 : w6.frozen? ⟨w.heap.size + 1 + 1, 0, none⟩ = false := K3w6.out.frozen 0
      have q3 : w6.frozen? ⟨w.heap.size + 1 + 1, 1, none⟩ = false := K3w6.out.frozen 1
      clear d1 f4
      go_wp2
      refine bodyPost_ret (v := .agg #[.bool s4, .slice X4 m4 k4]) (by simp [results, Tryd.results210, go_sem, q0, q1, q2, q3]) rfl ?_
      exact opq_end hR ⟨_, rfl, (by (repeat (first | exact B6 | exact Below.refl _ _ | refine Below.setCell ?_ (by first | (simp; done) | (simp; omega)) _ | refine Below.alloc ?_ (by first | (simp; done) | (simp; omega)) _))), F4.out.only K3w6.out (by decide) (((Only.refl _ _).set _ _).set _ _)⟩
set_option maxHeartbeats 4000000 in
theorem qSub_ok {w : World} {v1 v2 : Value} {x y : Int} (h1 : IArg w v1 x) (h2 : IArg w v2 y) :
    Calls Tryd.prog 191 #[v1, v2] w fun e w' => ∃ u, e = .returned u ∧ Below w.heap.size w w' ∧ IntR (x - y) w.heap.size w' u := by
  refine opq fun R hR => ?_
  obtain ⟨b1, A1, n1, c1, rfl⟩ := h1.slice
  obtain ⟨b2, A2, n2, c2, rfl⟩ := h2.slice
  have S1 := hide h1.size
  have S2 := hide h2.size
  replace h1 := hide h1
  replace h2 := hide h2
  go_enter Tryd.func191, Tryd.ntmps191
  go_wp2_with fail
  obtain ⟨W, hW, K1, K2, K3, BW, ZW⟩ := alloc3 w #[.bool b1, .slice A1 n1 c1] #[.bool b2, .slice A2 n2 c2] #[.bool false, .slice none 0 0] 49 49 49
  rw [hW]
  clear hW ZW
  have K1W := K1
  have K2W := K2
  have c10W : W.cell? ⟨w.heap.size, 0, none⟩ = some (.bool b1) := K1W.out.at_ 0 rfl
  have c11W : W.cell? ⟨w.heap.size, 1, none⟩ = some (.slice A1 n1 c1) := K1W.out.at_ 1 rfl
  have c20W : W.cell? ⟨w.heap.size + 1, 0, none⟩ = some (.bool b2) := K2W.out.at_ 0 rfl
  have c21W : W.cell? ⟨w.heap.size + 1, 1, none⟩ = some (.slice A2 n2 c2) := K2W.out.at_ 1 rfl
  clear K1W K2W
  go_region_held3 (fun w' => w'.cell? ⟨w.heap.size, 0, none⟩ = some (.bool b1) ∧ w'.cell? ⟨w.heap.size, 1, none⟩ = some (.slice A1 n1 c1) ∧ w'.cell? ⟨w.heap.size + 1, 0, none⟩ = some (.bool b2) ∧ w'.cell? ⟨w.heap.size + 1, 1, none⟩ = some (.slice A2 n2 c2)) (first | (go_keep; done) | exact ⟨((K1w5.out.far (p := ⟨w.heap.size + 1 + 1, 0, none⟩) (show w.heap.size ≠ w.heap.size + 1 + 1 by omega) _).far (p := ⟨w.heap.size + 1 + 1, 1, none⟩) (show w.heap.size ≠ w.heap.size + 1 + 1 by omega) _).at_ 0 rfl, ((K1w5.out.far (p := ⟨w.heap.size + 1 + 1, 0, none⟩) (show w.heap.size ≠ w.heap.size + 1 + 1 by omega) _).far (p := ⟨w.heap.size + 1 + 1, 1, none⟩) (show w.heap.size ≠ w.heap.size + 1 + 1 by omega) _).at_ 1 rfl, ((K2w5.out.far (p := ⟨w.heap.size + 1 + 1, 0, none⟩) (show w.heap.size + 1 ≠ w.heap.size + 1 + 1 by omega) _).far (p := ⟨w.heap.size + 1 + 1, 1, none⟩) (show w.heap.size + 1 ≠ w.heap.size + 1 + 1 by omega) _).at_ 0 rfl, ((K2w5.out.far (p := ⟨w.heap.size + 1 + 1, 0, none⟩) (show w.heap.size + 1 ≠ w.heap.size + 1 + 1 by omega) _).far (p := ⟨w.heap.size + 1 + 1, 1, none⟩) (show w.heap.size + 1 ≠ w.heap.size + 1 + 1 by omega) _).at_ 1 rfl⟩ | go_keep)
    (first
    | (go_at_call 211; refine (qNeg_ok (h2.out.below BW.out.drew)).mono ?_; rintro e w4 ⟨u3, rfl, d1, f3⟩; obtain ⟨s3, X3, m3, k3, rfl⟩ := f3.slice; have F3 := hide f3; have B4 := hide (below_tr BW.out.drew d1); have K1w4 := hide (K1.out.drew.below' d1); have K2w4 := hide (K2.out.drew.below' d1); have K3w4 := hide (K3.out.drew.below' d1); have c10w4 : w4.cell? ⟨w.heap.size, 0, none⟩ = some (.bool b1) := K1w4.out.at_ 0 rfl; have c11w4 : w4.cell? ⟨w.heap.size, 1, none⟩ = some (.slice A1 n1 c1) := K1w4.out.at_ 1 rfl; have c20w4 : w4.cell? ⟨w.heap.size + 1, 0, none⟩ = some (.bool b2) := K2w4.out.at_ 0 rfl; have c21w4 : w4.cell? ⟨w.heap.size + 1, 1, none⟩ = some (.slice A2 n2 c2) := K2w4.out.at_ 1 rfl; clear d1 f3)
    | (go_at_call 210; refine (qAdd_ok (h1.out.below B4.out) (F3.out.can.arg (Z_neg S2.out))).mono ?_; rintro e w5 ⟨u4, rfl, d1, f4⟩; obtain ⟨s4, X4, m4, k4, rfl⟩ := f4.slice; have F4 := hide (f4.mono (B' := w.heap.size) B4.out.size); have B5 := hide (below_tr B4.out d1); have K1w5 := hide (K1w4.out.below' d1); have K2w5 := hide (K2w4.out.below' d1); have K3w5 := hide (K3w4.out.below' d1); have c10w5 : w5.cell? ⟨w.heap.size, 0, none⟩ = some (.bool b1) := K1w5.out.at_ 0 rfl; have c11w5 : w5.cell? ⟨w.heap.size, 1, none⟩ = some (.slice A1 n1 c1) := K1w5.out.at_ 1 rfl; have c20w5 : w5.cell? ⟨w.heap.size + 1, 0, none⟩ = some (.bool b2) := K2w5.out.at_ 0 rfl; have c21w5 : w5.cell? ⟨w.heap.size + 1, 1, none⟩ = some (.slice A2 n2 c2) := K2w5.out.at_ 1 rfl; have q0 : w5.cell? ⟨w.heap.size + 1 + 1, 0, none⟩ = some (.bool false) := K3w5.out.at_ 0 rfl; have q1 : w5.cell? ⟨w.heap.size + 1 + 1, 1, none⟩ = some (.slice none 0 0) := K3w5.out.at_ 1 rfl; have q2 : w5.frozen? ⟨w.heap.size + 1 + 1, 0, none⟩ = false := K3w5.out.frozen 0; have q3 : w5.frozen? ⟨w.heap.size + 1 + 1, 1, none⟩ = false := K3w5.out.frozen 1; clear d1 f4))
  all_goals
    go_wp2
    refine bodyPost_ret (v := .agg #[.bool s4, .slice X4 m4 k4]) (by simp [results, Tryd.results191, go_sem, q0, q1, q2, q3]) rfl ?_
    exact opq_end hR ⟨_, rfl, (by (repeat (first | exact B5 | exact Below.refl _ _ | refine Below.setCell ?_ (by first | (simp; done) | (simp; omega)) _ | refine Below.alloc ?_ (by first | (simp; done) | (simp; omega)) _))), by rw [Int.sub_eq_add_neg]; exact F4.out.only K3w5.out (by decide) (((Only.refl _ _).set _ _).set _ _)⟩
theorem cmpI_sub (x y : Int) : cmpI (x - y) 0 = cmpI x y := by
  unfold cmpI
  by_cases h : x < y
  · rw [if_pos h, if_pos (by omega)]
  · rw [if_neg h, if_neg (by omega)]
    by_cases e : x = y
    · rw [if_pos e, if_pos (by omega)]
    · rw [if_neg e, if_neg (by omega)]
set_option maxHeartbeats 4000000 in
theorem qCmp_ok {w : World} {v1 v2 : Value} {x y : Int} (h1 : IArg w v1 x) (h2 : IArg w v2 y) (z1 : L x.natAbs ≤ 1000000) (z2 : L y.natAbs ≤ 1000000) :
    Calls Tryd.prog 152 #[v1, v2] w fun e w' => ∃ u, e = .returned u ∧ Below w.heap.size w w' ∧ u = .int .i64 (cmpI x y) := by
  refine opq fun R hR => ?_
  obtain ⟨b1, A1, n1, c1, rfl⟩ := h1.slice
  obtain ⟨b2, A2, n2, c2, rfl⟩ := h2.slice
  have S1 := hide h1.size
  have S2 := hide h2.size
  replace h1 := hide h1
  replace h2 := hide h2
  replace z1 := hide z1
  replace z2 := hide z2
  go_enter Tryd.func152, Tryd.ntmps152
  go_wp2_with fail
  obtain ⟨W, hW, K1, K2, BW, ZW⟩ := alloc2 w #[.bool b1, .slice A1 n1 c1] #[.bool b2, .slice A2 n2 c2] 49 49
  rw [hW]
  clear hW ZW K1 K2
  refine (qSub_ok (h1.out.below BW.out) (h2.out.below BW.out)).mono ?_
  rintro e w1 ⟨u, rfl, d1, f⟩
  obtain ⟨s4, X4, m4, k4, rfl⟩ := f.slice
  have F := hide f
  have B1 := hide (below_tr BW.out d1)
  clear d1 f BW
  go_wp2_with fail
  refine (qSign_ok (F.out.can.arg (Z_sub (L_up z1.out (Nat.le_refl _)) z2.out (show _ < 1000000000000 by omega)))).mono ?_
  rintro e w2 ⟨_, rfl, d1, rfl⟩
  rw [cmpI_sub]
  have B2 := hide (below_tr B1.out d1)
  clear d1
  go_wp2
  exact opq_end hR ⟨_, rfl, (by (repeat (first | exact B2 | exact Below.refl _ _ | refine Below.setCell ?_ (by first | (simp; done) | (simp; omega)) _ | refine Below.alloc ?_ (by first | (simp; done) | (simp; omega)) _))), rfl⟩
end Go.Proofs.YtkefmeddnncacaaDoor
