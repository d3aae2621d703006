/- the reference of ints: Sign, Neg. -/
import Derived.Test.YtkefmeddnncacaaDoorRf
import Derived.Deep.RegionHeld3
set_option linter.unusedVariables false
set_option linter.unusedSimpArgs false
set_option maxRecDepth 100000
namespace Go.Proofs.YtkefmeddnncacaaDoor
open Go.RowKit

set_option maxHeartbeats 1000000 in
theorem qSign_ok {w : World} {v : Value} {x : Int} (h : IArg w v x) :
    Calls Tryd.prog 190 #[v] w fun e w' => ∃ u, e = .returned u ∧ Below w.heap.size w w' ∧ u = .int .i64 (cmpI x 0) := by
  refine opq fun R hR => ?_
  obtain ⟨b1, A1, n1, c1, rfl⟩ := h.slice
  have H := hide h
  clear h
  have BW := hide (ints_box w b1 (.slice A1 n1 c1))
  have K := hide (Blk.new w 49 #[.bool b1, .slice A1 n1 c1])
  go_enter Tryd.func190, Tryd.ntmps190
  go_wp2_with fail
  refine (qfit_F H.out BW.out).mono ?_
  rintro e w1 ⟨_, rfl, d1, u, rfl, A, c, rfl, l, r⟩
  have K1 := hide (K.out.below' d1)
  have B1 := hide (BW.out.trans (d1.mono BW.out.size))
  have q0 := K1.out.at_ 0 rfl
  have q1 := K1.out.at_ 1 rfl
  have q2 := K1.out.frozen 0
  have q3 := K1.out.frozen 1
  have e0 := @is_zero_len x.natAbs
  clear d1 r l K
  rcases Int.lt_trichotomy x 0 with hx | hx | hx
  · have e1 := hide (cmpI_lt hx)
    have e2 : decide (x < 0) = true := by simpa using hx
    rw [e2]
    generalize (limbs x.natAbs).length = n at *
    clear e2 e0 hx
    go_wp2
    exact opq_end hR ⟨_, rfl, (by (repeat (first | exact B1 | exact Below.refl _ _ | refine Below.setCell ?_ (by first | (simp; done) | (simp; omega)) _ | refine Below.alloc ?_ (by first | (simp; done) | (simp; omega)) _))), by rw [e1.out]; rfl⟩
  · subst hx
    have e1 := hide (cmpI_eq 0)
    have e2 : (limbs (0 : Int).natAbs).length = 0 := e0.2 rfl
    rw [e2, show decide ((0 : Int) < 0) = false from rfl]
    clear e0 e2
    go_wp2
    exact opq_end hR ⟨_, rfl, (by (repeat (first | exact B1 | exact Below.refl _ _ | refine Below.setCell ?_ (by first | (simp; done) | (simp; omega)) _ | refine Below.alloc ?_ (by first | (simp; done) | (simp; omega)) _))), by rw [e1.out]; rfl⟩
  · have e1 := hide (cmpI_gt hx)
    have e2 : decide (x < 0) = false := by simp; omega
    have e3 : 0 < (limbs x.natAbs).length := by omega
    rw [e2]
    clear e2 e0 hx
    generalize (limbs x.natAbs).length = n at *
    go_wp2
    exact opq_end hR ⟨_, rfl, (by (repeat (first | exact B1 | exact Below.refl _ _ | refine Below.setCell ?_ (by first | (simp; done) | (simp; omega)) _ | refine Below.alloc ?_ (by first | (simp; done) | (simp; omega)) _))), by rw [e1.out]; rfl⟩
theorem qTwin_F {w W : World} {A : Option Addr} {n c N : Nat} (h : Can w (.slice A n c) N) (hb : Below w.heap.size w W) (hl : L N ≤ 1000000000000) :
    Calls Tryd.prog 220 #[.slice A n c] W fun e w' => ∃ A' c', e = .returned (.slice A' n c') ∧ Below W.heap.size W w' ∧ NatR N W.heap.size w' (.slice A' n c') := by
  obtain ⟨A', c', e, l, r⟩ := h
  cases e
  exact (rTwin_ok W A _ c _ (r.below hb) (Nat.le_trans hl (by decide))).mono fun e w' ⟨A2, c2, e1, h1, h2, h3, _, h5⟩ => ⟨A2, c2, e1, by first | exact h5.out | exact h5, A2, c2, rfl, h2.out, h3.out, h1⟩
theorem qsigned_R {w : World} {A : Option Addr} {n c : Nat} {b : Bool} {N B : Nat} {z : Int} (h : NatR N B w (.slice A n c)) (h1 : z.natAbs = N) (h2 : decide (z < 0) = (b && decide (N ≠ 0))) :
    Calls Tryd.prog 180 #[.bool b, .slice A n c] w fun e w' => ∃ A n c s, e = .returned (.agg #[.bool s, .slice A n c]) ∧ Below w.heap.size w w' ∧ IntR z B w' (.agg #[.bool s, .slice A n c]) :=
  (qsigned_ok (b := b) h.can).mono fun e w' ⟨e1, e2⟩ => ⟨A, n, c, _, e1, e2.out, (intR_of_parts h h1 h2).below e2.out⟩
theorem neg_sign {x : Int} {b : Bool} (h : decide (x < 0) = b) : decide (-x < 0) = (!b && decide (x.natAbs ≠ 0)) := by
  subst h
  rw [Bool.eq_iff_iff]
  simp
  omega
set_option maxHeartbeats 2000000 in
theorem qNeg_ok {w : World} {v : Value} {x : Int} (h : IArg w v x) :
    Calls Tryd.prog 211 #[v] w fun e w' => ∃ u, e = .returned u ∧ Below w.heap.size w w' ∧ IntR (-x) w.heap.size w' u := by
  refine opq fun R hR => ?_
  obtain ⟨b1, A1, n1, c1, rfl⟩ := h.slice
  have H := hide h
  have S := hide h.size
  clear h
  go_enter Tryd.func211, Tryd.ntmps211
  go_wp2_with fail
  obtain ⟨W, hW, K1, K2, BW, ZW⟩ := alloc2 w #[.bool b1, .slice A1 n1 c1] #[.bool false, .slice none 0 0] 49 49
  rw [hW]
  clear hW
  refine (qfit_F H.out BW.out).mono ?_
  rintro e w1 ⟨_, rfl, d1, f⟩
  obtain ⟨u, rfl, hu⟩ := f
  have U := hide hu
  obtain ⟨A, c, rfl, l, r⟩ := hu
  replace K1 := hide (K1.out.below' d1)
  replace K2 := hide (K2.out.below' d1)
  have B1 := hide (BW.out.trans (d1.mono BW.out.size))
  have q0 := K1.out.at_ 0 rfl
  have q1 := K1.out.at_ 1 rfl
  have q2 := K1.out.frozen 0
  have q3 := K1.out.frozen 1
  clear d1 r l ZW
  obtain ⟨n, hn⟩ : ∃ n, Hid ((limbs x.natAbs).length = n) := ⟨_, rfl⟩
  rw [hn.out] at U ⊢
  obtain ⟨b, hb⟩ : ∃ b, Hid (decide (x < 0) = b) := ⟨_, rfl⟩
  rw [hb.out]
  obtain ⟨V, hV⟩ : ∃ V, (w1.setCell ⟨w.heap.size, 0, none⟩ (.bool b)).setCell ⟨w.heap.size, 1, none⟩ (.slice A n c) = V := ⟨_, rfl⟩
  have KV : Hid (Blk V w.heap.size 49 #[.bool b, .slice A n c]) := by
    rw [← hV]; exact (K1.out.set_ 0 _).set_ 1 _
  have KZ : Hid (Blk V (w.heap.size + 1) 49 #[.bool false, .slice none 0 0]) := by
    rw [← hV]; exact (K2.out.far (p := ⟨w.heap.size, 0, none⟩) (by simp) _).far (p := ⟨w.heap.size, 1, none⟩) (by simp) _
  have BV : Hid (Below w.heap.size w V) := by
    rw [← hV]; exact (B1.out.setCell (p := ⟨w.heap.size, 0, none⟩) (Nat.le_refl _) _).setCell (p := ⟨w.heap.size, 1, none⟩) (Nat.le_refl _) _
  have hV := hide hV
  clear K1 K2 B1 BW
  go_wp2
  have c0 : V.cell? ⟨w.heap.size, 0, none⟩ = some (.bool b) := KV.out.at_ 0 rfl
  have c1' : V.cell? ⟨w.heap.size, 1, none⟩ = some (.slice A n c) := KV.out.at_ 1 rfl
  clear q0 q1 q2 q3 hV
  go_region_held3 (fun w' => w'.cell? ⟨w.heap.size, 0, none⟩ = some (.bool b) ∧ w'.cell? ⟨w.heap.size, 1, none⟩ = some (.slice A n c)) (go_keep)
    (first
    | (go_at_call 220; refine (qTwin_F U.out BV.out.drew S.out).mono ?_; rintro e w2 ⟨A2, c2, rfl, d2, f2⟩; have F2 := hide f2; have B2 := hide (below_tr BV.out.drew d2); have Z2 := hide BV.out.size; have c02 : w2.cell? ⟨w.heap.size, 0, none⟩ = some (.bool b) := (KV.out.drew.below' d2).at_ 0 rfl; have c12 : w2.cell? ⟨w.heap.size, 1, none⟩ = some (.slice A n c) := (KV.out.drew.below' d2).at_ 1 rfl; have Kb2 := hide (KV.out.drew.below' d2); have K2 := hide (KZ.out.drew.below' d2); clear d2 f2)
    | (go_at_call 180; refine (qsigned_R (z := -x) F2.out (by simp) (neg_sign hb.out)).mono ?_; rintro e w3 ⟨A3, n3, c3, s3, rfl, d3, f3⟩; have F3 := hide f3; have B3 := hide (below_tr B2.out d3); have K3 := hide (K2.out.below' d3); have c03 : w3.cell? ⟨w.heap.size, 0, none⟩ = some (.bool b) := (Kb2.out.below' d3).at_ 0 rfl; have c13 : w3.cell? ⟨w.heap.size, 1, none⟩ = some (.slice A n c) := (Kb2.out.below' d3).at_ 1 rfl; have q0 : w3.cell? ⟨w.heap.size + 1, 0, none⟩ = some (.bool false) := K3.out.at_ 0 rfl; have q1 : w3.cell? ⟨w.heap.size + 1, 1, none⟩ = some (.slice none 0 0) := K3.out.at_ 1 rfl; have q2 : w3.frozen? ⟨w.heap.size + 1, 0, none⟩ = false := K3.out.frozen 0; have q3 : w3.frozen? ⟨w.heap.size + 1, 1, none⟩ = false := K3.out.frozen 1; clear d3 f3))
  all_goals
    go_wp2
    refine bodyPost_ret (v := .agg #[.bool s3, .slice A3 n3 c3]) (by simp [results, Tryd.results211, go_sem, q0, q1, q2, q3]) rfl ?_
    exact opq_end hR ⟨_, rfl, (by (repeat (first | exact B3 | exact Below.refl _ _ | refine Below.setCell ?_ (by first | (simp; done) | (simp; omega)) _ | refine Below.alloc ?_ (by first | (simp; done) | (simp; omega)) _))), (F3.out.mono Z2.out).only K3.out (by decide) (((Only.refl _ _).set _ _).set _ _)⟩
end Go.Proofs.YtkefmeddnncacaaDoor
