/- the laws of nats: NatsDivs. -/
import Derived.Test.YtfadehkagbcjaaaGreatDoorBk
set_option linter.unusedVariables false
set_option linter.unusedSimpArgs false
set_option maxRecDepth 100000
namespace Go.Proofs.YtfadehkagbcjaaaGreatDoor
open Go.RowKit

set_option maxHeartbeats 8000000 in
theorem NatsDivs_ok (w : World) (A1 : Option Addr) (n1 c1 : Nat) (xs : List Nat) (A2 : Option Addr) (n2 c2 : Nat) (ys : List Nat) (h1 : Rd w A1 n1 xs) (i1 : Is32 xs) (l1 : n1 ≤ c1) (h2 : Rd w A2 n2 ys) (i2 : Is32 ys) (l2 : n2 ≤ c2) (hT : Tab w) :
    Calls Tryz.prog 5 #[.slice A1 n1 c1, .slice A2 n2 c2] w fun e w' => e = .returned (.bool true) ∧ Hid (Below w.heap.size w w') := by
  refine opq fun R hR => ?_
  have r1 := hide h1
  have r2 := hide h2
  have m1 := h1.2.1
  have m2 := h2.2.1
  replace i1 := hide i1
  replace i2 := hide i2
  have T := hide hT
  clear h1 h2 hT
  have b0 := hide (Below.refl w.heap.size w)
  go_enter Tryz.func5, Tryz.ntmps5
  by_cases hg1 : 100 < n1
  · go_wp2
    exact opq_end hR ⟨rfl, b0⟩
  by_cases hg2 : 100 < n2
  · go_wp2
    exact opq_end hR ⟨rfl, b0⟩
  have g1 : n1 ≤ 100 := by omega
  have g2 : n2 ≤ 100 := by omega
  have P1 : Hid (Prt w (.slice A1 n1 c1) xs) := ⟨A1, n1, c1, rfl, l1, by omega, r1.out, i1.out⟩
  have P2 : Hid (Prt w (.slice A2 n2 c2) ys) := ⟨A2, n2, c2, rfl, l2, by omega, r2.out, i2.out⟩
  have e1 : Hid (L (divQ xs ys) ≤ 100) := L_divQ i1.out (by rw [r1.out.1]; exact g1)
  have e2 : Hid (L (divR xs ys) ≤ 100) := L_divR i1.out (by rw [r1.out.1]; exact g1)
  have e3 : Hid (L (Nat.gcd (nv xs) (nv ys)) ≤ 100) := L_gcdnv i1.out i2.out (by rw [r1.out.1]; exact g1) (by rw [r2.out.1]; exact g2)
  obtain ⟨kk, hkk⟩ : ∃ kk, divK xs ys = kk := ⟨_, rfl⟩
  replace hkk := hide hkk
  have H : Hid (HW w.heap.size w []) := HW.nil _ _
  clear r1 r2 i1 i2
  go_wp2_with fail
  refine (np_twin P1.out (by omega)).mono ?_
  rintro e w1 ⟨X, cx, rfl, d1, TX⟩
  obtain ⟨_, lr⟩ := TX.lrow
  replace H : Hid (HW w.heap.size w1 ([] ++ [⟨X, n1, cx, none, 0, 0, 0 + 1⟩])) := HW.next H.out d1.out lr b0.out.size (by omega) (by omega)
  clear lr
  replace P1 := hide (P1.out.below d1.out)
  replace P2 := hide (P2.out.below d1.out)
  replace T := hide (T.out.below d1.out)
  replace b0 := hide (below_tr b0.out d1.out)
  clear d1
  replace TX := hide TX
  go_wp2_with fail
  refine (np_twin P2.out (by omega)).mono ?_
  rintro e w2 ⟨Y, cy, rfl, d1, TY⟩
  obtain ⟨_, lr⟩ := TY.lrow
  replace H : Hid (HW w.heap.size w2 ([] ++ [⟨X, n1, cx, none, 0, 0, 0 + 1⟩] ++ [⟨Y, n2, cy, none, 0, 0, 0 + 1 + 1⟩])) := HW.next H.out d1.out lr b0.out.size (by omega) (by omega)
  clear lr
  replace P1 := hide (P1.out.below d1.out)
  replace P2 := hide (P2.out.below d1.out)
  replace T := hide (T.out.below d1.out)
  replace TX := hide (TX.out.below d1.out)
  replace b0 := hide (below_tr b0.out d1.out)
  clear d1
  replace TY := hide TY
  go_wp2_with fail
  refine (np_Div TX.out.prt TY.out.prt).mono ?_
  rintro e w3 ⟨Q, nq, cq, E, ne, ce, rfl, d1, Q1, E1, sp⟩
  obtain ⟨_, lr⟩ := Q1.lrow
  obtain ⟨_, lr'⟩ := E1.lrow
  replace H : Hid (HW w.heap.size w3 ([] ++ [⟨X, n1, cx, none, 0, 0, 0 + 1⟩] ++ [⟨Y, n2, cy, none, 0, 0, 0 + 1 + 1⟩] ++ [⟨Q, nq, cq, none, 0, 0, 0 + 1 + 1 + 1⟩] ++ [⟨E, ne, ce, none, 0, 0, 0 + 1 + 1 + 1 + 1⟩])) := HW.next2 H.out d1.out lr lr' sp b0.out.size (by rw [natR_len Q1]; exact Nat.le_trans e1.out (by omega)) (by rw [natR_len E1]; exact Nat.le_trans e2.out (by omega)) (by omega) (by omega)
  clear lr lr'
  replace P1 := hide (P1.out.below d1.out)
  replace P2 := hide (P2.out.below d1.out)
  replace T := hide (T.out.below d1.out)
  replace TX := hide (TX.out.below d1.out)
  replace TY := hide (TY.out.below d1.out)
  replace b0 := hide (below_tr b0.out d1.out)
  clear d1
  replace Q1 := hide Q1
  replace E1 := hide E1
  rw [hkk.out]
  go_wp2_with fail
  refine (np_Gcd TX.out.prt TY.out.prt T.out).mono ?_
  rintro e w4 ⟨G, ng, cg, rfl, d1, G1⟩
  obtain ⟨_, lr⟩ := G1.lrow
  replace H : Hid (HW w.heap.size w4 ([] ++ [⟨X, n1, cx, none, 0, 0, 0 + 1⟩] ++ [⟨Y, n2, cy, none, 0, 0, 0 + 1 + 1⟩] ++ [⟨Q, nq, cq, none, 0, 0, 0 + 1 + 1 + 1⟩] ++ [⟨E, ne, ce, none, 0, 0, 0 + 1 + 1 + 1 + 1⟩] ++ [⟨G, ng, cg, none, 0, 0, 0 + 1 + 1 + 1 + 1 + 1⟩])) := HW.next H.out d1.out lr b0.out.size (by rw [natR_len G1]; exact Nat.le_trans e3.out (by omega)) (by omega)
  clear lr
  replace P1 := hide (P1.out.below d1.out)
  replace P2 := hide (P2.out.below d1.out)
  replace T := hide (T.out.below d1.out)
  replace TX := hide (TX.out.below d1.out)
  replace TY := hide (TY.out.below d1.out)
  replace Q1 := hide (Q1.out.below d1.out)
  replace E1 := hide (E1.out.below d1.out)
  replace b0 := hide (below_tr b0.out d1.out)
  clear d1
  replace G1 := hide G1
  go_wp2_with fail
  refine (nq_Div P1.out P2.out).mono ?_
  rintro e w5 ⟨Q', nq', cq', E', ne', ce', rfl, d1, Q2, E2, sp'⟩
  replace H := hide (H.out.below d1.out)
  replace P1 := hide (P1.out.below d1.out)
  replace P2 := hide (P2.out.below d1.out)
  replace T := hide (T.out.below d1.out)
  replace TX := hide (TX.out.below d1.out)
  replace TY := hide (TY.out.below d1.out)
  replace Q1 := hide (Q1.out.below d1.out)
  replace E1 := hide (E1.out.below d1.out)
  replace G1 := hide (G1.out.below d1.out)
  replace b0 := hide (below_tr b0.out d1.out)
  clear d1
  replace Q2 := hide Q2
  replace E2 := hide E2
  rw [hkk.out]
  go_wp2_with fail
  refine (np_same Q1.out Q2.out).mono ?_
  rintro e w6 ⟨rfl, d1⟩
  replace H := hide (H.out.below d1.out)
  replace P1 := hide (P1.out.below d1.out)
  replace P2 := hide (P2.out.below d1.out)
  replace T := hide (T.out.below d1.out)
  replace TX := hide (TX.out.below d1.out)
  replace TY := hide (TY.out.below d1.out)
  replace Q1 := hide (Q1.out.below d1.out)
  replace E1 := hide (E1.out.below d1.out)
  replace G1 := hide (G1.out.below d1.out)
  replace Q2 := hide (Q2.out.below d1.out)
  replace E2 := hide (E2.out.below d1.out)
  replace b0 := hide (below_tr b0.out d1.out)
  clear d1
  go_wp2_with fail
  refine (np_same E1.out E2.out).mono ?_
  rintro e w7 ⟨rfl, d1⟩
  replace H := hide (H.out.below d1.out)
  replace P1 := hide (P1.out.below d1.out)
  replace P2 := hide (P2.out.below d1.out)
  replace T := hide (T.out.below d1.out)
  replace TX := hide (TX.out.below d1.out)
  replace TY := hide (TY.out.below d1.out)
  replace Q1 := hide (Q1.out.below d1.out)
  replace E1 := hide (E1.out.below d1.out)
  replace G1 := hide (G1.out.below d1.out)
  replace Q2 := hide (Q2.out.below d1.out)
  replace E2 := hide (E2.out.below d1.out)
  replace b0 := hide (below_tr b0.out d1.out)
  clear d1
  go_wp2_with fail
  refine (nq_Gcd P1.out P2.out).mono ?_
  rintro e w8 ⟨G', ng', cg', rfl, d1, G2⟩
  replace H := hide (H.out.below d1.out)
  replace P1 := hide (P1.out.below d1.out)
  replace P2 := hide (P2.out.below d1.out)
  replace T := hide (T.out.below d1.out)
  replace TX := hide (TX.out.below d1.out)
  replace TY := hide (TY.out.below d1.out)
  replace Q1 := hide (Q1.out.below d1.out)
  replace E1 := hide (E1.out.below d1.out)
  replace G1 := hide (G1.out.below d1.out)
  replace Q2 := hide (Q2.out.below d1.out)
  replace E2 := hide (E2.out.below d1.out)
  replace b0 := hide (below_tr b0.out d1.out)
  clear d1
  replace G2 := hide G2
  go_wp2_with fail
  refine (np_same G1.out G2.out).mono ?_
  rintro e w9 ⟨rfl, d1⟩
  replace H := hide (H.out.below d1.out)
  replace P1 := hide (P1.out.below d1.out)
  replace P2 := hide (P2.out.below d1.out)
  replace T := hide (T.out.below d1.out)
  replace TX := hide (TX.out.below d1.out)
  replace TY := hide (TY.out.below d1.out)
  replace Q1 := hide (Q1.out.below d1.out)
  replace E1 := hide (E1.out.below d1.out)
  replace G1 := hide (G1.out.below d1.out)
  replace Q2 := hide (Q2.out.below d1.out)
  replace E2 := hide (E2.out.below d1.out)
  replace G2 := hide (G2.out.below d1.out)
  replace b0 := hide (below_tr b0.out d1.out)
  clear d1
  go_wp2_with fail
  refine (np_left TX.out P1.out).mono ?_
  rintro e w10 ⟨rfl, d1⟩
  replace H := hide (H.out.below d1.out)
  replace P1 := hide (P1.out.below d1.out)
  replace P2 := hide (P2.out.below d1.out)
  replace T := hide (T.out.below d1.out)
  replace TX := hide (TX.out.below d1.out)
  replace TY := hide (TY.out.below d1.out)
  replace Q1 := hide (Q1.out.below d1.out)
  replace E1 := hide (E1.out.below d1.out)
  replace G1 := hide (G1.out.below d1.out)
  replace Q2 := hide (Q2.out.below d1.out)
  replace E2 := hide (E2.out.below d1.out)
  replace G2 := hide (G2.out.below d1.out)
  replace b0 := hide (below_tr b0.out d1.out)
  clear d1
  go_wp2_with fail
  refine (np_left TY.out P2.out).mono ?_
  rintro e w11 ⟨rfl, d1⟩
  replace H := hide (H.out.below d1.out)
  replace P1 := hide (P1.out.below d1.out)
  replace P2 := hide (P2.out.below d1.out)
  replace T := hide (T.out.below d1.out)
  replace TX := hide (TX.out.below d1.out)
  replace TY := hide (TY.out.below d1.out)
  replace Q1 := hide (Q1.out.below d1.out)
  replace E1 := hide (E1.out.below d1.out)
  replace G1 := hide (G1.out.below d1.out)
  replace Q2 := hide (Q2.out.below d1.out)
  replace E2 := hide (E2.out.below d1.out)
  replace G2 := hide (G2.out.below d1.out)
  replace b0 := hide (below_tr b0.out d1.out)
  clear d1
  have bB := hide b0.out.size
  have K : Hid (BookAt w.heap.size (w11.alloc (.cells #[.int .i64 0, .slice none 0 0, .slice none 0 0, .slice none 0 0, .slice none 0 0, .slice none 0 0, .slice none 0 0, .slice none 0 0, .slice none 0 0, .slice none 0 0, .slice none 0 0, .slice none 0 0, .slice none 0 0] TBK)) w11.heap.size 0 (.slice none 0 0) []) := BookAt.new bB.out
  obtain ⟨hi, hhi⟩ : ∃ hi, hi = w11.heap.size := ⟨_, rfl⟩
  have H0 : HB w.heap.size w11.heap.size w11 ([] ++ [⟨X, n1, cx, none, 0, 0, 0 + 1⟩] ++ [⟨Y, n2, cy, none, 0, 0, 0 + 1 + 1⟩] ++ [⟨Q, nq, cq, none, 0, 0, 0 + 1 + 1 + 1⟩] ++ [⟨E, ne, ce, none, 0, 0, 0 + 1 + 1 + 1 + 1⟩] ++ [⟨G, ng, cg, none, 0, 0, 0 + 1 + 1 + 1 + 1 + 1⟩]) := H.out
  rw [← hhi] at H0
  replace hhi := hide hhi
  have dB := hide ((Below.refl w11.heap.size w11).alloc (Nat.le_refl _) (.cells #[.int .i64 0, .slice none 0 0, .slice none 0 0, .slice none 0 0, .slice none 0 0, .slice none 0 0, .slice none 0 0, .slice none 0 0, .slice none 0 0, .slice none 0 0, .slice none 0 0, .slice none 0 0, .slice none 0 0] TBK))
  replace H : Hid (HB w.heap.size hi (w11.alloc (.cells #[.int .i64 0, .slice none 0 0, .slice none 0 0, .slice none 0 0, .slice none 0 0, .slice none 0 0, .slice none 0 0, .slice none 0 0, .slice none 0 0, .slice none 0 0, .slice none 0 0, .slice none 0 0, .slice none 0 0] TBK)) ([] ++ [⟨X, n1, cx, none, 0, 0, 0 + 1⟩] ++ [⟨Y, n2, cy, none, 0, 0, 0 + 1 + 1⟩] ++ [⟨Q, nq, cq, none, 0, 0, 0 + 1 + 1 + 1⟩] ++ [⟨E, ne, ce, none, 0, 0, 0 + 1 + 1 + 1 + 1⟩] ++ [⟨G, ng, cg, none, 0, 0, 0 + 1 + 1 + 1 + 1 + 1⟩])) := H0.bel dB.out
  replace b0 := hide (below_tr b0.out dB.out)
  clear dB H0 bB
  clear P1 P2 T TX TY Q1 E1 G1 Q2 E2 G2
  go_wp2_with fail
  obtain ⟨V, hV⟩ : ∃ V, w11.alloc (.cells #[.int .i64 0, .slice none 0 0, .slice none 0 0, .slice none 0 0, .slice none 0 0, .slice none 0 0, .slice none 0 0, .slice none 0 0, .slice none 0 0, .slice none 0 0, .slice none 0 0, .slice none 0 0, .slice none 0 0] TBK) = V := ⟨_, rfl⟩
  obtain ⟨g, hg⟩ : ∃ g, w11.heap.size = g := ⟨_, rfl⟩
  rw [hV, hg] at K
  rw [hV] at b0 H
  rw [hV, hg]
  clear hV hg hhi
  refine (bookNat_ok _ w.heap.size g (0) _ ([]) b0.out.size K.out X n1 cx (by omega) (by simp)).mono ?_
  rintro e W0 ⟨⟨_, rfl⟩, k1, v0, k2⟩
  replace K := hide k2
  replace H := hide (H.out.kp k1)
  replace b0 := hide (b0.out.trans k1.base)
  clear k1 k2
  skip
  go_wp2_with fail
  refine (bookNat_ok _ w.heap.size g (0 + 1) _ ([] ++ [⟨X, n1, cx, none, 0, 0, 0 + 1⟩]) b0.out.size K.out Y n2 cy (by omega) (by simp)).mono ?_
  rintro e W1 ⟨⟨_, rfl⟩, k1, v1, k2⟩
  replace K := hide k2
  replace H := hide (H.out.kp k1)
  replace b0 := hide (b0.out.trans k1.base)
  clear k1 k2
  skip
  go_wp2_with fail
  refine (bookNat_ok _ w.heap.size g (0 + 1 + 1) _ ([] ++ [⟨X, n1, cx, none, 0, 0, 0 + 1⟩] ++ [⟨Y, n2, cy, none, 0, 0, 0 + 1 + 1⟩]) b0.out.size K.out Q nq cq (by omega) (by simp)).mono ?_
  rintro e W2 ⟨⟨_, rfl⟩, k1, v2, k2⟩
  replace K := hide k2
  replace H := hide (H.out.kp k1)
  replace b0 := hide (b0.out.trans k1.base)
  clear k1 k2
  skip
  go_wp2_with fail
  refine (bookNat_ok _ w.heap.size g (0 + 1 + 1 + 1) _ ([] ++ [⟨X, n1, cx, none, 0, 0, 0 + 1⟩] ++ [⟨Y, n2, cy, none, 0, 0, 0 + 1 + 1⟩] ++ [⟨Q, nq, cq, none, 0, 0, 0 + 1 + 1 + 1⟩]) b0.out.size K.out E ne ce (by omega) (by simp)).mono ?_
  rintro e W3 ⟨⟨_, rfl⟩, k1, v3, k2⟩
  replace K := hide k2
  replace H := hide (H.out.kp k1)
  replace b0 := hide (b0.out.trans k1.base)
  clear k1 k2
  skip
  go_wp2_with fail
  refine (bookNat_ok _ w.heap.size g (0 + 1 + 1 + 1 + 1) _ ([] ++ [⟨X, n1, cx, none, 0, 0, 0 + 1⟩] ++ [⟨Y, n2, cy, none, 0, 0, 0 + 1 + 1⟩] ++ [⟨Q, nq, cq, none, 0, 0, 0 + 1 + 1 + 1⟩] ++ [⟨E, ne, ce, none, 0, 0, 0 + 1 + 1 + 1 + 1⟩]) b0.out.size K.out G ng cg (by omega) (by simp)).mono ?_
  rintro e W4 ⟨⟨_, rfl⟩, k1, v4, k2⟩
  replace K := hide k2
  replace H := hide (H.out.kp k1)
  replace b0 := hide (b0.out.trans k1.base)
  clear k1 k2
  skip
  go_wp2_with fail
  refine (Apart_ok _ w.heap.size g (0 + 1 + 1 + 1 + 1 + 1) hi _ ([] ++ [⟨X, n1, cx, none, 0, 0, 0 + 1⟩] ++ [⟨Y, n2, cy, none, 0, 0, 0 + 1 + 1⟩] ++ [⟨Q, nq, cq, none, 0, 0, 0 + 1 + 1 + 1⟩] ++ [⟨E, ne, ce, none, 0, 0, 0 + 1 + 1 + 1 + 1⟩] ++ [⟨G, ng, cg, none, 0, 0, 0 + 1 + 1 + 1 + 1 + 1⟩]) b0.out.size K.out H.out (by simp)).mono ?_
  rintro e WW ⟨rfl, k1⟩
  replace b0 := hide (b0.out.trans k1)
  clear k1 K H
  go_wp2
  exact opq_end hR ⟨rfl, b0⟩
end Go.Proofs.YtfadehkagbcjaaaGreatDoor
