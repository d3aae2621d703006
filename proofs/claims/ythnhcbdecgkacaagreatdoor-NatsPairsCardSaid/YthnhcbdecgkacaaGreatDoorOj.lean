/- the laws of nats: NatsPairs. -/
import Derived.Test.YthnhcbdecgkacaaGreatDoorBi
set_option linter.unusedVariables false
set_option linter.unusedSimpArgs false
set_option maxRecDepth 100000
namespace Go.Proofs.YthnhcbdecgkacaaGreatDoor
open Go.RowKit

set_option maxHeartbeats 8000000 in
theorem NatsPairs_ok (w : World) (A1 : Option Addr) (n1 c1 : Nat) (xs : List Nat) (A2 : Option Addr) (n2 c2 : Nat) (ys : List Nat) (h1 : Rd w A1 n1 xs) (i1 : Is32 xs) (l1 : n1 ≤ c1) (h2 : Rd w A2 n2 ys) (i2 : Is32 ys) (l2 : n2 ≤ c2) :
    Calls Tryz.prog 3 #[.slice A1 n1 c1, .slice A2 n2 c2] w fun e w' => e = .returned (.bool true) ∧ Hid (Below w.heap.size w w') := by
  refine opq fun R hR => ?_
  have r1 := hide h1
  have r2 := hide h2
  replace i1 := hide i1
  replace i2 := hide i2
  clear h1 h2
  go_enter Tryz.func3, Tryz.ntmps3
  go_wp2_with fail
  refine (np_great2 _).mono ?_
  rintro e w1 ⟨he, rfl⟩
  have dG := (Below.refl w.heap.size w).alloc (Nat.le_refl _) (.cells #[.slice A1 n1 c1, .slice A2 n2 c2] 23)
  obtain ⟨V, hV⟩ : ∃ V, w.alloc (.cells #[.slice A1 n1 c1, .slice A2 n2 c2] 23) = V := ⟨_, rfl⟩
  rw [hV] at dG
  rw [hV]
  clear hV
  have b0 := hide dG
  clear dG
  by_cases hg : 300 < n1 ∨ 300 < n2
  · rw [show (decide (300 < n1) || decide (300 < n2)) = true by simpa using hg] at he
    subst he
    go_wp2
    exact opq_end hR ⟨rfl, b0⟩
  rw [show (decide (300 < n1) || decide (300 < n2)) = false by simpa using hg] at he
  subst he
  have g1 : n1 ≤ 300 := by omega
  have g2 : n2 ≤ 300 := by omega
  clear hg
  have P1 : Hid (Prt V (.slice A1 n1 c1) xs) := ⟨A1, n1, c1, rfl, l1, by omega, r1.out.below b0.out, i1.out⟩
  have P2 : Hid (Prt V (.slice A2 n2 c2) ys) := ⟨A2, n2, c2, rfl, l2, by omega, r2.out.below b0.out, i2.out⟩
  have e1 : Hid (L (nv xs) ≤ 300) := Nat.le_trans (L_nv i1.out) (by rw [r1.out.1]; exact g1)
  have e2 : Hid (L (nv ys) ≤ 300) := Nat.le_trans (L_nv i2.out) (by rw [r2.out.1]; exact g2)
  have e3 : Hid (L (subD xs ys) ≤ 300) := by
    show _ ≤ _
    unfold subD
    split
    · exact L_sub (Nat.le_trans (L_val i1.out) (by rw [r1.out.1]; exact g1))
    · rw [L_zero]; omega
  obtain ⟨kk, hkk⟩ : ∃ kk, subK xs ys = kk := ⟨_, rfl⟩
  obtain ⟨cc, hcc⟩ : ∃ cc, cmpN (nv xs) (nv ys) = cc := ⟨_, rfl⟩
  replace hkk := hide hkk
  replace hcc := hide hcc
  have H : Hid (HW w.heap.size V []) := HW.nil _ _
  clear r1 r2 i1 i2
  go_wp2_with fail
  refine (np_twin P1.out (by omega)).mono ?_
  rintro e w1 ⟨X, cx, rfl, d1, TX⟩
  obtain ⟨_, lr⟩ := TX.lrow
  replace H : Hid (HW w.heap.size w1 ([] ++ [⟨X, n1, cx, none, 0, 0, 0 + 1⟩])) := HW.next H.out d1.out lr b0.out.size (by omega) (by omega)
  clear lr
  replace P1 := hide (P1.out.below d1.out)
  replace P2 := hide (P2.out.below d1.out)
  replace b0 := hide (below_tr b0.out d1.out)
  clear d1
  replace TX := hide TX
  go_wp2_with fail
  refine (np_twin P2.out (by omega)).mono ?_
  rintro e w2 ⟨Y, cy, rfl, d1, TY⟩
  obtain ⟨_, lr⟩ := TY.lrow
  replace H : Hid (HW w.heap.size w2 ([] ++ [⟨X, n1, cx, none, 0, 0, 0 + 1⟩] ++ [⟨Y, n2, cy, none, 0, 0, 0 + 1 + 1⟩])) := HW.next H.out d1.out lr b0.out.size (by omega) (by omega)
  clear lr
  replace P1 := hide (P1.out.below d1.out)
  replace P2 := hide (P2.out.below d1.out)
  replace TX := hide (TX.out.below d1.out)
  replace b0 := hide (below_tr b0.out d1.out)
  clear d1
  replace TY := hide TY
  go_wp2_with fail
  refine (np_Add TX.out.prt TY.out.prt).mono ?_
  rintro e w3 ⟨S, ns, cs, rfl, d1, S1⟩
  obtain ⟨_, lr⟩ := S1.lrow
  replace H : Hid (HW w.heap.size w3 ([] ++ [⟨X, n1, cx, none, 0, 0, 0 + 1⟩] ++ [⟨Y, n2, cy, none, 0, 0, 0 + 1 + 1⟩] ++ [⟨S, ns, cs, none, 0, 0, 0 + 1 + 1 + 1⟩])) := HW.next H.out d1.out lr b0.out.size (by rw [natR_len S1]; exact Nat.le_trans (L_add e1.out e2.out) (by omega)) (by omega)
  clear lr
  replace P1 := hide (P1.out.below d1.out)
  replace P2 := hide (P2.out.below d1.out)
  replace TX := hide (TX.out.below d1.out)
  replace TY := hide (TY.out.below d1.out)
  replace b0 := hide (below_tr b0.out d1.out)
  clear d1
  replace S1 := hide S1
  go_wp2_with fail
  refine (np_Sub TX.out.prt TY.out.prt).mono ?_
  rintro e w4 ⟨D, nd, cd, rfl, d1, D1⟩
  obtain ⟨_, lr⟩ := D1.lrow
  replace H : Hid (HW w.heap.size w4 ([] ++ [⟨X, n1, cx, none, 0, 0, 0 + 1⟩] ++ [⟨Y, n2, cy, none, 0, 0, 0 + 1 + 1⟩] ++ [⟨S, ns, cs, none, 0, 0, 0 + 1 + 1 + 1⟩] ++ [⟨D, nd, cd, none, 0, 0, 0 + 1 + 1 + 1 + 1⟩])) := HW.next H.out d1.out lr b0.out.size (by rw [natR_len D1]; exact Nat.le_trans e3.out (by omega)) (by omega)
  clear lr
  replace P1 := hide (P1.out.below d1.out)
  replace P2 := hide (P2.out.below d1.out)
  replace TX := hide (TX.out.below d1.out)
  replace TY := hide (TY.out.below d1.out)
  replace S1 := hide (S1.out.below d1.out)
  replace b0 := hide (below_tr b0.out d1.out)
  clear d1
  replace D1 := hide D1
  rw [hkk.out]
  go_wp2_with fail
  refine (np_Mul TX.out.prt TY.out.prt).mono ?_
  rintro e w5 ⟨M, nm, cm, rfl, d1, M1⟩
  obtain ⟨_, lr⟩ := M1.lrow
  replace H : Hid (HW w.heap.size w5 ([] ++ [⟨X, n1, cx, none, 0, 0, 0 + 1⟩] ++ [⟨Y, n2, cy, none, 0, 0, 0 + 1 + 1⟩] ++ [⟨S, ns, cs, none, 0, 0, 0 + 1 + 1 + 1⟩] ++ [⟨D, nd, cd, none, 0, 0, 0 + 1 + 1 + 1 + 1⟩] ++ [⟨M, nm, cm, none, 0, 0, 0 + 1 + 1 + 1 + 1 + 1⟩])) := HW.next H.out d1.out lr b0.out.size (by rw [natR_len M1]; exact Nat.le_trans (L_mul e1.out e2.out) (by omega)) (by omega)
  clear lr
  replace P1 := hide (P1.out.below d1.out)
  replace P2 := hide (P2.out.below d1.out)
  replace TX := hide (TX.out.below d1.out)
  replace TY := hide (TY.out.below d1.out)
  replace S1 := hide (S1.out.below d1.out)
  replace D1 := hide (D1.out.below d1.out)
  replace b0 := hide (below_tr b0.out d1.out)
  clear d1
  replace M1 := hide M1
  go_wp2_with fail
  refine (nq_Sub P1.out P2.out).mono ?_
  rintro e w6 ⟨D', nd', cd', rfl, d1, D2⟩
  replace H := hide (H.out.below d1.out)
  replace P1 := hide (P1.out.below d1.out)
  replace P2 := hide (P2.out.below d1.out)
  replace TX := hide (TX.out.below d1.out)
  replace TY := hide (TY.out.below d1.out)
  replace S1 := hide (S1.out.below d1.out)
  replace D1 := hide (D1.out.below d1.out)
  replace M1 := hide (M1.out.below d1.out)
  replace b0 := hide (below_tr b0.out d1.out)
  clear d1
  replace D2 := hide D2
  rw [hkk.out]
  go_wp2_with fail
  refine (np_Cmp TX.out.prt TY.out.prt).mono ?_
  rintro e w7 ⟨rfl, d1⟩
  replace H := hide (H.out.below d1.out)
  replace P1 := hide (P1.out.below d1.out)
  replace P2 := hide (P2.out.below d1.out)
  replace TX := hide (TX.out.below d1.out)
  replace TY := hide (TY.out.below d1.out)
  replace S1 := hide (S1.out.below d1.out)
  replace D1 := hide (D1.out.below d1.out)
  replace M1 := hide (M1.out.below d1.out)
  replace D2 := hide (D2.out.below d1.out)
  replace b0 := hide (below_tr b0.out d1.out)
  clear d1
  rw [hcc.out]
  go_wp2_with fail
  refine (nq_Cmp P1.out P2.out).mono ?_
  rintro e w8 ⟨rfl, d1⟩
  replace H := hide (H.out.below d1.out)
  replace P1 := hide (P1.out.below d1.out)
  replace P2 := hide (P2.out.below d1.out)
  replace TX := hide (TX.out.below d1.out)
  replace TY := hide (TY.out.below d1.out)
  replace S1 := hide (S1.out.below d1.out)
  replace D1 := hide (D1.out.below d1.out)
  replace M1 := hide (M1.out.below d1.out)
  replace D2 := hide (D2.out.below d1.out)
  replace b0 := hide (below_tr b0.out d1.out)
  clear d1
  rw [hcc.out]
  go_wp2_with fail
  refine (nq_Add P1.out P2.out).mono ?_
  rintro e w9 ⟨S', ns', cs', rfl, d1, S2⟩
  replace H := hide (H.out.below d1.out)
  replace P1 := hide (P1.out.below d1.out)
  replace P2 := hide (P2.out.below d1.out)
  replace TX := hide (TX.out.below d1.out)
  replace TY := hide (TY.out.below d1.out)
  replace S1 := hide (S1.out.below d1.out)
  replace D1 := hide (D1.out.below d1.out)
  replace M1 := hide (M1.out.below d1.out)
  replace D2 := hide (D2.out.below d1.out)
  replace b0 := hide (below_tr b0.out d1.out)
  clear d1
  replace S2 := hide S2
  go_wp2_with fail
  refine (np_same S1.out S2.out).mono ?_
  rintro e w10 ⟨rfl, d1⟩
  replace H := hide (H.out.below d1.out)
  replace P1 := hide (P1.out.below d1.out)
  replace P2 := hide (P2.out.below d1.out)
  replace TX := hide (TX.out.below d1.out)
  replace TY := hide (TY.out.below d1.out)
  replace S1 := hide (S1.out.below d1.out)
  replace D1 := hide (D1.out.below d1.out)
  replace M1 := hide (M1.out.below d1.out)
  replace D2 := hide (D2.out.below d1.out)
  replace S2 := hide (S2.out.below d1.out)
  replace b0 := hide (below_tr b0.out d1.out)
  clear d1
  go_wp2_with fail
  refine (nq_Mul P1.out P2.out).mono ?_
  rintro e w11 ⟨M', nm', cm', rfl, d1, M2⟩
  replace H := hide (H.out.below d1.out)
  replace P1 := hide (P1.out.below d1.out)
  replace P2 := hide (P2.out.below d1.out)
  replace TX := hide (TX.out.below d1.out)
  replace TY := hide (TY.out.below d1.out)
  replace S1 := hide (S1.out.below d1.out)
  replace D1 := hide (D1.out.below d1.out)
  replace M1 := hide (M1.out.below d1.out)
  replace D2 := hide (D2.out.below d1.out)
  replace S2 := hide (S2.out.below d1.out)
  replace b0 := hide (below_tr b0.out d1.out)
  clear d1
  replace M2 := hide M2
  go_wp2_with fail
  refine (np_same M1.out M2.out).mono ?_
  rintro e w12 ⟨rfl, d1⟩
  replace H := hide (H.out.below d1.out)
  replace P1 := hide (P1.out.below d1.out)
  replace P2 := hide (P2.out.below d1.out)
  replace TX := hide (TX.out.below d1.out)
  replace TY := hide (TY.out.below d1.out)
  replace S1 := hide (S1.out.below d1.out)
  replace D1 := hide (D1.out.below d1.out)
  replace M1 := hide (M1.out.below d1.out)
  replace D2 := hide (D2.out.below d1.out)
  replace S2 := hide (S2.out.below d1.out)
  replace M2 := hide (M2.out.below d1.out)
  replace b0 := hide (below_tr b0.out d1.out)
  clear d1
  go_wp2_with fail
  refine (np_same D1.out D2.out).mono ?_
  rintro e w13 ⟨rfl, d1⟩
  replace H := hide (H.out.below d1.out)
  replace P1 := hide (P1.out.below d1.out)
  replace P2 := hide (P2.out.below d1.out)
  replace TX := hide (TX.out.below d1.out)
  replace TY := hide (TY.out.below d1.out)
  replace S1 := hide (S1.out.below d1.out)
  replace D1 := hide (D1.out.below d1.out)
  replace M1 := hide (M1.out.below d1.out)
  replace D2 := hide (D2.out.below d1.out)
  replace S2 := hide (S2.out.below d1.out)
  replace M2 := hide (M2.out.below d1.out)
  replace b0 := hide (below_tr b0.out d1.out)
  clear d1
  go_wp2_with fail
  refine (np_left TX.out P1.out).mono ?_
  rintro e w14 ⟨rfl, d1⟩
  replace H := hide (H.out.below d1.out)
  replace P1 := hide (P1.out.below d1.out)
  replace P2 := hide (P2.out.below d1.out)
  replace TX := hide (TX.out.below d1.out)
  replace TY := hide (TY.out.below d1.out)
  replace S1 := hide (S1.out.below d1.out)
  replace D1 := hide (D1.out.below d1.out)
  replace M1 := hide (M1.out.below d1.out)
  replace D2 := hide (D2.out.below d1.out)
  replace S2 := hide (S2.out.below d1.out)
  replace M2 := hide (M2.out.below d1.out)
  replace b0 := hide (below_tr b0.out d1.out)
  clear d1
  go_wp2_with fail
  refine (np_left TY.out P2.out).mono ?_
  rintro e w15 ⟨rfl, d1⟩
  replace H := hide (H.out.below d1.out)
  replace P1 := hide (P1.out.below d1.out)
  replace P2 := hide (P2.out.below d1.out)
  replace TX := hide (TX.out.below d1.out)
  replace TY := hide (TY.out.below d1.out)
  replace S1 := hide (S1.out.below d1.out)
  replace D1 := hide (D1.out.below d1.out)
  replace M1 := hide (M1.out.below d1.out)
  replace D2 := hide (D2.out.below d1.out)
  replace S2 := hide (S2.out.below d1.out)
  replace M2 := hide (M2.out.below d1.out)
  replace b0 := hide (below_tr b0.out d1.out)
  clear d1
  have bB := hide b0.out.size
  have K : Hid (BookAt w.heap.size (w15.alloc (.cells #[.int .i64 0, .slice none 0 0, .slice none 0 0, .slice none 0 0, .slice none 0 0, .slice none 0 0, .slice none 0 0, .slice none 0 0, .slice none 0 0, .slice none 0 0, .slice none 0 0, .slice none 0 0, .slice none 0 0] TBK)) w15.heap.size 0 (.slice none 0 0) []) := BookAt.new bB.out
  obtain ⟨hi, hhi⟩ : ∃ hi, hi = w15.heap.size := ⟨_, rfl⟩
  have H0 : HB w.heap.size w15.heap.size w15 ([] ++ [⟨X, n1, cx, none, 0, 0, 0 + 1⟩] ++ [⟨Y, n2, cy, none, 0, 0, 0 + 1 + 1⟩] ++ [⟨S, ns, cs, none, 0, 0, 0 + 1 + 1 + 1⟩] ++ [⟨D, nd, cd, none, 0, 0, 0 + 1 + 1 + 1 + 1⟩] ++ [⟨M, nm, cm, none, 0, 0, 0 + 1 + 1 + 1 + 1 + 1⟩]) := H.out
  rw [← hhi] at H0
  replace hhi := hide hhi
  have dB := hide ((Below.refl w15.heap.size w15).alloc (Nat.le_refl _) (.cells #[.int .i64 0, .slice none 0 0, .slice none 0 0, .slice none 0 0, .slice none 0 0, .slice none 0 0, .slice none 0 0, .slice none 0 0, .slice none 0 0, .slice none 0 0, .slice none 0 0, .slice none 0 0, .slice none 0 0] TBK))
  replace H : Hid (HB w.heap.size hi (w15.alloc (.cells #[.int .i64 0, .slice none 0 0, .slice none 0 0, .slice none 0 0, .slice none 0 0, .slice none 0 0, .slice none 0 0, .slice none 0 0, .slice none 0 0, .slice none 0 0, .slice none 0 0, .slice none 0 0, .slice none 0 0] TBK)) ([] ++ [⟨X, n1, cx, none, 0, 0, 0 + 1⟩] ++ [⟨Y, n2, cy, none, 0, 0, 0 + 1 + 1⟩] ++ [⟨S, ns, cs, none, 0, 0, 0 + 1 + 1 + 1⟩] ++ [⟨D, nd, cd, none, 0, 0, 0 + 1 + 1 + 1 + 1⟩] ++ [⟨M, nm, cm, none, 0, 0, 0 + 1 + 1 + 1 + 1 + 1⟩])) := H0.bel dB.out
  replace b0 := hide (below_tr b0.out dB.out)
  clear dB H0 bB
  clear P1 P2 TX TY S1 D1 M1 D2 S2 M2
  go_wp2_with fail
  obtain ⟨V, hV⟩ : ∃ V, w15.alloc (.cells #[.int .i64 0, .slice none 0 0, .slice none 0 0, .slice none 0 0, .slice none 0 0, .slice none 0 0, .slice none 0 0, .slice none 0 0, .slice none 0 0, .slice none 0 0, .slice none 0 0, .slice none 0 0, .slice none 0 0] TBK) = V := ⟨_, rfl⟩
  obtain ⟨g, hg⟩ : ∃ g, w15.heap.size = g := ⟨_, rfl⟩
  rw [hV, hg] at K
  rw [hV] at b0 H
  rw [hV, hg]
  clear hV hg hhi
  refine (bookNat_ok _ w.heap.size g (0) _ ([]) b0.out.size K.out X n1 cx (by omega) (by simp)).mono ?_
  rintro e W0 ⟨⟨_, rfl⟩, k1, v0, k2⟩
  replace K := hide k2
  replace H := hide (H.out.kp k1)
  replace b0 := hide (b0.out.trans k1.base)
  clear k1 k2
  skip
  go_wp2_with fail
  refine (bookNat_ok _ w.heap.size g (0 + 1) _ ([] ++ [⟨X, n1, cx, none, 0, 0, 0 + 1⟩]) b0.out.size K.out Y n2 cy (by omega) (by simp)).mono ?_
  rintro e W1 ⟨⟨_, rfl⟩, k1, v1, k2⟩
  replace K := hide k2
  replace H := hide (H.out.kp k1)
  replace b0 := hide (b0.out.trans k1.base)
  clear k1 k2
  skip
  go_wp2_with fail
  refine (bookNat_ok _ w.heap.size g (0 + 1 + 1) _ ([] ++ [⟨X, n1, cx, none, 0, 0, 0 + 1⟩] ++ [⟨Y, n2, cy, none, 0, 0, 0 + 1 + 1⟩]) b0.out.size K.out S ns cs (by omega) (by simp)).mono ?_
  rintro e W2 ⟨⟨_, rfl⟩, k1, v2, k2⟩
  replace K := hide k2
  replace H := hide (H.out.kp k1)
  replace b0 := hide (b0.out.trans k1.base)
  clear k1 k2
  skip
  go_wp2_with fail
  refine (bookNat_ok _ w.heap.size g (0 + 1 + 1 + 1) _ ([] ++ [⟨X, n1, cx, none, 0, 0, 0 + 1⟩] ++ [⟨Y, n2, cy, none, 0, 0, 0 + 1 + 1⟩] ++ [⟨S, ns, cs, none, 0, 0, 0 + 1 + 1 + 1⟩]) b0.out.size K.out D nd cd (by omega) (by simp)).mono ?_
  rintro e W3 ⟨⟨_, rfl⟩, k1, v3, k2⟩
  replace K := hide k2
  replace H := hide (H.out.kp k1)
  replace b0 := hide (b0.out.trans k1.base)
  clear k1 k2
  skip
  go_wp2_with fail
  refine (bookNat_ok _ w.heap.size g (0 + 1 + 1 + 1 + 1) _ ([] ++ [⟨X, n1, cx, none, 0, 0, 0 + 1⟩] ++ [⟨Y, n2, cy, none, 0, 0, 0 + 1 + 1⟩] ++ [⟨S, ns, cs, none, 0, 0, 0 + 1 + 1 + 1⟩] ++ [⟨D, nd, cd, none, 0, 0, 0 + 1 + 1 + 1 + 1⟩]) b0.out.size K.out M nm cm (by omega) (by simp)).mono ?_
  rintro e W4 ⟨⟨_, rfl⟩, k1, v4, k2⟩
  replace K := hide k2
  replace H := hide (H.out.kp k1)
  replace b0 := hide (b0.out.trans k1.base)
  clear k1 k2
  skip
  go_wp2_with fail
  refine (Apart_ok _ w.heap.size g (0 + 1 + 1 + 1 + 1 + 1) hi _ ([] ++ [⟨X, n1, cx, none, 0, 0, 0 + 1⟩] ++ [⟨Y, n2, cy, none, 0, 0, 0 + 1 + 1⟩] ++ [⟨S, ns, cs, none, 0, 0, 0 + 1 + 1 + 1⟩] ++ [⟨D, nd, cd, none, 0, 0, 0 + 1 + 1 + 1 + 1⟩] ++ [⟨M, nm, cm, none, 0, 0, 0 + 1 + 1 + 1 + 1 + 1⟩]) b0.out.size K.out H.out (by simp)).mono ?_
  rintro e WW ⟨rfl, k1⟩
  replace b0 := hide (b0.out.trans k1)
  clear k1 K H
  go_wp2
  exact opq_end hR ⟨rfl, b0⟩
end Go.Proofs.YthnhcbdecgkacaaGreatDoor
