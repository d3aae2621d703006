/- the laws of nats: NatsTexts. -/
import Derived.Test.YtfadehkagbcjaaaGreatDoorBl
set_option linter.unusedVariables false
set_option linter.unusedSimpArgs false
set_option maxRecDepth 100000
namespace Go.Proofs.YtfadehkagbcjaaaGreatDoor
open Go.RowKit

set_option maxHeartbeats 8000000 in
theorem NatsTexts_ok (w : World) (A1 : Option Addr) (n1 c1 : Nat) (xs : List Nat) (s : ByteArray) (m : Nat) (h1 : Rd w A1 n1 xs) (i1 : Is32 xs) (l1 : n1 ≤ c1) (hs : s.size ≤ 9223372036854775807) (hm : m < 18446744073709551616) :
    Calls Tryz.prog 10 #[.slice A1 n1 c1, .string s, .int .u64 (m : Nat)] w fun e w' => e = .returned (.bool true) ∧ Hid (Below w.heap.size w w') := by
  refine opq fun R hR => ?_
  have r1 := hide h1
  have m1 := h1.2.1
  replace i1 := hide i1
  clear h1
  go_enter Tryz.func10, Tryz.ntmps10
  go_wp2_with fail
  refine (np_great1 _).mono ?_
  rintro e w1 ⟨he, rfl⟩
  have dG := (Below.refl w.heap.size w).alloc (Nat.le_refl _) (.cells #[.slice A1 n1 c1] 23)
  obtain ⟨V, hV⟩ : ∃ V, w.alloc (.cells #[.slice A1 n1 c1] 23) = V := ⟨_, rfl⟩
  rw [hV] at dG
  rw [hV]
  clear hV
  have b0 := hide dG
  clear dG
  by_cases hg : 300 < n1
  · rw [show decide (300 < n1) = true by simpa using hg] at he
    subst he
    go_wp2
    exact opq_end hR ⟨rfl, b0⟩
  rw [show decide (300 < n1) = false by simpa using hg] at he
  subst he
  have g1 : n1 ≤ 300 := by omega
  clear hg
  by_cases hbs : 1048576 < s.size
  · go_wp2_with fail
    refine (beyond1 rfl hs true (by simpa using hbs)).mono ?_
    rintro e w2 ⟨_, rfl, d0, rfl⟩
    have b1 := hide (below_tr (b0.out.alloc b0.out.size _) d0)
    go_wp2
    exact opq_end hR ⟨rfl, b1⟩
  go_wp2_with fail
  refine (beyond1 rfl hs false (by simpa using hbs)).mono ?_
  rintro e U ⟨_, rfl, d0, rfl⟩
  replace b0 := hide (below_tr (b0.out.alloc b0.out.size _) d0)
  clear d0 hbs
  have P1 : Hid (Prt U (.slice A1 n1 c1) xs) := ⟨A1, n1, c1, rfl, l1, by omega, r1.out.below b0.out, i1.out⟩
  have lx : Hid (xs.length ≤ 1000) := by show _ ≤ _; rw [r1.out.1]; omega
  obtain ⟨bv, hbv⟩ : ∃ k, backV xs = k := ⟨_, rfl⟩
  obtain ⟨bk, hbk⟩ : ∃ k, backK xs = k := ⟨_, rfl⟩
  obtain ⟨pk, hpk⟩ : ∃ k, parsK s = k := ⟨_, rfl⟩
  obtain ⟨cc, hcc⟩ : ∃ k, chk xs = k := ⟨_, rfl⟩
  obtain ⟨tt, htt⟩ : ∃ k, txtB (nv xs) = k := ⟨_, rfl⟩
  replace hbv := hide hbv
  replace hbk := hide hbk
  replace hpk := hide hpk
  replace hcc := hide hcc
  replace htt := hide htt
  replace hs := hide hs
  replace hm := hide hm
  have H : Hid (HW w.heap.size U []) := HW.nil _ _
  clear r1 i1
  go_wp2_with fail
  refine (np_twin P1.out (by omega)).mono ?_
  rintro e w1 ⟨X, cx, rfl, d1, TX⟩
  obtain ⟨_, lr⟩ := TX.lrow
  replace H : Hid (HW w.heap.size w1 ([] ++ [⟨X, n1, cx, none, 0, 0, 0 + 1⟩])) := HW.next H.out d1.out lr b0.out.size (by omega) (by omega)
  clear lr
  replace P1 := hide (P1.out.below d1.out)
  replace b0 := hide (below_tr b0.out d1.out)
  clear d1
  replace TX := hide TX
  go_wp2_with fail
  refine (np_Back TX.out.prt).mono ?_
  rintro e w2 ⟨rfl, d1⟩
  replace H := hide (H.out.below d1.out)
  replace P1 := hide (P1.out.below d1.out)
  replace TX := hide (TX.out.below d1.out)
  replace b0 := hide (below_tr b0.out d1.out)
  clear d1
  rw [hbv.out, hbk.out]
  go_wp2_with fail
  refine (nq_Back P1.out).mono ?_
  rintro e w3 ⟨rfl, d1⟩
  replace H := hide (H.out.below d1.out)
  replace P1 := hide (P1.out.below d1.out)
  replace TX := hide (TX.out.below d1.out)
  replace b0 := hide (below_tr b0.out d1.out)
  clear d1
  rw [hbv.out, hbk.out]
  go_wp2_with fail
  refine (np_Parse _ s hs.out).mono ?_
  rintro e w4 ⟨P, np, cp, rfl, d1, P3⟩
  obtain ⟨_, lr⟩ := P3.lrow
  replace H : Hid (HW w.heap.size w4 ([] ++ [⟨X, n1, cx, none, 0, 0, 0 + 1⟩] ++ [⟨P, np, cp, none, 0, 0, 0 + 1 + 1⟩])) := HW.next H.out d1.out lr b0.out.size (by rw [natR_len P3]; exact Nat.le_trans (L_pars s) (by omega)) (by omega)
  clear lr
  replace P1 := hide (P1.out.below d1.out)
  replace TX := hide (TX.out.below d1.out)
  replace b0 := hide (below_tr b0.out d1.out)
  clear d1
  replace P3 := hide P3
  rw [hpk.out]
  go_wp2_with fail
  refine (np_Parse _ s hs.out).mono ?_
  rintro e w5 ⟨Q, nq, cq, rfl, d1, Q3⟩
  obtain ⟨_, lr⟩ := Q3.lrow
  replace H : Hid (HW w.heap.size w5 ([] ++ [⟨X, n1, cx, none, 0, 0, 0 + 1⟩] ++ [⟨P, np, cp, none, 0, 0, 0 + 1 + 1⟩] ++ [⟨Q, nq, cq, none, 0, 0, 0 + 1 + 1 + 1⟩])) := HW.next H.out d1.out lr b0.out.size (by rw [natR_len Q3]; exact Nat.le_trans (L_pars s) (by omega)) (by omega)
  clear lr
  replace P1 := hide (P1.out.below d1.out)
  replace TX := hide (TX.out.below d1.out)
  replace P3 := hide (P3.out.below d1.out)
  replace b0 := hide (below_tr b0.out d1.out)
  clear d1
  replace Q3 := hide Q3
  rw [hpk.out]
  go_wp2_with fail
  refine (nq_Parse _ s hs.out).mono ?_
  rintro e w6 ⟨W, nw, cw, rfl, d1, W3⟩
  replace H := hide (H.out.below d1.out)
  replace P1 := hide (P1.out.below d1.out)
  replace TX := hide (TX.out.below d1.out)
  replace P3 := hide (P3.out.below d1.out)
  replace Q3 := hide (Q3.out.below d1.out)
  replace b0 := hide (below_tr b0.out d1.out)
  clear d1
  replace W3 := hide W3
  rw [hpk.out]
  go_wp2_with fail
  refine (np_Of _ m hm.out).mono ?_
  rintro e w7 ⟨O, no, co, rfl, d1, O3⟩
  obtain ⟨_, lr⟩ := O3.lrow
  replace H : Hid (HW w.heap.size w7 ([] ++ [⟨X, n1, cx, none, 0, 0, 0 + 1⟩] ++ [⟨P, np, cp, none, 0, 0, 0 + 1 + 1⟩] ++ [⟨Q, nq, cq, none, 0, 0, 0 + 1 + 1 + 1⟩] ++ [⟨O, no, co, none, 0, 0, 0 + 1 + 1 + 1 + 1⟩])) := HW.next H.out d1.out lr b0.out.size (by rw [natR_len O3]; exact Nat.le_trans (L_64 hm.out) (by omega)) (by omega)
  clear lr
  replace P1 := hide (P1.out.below d1.out)
  replace TX := hide (TX.out.below d1.out)
  replace P3 := hide (P3.out.below d1.out)
  replace Q3 := hide (Q3.out.below d1.out)
  replace W3 := hide (W3.out.below d1.out)
  replace b0 := hide (below_tr b0.out d1.out)
  clear d1
  replace O3 := hide O3
  go_wp2_with fail
  refine (np_Check TX.out.prt).mono ?_
  rintro e w8 ⟨rfl, d1⟩
  replace H := hide (H.out.below d1.out)
  replace P1 := hide (P1.out.below d1.out)
  replace TX := hide (TX.out.below d1.out)
  replace P3 := hide (P3.out.below d1.out)
  replace Q3 := hide (Q3.out.below d1.out)
  replace W3 := hide (W3.out.below d1.out)
  replace O3 := hide (O3.out.below d1.out)
  replace b0 := hide (below_tr b0.out d1.out)
  clear d1
  rw [hcc.out]
  go_wp2_with fail
  refine (nq_Check P1.out).mono ?_
  rintro e w9 ⟨rfl, d1⟩
  replace H := hide (H.out.below d1.out)
  replace P1 := hide (P1.out.below d1.out)
  replace TX := hide (TX.out.below d1.out)
  replace P3 := hide (P3.out.below d1.out)
  replace Q3 := hide (Q3.out.below d1.out)
  replace W3 := hide (W3.out.below d1.out)
  replace O3 := hide (O3.out.below d1.out)
  replace b0 := hide (below_tr b0.out d1.out)
  clear d1
  rw [hcc.out]
  go_wp2_with fail
  refine (np_Text TX.out.prt lx.out).mono ?_
  rintro e w10 ⟨rfl, d1⟩
  replace H := hide (H.out.below d1.out)
  replace P1 := hide (P1.out.below d1.out)
  replace TX := hide (TX.out.below d1.out)
  replace P3 := hide (P3.out.below d1.out)
  replace Q3 := hide (Q3.out.below d1.out)
  replace W3 := hide (W3.out.below d1.out)
  replace O3 := hide (O3.out.below d1.out)
  replace b0 := hide (below_tr b0.out d1.out)
  clear d1
  rw [htt.out]
  go_wp2_with fail
  refine (nq_Text P1.out lx.out).mono ?_
  rintro e w11 ⟨rfl, d1⟩
  replace H := hide (H.out.below d1.out)
  replace P1 := hide (P1.out.below d1.out)
  replace TX := hide (TX.out.below d1.out)
  replace P3 := hide (P3.out.below d1.out)
  replace Q3 := hide (Q3.out.below d1.out)
  replace W3 := hide (W3.out.below d1.out)
  replace O3 := hide (O3.out.below d1.out)
  replace b0 := hide (below_tr b0.out d1.out)
  clear d1
  rw [htt.out]
  go_wp2_with fail
  refine (np_same P3.out W3.out).mono ?_
  rintro e w12 ⟨rfl, d1⟩
  replace H := hide (H.out.below d1.out)
  replace P1 := hide (P1.out.below d1.out)
  replace TX := hide (TX.out.below d1.out)
  replace P3 := hide (P3.out.below d1.out)
  replace Q3 := hide (Q3.out.below d1.out)
  replace W3 := hide (W3.out.below d1.out)
  replace O3 := hide (O3.out.below d1.out)
  replace b0 := hide (below_tr b0.out d1.out)
  clear d1
  go_wp2_with fail
  refine (np_same Q3.out W3.out).mono ?_
  rintro e w13 ⟨rfl, d1⟩
  replace H := hide (H.out.below d1.out)
  replace P1 := hide (P1.out.below d1.out)
  replace TX := hide (TX.out.below d1.out)
  replace P3 := hide (P3.out.below d1.out)
  replace Q3 := hide (Q3.out.below d1.out)
  replace W3 := hide (W3.out.below d1.out)
  replace O3 := hide (O3.out.below d1.out)
  replace b0 := hide (below_tr b0.out d1.out)
  clear d1
  go_wp2_with fail
  refine (nq_Of _ m hm.out).mono ?_
  rintro e w14 ⟨O', no', co', rfl, d1, O4⟩
  replace H := hide (H.out.below d1.out)
  replace P1 := hide (P1.out.below d1.out)
  replace TX := hide (TX.out.below d1.out)
  replace P3 := hide (P3.out.below d1.out)
  replace Q3 := hide (Q3.out.below d1.out)
  replace W3 := hide (W3.out.below d1.out)
  replace O3 := hide (O3.out.below d1.out)
  replace b0 := hide (below_tr b0.out d1.out)
  clear d1
  replace O4 := hide O4
  go_wp2_with fail
  refine (np_same O3.out O4.out).mono ?_
  rintro e w15 ⟨rfl, d1⟩
  replace H := hide (H.out.below d1.out)
  replace P1 := hide (P1.out.below d1.out)
  replace TX := hide (TX.out.below d1.out)
  replace P3 := hide (P3.out.below d1.out)
  replace Q3 := hide (Q3.out.below d1.out)
  replace W3 := hide (W3.out.below d1.out)
  replace O3 := hide (O3.out.below d1.out)
  replace O4 := hide (O4.out.below d1.out)
  replace b0 := hide (below_tr b0.out d1.out)
  clear d1
  go_wp2_with fail
  refine (np_left TX.out P1.out).mono ?_
  rintro e w16 ⟨rfl, d1⟩
  replace H := hide (H.out.below d1.out)
  replace P1 := hide (P1.out.below d1.out)
  replace TX := hide (TX.out.below d1.out)
  replace P3 := hide (P3.out.below d1.out)
  replace Q3 := hide (Q3.out.below d1.out)
  replace W3 := hide (W3.out.below d1.out)
  replace O3 := hide (O3.out.below d1.out)
  replace O4 := hide (O4.out.below d1.out)
  replace b0 := hide (below_tr b0.out d1.out)
  clear d1
  have bB := hide b0.out.size
  have K : Hid (BookAt w.heap.size (w16.alloc (.cells #[.int .i64 0, .slice none 0 0, .slice none 0 0, .slice none 0 0, .slice none 0 0, .slice none 0 0, .slice none 0 0, .slice none 0 0, .slice none 0 0, .slice none 0 0, .slice none 0 0, .slice none 0 0, .slice none 0 0] TBK)) w16.heap.size 0 (.slice none 0 0) []) := BookAt.new bB.out
  obtain ⟨hi, hhi⟩ : ∃ hi, hi = w16.heap.size := ⟨_, rfl⟩
  have H0 : HB w.heap.size w16.heap.size w16 ([] ++ [⟨X, n1, cx, none, 0, 0, 0 + 1⟩] ++ [⟨P, np, cp, none, 0, 0, 0 + 1 + 1⟩] ++ [⟨Q, nq, cq, none, 0, 0, 0 + 1 + 1 + 1⟩] ++ [⟨O, no, co, none, 0, 0, 0 + 1 + 1 + 1 + 1⟩]) := H.out
  rw [← hhi] at H0
  replace hhi := hide hhi
  have dB := hide ((Below.refl w16.heap.size w16).alloc (Nat.le_refl _) (.cells #[.int .i64 0, .slice none 0 0, .slice none 0 0, .slice none 0 0, .slice none 0 0, .slice none 0 0, .slice none 0 0, .slice none 0 0, .slice none 0 0, .slice none 0 0, .slice none 0 0, .slice none 0 0, .slice none 0 0] TBK))
  replace H : Hid (HB w.heap.size hi (w16.alloc (.cells #[.int .i64 0, .slice none 0 0, .slice none 0 0, .slice none 0 0, .slice none 0 0, .slice none 0 0, .slice none 0 0, .slice none 0 0, .slice none 0 0, .slice none 0 0, .slice none 0 0, .slice none 0 0, .slice none 0 0] TBK)) ([] ++ [⟨X, n1, cx, none, 0, 0, 0 + 1⟩] ++ [⟨P, np, cp, none, 0, 0, 0 + 1 + 1⟩] ++ [⟨Q, nq, cq, none, 0, 0, 0 + 1 + 1 + 1⟩] ++ [⟨O, no, co, none, 0, 0, 0 + 1 + 1 + 1 + 1⟩])) := H0.bel dB.out
  replace b0 := hide (below_tr b0.out dB.out)
  clear dB H0 bB
  clear P1 TX P3 Q3 W3 O3 O4
  go_wp2_with fail
  obtain ⟨V, hV⟩ : ∃ V, w16.alloc (.cells #[.int .i64 0, .slice none 0 0, .slice none 0 0, .slice none 0 0, .slice none 0 0, .slice none 0 0, .slice none 0 0, .slice none 0 0, .slice none 0 0, .slice none 0 0, .slice none 0 0, .slice none 0 0, .slice none 0 0] TBK) = V := ⟨_, rfl⟩
  obtain ⟨g, hg⟩ : ∃ g, w16.heap.size = g := ⟨_, rfl⟩
  rw [hV, hg] at K
  rw [hV] at b0 H
  rw [hV, hg]
  clear hV hg hhi
  refine (bookNat_ok _ w.heap.size g (0) _ ([]) b0.out.size K.out X n1 cx (by omega) (by simp)).mono ?_
  rintro e W0 ⟨⟨_, rfl⟩, k1, v0, k2⟩
  replace K := hide k2
  replace H := hide (H.out.kp k1)
  replace b0 := hide (b0.out.trans k1.base)
  clear k1 k2
  skip
  go_wp2_with fail
  refine (bookNat_ok _ w.heap.size g (0 + 1) _ ([] ++ [⟨X, n1, cx, none, 0, 0, 0 + 1⟩]) b0.out.size K.out P np cp (by omega) (by simp)).mono ?_
  rintro e W1 ⟨⟨_, rfl⟩, k1, v1, k2⟩
  replace K := hide k2
  replace H := hide (H.out.kp k1)
  replace b0 := hide (b0.out.trans k1.base)
  clear k1 k2
  skip
  go_wp2_with fail
  refine (bookNat_ok _ w.heap.size g (0 + 1 + 1) _ ([] ++ [⟨X, n1, cx, none, 0, 0, 0 + 1⟩] ++ [⟨P, np, cp, none, 0, 0, 0 + 1 + 1⟩]) b0.out.size K.out Q nq cq (by omega) (by simp)).mono ?_
  rintro e W2 ⟨⟨_, rfl⟩, k1, v2, k2⟩
  replace K := hide k2
  replace H := hide (H.out.kp k1)
  replace b0 := hide (b0.out.trans k1.base)
  clear k1 k2
  skip
  go_wp2_with fail
  refine (bookNat_ok _ w.heap.size g (0 + 1 + 1 + 1) _ ([] ++ [⟨X, n1, cx, none, 0, 0, 0 + 1⟩] ++ [⟨P, np, cp, none, 0, 0, 0 + 1 + 1⟩] ++ [⟨Q, nq, cq, none, 0, 0, 0 + 1 + 1 + 1⟩]) b0.out.size K.out O no co (by omega) (by simp)).mono ?_
  rintro e W3 ⟨⟨_, rfl⟩, k1, v3, k2⟩
  replace K := hide k2
  replace H := hide (H.out.kp k1)
  replace b0 := hide (b0.out.trans k1.base)
  clear k1 k2
  skip
  go_wp2_with fail
  refine (Apart_ok _ w.heap.size g (0 + 1 + 1 + 1 + 1) hi _ ([] ++ [⟨X, n1, cx, none, 0, 0, 0 + 1⟩] ++ [⟨P, np, cp, none, 0, 0, 0 + 1 + 1⟩] ++ [⟨Q, nq, cq, none, 0, 0, 0 + 1 + 1 + 1⟩] ++ [⟨O, no, co, none, 0, 0, 0 + 1 + 1 + 1 + 1⟩]) b0.out.size K.out H.out (by simp)).mono ?_
  rintro e WW ⟨rfl, k1⟩
  replace b0 := hide (b0.out.trans k1)
  clear k1 K H
  go_wp2
  exact opq_end hR ⟨rfl, b0⟩
end Go.Proofs.YtfadehkagbcjaaaGreatDoor
