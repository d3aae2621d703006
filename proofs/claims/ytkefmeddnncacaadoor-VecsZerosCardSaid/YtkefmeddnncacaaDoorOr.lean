/- the laws of vecs: VecsZeros. -/
import Derived.Test.YtkefmeddnncacaaDoorBA
set_option linter.unusedVariables false
set_option linter.unusedSimpArgs false
set_option maxRecDepth 100000
namespace Go.Proofs.YtkefmeddnncacaaDoor
open Go.RowKit

set_option maxHeartbeats 8000000 in
theorem VecsZeros_ok (w : World) (z : Int) (h0 : -9223372036854775808 ≤ z) (h1 : z < 9223372036854775808) :
    Calls Tryd.prog 3 #[.int .i64 z] w fun e w' => e = .returned (.bool true) ∧ Hid (Below w.heap.size w w') := by
  refine opq fun R hR => ?_
  go_enter Tryd.func3, Tryd.ntmps3
  by_cases hg : 300 < z ∧ z ≤ 65536
  · have hd1 : decide (z > 300) = true := by simpa using hg.1
    have hd2 : decide (z ≤ 65536) = true := by simpa using hg.2
    go_wp2
    exact opq_end hR ⟨rfl, Below.refl _ _⟩
  have hz := zN_le hg
  have b0 := hide (Below.refl w.heap.size w)
  obtain ⟨n, hn⟩ : ∃ n, zN z = n := ⟨_, rfl⟩
  rw [hn] at hz
  have Z1 : Hid (∀ w', Calls Tryd.prog 11 #[.int .i64 z] w' fun e w'' => ∃ u, e = .returned u ∧ Below w'.heap.size w' w'' ∧ OLst w'' w'.heap.size u (List.replicate n 0)) := fun w' => by rw [← hn]; exact vpZero_P w' z h0 h1
  have Z2 : Hid (∀ w', Calls Tryd.prog 13 #[.int .i64 z] w' fun e w'' => ∃ u, e = .returned u ∧ Below w'.heap.size w' w'' ∧ Lst RCan w'' u (List.replicate n 0)) := fun w' => by rw [← hn]; exact vkZero_P w' z h0 h1
  have hs : Hid (Hs (List.replicate n 0) 500000) := (Hs_zero n).up (by decide)
  have hl : (List.replicate n (0 : Rat)).length = n := List.length_replicate
  clear hn
  have hor : z ≤ 300 ∨ 65536 < z := by omega
  clear hg h0 h1
  rcases hor with hd | hd
  case' inl => have hd1 : decide (z > 300) = false := by simp; omega
  case' inr =>
    have hd1 : decide (z > 300) = true := by simp; omega
    have hd2 : decide (z ≤ 65536) = false := by simp; omega
  all_goals
    have H : Hid (HW w.heap.size w []) := HW.nil _ _
    have G : Hid (HBR w.heap.size w.heap.size w []) := HBR.nil _ _ _
    go_wp2_with fail
    refine (Z1.out _).mono ?_
    rintro e w1 ⟨u, rfl, d1, O⟩
    obtain ⟨A1, c1, us1, rfl, lu1, r1, el1, ap1⟩ := O.parts hs.out (by rw [hl]; omega)
    have L1 := O.lst (by rw [hl]; omega)
    rw [hl] at r1 lu1 L1
    rw [hl]
    have S1 := hide (fun (u : Value) hu => (el1 u hu).shp)
    replace lu1 := hide lu1
    replace H : Hid (HW w.heap.size w1 ([] ++ entsU (0) us1)) := HW.list H.out d1 el1 ap1 b0.out.size (by have := lu1.out; omega)
    replace G : Hid (HBR w.heap.size w1.heap.size w1 ([] ++ [⟨A1, n, c1, none, 0, 0, 0 + 2 * n + 1⟩])) := HBR.next G.out d1 r1 b0.out.size (by omega) (by omega)
    have RR1 := hide (r1.mono b0.out.size)
    replace L1 := hide L1
    replace b0 := hide (below_tr b0.out d1)
    clear d1 O r1 el1 ap1
    go_wp2_with fail
    refine (Z1.out _).mono ?_
    rintro e w2 ⟨u, rfl, d1, O⟩
    obtain ⟨A2, c2, us2, rfl, lu2, r2, el2, ap2⟩ := O.parts hs.out (by rw [hl]; omega)
    have L2 := O.lst (by rw [hl]; omega)
    rw [hl] at r2 lu2 L2
    rw [hl]
    have S2 := hide (fun (u : Value) hu => (el2 u hu).shp)
    replace lu2 := hide lu2
    replace H : Hid (HW w.heap.size w2 ([] ++ entsU (0) us1 ++ entsU (0 + 2 * n + 1) us2)) := HW.list H.out d1 el2 ap2 b0.out.size (by have := lu2.out; omega)
    replace G : Hid (HBR w.heap.size w2.heap.size w2 ([] ++ [⟨A1, n, c1, none, 0, 0, 0 + 2 * n + 1⟩] ++ [⟨A2, n, c2, none, 0, 0, 0 + 2 * n + 1 + 2 * n + 1⟩])) := HBR.next G.out d1 r2 b0.out.size (by omega) (by omega)
    have RR2 := hide (r2.mono b0.out.size)
    replace L2 := hide L2
    replace RR1 := hide (RR1.out.below d1)
    replace L1 := hide (L1.out.can_below d1)
    replace b0 := hide (below_tr b0.out d1)
    clear d1 O r2 el2 ap2
    go_wp2_with fail
    refine (Z2.out _).mono ?_
    rintro e w3 ⟨u3, rfl, d1, L3⟩
    obtain ⟨A3, c3, rfl⟩ := L3.sl
    rw [hl] at L3
    rw [hl]
    replace H := hide (HW.below H.out d1)
    replace G := hide (HBR.below G.out d1)
    replace RR1 := hide (RR1.out.below d1)
    replace L1 := hide (L1.out.can_below d1)
    replace RR2 := hide (RR2.out.below d1)
    replace L2 := hide (L2.out.can_below d1)
    replace b0 := hide (below_tr b0.out d1)
    clear d1
    replace L3 := hide L3
    go_wp2_with fail
    refine (sameRats_yes L1.out L3.out).mono ?_
    rintro e w4 ⟨_, rfl, d1, rfl⟩
    replace H := hide (HW.below H.out d1)
    replace G := hide (HBR.below G.out d1)
    replace RR1 := hide (RR1.out.below d1)
    replace L1 := hide (L1.out.can_below d1)
    replace RR2 := hide (RR2.out.below d1)
    replace L2 := hide (L2.out.can_below d1)
    replace L3 := hide (L3.out.can_below d1)
    replace b0 := hide (below_tr b0.out d1)
    clear d1
    go_wp2_with fail
    refine (sameRats_yes L2.out L1.out).mono ?_
    rintro e w5 ⟨_, rfl, d1, rfl⟩
    replace H := hide (HW.below H.out d1)
    replace G := hide (HBR.below G.out d1)
    replace RR1 := hide (RR1.out.below d1)
    replace L1 := hide (L1.out.can_below d1)
    replace RR2 := hide (RR2.out.below d1)
    replace L2 := hide (L2.out.can_below d1)
    replace L3 := hide (L3.out.can_below d1)
    replace b0 := hide (below_tr b0.out d1)
    clear d1
    clear Z1 Z2
    clear L1
    clear L2
    clear L3
    have bB := hide b0.out.size
    have K : Hid (BookF w.heap.size (w5.alloc (.cells #[.int .i64 0, .slice none 0 0, .slice none 0 0, .slice none 0 0, .slice none 0 0, .slice none 0 0, .slice none 0 0, .slice none 0 0, .slice none 0 0, .slice none 0 0, .slice none 0 0, .slice none 0 0, .slice none 0 0] TBK)) w5.heap.size 0 (.slice none 0 0) (.slice none 0 0) [] []) := BookF.new bB.out
    obtain ⟨hi, hhi⟩ : ∃ hi, hi = w5.heap.size := ⟨_, rfl⟩
    have H0 : HB w.heap.size w5.heap.size w5 ([] ++ entsU (0) us1 ++ entsU (0 + 2 * n + 1) us2) := H.out
    have G0 : HBR w.heap.size w5.heap.size w5 ([] ++ [⟨A1, n, c1, none, 0, 0, 0 + 2 * n + 1⟩] ++ [⟨A2, n, c2, none, 0, 0, 0 + 2 * n + 1 + 2 * n + 1⟩]) := G.out
    rw [← hhi] at H0 G0
    replace hhi := hide hhi
    have dB := hide ((Below.refl w5.heap.size w5).alloc (Nat.le_refl _) (.cells #[.int .i64 0, .slice none 0 0, .slice none 0 0, .slice none 0 0, .slice none 0 0, .slice none 0 0, .slice none 0 0, .slice none 0 0, .slice none 0 0, .slice none 0 0, .slice none 0 0, .slice none 0 0, .slice none 0 0] TBK))
    replace H : Hid (HB w.heap.size hi (w5.alloc (.cells #[.int .i64 0, .slice none 0 0, .slice none 0 0, .slice none 0 0, .slice none 0 0, .slice none 0 0, .slice none 0 0, .slice none 0 0, .slice none 0 0, .slice none 0 0, .slice none 0 0, .slice none 0 0, .slice none 0 0] TBK)) ([] ++ entsU (0) us1 ++ entsU (0 + 2 * n + 1) us2)) := H0.bel dB.out
    replace G : Hid (HBR w.heap.size hi (w5.alloc (.cells #[.int .i64 0, .slice none 0 0, .slice none 0 0, .slice none 0 0, .slice none 0 0, .slice none 0 0, .slice none 0 0, .slice none 0 0, .slice none 0 0, .slice none 0 0, .slice none 0 0, .slice none 0 0, .slice none 0 0] TBK)) ([] ++ [⟨A1, n, c1, none, 0, 0, 0 + 2 * n + 1⟩] ++ [⟨A2, n, c2, none, 0, 0, 0 + 2 * n + 1 + 2 * n + 1⟩])) := G0.bel dB.out
    replace RR1 := hide (RR1.out.below dB.out)
    replace RR2 := hide (RR2.out.below dB.out)
    replace b0 := hide (below_tr b0.out dB.out)
    clear dB H0 G0 bB
    go_wp2_with fail
    obtain ⟨V, hV⟩ : ∃ V, w5.alloc (.cells #[.int .i64 0, .slice none 0 0, .slice none 0 0, .slice none 0 0, .slice none 0 0, .slice none 0 0, .slice none 0 0, .slice none 0 0, .slice none 0 0, .slice none 0 0, .slice none 0 0, .slice none 0 0, .slice none 0 0] TBK) = V := ⟨_, rfl⟩
    obtain ⟨g, hg⟩ : ∃ g, w5.heap.size = g := ⟨_, rfl⟩
    rw [hV, hg] at K
    rw [hV] at b0 H G RR1 RR2
    rw [hV, hg]
    clear hV hg hhi
    refine (bookRats_F _ w.heap.size g (0) _ _ ([]) ([]) b0.out.size K.out A1 n c1 us1 RR1.out lu1.out S1.out (by omega) (by simp only [List.length_append, List.length_cons, List.length_nil, entsU_len _ _ S1.out, lu1.out, entsU_len _ _ S2.out, lu2.out]; omega) (by simp)).mono ?_
    rintro e W0 ⟨⟨_, rfl⟩, k1, v0, u0_, k2⟩
    replace K := hide k2
    replace H := hide (H.out.kpF k1)
    replace G := hide (G.out.kp k1)
    replace b0 := hide (b0.out.trans k1.base)
    replace RR1 := hide (RR1.out.keep fun g cs _ hk => k1.nums g _ cs (by decide) (by decide) (by decide) hk)
    replace RR2 := hide (RR2.out.keep fun g cs _ hk => k1.nums g _ cs (by decide) (by decide) (by decide) hk)
    clear k1 k2
    go_wp2_with fail
    refine (bookRats_F _ w.heap.size g (0 + 2 * n + 1) _ _ ([] ++ entsU (0) us1) ([] ++ [⟨A1, n, c1, none, 0, 0, 0 + 2 * n + 1⟩]) b0.out.size K.out A2 n c2 us2 RR2.out lu2.out S2.out (by omega) (by simp only [List.length_append, List.length_cons, List.length_nil, entsU_len _ _ S1.out, lu1.out, entsU_len _ _ S2.out, lu2.out]; omega) (by simp)).mono ?_
    rintro e W1 ⟨⟨_, rfl⟩, k1, v1, u1_, k2⟩
    replace K := hide k2
    replace H := hide (H.out.kpF k1)
    replace G := hide (G.out.kp k1)
    replace b0 := hide (b0.out.trans k1.base)
    replace RR1 := hide (RR1.out.keep fun g cs _ hk => k1.nums g _ cs (by decide) (by decide) (by decide) hk)
    replace RR2 := hide (RR2.out.keep fun g cs _ hk => k1.nums g _ cs (by decide) (by decide) (by decide) hk)
    clear k1 k2
    go_wp2_with fail
    refine (Apart_F _ w.heap.size g (0 + 2 * n + 1 + 2 * n + 1) hi hi _ _ ([] ++ entsU (0) us1 ++ entsU (0 + 2 * n + 1) us2) ([] ++ [⟨A1, n, c1, none, 0, 0, 0 + 2 * n + 1⟩] ++ [⟨A2, n, c2, none, 0, 0, 0 + 2 * n + 1 + 2 * n + 1⟩]) b0.out.size K.out H.out G.out (by simp only [List.length_append, List.length_cons, List.length_nil, entsU_len _ _ S1.out, lu1.out, entsU_len _ _ S2.out, lu2.out]; omega) (by simp)).mono ?_
    rintro e WW ⟨rfl, k1⟩
    replace b0 := hide (b0.out.trans k1)
    clear k1 K H G
    go_wp2
    exact opq_end hR ⟨rfl, b0⟩
end Go.Proofs.YtkefmeddnncacaaDoor
