/- ints: plus. -/
import Derived.Test.YtnpfochbpdfcmaaGreatDoorIc
set_option linter.unusedVariables false
set_option linter.unusedSimpArgs false
set_option maxRecDepth 100000
namespace Go.Proofs.YtnpfochbpdfcmaaGreatDoor
open Go.RowKit

set_option maxHeartbeats 1000000 in
theorem iplus_ok {w : World} {v v' : Value} {x y : Int} (h : ICan w v x) (h' : ICan w v' y) (sx : L x.natAbs ≤ 2000000000000) (sy : L y.natAbs ≤ 2000000000000) :
    Calls Tryz.prog 115 #[v, v'] w fun e w' => ∃ u, e = .returned u ∧ Hid (IntR (x + y) w.heap.size w' u) ∧ Hid (Below w.heap.size w w') := by
  refine opq fun R hR => ?_
  obtain ⟨u1, rfl, hu1⟩ := h
  obtain ⟨u2, rfl, hu2⟩ := h'
  have E1 : ∃ A n c, u1 = .slice A n c := by obtain ⟨A, c, rfl, _⟩ := hu1; exact ⟨A, _, c, rfl⟩
  have E2 : ∃ A n c, u2 = .slice A n c := by obtain ⟨A, c, rfl, _⟩ := hu2; exact ⟨A, _, c, rfl⟩
  obtain ⟨A1, n1, c1, rfl⟩ := E1
  obtain ⟨A2, n2, c2, rfl⟩ := E2
  have U1 := hide hu1
  have U2 := hide hu2
  have S1 := hide sx
  have S2 := hide sy
  clear hu1 hu2 sx sy
  obtain ⟨b1, e1⟩ : ∃ b, Hid (decide (x < 0) = b) := ⟨_, rfl⟩
  obtain ⟨b2, e2⟩ : ∃ b, Hid (decide (y < 0) = b) := ⟨_, rfl⟩
  rw [e1.out, e2.out]
  cases b1 <;> cases b2
  case false.false =>
    have Z1 : Hid ((x + y).natAbs = x.natAbs + y.natAbs) := by
      have q1 := e1.out
      have q2 := e2.out
      simp only [decide_eq_true_eq, decide_eq_false_iff_not] at q1 q2
      show _ = _
      omega
    have Z2 : Hid (decide (x + y < 0) = (false && decide (x.natAbs + y.natAbs ≠ 0))) := by
      have q1 := e1.out
      have q2 := e2.out
      simp only [decide_eq_true_eq, decide_eq_false_iff_not] at q1 q2
      show _ = _
      rw [Bool.eq_iff_iff]
      simp
      try omega
    go_enter Tryz.func115, Tryz.ntmps115
    go_wp2
    obtain ⟨W, hW, K1, K2, K3, BW, ZW⟩ := alloc3 w #[.bool false, .slice A1 n1 c1] #[.bool false, .slice A2 n2 c2] #[.bool false, .slice none 0 0] 95 95 25
    rw [hW]
    clear hW
    have UW1 := hide (U1.out.below BW.out)
    have UW2 := hide (U2.out.below BW.out)
    clear U1 U2
    refine wp_region_facts 8 (fun w' => Below W.heap.size W w') [(12, .eq ((.pointer (some ⟨w.heap.size, 0, none⟩) : Value))), (13, .eq (.bool false)), (14, .eq ((.pointer (some ⟨w.heap.size, 1, none⟩) : Value))), (15, (.nat x.natAbs)), (16, .eq ((.pointer (some ⟨w.heap.size + 1, 1, none⟩) : Value))), (17, (.nat y.natAbs)), (18, (.natR (x.natAbs + y.natAbs) w.heap.size)), (19, (.intR (x + y) w.heap.size))] [false, false, false, false, false, false, false, false, false, false, false, false, true, true, true, true, true, true, true, true, false, false, false, false, false, false, false, false, false, false, false, false, false, false, false, false, false, false, false, false] mixed (by kernel_rfl) (by kernel_rfl) (by kernel_rfl) (fun _ _ h hb => h.trans (hb.mono h.size)) ((Below.refl _ _).drew) ⟨?_, ?_, ?_, ?_, ?_, ?_, ?_, ?_, trivial⟩ ?_
    · exact .fieldAddr (.inl rfl) rfl rfl rfl (fun a w' hC hs hl => by rw [show a.eval (.tmp 2) = (.pointer (some ⟨w.heap.size, 0, none⟩) : Value) from (hs 2 (by kernel_rfl))]; exact fa_whole0)
    · exact .load (.bool false) (.inl rfl) rfl rfl (fun a w' hC hs hl => by rw [show a.eval (.tmp 12) = (.pointer (some ⟨w.heap.size, 0, none⟩) : Value) from (hl 12 (by kernel_rfl) (by kernel_rfl))]; exact ⟨ld_bool ((K1.out.below' hC).at_ 0 rfl), rfl⟩)
    · exact .fieldAddr (.inl rfl) rfl rfl rfl (fun a w' hC hs hl => by rw [show a.eval (.tmp 2) = (.pointer (some ⟨w.heap.size, 0, none⟩) : Value) from (hs 2 (by kernel_rfl))]; exact fa_whole1)
    · exact .load (.slice A1 n1 c1) (.inl rfl) rfl rfl (fun a w' hC hs hl => by rw [show a.eval (.tmp 14) = (.pointer (some ⟨w.heap.size, 1, none⟩) : Value) from (hl 14 (by kernel_rfl) (by kernel_rfl))]; exact ⟨ld_Nat ((K1.out.below' hC).at_ 1 rfl), UW1.out.below hC⟩)
    · exact .fieldAddr (.inl rfl) rfl rfl rfl (fun a w' hC hs hl => by rw [show a.eval (.tmp 3) = (.pointer (some ⟨w.heap.size + 1, 0, none⟩) : Value) from (hs 3 (by kernel_rfl))]; exact fa_whole1)
    · exact .load (.slice A2 n2 c2) (.inl rfl) rfl rfl (fun a w' hC hs hl => by rw [show a.eval (.tmp 16) = (.pointer (some ⟨w.heap.size + 1, 1, none⟩) : Value) from (hl 16 (by kernel_rfl) (by kernel_rfl))]; exact ⟨ld_Nat ((K2.out.below' hC).at_ 1 rfl), UW2.out.below hC⟩)
    · exact .call (.inl rfl) rfl rfl fn_Add (fun a w' hC hs hl => nAdd_F w.heap.size (Nat.le_trans BW.out.size hC.size) (hl 15 (by kernel_rfl) (by kernel_rfl)) (hl 17 (by kernel_rfl) (by kernel_rfl)) (L_up S1.out (by decide)) (L_up S2.out (by decide)))
    · exact .call (.inl rfl) rfl rfl fn_signed (fun a w' hC hs hl => by
        have e := (hl 13 (by kernel_rfl) (by kernel_rfl))
        have e : slot a 13 = .bool false := e
        show Calls _ _ #[slot a 13, slot a 18] _ _
        rw [e]
        exact isigned_F (hl 18 (by kernel_rfl) (by kernel_rfl)) Z1.out Z2.out)
    intro f w1 hC hF _
    have f19 := hF 19 (by kernel_rfl)
    clear hF
    have r19 : IntR (x + y) w.heap.size w1 (f 19) := f19
    clear f19
    simp only [patch, List.drop]
    obtain ⟨b9, A9, n9, c9, e9⟩ := r19.slice
    have R9 := hide r19
    clear r19
    generalize f 19 = v9 at *
    subst e9
    have K4 := hide (K3.out.below' hC)
    have h0 := K4.out.at_ 0 rfl
    have h1 := K4.out.at_ 1 rfl
    have h2 := K4.out.frozen 0
    have h3 := K4.out.frozen 1
    have B9 := hide (BW.out.trans (hC.mono BW.out.size))
    clear hC
    go_wp2
    refine bodyPost_ret (v := .agg #[.bool b9, .slice A9 n9 c9]) (by simp [results, Tryz.results115, go_sem, h0, h1, h2, h3]) rfl ?_
    exact opq_end hR ⟨_, rfl, R9.out.only K4.out (by decide) (((Only.refl _ _).set _ _).set _ _), (by (repeat (first | exact B9 | exact Below.refl _ _ | refine Below.setCell ?_ (by first | (simp; done) | (simp; omega)) _ | refine Below.alloc ?_ (by first | (simp; done) | (simp; omega)) _)))⟩
  case true.true =>
    have Z1 : Hid ((x + y).natAbs = x.natAbs + y.natAbs) := by
      have q1 := e1.out
      have q2 := e2.out
      simp only [decide_eq_true_eq, decide_eq_false_iff_not] at q1 q2
      show _ = _
      omega
    have Z2 : Hid (decide (x + y < 0) = (true && decide (x.natAbs + y.natAbs ≠ 0))) := by
      have q1 := e1.out
      have q2 := e2.out
      simp only [decide_eq_true_eq, decide_eq_false_iff_not] at q1 q2
      show _ = _
      rw [Bool.eq_iff_iff]
      simp
      try omega
    go_enter Tryz.func115, Tryz.ntmps115
    go_wp2
    obtain ⟨W, hW, K1, K2, K3, BW, ZW⟩ := alloc3 w #[.bool true, .slice A1 n1 c1] #[.bool true, .slice A2 n2 c2] #[.bool false, .slice none 0 0] 95 95 25
    rw [hW]
    clear hW
    have UW1 := hide (U1.out.below BW.out)
    have UW2 := hide (U2.out.below BW.out)
    clear U1 U2
    refine wp_region_facts 8 (fun w' => Below W.heap.size W w') [(12, .eq ((.pointer (some ⟨w.heap.size, 0, none⟩) : Value))), (13, .eq (.bool true)), (14, .eq ((.pointer (some ⟨w.heap.size, 1, none⟩) : Value))), (15, (.nat x.natAbs)), (16, .eq ((.pointer (some ⟨w.heap.size + 1, 1, none⟩) : Value))), (17, (.nat y.natAbs)), (18, (.natR (x.natAbs + y.natAbs) w.heap.size)), (19, (.intR (x + y) w.heap.size))] [false, false, false, false, false, false, false, false, false, false, false, false, true, true, true, true, true, true, true, true, false, false, false, false, false, false, false, false, false, false, false, false, false, false, false, false, false, false, false, false] mixed (by kernel_rfl) (by kernel_rfl) (by kernel_rfl) (fun _ _ h hb => h.trans (hb.mono h.size)) ((Below.refl _ _).drew) ⟨?_, ?_, ?_, ?_, ?_, ?_, ?_, ?_, trivial⟩ ?_
    · exact .fieldAddr (.inl rfl) rfl rfl rfl (fun a w' hC hs hl => by rw [show a.eval (.tmp 2) = (.pointer (some ⟨w.heap.size, 0, none⟩) : Value) from (hs 2 (by kernel_rfl))]; exact fa_whole0)
    · exact .load (.bool true) (.inl rfl) rfl rfl (fun a w' hC hs hl => by rw [show a.eval (.tmp 12) = (.pointer (some ⟨w.heap.size, 0, none⟩) : Value) from (hl 12 (by kernel_rfl) (by kernel_rfl))]; exact ⟨ld_bool ((K1.out.below' hC).at_ 0 rfl), rfl⟩)
    · exact .fieldAddr (.inl rfl) rfl rfl rfl (fun a w' hC hs hl => by rw [show a.eval (.tmp 2) = (.pointer (some ⟨w.heap.size, 0, none⟩) : Value) from (hs 2 (by kernel_rfl))]; exact fa_whole1)
    · exact .load (.slice A1 n1 c1) (.inl rfl) rfl rfl (fun a w' hC hs hl => by rw [show a.eval (.tmp 14) = (.pointer (some ⟨w.heap.size, 1, none⟩) : Value) from (hl 14 (by kernel_rfl) (by kernel_rfl))]; exact ⟨ld_Nat ((K1.out.below' hC).at_ 1 rfl), UW1.out.below hC⟩)
    · exact .fieldAddr (.inl rfl) rfl rfl rfl (fun a w' hC hs hl => by rw [show a.eval (.tmp 3) = (.pointer (some ⟨w.heap.size + 1, 0, none⟩) : Value) from (hs 3 (by kernel_rfl))]; exact fa_whole1)
    · exact .load (.slice A2 n2 c2) (.inl rfl) rfl rfl (fun a w' hC hs hl => by rw [show a.eval (.tmp 16) = (.pointer (some ⟨w.heap.size + 1, 1, none⟩) : Value) from (hl 16 (by kernel_rfl) (by kernel_rfl))]; exact ⟨ld_Nat ((K2.out.below' hC).at_ 1 rfl), UW2.out.below hC⟩)
    · exact .call (.inl rfl) rfl rfl fn_Add (fun a w' hC hs hl => nAdd_F w.heap.size (Nat.le_trans BW.out.size hC.size) (hl 15 (by kernel_rfl) (by kernel_rfl)) (hl 17 (by kernel_rfl) (by kernel_rfl)) (L_up S1.out (by decide)) (L_up S2.out (by decide)))
    · exact .call (.inl rfl) rfl rfl fn_signed (fun a w' hC hs hl => by
        have e := (hl 13 (by kernel_rfl) (by kernel_rfl))
        have e : slot a 13 = .bool true := e
        show Calls _ _ #[slot a 13, slot a 18] _ _
        rw [e]
        exact isigned_F (hl 18 (by kernel_rfl) (by kernel_rfl)) Z1.out Z2.out)
    intro f w1 hC hF _
    have f19 := hF 19 (by kernel_rfl)
    clear hF
    have r19 : IntR (x + y) w.heap.size w1 (f 19) := f19
    clear f19
    simp only [patch, List.drop]
    obtain ⟨b9, A9, n9, c9, e9⟩ := r19.slice
    have R9 := hide r19
    clear r19
    generalize f 19 = v9 at *
    subst e9
    have K4 := hide (K3.out.below' hC)
    have h0 := K4.out.at_ 0 rfl
    have h1 := K4.out.at_ 1 rfl
    have h2 := K4.out.frozen 0
    have h3 := K4.out.frozen 1
    have B9 := hide (BW.out.trans (hC.mono BW.out.size))
    clear hC
    go_wp2
    refine bodyPost_ret (v := .agg #[.bool b9, .slice A9 n9 c9]) (by simp [results, Tryz.results115, go_sem, h0, h1, h2, h3]) rfl ?_
    exact opq_end hR ⟨_, rfl, R9.out.only K4.out (by decide) (((Only.refl _ _).set _ _).set _ _), (by (repeat (first | exact B9 | exact Below.refl _ _ | refine Below.setCell ?_ (by first | (simp; done) | (simp; omega)) _ | refine Below.alloc ?_ (by first | (simp; done) | (simp; omega)) _)))⟩
  case false.true =>
    by_cases hlt : x.natAbs < y.natAbs
    case pos =>
      have Z1 : Hid ((x + y).natAbs = y.natAbs - x.natAbs) := by
        have q1 := e1.out
        have q2 := e2.out
        simp only [decide_eq_true_eq, decide_eq_false_iff_not] at q1 q2
        show _ = _
        omega
      have Z2 : Hid (decide (x + y < 0) = (true && decide (y.natAbs - x.natAbs ≠ 0))) := by
        have q1 := e1.out
        have q2 := e2.out
        simp only [decide_eq_true_eq, decide_eq_false_iff_not] at q1 q2
        show _ = _
        rw [Bool.eq_iff_iff]
        simp
        try omega
      have HL := hide (show x.natAbs ≤ y.natAbs by omega)
      have HC : Hid (cmpN x.natAbs y.natAbs = -1) := by
        exact cmpN_lt hlt
      clear hlt
      go_enter Tryz.func115, Tryz.ntmps115
      go_wp2_with fail
      obtain ⟨W, hW, K1, K2, K3, BW, ZW⟩ := alloc3 w #[.bool false, .slice A1 n1 c1] #[.bool true, .slice A2 n2 c2] #[.bool false, .slice none 0 0] 95 95 25
      rw [hW]
      clear hW
      refine (Cmp_arg ((U1.out.below BW.out).arg (L_up S1.out (by decide))) ((U2.out.below BW.out).arg (L_up S2.out (by decide)))).mono ?_
      rw [HC.out]
      rintro e w1 ⟨rfl, d1⟩
      have k1 := K1.out.below' d1.out
      have k2 := K2.out.below' d1.out
      have k3 := K3.out.below' d1.out
      have z1 : w.heap.size + 1 + 1 < w1.heap.size := by have := d1.out.size; have := ZW.out; omega
      have B1 := hide (BW.out.trans (d1.out.mono BW.out.size))
      have a0 := k1.at_ 0 rfl
      have a1 := k1.at_ 1 rfl
      have a2 := k2.at_ 0 rfl
      have a3 := k2.at_ 1 rfl
      have f0 := k1.frozen 0
      have f1 := k1.frozen 1
      have f2 := k2.frozen 0
      have f3 := k2.frozen 1
      clear d1 HC K1 K2 K3
      have m1 := hide ((((k1.set_ 0 (.bool true)).set_ 1 (.slice A2 n2 c2)).far (p := ⟨w.heap.size + 1, 0, none⟩) (by simp) (.bool false)).far (p := ⟨w.heap.size + 1, 1, none⟩) (by simp) (.slice A1 n1 c1))
      have m2 := hide ((((k2.far (p := ⟨w.heap.size, 0, none⟩) (by simp) (.bool true)).far (p := ⟨w.heap.size, 1, none⟩) (by simp) (.slice A2 n2 c2)).set_ 0 (.bool false)).set_ 1 (.slice A1 n1 c1))
      have m3 := hide ((((k3.far (p := ⟨w.heap.size, 0, none⟩) (by simp; omega) (.bool true)).far (p := ⟨w.heap.size, 1, none⟩) (by simp; omega) (.slice A2 n2 c2)).far (p := ⟨w.heap.size + 1, 0, none⟩) (by simp) (.bool false)).far (p := ⟨w.heap.size + 1, 1, none⟩) (by simp) (.slice A1 n1 c1))
      clear k1 k2 k3
      go_wp2_with fail
      refine (Sub_ge (U2.out.below (by (repeat (first | exact B1 | exact Below.refl _ _ | refine Below.setCell ?_ (by first | (simp; done) | (simp; omega)) _ | refine Below.alloc ?_ (by first | (simp; done) | (simp; omega)) _)))) (U1.out.below (by (repeat (first | exact B1 | exact Below.refl _ _ | refine Below.setCell ?_ (by first | (simp; done) | (simp; omega)) _ | refine Below.alloc ?_ (by first | (simp; done) | (simp; omega)) _)))) (L_up S2.out (by decide)) (L_up S1.out (by decide)) HL.out).mono ?_
      rintro e w2 ⟨u, rfl, ru, d2⟩
      have j1 := m1.out.below' d2.out
      have j3 := hide (m3.out.below' d2.out)
      have g0 := j1.at_ 0 rfl
      have B2 := hide (below_tr B1.out (Below.refl _ _))
      have B3 : Hid (Below w.heap.size w w2) := Below.trans (by (repeat (first | exact B1 | exact Below.refl _ _ | refine Below.setCell ?_ (by first | (simp; done) | (simp; omega)) _ | refine Below.alloc ?_ (by first | (simp; done) | (simp; omega)) _))) (d2.out.mono (by first | omega | (simp [World.setCell]; omega)))
      clear a0 a1 a2 a3 f0 f1 f2 f3 m1 m2 m3 j1 d2
      obtain ⟨A9, c9, e9, _⟩ := ru.out.can
      subst e9
      have ru2 := hide (ru.out.mono (B := _) (B' := w.heap.size) (by first | omega | (simp [World.setCell]; omega)))
      clear ru B1 B2
      go_wp2_with fail
      refine (isigned_ok ru2.out.can).mono ?_
      rintro e w3 ⟨rfl, d3⟩
      have R9 := hide (intR_of_parts (b := true) (ru2.out.below d3.out) Z1.out Z2.out)
      have B9 := hide (B3.out.trans (d3.out.mono B3.out.size))
      have K4 := hide (j3.out.below' d3.out)
      have h0 := K4.out.at_ 0 rfl
      have h1 := K4.out.at_ 1 rfl
      have h2 := K4.out.frozen 0
      have h3 := K4.out.frozen 1
      clear ru2 B3 d3 j3 Z2 g0
      generalize (true && decide (y.natAbs - x.natAbs ≠ 0)) = b9 at *
      generalize (limbs (y.natAbs - x.natAbs)).length = n9 at *
      go_wp2
      refine bodyPost_ret (v := .agg #[.bool b9, .slice A9 n9 c9]) (by simp [results, Tryz.results115, go_sem, h0, h1, h2, h3]) rfl ?_
      exact opq_end hR ⟨_, rfl, R9.out.only K4.out (by decide) (((Only.refl _ _).set _ _).set _ _), (by (repeat (first | exact B9 | exact Below.refl _ _ | refine Below.setCell ?_ (by first | (simp; done) | (simp; omega)) _ | refine Below.alloc ?_ (by first | (simp; done) | (simp; omega)) _)))⟩
    case neg =>
      have Z1 : Hid ((x + y).natAbs = x.natAbs - y.natAbs) := by
        have q1 := e1.out
        have q2 := e2.out
        simp only [decide_eq_true_eq, decide_eq_false_iff_not] at q1 q2
        show _ = _
        omega
      have Z2 : Hid (decide (x + y < 0) = (false && decide (x.natAbs - y.natAbs ≠ 0))) := by
        have q1 := e1.out
        have q2 := e2.out
        simp only [decide_eq_true_eq, decide_eq_false_iff_not] at q1 q2
        show _ = _
        rw [Bool.eq_iff_iff]
        simp
        try omega
      have HL := hide (show y.natAbs ≤ x.natAbs by omega)
      have HC : Hid (¬ cmpN x.natAbs y.natAbs < 0) := by
        show ¬ _; unfold cmpN; rw [if_neg hlt]; split <;> omega
      clear hlt
      go_enter Tryz.func115, Tryz.ntmps115
      go_wp2_with fail
      obtain ⟨W, hW, K1, K2, K3, BW, ZW⟩ := alloc3 w #[.bool false, .slice A1 n1 c1] #[.bool true, .slice A2 n2 c2] #[.bool false, .slice none 0 0] 95 95 25
      rw [hW]
      clear hW
      refine (Cmp_arg ((U1.out.below BW.out).arg (L_up S1.out (by decide))) ((U2.out.below BW.out).arg (L_up S2.out (by decide)))).mono ?_
      obtain ⟨r, hr⟩ : ∃ r, r = cmpN x.natAbs y.natAbs := ⟨_, rfl⟩
      have hr0 : decide (r < 0) = false := by rw [hr]; simpa using HC.out
      rw [← hr]
      clear hr
      rintro e w1 ⟨rfl, d1⟩
      have k1 := K1.out.below' d1.out
      have k2 := K2.out.below' d1.out
      have k3 := K3.out.below' d1.out
      have z1 : w.heap.size + 1 + 1 < w1.heap.size := by have := d1.out.size; have := ZW.out; omega
      have B1 := hide (BW.out.trans (d1.out.mono BW.out.size))
      have a0 := k1.at_ 0 rfl
      have a1 := k1.at_ 1 rfl
      have a2 := k2.at_ 0 rfl
      have a3 := k2.at_ 1 rfl
      have f0 := k1.frozen 0
      have f1 := k1.frozen 1
      have f2 := k2.frozen 0
      have f3 := k2.frozen 1
      clear d1 HC K1 K2 K3
      have m1 := hide k1
      have m2 := hide k2
      have m3 := hide k3
      clear k1 k2 k3
      go_wp2_with fail
      refine (Sub_ge (U1.out.below (by (repeat (first | exact B1 | exact Below.refl _ _ | refine Below.setCell ?_ (by first | (simp; done) | (simp; omega)) _ | refine Below.alloc ?_ (by first | (simp; done) | (simp; omega)) _)))) (U2.out.below (by (repeat (first | exact B1 | exact Below.refl _ _ | refine Below.setCell ?_ (by first | (simp; done) | (simp; omega)) _ | refine Below.alloc ?_ (by first | (simp; done) | (simp; omega)) _)))) (L_up S1.out (by decide)) (L_up S2.out (by decide)) HL.out).mono ?_
      rintro e w2 ⟨u, rfl, ru, d2⟩
      have j1 := m1.out.below' d2.out
      have j3 := hide (m3.out.below' d2.out)
      have g0 := j1.at_ 0 rfl
      have B2 := hide (below_tr B1.out (Below.refl _ _))
      have B3 : Hid (Below w.heap.size w w2) := Below.trans (by (repeat (first | exact B1 | exact Below.refl _ _ | refine Below.setCell ?_ (by first | (simp; done) | (simp; omega)) _ | refine Below.alloc ?_ (by first | (simp; done) | (simp; omega)) _))) (d2.out.mono (by first | omega | (simp [World.setCell]; omega)))
      clear a0 a1 a2 a3 f0 f1 f2 f3 m1 m2 m3 j1 d2
      obtain ⟨A9, c9, e9, _⟩ := ru.out.can
      subst e9
      have ru2 := hide (ru.out.mono (B := _) (B' := w.heap.size) (by first | omega | (simp [World.setCell]; omega)))
      clear ru B1 B2
      go_wp2_with fail
      refine (isigned_ok ru2.out.can).mono ?_
      rintro e w3 ⟨rfl, d3⟩
      have R9 := hide (intR_of_parts (b := false) (ru2.out.below d3.out) Z1.out Z2.out)
      have B9 := hide (B3.out.trans (d3.out.mono B3.out.size))
      have K4 := hide (j3.out.below' d3.out)
      have h0 := K4.out.at_ 0 rfl
      have h1 := K4.out.at_ 1 rfl
      have h2 := K4.out.frozen 0
      have h3 := K4.out.frozen 1
      clear ru2 B3 d3 j3 Z2 g0
      generalize (false && decide (x.natAbs - y.natAbs ≠ 0)) = b9 at *
      generalize (limbs (x.natAbs - y.natAbs)).length = n9 at *
      go_wp2
      refine bodyPost_ret (v := .agg #[.bool b9, .slice A9 n9 c9]) (by simp [results, Tryz.results115, go_sem, h0, h1, h2, h3]) rfl ?_
      exact opq_end hR ⟨_, rfl, R9.out.only K4.out (by decide) (((Only.refl _ _).set _ _).set _ _), (by (repeat (first | exact B9 | exact Below.refl _ _ | refine Below.setCell ?_ (by first | (simp; done) | (simp; omega)) _ | refine Below.alloc ?_ (by first | (simp; done) | (simp; omega)) _)))⟩
  case true.false =>
    by_cases hlt : x.natAbs < y.natAbs
    case pos =>
      have Z1 : Hid ((x + y).natAbs = y.natAbs - x.natAbs) := by
        have q1 := e1.out
        have q2 := e2.out
        simp only [decide_eq_true_eq, decide_eq_false_iff_not] at q1 q2
        show _ = _
        omega
      have Z2 : Hid (decide (x + y < 0) = (false && decide (y.natAbs - x.natAbs ≠ 0))) := by
        have q1 := e1.out
        have q2 := e2.out
        simp only [decide_eq_true_eq, decide_eq_false_iff_not] at q1 q2
        show _ = _
        rw [Bool.eq_iff_iff]
        simp
        try omega
      have HL := hide (show x.natAbs ≤ y.natAbs by omega)
      have HC : Hid (cmpN x.natAbs y.natAbs = -1) := by
        exact cmpN_lt hlt
      clear hlt
      go_enter Tryz.func115, Tryz.ntmps115
      go_wp2_with fail
      obtain ⟨W, hW, K1, K2, K3, BW, ZW⟩ := alloc3 w #[.bool true, .slice A1 n1 c1] #[.bool false, .slice A2 n2 c2] #[.bool false, .slice none 0 0] 95 95 25
      rw [hW]
      clear hW
      refine (Cmp_arg ((U1.out.below BW.out).arg (L_up S1.out (by decide))) ((U2.out.below BW.out).arg (L_up S2.out (by decide)))).mono ?_
      rw [HC.out]
      rintro e w1 ⟨rfl, d1⟩
      have k1 := K1.out.below' d1.out
      have k2 := K2.out.below' d1.out
      have k3 := K3.out.below' d1.out
      have z1 : w.heap.size + 1 + 1 < w1.heap.size := by have := d1.out.size; have := ZW.out; omega
      have B1 := hide (BW.out.trans (d1.out.mono BW.out.size))
      have a0 := k1.at_ 0 rfl
      have a1 := k1.at_ 1 rfl
      have a2 := k2.at_ 0 rfl
      have a3 := k2.at_ 1 rfl
      have f0 := k1.frozen 0
      have f1 := k1.frozen 1
      have f2 := k2.frozen 0
      have f3 := k2.frozen 1
      clear d1 HC K1 K2 K3
      have m1 := hide ((((k1.set_ 0 (.bool false)).set_ 1 (.slice A2 n2 c2)).far (p := ⟨w.heap.size + 1, 0, none⟩) (by simp) (.bool true)).far (p := ⟨w.heap.size + 1, 1, none⟩) (by simp) (.slice A1 n1 c1))
      have m2 := hide ((((k2.far (p := ⟨w.heap.size, 0, none⟩) (by simp) (.bool false)).far (p := ⟨w.heap.size, 1, none⟩) (by simp) (.slice A2 n2 c2)).set_ 0 (.bool true)).set_ 1 (.slice A1 n1 c1))
      have m3 := hide ((((k3.far (p := ⟨w.heap.size, 0, none⟩) (by simp; omega) (.bool false)).far (p := ⟨w.heap.size, 1, none⟩) (by simp; omega) (.slice A2 n2 c2)).far (p := ⟨w.heap.size + 1, 0, none⟩) (by simp) (.bool true)).far (p := ⟨w.heap.size + 1, 1, none⟩) (by simp) (.slice A1 n1 c1))
      clear k1 k2 k3
      go_wp2_with fail
      refine (Sub_ge (U2.out.below (by (repeat (first | exact B1 | exact Below.refl _ _ | refine Below.setCell ?_ (by first | (simp; done) | (simp; omega)) _ | refine Below.alloc ?_ (by first | (simp; done) | (simp; omega)) _)))) (U1.out.below (by (repeat (first | exact B1 | exact Below.refl _ _ | refine Below.setCell ?_ (by first | (simp; done) | (simp; omega)) _ | refine Below.alloc ?_ (by first | (simp; done) | (simp; omega)) _)))) (L_up S2.out (by decide)) (L_up S1.out (by decide)) HL.out).mono ?_
      rintro e w2 ⟨u, rfl, ru, d2⟩
      have j1 := m1.out.below' d2.out
      have j3 := hide (m3.out.below' d2.out)
      have g0 := j1.at_ 0 rfl
      have B2 := hide (below_tr B1.out (Below.refl _ _))
      have B3 : Hid (Below w.heap.size w w2) := Below.trans (by (repeat (first | exact B1 | exact Below.refl _ _ | refine Below.setCell ?_ (by first | (simp; done) | (simp; omega)) _ | refine Below.alloc ?_ (by first | (simp; done) | (simp; omega)) _))) (d2.out.mono (by first | omega | (simp [World.setCell]; omega)))
      clear a0 a1 a2 a3 f0 f1 f2 f3 m1 m2 m3 j1 d2
      obtain ⟨A9, c9, e9, _⟩ := ru.out.can
      subst e9
      have ru2 := hide (ru.out.mono (B := _) (B' := w.heap.size) (by first | omega | (simp [World.setCell]; omega)))
      clear ru B1 B2
      go_wp2_with fail
      refine (isigned_ok ru2.out.can).mono ?_
      rintro e w3 ⟨rfl, d3⟩
      have R9 := hide (intR_of_parts (b := false) (ru2.out.below d3.out) Z1.out Z2.out)
      have B9 := hide (B3.out.trans (d3.out.mono B3.out.size))
      have K4 := hide (j3.out.below' d3.out)
      have h0 := K4.out.at_ 0 rfl
      have h1 := K4.out.at_ 1 rfl
      have h2 := K4.out.frozen 0
      have h3 := K4.out.frozen 1
      clear ru2 B3 d3 j3 Z2 g0
      generalize (false && decide (y.natAbs - x.natAbs ≠ 0)) = b9 at *
      generalize (limbs (y.natAbs - x.natAbs)).length = n9 at *
      go_wp2
      refine bodyPost_ret (v := .agg #[.bool b9, .slice A9 n9 c9]) (by simp [results, Tryz.results115, go_sem, h0, h1, h2, h3]) rfl ?_
      exact opq_end hR ⟨_, rfl, R9.out.only K4.out (by decide) (((Only.refl _ _).set _ _).set _ _), (by (repeat (first | exact B9 | exact Below.refl _ _ | refine Below.setCell ?_ (by first | (simp; done) | (simp; omega)) _ | refine Below.alloc ?_ (by first | (simp; done) | (simp; omega)) _)))⟩
    case neg =>
      have Z1 : Hid ((x + y).natAbs = x.natAbs - y.natAbs) := by
        have q1 := e1.out
        have q2 := e2.out
        simp only [decide_eq_true_eq, decide_eq_false_iff_not] at q1 q2
        show _ = _
        omega
      have Z2 : Hid (decide (x + y < 0) = (true && decide (x.natAbs - y.natAbs ≠ 0))) := by
        have q1 := e1.out
        have q2 := e2.out
        simp only [decide_eq_true_eq, decide_eq_false_iff_not] at q1 q2
        show _ = _
        rw [Bool.eq_iff_iff]
        simp
        try omega
      have HL := hide (show y.natAbs ≤ x.natAbs by omega)
      have HC : Hid (¬ cmpN x.natAbs y.natAbs < 0) := by
        show ¬ _; unfold cmpN; rw [if_neg hlt]; split <;> omega
      clear hlt
      go_enter Tryz.func115, Tryz.ntmps115
      go_wp2_with fail
      obtain ⟨W, hW, K1, K2, K3, BW, ZW⟩ := alloc3 w #[.bool true, .slice A1 n1 c1] #[.bool false, .slice A2 n2 c2] #[.bool false, .slice none 0 0] 95 95 25
      rw [hW]
      clear hW
      refine (Cmp_arg ((U1.out.below BW.out).arg (L_up S1.out (by decide))) ((U2.out.below BW.out).arg (L_up S2.out (by decide)))).mono ?_
      obtain ⟨r, hr⟩ : ∃ r, r = cmpN x.natAbs y.natAbs := ⟨_, rfl⟩
      have hr0 : decide (r < 0) = false := by rw [hr]; simpa using HC.out
      rw [← hr]
      clear hr
      rintro e w1 ⟨rfl, d1⟩
      have k1 := K1.out.below' d1.out
      have k2 := K2.out.below' d1.out
      have k3 := K3.out.below' d1.out
      have z1 : w.heap.size + 1 + 1 < w1.heap.size := by have := d1.out.size; have := ZW.out; omega
      have B1 := hide (BW.out.trans (d1.out.mono BW.out.size))
      have a0 := k1.at_ 0 rfl
      have a1 := k1.at_ 1 rfl
      have a2 := k2.at_ 0 rfl
      have a3 := k2.at_ 1 rfl
      have f0 := k1.frozen 0
      have f1 := k1.frozen 1
      have f2 := k2.frozen 0
      have f3 := k2.frozen 1
      clear d1 HC K1 K2 K3
      have m1 := hide k1
      have m2 := hide k2
      have m3 := hide k3
      clear k1 k2 k3
      go_wp2_with fail
      refine (Sub_ge (U1.out.below (by (repeat (first | exact B1 | exact Below.refl _ _ | refine Below.setCell ?_ (by first | (simp; done) | (simp; omega)) _ | refine Below.alloc ?_ (by first | (simp; done) | (simp; omega)) _)))) (U2.out.below (by (repeat (first | exact B1 | exact Below.refl _ _ | refine Below.setCell ?_ (by first | (simp; done) | (simp; omega)) _ | refine Below.alloc ?_ (by first | (simp; done) | (simp; omega)) _)))) (L_up S1.out (by decide)) (L_up S2.out (by decide)) HL.out).mono ?_
      rintro e w2 ⟨u, rfl, ru, d2⟩
      have j1 := m1.out.below' d2.out
      have j3 := hide (m3.out.below' d2.out)
      have g0 := j1.at_ 0 rfl
      have B2 := hide (below_tr B1.out (Below.refl _ _))
      have B3 : Hid (Below w.heap.size w w2) := Below.trans (by (repeat (first | exact B1 | exact Below.refl _ _ | refine Below.setCell ?_ (by first | (simp; done) | (simp; omega)) _ | refine Below.alloc ?_ (by first | (simp; done) | (simp; omega)) _))) (d2.out.mono (by first | omega | (simp [World.setCell]; omega)))
      clear a0 a1 a2 a3 f0 f1 f2 f3 m1 m2 m3 j1 d2
      obtain ⟨A9, c9, e9, _⟩ := ru.out.can
      subst e9
      have ru2 := hide (ru.out.mono (B := _) (B' := w.heap.size) (by first | omega | (simp [World.setCell]; omega)))
      clear ru B1 B2
      go_wp2_with fail
      refine (isigned_ok ru2.out.can).mono ?_
      rintro e w3 ⟨rfl, d3⟩
      have R9 := hide (intR_of_parts (b := true) (ru2.out.below d3.out) Z1.out Z2.out)
      have B9 := hide (B3.out.trans (d3.out.mono B3.out.size))
      have K4 := hide (j3.out.below' d3.out)
      have h0 := K4.out.at_ 0 rfl
      have h1 := K4.out.at_ 1 rfl
      have h2 := K4.out.frozen 0
      have h3 := K4.out.frozen 1
      clear ru2 B3 d3 j3 Z2 g0
      generalize (true && decide (x.natAbs - y.natAbs ≠ 0)) = b9 at *
      generalize (limbs (x.natAbs - y.natAbs)).length = n9 at *
      go_wp2
      refine bodyPost_ret (v := .agg #[.bool b9, .slice A9 n9 c9]) (by simp [results, Tryz.results115, go_sem, h0, h1, h2, h3]) rfl ?_
      exact opq_end hR ⟨_, rfl, R9.out.only K4.out (by decide) (((Only.refl _ _).set _ _).set _ _), (by (repeat (first | exact B9 | exact Below.refl _ _ | refine Below.setCell ?_ (by first | (simp; done) | (simp; omega)) _ | refine Below.alloc ?_ (by first | (simp; done) | (simp; omega)) _)))⟩
end Go.Proofs.YtnpfochbpdfcmaaGreatDoor
