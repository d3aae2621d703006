/- the laws of rats: RatsFloors. -/
import Derived.Test.YtnpfochbpdfcmaaGreatDoorKm
set_option linter.unusedVariables false
set_option linter.unusedSimpArgs false
set_option maxRecDepth 100000
namespace Go.Proofs.YtnpfochbpdfcmaaGreatDoor
open Go.RowKit

set_option maxHeartbeats 8000000 in
theorem RatsFloors_ok (w : World) (b1 : Bool) (A1 : Option Addr) (n1 c1 : Nat) (xs1 : List Nat) (D1 : Option Addr) (m1 k1 : Nat) (ys1 : List Nat) (h1 : Rd w A1 n1 xs1) (i1 : Is32 xs1) (l1 : n1 ≤ c1) (t1 : n1 ≤ 70368744177664) (h1' : Rd w D1 m1 ys1) (i1' : Is32 ys1) (l1' : m1 ≤ k1) (t1' : m1 ≤ 70368744177664) (hT : Tab w) (hM : MaxL w) :
    Calls Tryz.prog 8 #[.agg #[.bool b1, .slice A1 n1 c1, .slice D1 m1 k1]] w fun e w' => e = .returned (.bool true) ∧ Hid (Below w.heap.size w w') := by
  refine opq fun R hR => ?_
  have T := hide hT
  have M := hide hM
  clear hT hM
  replace h1 := hide h1
  replace i1 := hide i1
  replace h1' := hide h1'
  replace i1' := hide i1'
  go_enter Tryz.func8, Tryz.ntmps8
  have b0 := hide (Below.refl w.heap.size w)
  have K1 := hide (Blk.new_at w (w.heap.size) (by simp) 27 #[.bool b1, .slice A1 n1 c1, .slice D1 m1 k1])
  have y := (Below.refl w.heap.size w).alloc (Nat.le_refl _) (.cells #[.bool b1, .slice A1 n1 c1, .slice D1 m1 k1] 27)
  replace b0 := hide (below_tr b0.out y)
  clear y
  go_wp2_with fail
  refine (ralive_P _ (T.out.below b0.out) (M.out.below b0.out)).mono ?_
  rintro e w1 ⟨_, rfl, d0, rfl⟩
  replace K1 := hide (K1.out.below' d0)
  replace b0 := hide (below_tr b0.out d0)
  clear d0
  have K1c0 : w1.cell? ⟨w.heap.size, 0, none⟩ = some (.bool b1) := K1.out.at_ 0 rfl
  have K1c1 : w1.cell? ⟨w.heap.size, 1, none⟩ = some (.slice A1 n1 c1) := K1.out.at_ 1 rfl
  have K1c2 : w1.cell? ⟨w.heap.size, 2, none⟩ = some (.slice D1 m1 k1) := K1.out.at_ 2 rfl
  by_cases gg : 60 < n1 + m1
  case pos =>
    have y := (Below.refl w1.heap.size w1).alloc (Nat.le_refl _) (.cells #[.bool b1, .slice A1 n1 c1, .slice D1 m1 k1] 27)
    replace K1 := hide (K1.out.below' y)
    replace b0 := hide (below_tr b0.out y)
    clear y
    go_wp2_with fail
    refine (rgreat1 (w := w1) rfl 60 (by decide) t1 t1' true (by simp; omega)).mono ?_
    rintro e w2 ⟨_, rfl, d0, rfl⟩
    replace K1 := hide (K1.out.below' d0)
    replace b0 := hide (below_tr b0.out d0)
    clear d0
    go_wp2_with fail
    refine (ralive_P _ (T.out.below b0.out) (M.out.below b0.out)).mono ?_
    rintro e w3 ⟨_, rfl, d0, rfl⟩
    replace K1 := hide (K1.out.below' d0)
    replace b0 := hide (below_tr b0.out d0)
    clear d0
    go_wp2
    exact opq_end hR ⟨rfl, b0⟩
  have y := (Below.refl w1.heap.size w1).alloc (Nat.le_refl _) (.cells #[.bool b1, .slice A1 n1 c1, .slice D1 m1 k1] 27)
  replace K1 := hide (K1.out.below' y)
  replace b0 := hide (below_tr b0.out y)
  clear y
  go_wp2_with fail
  refine (rgreat1 (w := w1) rfl 60 (by decide) t1 t1' false (by simp; omega)).mono ?_
  rintro e w2 ⟨_, rfl, d0, rfl⟩
  replace K1 := hide (K1.out.below' d0)
  replace b0 := hide (below_tr b0.out d0)
  clear d0
  clear K1c0 K1c1 K1c2
  have K1c0 : w2.cell? ⟨w.heap.size, 0, none⟩ = some (.bool b1) := K1.out.at_ 0 rfl
  have K1c1 : w2.cell? ⟨w.heap.size, 1, none⟩ = some (.slice A1 n1 c1) := K1.out.at_ 1 rfl
  have K1c2 : w2.cell? ⟨w.heap.size, 2, none⟩ = some (.slice D1 m1 k1) := K1.out.at_ 2 rfl
  have P1 := hide (rprt_of b1 h1.out i1.out l1 (by omega) h1'.out i1'.out l1' (by omega))
  have S1 : Hid (H (rv b1 xs1 ys1) 60) := H_rv i1.out i1'.out (by rw [h1.out.1]; omega) (by rw [h1'.out.1]; omega) (by decide)
  by_cases r1 : rok b1 xs1 ys1 = false
  case pos =>
    go_wp2_with fail
    refine (rCheck_P (P1.out.below b0.out) (T.out.below b0.out) false r1).mono ?_
    rintro e w3 ⟨_, rfl, d0, rfl⟩
    replace K1 := hide (K1.out.below' d0)
    replace b0 := hide (below_tr b0.out d0)
    clear d0
    go_wp2_with fail
    refine (ralive_P _ (T.out.below b0.out) (M.out.below b0.out)).mono ?_
    rintro e w4 ⟨_, rfl, d0, rfl⟩
    replace K1 := hide (K1.out.below' d0)
    replace b0 := hide (below_tr b0.out d0)
    clear d0
    go_wp2
    exact opq_end hR ⟨rfl, b0⟩
  replace r1 : rok b1 xs1 ys1 = true := by simpa using r1
  go_wp2_with fail
  refine (rCheck_P (P1.out.below b0.out) (T.out.below b0.out) true r1).mono ?_
  rintro e w3 ⟨_, rfl, d0, rfl⟩
  replace K1 := hide (K1.out.below' d0)
  replace b0 := hide (below_tr b0.out d0)
  clear d0
  clear K1c0 K1c1 K1c2
  have K1c0 : w3.cell? ⟨w.heap.size, 0, none⟩ = some (.bool b1) := K1.out.at_ 0 rfl
  have K1c1 : w3.cell? ⟨w.heap.size, 1, none⟩ = some (.slice A1 n1 c1) := K1.out.at_ 1 rfl
  have K1c2 : w3.cell? ⟨w.heap.size, 2, none⟩ = some (.slice D1 m1 k1) := K1.out.at_ 2 rfl
  have a1 := hide (P1.out.can r1)
  clear P1 h1 i1 h1' i1' r1
  generalize rv b1 xs1 ys1 = x at *
  clear gg
  clear K1c0 K1c1 K1c2
  have sf : Hid (L x.floor.natAbs ≤ 1000000000000) := L_up (floor_L S1.out) (by decide)
  have sx : Hid (H (Rat.divInt x.floor 1) 61) := H_floor S1.out
  have K1c0 : w3.cell? ⟨w.heap.size, 0, none⟩ = some (.bool b1) := K1.out.at_ 0 rfl
  have K1c1 : w3.cell? ⟨w.heap.size, 1, none⟩ = some (.slice A1 n1 c1) := K1.out.at_ 1 rfl
  have K1c2 : w3.cell? ⟨w.heap.size, 2, none⟩ = some (.slice D1 m1 k1) := K1.out.at_ 2 rfl
  go_wp2_with fail
  refine (rFloor_P ((a1.out.below b0.out).arg (S1.out.up (by decide))) (T.out.below b0.out)).mono ?_
  rintro e w4 ⟨v3, rfl, d0, r3⟩
  replace K1 := hide (K1.out.below' d0)
  replace b0 := hide (below_tr b0.out d0)
  have N := hide (r3.can)
  clear d0
  clear r3
  obtain ⟨b3, A3, n3, c3, rfl⟩ := N.out.slice
  clear K1c0 K1c1 K1c2
  have K3 := hide (Blk.new_at w4 (w4.heap.size) (by simp) 25 #[.bool b3, .slice A3 n3 c3])
  have y := (Below.refl w4.heap.size w4).alloc (Nat.le_refl _) (.cells #[.bool b3, .slice A3 n3 c3] 25)
  replace K1 := hide (K1.out.below' y)
  replace N := hide (N.out.below y)
  replace b0 := hide (below_tr b0.out y)
  clear y
  go_wp2
  obtain ⟨V1_4, hV⟩ : ∃ V, (w4.alloc (.cells #[.bool b3, .slice A3 n3 c3] 25)) = V := ⟨_, rfl⟩
  rw [hV] at K1 N K3 b0
  rw [hV]
  clear hV
  refine RR.wp_region_R 8 V1_4 4 27 [(24, (.int0 V1_4 x.floor)), (25, (.intR 1 V1_4.heap.size)), (26, (.tupE (.ratR (Rat.divInt x.floor 1) V1_4.heap.size) (.int .i64 0))), (23, (.tupE (.ratR (Rat.divInt x.floor 1) V1_4.heap.size) (.int .i64 0))), (27, (.ratR (Rat.divInt x.floor 1) V1_4.heap.size)), (28, .eq ((.int .i64 0))), (4, (.var TR 3))] [false, false, false, false, true, false, false, false, false, false, false, false, false, false, false, false, false, false, false, false, false, false, false, true, true, true, true, true, true, false, false, false, false, false, false, false, false, false, false, false, false, false, false, false, false, false, false, false, false, false, false, false, false, false, false, false, false, false, false, false, false, false] mixed (by kernel_rfl) (by kernel_rfl) (by kernel_rfl) (Below.refl _ _).drew (by kernel_rfl) (by kernel_rfl) (by kernel_rfl) ⟨?_, ?_, ?_, ?_, ?_, ?_, ?_, ?_, trivial⟩ ?_
  · exact (.inl ⟨rfl, .load (.agg #[.bool b3, .slice A3 n3 c3]) (.inl rfl) rfl rfl (fun a w' hC hs hl => by rw [show a.eval (.tmp 3) = (.pointer (some ⟨w4.heap.size, 0, none⟩) : Value) from (hs 3 (by kernel_rfl))]; exact ⟨ld_Int_ ((K3.out.below' hC).at_ 0 rfl) ((K3.out.below' hC).at_ 1 rfl), N.out⟩)⟩)
  · exact (.inl ⟨rfl, .call (.inl rfl) rfl rfl fn_iOf (fun a w' hC hs hl => RR.iOf_R w' _ hC.size 1 (by decide) (by decide))⟩)
  · exact (.inl ⟨rfl, .call (.inl rfl) rfl rfl fn_rMake (fun a w' hC hs hl => RR.rMake_T _ hC.size (ICan.below (hl 24 (by kernel_rfl) (by kernel_rfl)) hC) sf.out (IntR.can (hl 25 (by kernel_rfl) (by kernel_rfl))) one_L (T.out.below (b0.out.trans (hC.mono b0.out.size))) (by decide))⟩)
  · exact (.inl ⟨rfl, .move (.inl rfl) (.inl rfl) rfl (by kernel_rfl) (by kernel_rfl) rfl⟩)
  · exact (.inl ⟨rfl, .make (.inl rfl) (by intro T e; cases e) rfl (fun a w' hC hs hl => by
      obtain ⟨u, e, h⟩ := (hl 23 (by kernel_rfl) (by kernel_rfl))
      have e' : a.tmps[23]?.getD undef = _ := (by simp [Act.eval] : _ = a.eval (.tmp 23)).trans e
      exact ⟨u, by simp [execOp, go_sem, e'], h⟩)⟩)
  · exact (.inl ⟨rfl, .make (.inl rfl) (by intro T e; cases e) rfl (fun a w' hC hs hl => by
      obtain ⟨u, e, h⟩ := (hl 23 (by kernel_rfl) (by kernel_rfl))
      have e' : a.tmps[23]?.getD undef = _ := (by simp [Act.eval] : _ = a.eval (.tmp 23)).trans e
      exact ⟨_, by simp [execOp, go_sem, e'], rfl⟩)⟩)
  · exact (.inl ⟨rfl, .alloc (.agg #[.bool false, .slice none 0 0, .slice none 0 0]) (.inl rfl) rfl rfl (fun a w' hC => ⟨run_alloc_Rat _ _ _ _ _ _ _, _, _, rfl, hC.size, Blk.new _ _ _, rfl⟩)⟩)
  · exact (.storeR (fun v w h => RatR.slice h) rfl rfl rfl (by kernel_rfl) (by kernel_rfl) (by kernel_rfl) (by kernel_rfl) rfl)
  intro f w5 hC hF _ hE
  obtain ⟨g4, b4, A4, n4, c4, D4, m4, k4, ep, lp, er, K4⟩ := hE
  have f28 : f 28 = (.int .i64 0) := hF 28 (by kernel_rfl)
  have fr : RatR (Rat.divInt x.floor 1) V1_4.heap.size w5 (f 27) := hF 27 (by kernel_rfl)
  rw [er] at fr
  have X := hide fr.can
  clear fr
  replace K4 := hide K4
  clear hF lp
  simp only [patch, List.drop]
  rw [f28]
  clear f28
  generalize f 24 = y24_ at *
  generalize f 25 = y25_ at *
  generalize f 26 = y26_ at *
  generalize f 23 = y23_ at *
  generalize f 27 = y27_ at *
  generalize f 4 = y4_ at *
  subst er ep
  replace K1 := hide (K1.out.below' hC)
  replace N := hide (N.out.below hC)
  replace K3 := hide (K3.out.below' hC)
  replace b0 := hide (b0.out.trans (hC.mono b0.out.size))
  clear hC
  obtain ⟨c, hc, hc0, hw⟩ : ∃ c : Int, Hid (cmpQ (Rat.divInt x.floor 1) x = c) ∧ c ≤ 0 ∧ Hid ((c == 0) = decide (x.den = 1)) := by
    by_cases h : x.den = 1
    · exact ⟨0, floor_whole h, by omega, by show _ = _; simp [h]⟩
    · exact ⟨-1, floor_part h, by omega, by show _ = _; simp [h]⟩
  have K1c0 : w5.cell? ⟨w.heap.size, 0, none⟩ = some (.bool b1) := K1.out.at_ 0 rfl
  have K1c1 : w5.cell? ⟨w.heap.size, 1, none⟩ = some (.slice A1 n1 c1) := K1.out.at_ 1 rfl
  have K1c2 : w5.cell? ⟨w.heap.size, 2, none⟩ = some (.slice D1 m1 k1) := K1.out.at_ 2 rfl
  have K4c0 : w5.cell? ⟨g4, 0, none⟩ = some (.bool b4) := K4.out.at_ 0 rfl
  have K4c1 : w5.cell? ⟨g4, 1, none⟩ = some (.slice A4 n4 c4) := K4.out.at_ 1 rfl
  have K4c2 : w5.cell? ⟨g4, 2, none⟩ = some (.slice D4 m4 k4) := K4.out.at_ 2 rfl
  go_wp2_with fail
  refine (rCmp_eq (X.out.arg (sx.out.up (by decide))) ((a1.out.below b0.out).arg (S1.out.up (by decide))) (T.out.below b0.out) c hc.out).mono ?_
  rintro e w6 ⟨_, rfl, d0, rfl⟩
  replace K1 := hide (K1.out.below' d0)
  replace N := hide (N.out.below d0)
  replace K3 := hide (K3.out.below' d0)
  replace K4 := hide (K4.out.below' d0)
  replace X := hide (X.out.below d0)
  replace b0 := hide (below_tr b0.out d0)
  clear d0
  clear K1c0 K1c1 K1c2 K4c0 K4c1 K4c2
  go_wp2
  have Q1_ : Hid (H ((Rat.divInt (1) (1))) 1) := H_small (by decide +kernel) (by decide +kernel)
  have Q2_ : Hid (H (((Rat.divInt x.floor 1) + (Rat.divInt (1) (1)))) 63) := H_add sx.out Q1_.out (by decide)
  refine wp_region_facts 5 (fun w' => Below w6.heap.size w6 w') [(32, (.rat0 w6 (Rat.divInt x.floor 1))), (33, (.rat (Rat.divInt (1) (1)))), (34, (.rat ((Rat.divInt x.floor 1) + (Rat.divInt (1) (1))))), (35, (.rat0 w x)), (36, .eq (.int .i64 (1)))] [false, false, false, false, false, false, false, false, false, false, false, false, false, false, false, false, false, false, false, false, false, false, false, false, false, false, false, false, false, false, false, false, true, true, true, true, true, false, false, false, false, false, false, false, false, false, false, false, false, false, false, false, false, false, false, false, false, false, false, false, false, false] mixed (by kernel_rfl) (by kernel_rfl) (by kernel_rfl) (fun _ _ h hb => h.trans (hb.mono h.size)) ((Below.refl _ _).drew) ⟨?_, ?_, ?_, ?_, ?_, trivial⟩ ?_
  · exact .load (.agg #[.bool b4, .slice A4 n4 c4, .slice D4 m4 k4]) (.inl rfl) rfl rfl (fun a w' hC hs hl => by rw [show a.eval (.tmp 4) = (.pointer (some ⟨g4, 0, none⟩) : Value) from (hs 4 (by kernel_rfl))]; exact ⟨ld_Rat_ ((K4.out.below' hC).at_ 0 rfl) ((K4.out.below' hC).at_ 1 rfl) ((K4.out.below' hC).at_ 2 rfl), X.out⟩)
  · exact .call (.inl rfl) rfl rfl fn_rlof (fun a w' hC hs hl => rlof_C w' (1) (1) (by decide) (by decide) (by decide) (by decide) (by decide) (T.out.below (b0.out.trans (hC.mono b0.out.size))))
  · exact .call (.inl rfl) rfl rfl fn_rAdd (fun a w' hC hs hl => rAdd_C (RCan.arg (RCan.below (hl 32 (by kernel_rfl) (by kernel_rfl)) hC) (sx.out.up (by decide))) (RCan.arg (hl 33 (by kernel_rfl) (by kernel_rfl)) (Q1_.out.up (by decide))) (T.out.below (b0.out.trans (hC.mono b0.out.size))))
  · exact .load (.agg #[.bool b1, .slice A1 n1 c1, .slice D1 m1 k1]) (.inl rfl) rfl rfl (fun a w' hC hs hl => by rw [show a.eval (.tmp 1) = (.pointer (some ⟨w.heap.size, 0, none⟩) : Value) from (hs 1 (by kernel_rfl))]; exact ⟨ld_Rat_ ((K1.out.below' hC).at_ 0 rfl) ((K1.out.below' hC).at_ 1 rfl) ((K1.out.below' hC).at_ 2 rfl), a1.out⟩)
  · exact .call (.inl rfl) rfl rfl fn_rCmp (fun a w' hC hs hl => rCmp_eq (RCan.arg (hl 34 (by kernel_rfl) (by kernel_rfl)) (Q2_.out.up (by decide))) (RCan.arg (RCan.below (hl 35 (by kernel_rfl) (by kernel_rfl)) (b0.out.trans (hC.mono b0.out.size))) (S1.out.up (by decide))) (T.out.below (b0.out.trans (hC.mono b0.out.size))) (1) (floor_more x))
  intro f w7 hC hF _
  have f0 : f 36 = .int .i64 (1) := hF 36 (by kernel_rfl)
  clear hF
  simp only [patch, List.drop]
  rw [f0]
  clear f0
  generalize f 32 = y32_ at *
  generalize f 33 = y33_ at *
  generalize f 34 = y34_ at *
  generalize f 35 = y35_ at *
  replace K1 := hide (K1.out.below' hC)
  replace N := hide (N.out.below hC)
  replace K3 := hide (K3.out.below' hC)
  replace K4 := hide (K4.out.below' hC)
  replace X := hide (X.out.below hC)
  replace b0 := hide (b0.out.trans (hC.mono b0.out.size))
  clear hC
  have K1c0 : w7.cell? ⟨w.heap.size, 0, none⟩ = some (.bool b1) := K1.out.at_ 0 rfl
  have K1c1 : w7.cell? ⟨w.heap.size, 1, none⟩ = some (.slice A1 n1 c1) := K1.out.at_ 1 rfl
  have K1c2 : w7.cell? ⟨w.heap.size, 2, none⟩ = some (.slice D1 m1 k1) := K1.out.at_ 2 rfl
  have K3c0 : w7.cell? ⟨w4.heap.size, 0, none⟩ = some (.bool b3) := K3.out.at_ 0 rfl
  have K3c1 : w7.cell? ⟨w4.heap.size, 1, none⟩ = some (.slice A3 n3 c3) := K3.out.at_ 1 rfl
  have K4c0 : w7.cell? ⟨g4, 0, none⟩ = some (.bool b4) := K4.out.at_ 0 rfl
  have K4c1 : w7.cell? ⟨g4, 1, none⟩ = some (.slice A4 n4 c4) := K4.out.at_ 1 rfl
  have K4c2 : w7.cell? ⟨g4, 2, none⟩ = some (.slice D4 m4 k4) := K4.out.at_ 2 rfl
  go_wp2_with fail
  refine (iCheck_c N.out sf.out).mono ?_
  rintro e w8 ⟨_, rfl, d0, rfl⟩
  replace K1 := hide (K1.out.below' d0)
  replace N := hide (N.out.below d0)
  replace K3 := hide (K3.out.below' d0)
  replace K4 := hide (K4.out.below' d0)
  replace X := hide (X.out.below d0)
  replace b0 := hide (below_tr b0.out d0)
  clear d0
  clear K1c0 K1c1 K1c2 K3c0 K3c1 K4c0 K4c1 K4c2
  have K1c0 : w8.cell? ⟨w.heap.size, 0, none⟩ = some (.bool b1) := K1.out.at_ 0 rfl
  have K1c1 : w8.cell? ⟨w.heap.size, 1, none⟩ = some (.slice A1 n1 c1) := K1.out.at_ 1 rfl
  have K1c2 : w8.cell? ⟨w.heap.size, 2, none⟩ = some (.slice D1 m1 k1) := K1.out.at_ 2 rfl
  have K3c0 : w8.cell? ⟨w4.heap.size, 0, none⟩ = some (.bool b3) := K3.out.at_ 0 rfl
  have K3c1 : w8.cell? ⟨w4.heap.size, 1, none⟩ = some (.slice A3 n3 c3) := K3.out.at_ 1 rfl
  have K4c0 : w8.cell? ⟨g4, 0, none⟩ = some (.bool b4) := K4.out.at_ 0 rfl
  have K4c1 : w8.cell? ⟨g4, 1, none⟩ = some (.slice A4 n4 c4) := K4.out.at_ 1 rfl
  have K4c2 : w8.cell? ⟨g4, 2, none⟩ = some (.slice D4 m4 k4) := K4.out.at_ 2 rfl
  go_wp2_with fail
  refine (rWhole_eq (X.out.arg (sx.out.up (by decide))) (T.out.below b0.out) true (by rw [divInt_one]; rfl)).mono ?_
  rintro e w9 ⟨_, rfl, d0, rfl⟩
  replace K1 := hide (K1.out.below' d0)
  replace N := hide (N.out.below d0)
  replace K3 := hide (K3.out.below' d0)
  replace K4 := hide (K4.out.below' d0)
  replace X := hide (X.out.below d0)
  replace b0 := hide (below_tr b0.out d0)
  clear d0
  clear K1c0 K1c1 K1c2 K3c0 K3c1 K4c0 K4c1 K4c2
  have K1c0 : w9.cell? ⟨w.heap.size, 0, none⟩ = some (.bool b1) := K1.out.at_ 0 rfl
  have K1c1 : w9.cell? ⟨w.heap.size, 1, none⟩ = some (.slice A1 n1 c1) := K1.out.at_ 1 rfl
  have K1c2 : w9.cell? ⟨w.heap.size, 2, none⟩ = some (.slice D1 m1 k1) := K1.out.at_ 2 rfl
  have K3c0 : w9.cell? ⟨w4.heap.size, 0, none⟩ = some (.bool b3) := K3.out.at_ 0 rfl
  have K3c1 : w9.cell? ⟨w4.heap.size, 1, none⟩ = some (.slice A3 n3 c3) := K3.out.at_ 1 rfl
  have K4c0 : w9.cell? ⟨g4, 0, none⟩ = some (.bool b4) := K4.out.at_ 0 rfl
  have K4c1 : w9.cell? ⟨g4, 1, none⟩ = some (.slice A4 n4 c4) := K4.out.at_ 1 rfl
  have K4c2 : w9.cell? ⟨g4, 2, none⟩ = some (.slice D4 m4 k4) := K4.out.at_ 2 rfl
  go_wp2_with fail
  refine (rWhole_eq ((a1.out.below b0.out).arg (S1.out.up (by decide))) (T.out.below b0.out) _ rfl).mono ?_
  rintro e w10 ⟨_, rfl, d0, rfl⟩
  replace K1 := hide (K1.out.below' d0)
  replace N := hide (N.out.below d0)
  replace K3 := hide (K3.out.below' d0)
  replace K4 := hide (K4.out.below' d0)
  replace X := hide (X.out.below d0)
  replace b0 := hide (below_tr b0.out d0)
  clear d0
  clear K1c0 K1c1 K1c2 K3c0 K3c1 K4c0 K4c1 K4c2
  rw [← hw.out]
  go_wp2
  exact opq_end hR ⟨ret_bool (by simp), b0⟩
end Go.Proofs.YtnpfochbpdfcmaaGreatDoor
