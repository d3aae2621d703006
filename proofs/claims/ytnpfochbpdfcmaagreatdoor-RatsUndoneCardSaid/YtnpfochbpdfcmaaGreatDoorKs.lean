/- the laws of rats: RatsUndone. -/
import Derived.Test.YtnpfochbpdfcmaaGreatDoorKk
import Derived.Test.YtnpfochbpdfcmaaGreatDoorFreeS
set_option linter.unusedVariables false
set_option linter.unusedSimpArgs false
set_option maxRecDepth 100000
namespace Go.Proofs.YtnpfochbpdfcmaaGreatDoor
open Go.RowKit

set_option maxHeartbeats 8000000 in
theorem RatsUndone_ok (w : World) (b1 : Bool) (A1 : Option Addr) (n1 c1 : Nat) (xs1 : List Nat) (D1 : Option Addr) (m1 k1 : Nat) (ys1 : List Nat) (b2 : Bool) (A2 : Option Addr) (n2 c2 : Nat) (xs2 : List Nat) (D2 : Option Addr) (m2 k2 : Nat) (ys2 : List Nat) (h1 : Rd w A1 n1 xs1) (i1 : Is32 xs1) (l1 : n1 ≤ c1) (t1 : n1 ≤ 70368744177664) (h1' : Rd w D1 m1 ys1) (i1' : Is32 ys1) (l1' : m1 ≤ k1) (t1' : m1 ≤ 70368744177664) (h2 : Rd w A2 n2 xs2) (i2 : Is32 xs2) (l2 : n2 ≤ c2) (t2 : n2 ≤ 70368744177664) (h2' : Rd w D2 m2 ys2) (i2' : Is32 ys2) (l2' : m2 ≤ k2) (t2' : m2 ≤ 70368744177664) (hT : Tab w) (hM : MaxL w) :
    Calls Tryz.prog 7 #[.agg #[.bool b1, .slice A1 n1 c1, .slice D1 m1 k1], .agg #[.bool b2, .slice A2 n2 c2, .slice D2 m2 k2]] w fun e w' => e = .returned (.bool true) ∧ Hid (Below w.heap.size w w') := by
  refine opq fun R hR => ?_
  have T := hide hT
  have M := hide hM
  clear hT hM
  replace h1 := hide h1
  replace i1 := hide i1
  replace h1' := hide h1'
  replace i1' := hide i1'
  replace h2 := hide h2
  replace i2 := hide i2
  replace h2' := hide h2'
  replace i2' := hide i2'
  go_enter Tryz.func7, Tryz.ntmps7
  have b0 := hide (Below.refl w.heap.size w)
  have K1 := hide (Blk.new_at w (w.heap.size) (by simp) 27 #[.bool b1, .slice A1 n1 c1, .slice D1 m1 k1])
  have y := (Below.refl w.heap.size w).alloc (Nat.le_refl _) (.cells #[.bool b1, .slice A1 n1 c1, .slice D1 m1 k1] 27)
  replace b0 := hide (below_tr b0.out y)
  clear y
  have K2 := hide (Blk.new_at (w.alloc (.cells #[.bool b1, .slice A1 n1 c1, .slice D1 m1 k1] 27)) (w.heap.size + 1) (by simp) 27 #[.bool b2, .slice A2 n2 c2, .slice D2 m2 k2])
  have y := (Below.refl (w.alloc (.cells #[.bool b1, .slice A1 n1 c1, .slice D1 m1 k1] 27)).heap.size (w.alloc (.cells #[.bool b1, .slice A1 n1 c1, .slice D1 m1 k1] 27))).alloc (Nat.le_refl _) (.cells #[.bool b2, .slice A2 n2 c2, .slice D2 m2 k2] 27)
  replace K1 := hide (K1.out.below' y)
  replace b0 := hide (below_tr b0.out y)
  clear y
  go_wp2_with fail
  refine (ralive_P _ (T.out.below b0.out) (M.out.below b0.out)).mono ?_
  rintro e w1 ⟨_, rfl, d0, rfl⟩
  replace K1 := hide (K1.out.below' d0)
  replace K2 := hide (K2.out.below' d0)
  replace b0 := hide (below_tr b0.out d0)
  clear d0
  have K1c0 : w1.cell? ⟨w.heap.size, 0, none⟩ = some (.bool b1) := K1.out.at_ 0 rfl
  have K1c1 : w1.cell? ⟨w.heap.size, 1, none⟩ = some (.slice A1 n1 c1) := K1.out.at_ 1 rfl
  have K1c2 : w1.cell? ⟨w.heap.size, 2, none⟩ = some (.slice D1 m1 k1) := K1.out.at_ 2 rfl
  have K2c0 : w1.cell? ⟨w.heap.size + 1, 0, none⟩ = some (.bool b2) := K2.out.at_ 0 rfl
  have K2c1 : w1.cell? ⟨w.heap.size + 1, 1, none⟩ = some (.slice A2 n2 c2) := K2.out.at_ 1 rfl
  have K2c2 : w1.cell? ⟨w.heap.size + 1, 2, none⟩ = some (.slice D2 m2 k2) := K2.out.at_ 2 rfl
  by_cases gg : 25 < n1 + m1 ∨ 25 < n2 + m2
  case pos =>
    have y := (Below.refl w1.heap.size w1).alloc (Nat.le_refl _) (.cells #[.bool b1, .slice A1 n1 c1, .slice D1 m1 k1, .bool b2, .slice A2 n2 c2, .slice D2 m2 k2] 27)
    replace K1 := hide (K1.out.below' y)
    replace K2 := hide (K2.out.below' y)
    replace b0 := hide (below_tr b0.out y)
    clear y
    go_wp2_with fail
    refine (rgreat2 (w := w1) rfl 25 (by decide) t1 t1' t2 t2' true (by simp; omega)).mono ?_
    rintro e w2 ⟨_, rfl, d0, rfl⟩
    replace K1 := hide (K1.out.below' d0)
    replace K2 := hide (K2.out.below' d0)
    replace b0 := hide (below_tr b0.out d0)
    clear d0
    go_wp2_with fail
    refine (ralive_P _ (T.out.below b0.out) (M.out.below b0.out)).mono ?_
    rintro e w3 ⟨_, rfl, d0, rfl⟩
    replace K1 := hide (K1.out.below' d0)
    replace K2 := hide (K2.out.below' d0)
    replace b0 := hide (below_tr b0.out d0)
    clear d0
    go_wp2
    exact opq_end hR ⟨rfl, b0⟩
  have y := (Below.refl w1.heap.size w1).alloc (Nat.le_refl _) (.cells #[.bool b1, .slice A1 n1 c1, .slice D1 m1 k1, .bool b2, .slice A2 n2 c2, .slice D2 m2 k2] 27)
  replace K1 := hide (K1.out.below' y)
  replace K2 := hide (K2.out.below' y)
  replace b0 := hide (below_tr b0.out y)
  clear y
  go_wp2_with fail
  refine (rgreat2 (w := w1) rfl 25 (by decide) t1 t1' t2 t2' false (by simp; omega)).mono ?_
  rintro e w2 ⟨_, rfl, d0, rfl⟩
  replace K1 := hide (K1.out.below' d0)
  replace K2 := hide (K2.out.below' d0)
  replace b0 := hide (below_tr b0.out d0)
  clear d0
  clear K1c0 K1c1 K1c2 K2c0 K2c1 K2c2
  have K1c0 : w2.cell? ⟨w.heap.size, 0, none⟩ = some (.bool b1) := K1.out.at_ 0 rfl
  have K1c1 : w2.cell? ⟨w.heap.size, 1, none⟩ = some (.slice A1 n1 c1) := K1.out.at_ 1 rfl
  have K1c2 : w2.cell? ⟨w.heap.size, 2, none⟩ = some (.slice D1 m1 k1) := K1.out.at_ 2 rfl
  have K2c0 : w2.cell? ⟨w.heap.size + 1, 0, none⟩ = some (.bool b2) := K2.out.at_ 0 rfl
  have K2c1 : w2.cell? ⟨w.heap.size + 1, 1, none⟩ = some (.slice A2 n2 c2) := K2.out.at_ 1 rfl
  have K2c2 : w2.cell? ⟨w.heap.size + 1, 2, none⟩ = some (.slice D2 m2 k2) := K2.out.at_ 2 rfl
  have P1 := hide (rprt_of b1 h1.out i1.out l1 (by omega) h1'.out i1'.out l1' (by omega))
  have S1 : Hid (H (rv b1 xs1 ys1) 25) := H_rv i1.out i1'.out (by rw [h1.out.1]; omega) (by rw [h1'.out.1]; omega) (by decide)
  have P2 := hide (rprt_of b2 h2.out i2.out l2 (by omega) h2'.out i2'.out l2' (by omega))
  have S2 : Hid (H (rv b2 xs2 ys2) 25) := H_rv i2.out i2'.out (by rw [h2.out.1]; omega) (by rw [h2'.out.1]; omega) (by decide)
  by_cases r1 : rok b1 xs1 ys1 = false
  case pos =>
    go_wp2_with fail
    refine (rCheck_P (P1.out.below b0.out) (T.out.below b0.out) false r1).mono ?_
    rintro e w3 ⟨_, rfl, d0, rfl⟩
    replace K1 := hide (K1.out.below' d0)
    replace K2 := hide (K2.out.below' d0)
    replace b0 := hide (below_tr b0.out d0)
    clear d0
    go_wp2_with fail
    refine (ralive_P _ (T.out.below b0.out) (M.out.below b0.out)).mono ?_
    rintro e w4 ⟨_, rfl, d0, rfl⟩
    replace K1 := hide (K1.out.below' d0)
    replace K2 := hide (K2.out.below' d0)
    replace b0 := hide (below_tr b0.out d0)
    clear d0
    go_wp2
    exact opq_end hR ⟨rfl, b0⟩
  replace r1 : rok b1 xs1 ys1 = true := by simpa using r1
  go_wp2_with fail
  refine (rCheck_P (P1.out.below b0.out) (T.out.below b0.out) true r1).mono ?_
  rintro e w3 ⟨_, rfl, d0, rfl⟩
  replace K1 := hide (K1.out.below' d0)
  replace K2 := hide (K2.out.below' d0)
  replace b0 := hide (below_tr b0.out d0)
  clear d0
  clear K1c0 K1c1 K1c2 K2c0 K2c1 K2c2
  have K1c0 : w3.cell? ⟨w.heap.size, 0, none⟩ = some (.bool b1) := K1.out.at_ 0 rfl
  have K1c1 : w3.cell? ⟨w.heap.size, 1, none⟩ = some (.slice A1 n1 c1) := K1.out.at_ 1 rfl
  have K1c2 : w3.cell? ⟨w.heap.size, 2, none⟩ = some (.slice D1 m1 k1) := K1.out.at_ 2 rfl
  have K2c0 : w3.cell? ⟨w.heap.size + 1, 0, none⟩ = some (.bool b2) := K2.out.at_ 0 rfl
  have K2c1 : w3.cell? ⟨w.heap.size + 1, 1, none⟩ = some (.slice A2 n2 c2) := K2.out.at_ 1 rfl
  have K2c2 : w3.cell? ⟨w.heap.size + 1, 2, none⟩ = some (.slice D2 m2 k2) := K2.out.at_ 2 rfl
  by_cases r2 : rok b2 xs2 ys2 = false
  case pos =>
    go_wp2_with fail
    refine (rCheck_P (P2.out.below b0.out) (T.out.below b0.out) false r2).mono ?_
    rintro e w4 ⟨_, rfl, d0, rfl⟩
    replace K1 := hide (K1.out.below' d0)
    replace K2 := hide (K2.out.below' d0)
    replace b0 := hide (below_tr b0.out d0)
    clear d0
    go_wp2_with fail
    refine (ralive_P _ (T.out.below b0.out) (M.out.below b0.out)).mono ?_
    rintro e w5 ⟨_, rfl, d0, rfl⟩
    replace K1 := hide (K1.out.below' d0)
    replace K2 := hide (K2.out.below' d0)
    replace b0 := hide (below_tr b0.out d0)
    clear d0
    go_wp2
    exact opq_end hR ⟨rfl, b0⟩
  replace r2 : rok b2 xs2 ys2 = true := by simpa using r2
  go_wp2_with fail
  refine (rCheck_P (P2.out.below b0.out) (T.out.below b0.out) true r2).mono ?_
  rintro e w4 ⟨_, rfl, d0, rfl⟩
  replace K1 := hide (K1.out.below' d0)
  replace K2 := hide (K2.out.below' d0)
  replace b0 := hide (below_tr b0.out d0)
  clear d0
  clear K1c0 K1c1 K1c2 K2c0 K2c1 K2c2
  have K1c0 : w4.cell? ⟨w.heap.size, 0, none⟩ = some (.bool b1) := K1.out.at_ 0 rfl
  have K1c1 : w4.cell? ⟨w.heap.size, 1, none⟩ = some (.slice A1 n1 c1) := K1.out.at_ 1 rfl
  have K1c2 : w4.cell? ⟨w.heap.size, 2, none⟩ = some (.slice D1 m1 k1) := K1.out.at_ 2 rfl
  have K2c0 : w4.cell? ⟨w.heap.size + 1, 0, none⟩ = some (.bool b2) := K2.out.at_ 0 rfl
  have K2c1 : w4.cell? ⟨w.heap.size + 1, 1, none⟩ = some (.slice A2 n2 c2) := K2.out.at_ 1 rfl
  have K2c2 : w4.cell? ⟨w.heap.size + 1, 2, none⟩ = some (.slice D2 m2 k2) := K2.out.at_ 2 rfl
  have a1 := hide (P1.out.can r1)
  clear P1 h1 i1 h1' i1' r1
  generalize rv b1 xs1 ys1 = x at *
  have a2 := hide (P2.out.can r2)
  clear P2 h2 i2 h2' i2' r2
  generalize rv b2 xs2 ys2 = y at *
  clear gg
  clear K1c0 K1c1 K1c2 K2c0 K2c1 K2c2
  go_wp2
  obtain ⟨V1_4, hV⟩ : ∃ V, w4 = V := ⟨_, rfl⟩
  rw [hV] at K1 K2 b0
  rw [hV]
  clear hV
  have Q1_ : Hid (H ((x + y)) 51) := H_add S1.out S2.out (by decide)
  have Q2_ : Hid (H (((x + y) - y)) 77) := H_sub Q1_.out S2.out (by decide)
  have Q3_ : Hid (H ((x - x)) 51) := H_sub S1.out S1.out (by decide)
  have Q4_ : Hid (H ((Rat.divInt (0) (1))) 1) := H_small (by decide +kernel) (by decide +kernel)
  have Q5_ : Hid (H ((x - y)) 51) := H_sub S1.out S2.out (by decide)
  have Q6_ : Hid (H (((x - y) + y)) 77) := H_add Q5_.out S2.out (by decide)
  refine wp_region_facts 26 (fun w' => Below V1_4.heap.size V1_4 w') [(30, (.rat0 w x)), (31, (.rat0 w y)), (32, (.rat (x + y))), (33, (.rat0 w y)), (34, (.rat ((x + y) - y))), (35, (.rat0 w x)), (36, .eq (.bool true)), (37, .eq (.bool false)), (38, .eq (.bool false)), (39, (.rat0 w x)), (40, (.rat0 w x)), (41, (.rat (x - x))), (42, (.rat (Rat.divInt (0) (1)))), (43, .eq (.bool true)), (44, .eq (.bool false)), (45, .eq (.bool false)), (46, .eq (.bool false)), (47, (.rat0 w x)), (48, (.rat0 w y)), (49, (.rat (x - y))), (50, (.rat0 w y)), (51, (.rat ((x - y) + y))), (52, (.rat0 w x)), (53, .eq (.bool true)), (54, .eq (.bool false)), (55, .eq (.bool false))] [false, false, false, false, false, false, false, false, false, false, false, false, false, false, false, false, false, false, false, false, false, false, false, false, false, false, false, false, false, false, true, true, true, true, true, true, true, true, true, true, true, true, true, true, true, true, true, true, true, true, true, true, true, true, true, true, false, false, false, false, false, false, false, false, false, false, false, false, false, false, false, false, false, false, false, false, false, false, false, false, false, false, false, false, false, false, false, false, false, false, false, false, false, false, false, false, false, false, false, false, false, false, false, false, false, false, false, false, false, false, false, false, false, false, false, false, false, false] mixed (by kernel_rfl) (by kernel_rfl) (by kernel_rfl) (fun _ _ h hb => h.trans (hb.mono h.size)) ((Below.refl _ _).drew) ⟨?_, ?_, ?_, ?_, ?_, ?_, ?_, ?_, ?_, ?_, ?_, ?_, ?_, ?_, ?_, ?_, ?_, ?_, ?_, ?_, ?_, ?_, ?_, ?_, ?_, ?_, trivial⟩ ?_
  · exact .load (.agg #[.bool b1, .slice A1 n1 c1, .slice D1 m1 k1]) (.inl rfl) rfl rfl (fun a w' hC hs hl => by rw [show a.eval (.tmp 2) = (.pointer (some ⟨w.heap.size, 0, none⟩) : Value) from (hs 2 (by kernel_rfl))]; exact ⟨ld_Rat_ ((K1.out.below' hC).at_ 0 rfl) ((K1.out.below' hC).at_ 1 rfl) ((K1.out.below' hC).at_ 2 rfl), a1.out⟩)
  · exact .load (.agg #[.bool b2, .slice A2 n2 c2, .slice D2 m2 k2]) (.inl rfl) rfl rfl (fun a w' hC hs hl => by rw [show a.eval (.tmp 3) = (.pointer (some ⟨w.heap.size + 1, 0, none⟩) : Value) from (hs 3 (by kernel_rfl))]; exact ⟨ld_Rat_ ((K2.out.below' hC).at_ 0 rfl) ((K2.out.below' hC).at_ 1 rfl) ((K2.out.below' hC).at_ 2 rfl), a2.out⟩)
  · exact .call (.inl rfl) rfl rfl fn_rAdd (fun a w' hC hs hl => rAdd_C (RCan.arg (RCan.below (hl 30 (by kernel_rfl) (by kernel_rfl)) (b0.out.trans (hC.mono b0.out.size))) (S1.out.up (by decide))) (RCan.arg (RCan.below (hl 31 (by kernel_rfl) (by kernel_rfl)) (b0.out.trans (hC.mono b0.out.size))) (S2.out.up (by decide))) (T.out.below (b0.out.trans (hC.mono b0.out.size))))
  · exact .load (.agg #[.bool b2, .slice A2 n2 c2, .slice D2 m2 k2]) (.inl rfl) rfl rfl (fun a w' hC hs hl => by rw [show a.eval (.tmp 3) = (.pointer (some ⟨w.heap.size + 1, 0, none⟩) : Value) from (hs 3 (by kernel_rfl))]; exact ⟨ld_Rat_ ((K2.out.below' hC).at_ 0 rfl) ((K2.out.below' hC).at_ 1 rfl) ((K2.out.below' hC).at_ 2 rfl), a2.out⟩)
  · exact .call (.inl rfl) rfl rfl fn_rSub (fun a w' hC hs hl => rSub_C (RCan.arg (hl 32 (by kernel_rfl) (by kernel_rfl)) (Q1_.out.up (by decide))) (RCan.arg (RCan.below (hl 33 (by kernel_rfl) (by kernel_rfl)) (b0.out.trans (hC.mono b0.out.size))) (S2.out.up (by decide))) (T.out.below (b0.out.trans (hC.mono b0.out.size))))
  · exact .load (.agg #[.bool b1, .slice A1 n1 c1, .slice D1 m1 k1]) (.inl rfl) rfl rfl (fun a w' hC hs hl => by rw [show a.eval (.tmp 2) = (.pointer (some ⟨w.heap.size, 0, none⟩) : Value) from (hs 2 (by kernel_rfl))]; exact ⟨ld_Rat_ ((K1.out.below' hC).at_ 0 rfl) ((K1.out.below' hC).at_ 1 rfl) ((K1.out.below' hC).at_ 2 rfl), a1.out⟩)
  · exact .call (.inl rfl) rfl rfl fn_rsame (fun a w' hC hs hl => rsame_yes (hl 34 (by kernel_rfl) (by kernel_rfl)) (RCan.below (hl 35 (by kernel_rfl) (by kernel_rfl)) (b0.out.trans (hC.mono b0.out.size))) (by grind))
  · exact .value (.inl rfl) (by intro T e; cases e) rfl rfl (fun a w' hC hs hl => by
      have e0 : a.eval (.tmp 36) = (.bool true) := (hl 36 (by kernel_rfl) (by kernel_rfl))
      simp only [execOp, e0]
      skip
      simp [go_sem] <;> rfl)
  · exact .move (.inl rfl) (.inl rfl) rfl (by kernel_rfl) (by kernel_rfl) rfl
  · exact .load (.agg #[.bool b1, .slice A1 n1 c1, .slice D1 m1 k1]) (.inr ⟨8, false, 38, by decide, rfl, rfl, rfl⟩) rfl rfl (fun a w' hC hs hl => by rw [show a.eval (.tmp 2) = (.pointer (some ⟨w.heap.size, 0, none⟩) : Value) from (hs 2 (by kernel_rfl))]; exact ⟨ld_Rat_ ((K1.out.below' hC).at_ 0 rfl) ((K1.out.below' hC).at_ 1 rfl) ((K1.out.below' hC).at_ 2 rfl), a1.out⟩)
  · exact .load (.agg #[.bool b1, .slice A1 n1 c1, .slice D1 m1 k1]) (.inr ⟨8, false, 38, by decide, rfl, rfl, rfl⟩) rfl rfl (fun a w' hC hs hl => by rw [show a.eval (.tmp 2) = (.pointer (some ⟨w.heap.size, 0, none⟩) : Value) from (hs 2 (by kernel_rfl))]; exact ⟨ld_Rat_ ((K1.out.below' hC).at_ 0 rfl) ((K1.out.below' hC).at_ 1 rfl) ((K1.out.below' hC).at_ 2 rfl), a1.out⟩)
  · exact .call (.inr ⟨8, false, 38, by decide, rfl, rfl, rfl⟩) rfl rfl fn_rSub (fun a w' hC hs hl => rSub_C (RCan.arg (RCan.below (hl 39 (by kernel_rfl) (by kernel_rfl)) (b0.out.trans (hC.mono b0.out.size))) (S1.out.up (by decide))) (RCan.arg (RCan.below (hl 40 (by kernel_rfl) (by kernel_rfl)) (b0.out.trans (hC.mono b0.out.size))) (S1.out.up (by decide))) (T.out.below (b0.out.trans (hC.mono b0.out.size))))
  · exact .call (.inr ⟨8, false, 38, by decide, rfl, rfl, rfl⟩) rfl rfl fn_rlof (fun a w' hC hs hl => rlof_C w' (0) (1) (by decide) (by decide) (by decide) (by decide) (by decide) (T.out.below (b0.out.trans (hC.mono b0.out.size))))
  · exact .call (.inr ⟨8, false, 38, by decide, rfl, rfl, rfl⟩) rfl rfl fn_rsame (fun a w' hC hs hl => rsame_yes (hl 41 (by kernel_rfl) (by kernel_rfl)) (hl 42 (by kernel_rfl) (by kernel_rfl)) (by rw [show Rat.divInt 0 1 = 0 from by decide +kernel]; grind))
  · exact .value (.inr ⟨8, false, 38, by decide, rfl, rfl, rfl⟩) (by intro T e; cases e) rfl rfl (fun a w' hC hs hl => by
      have e0 : a.eval (.tmp 43) = (.bool true) := (hl 43 (by kernel_rfl) (by kernel_rfl))
      simp only [execOp, e0]
      skip
      simp [go_sem] <;> rfl)
  · exact .pick (b := false) (.inl rfl) rfl rfl (fun a w' hC hs hl => ⟨(hl 38 (by kernel_rfl) (by kernel_rfl)), (hl 44 (by kernel_rfl) (by kernel_rfl))⟩)
  · exact .move (.inl rfl) (.inl rfl) rfl (by kernel_rfl) (by kernel_rfl) rfl
  · exact .load (.agg #[.bool b1, .slice A1 n1 c1, .slice D1 m1 k1]) (.inr ⟨16, false, 46, by decide, rfl, rfl, rfl⟩) rfl rfl (fun a w' hC hs hl => by rw [show a.eval (.tmp 2) = (.pointer (some ⟨w.heap.size, 0, none⟩) : Value) from (hs 2 (by kernel_rfl))]; exact ⟨ld_Rat_ ((K1.out.below' hC).at_ 0 rfl) ((K1.out.below' hC).at_ 1 rfl) ((K1.out.below' hC).at_ 2 rfl), a1.out⟩)
  · exact .load (.agg #[.bool b2, .slice A2 n2 c2, .slice D2 m2 k2]) (.inr ⟨16, false, 46, by decide, rfl, rfl, rfl⟩) rfl rfl (fun a w' hC hs hl => by rw [show a.eval (.tmp 3) = (.pointer (some ⟨w.heap.size + 1, 0, none⟩) : Value) from (hs 3 (by kernel_rfl))]; exact ⟨ld_Rat_ ((K2.out.below' hC).at_ 0 rfl) ((K2.out.below' hC).at_ 1 rfl) ((K2.out.below' hC).at_ 2 rfl), a2.out⟩)
  · exact .call (.inr ⟨16, false, 46, by decide, rfl, rfl, rfl⟩) rfl rfl fn_rSub (fun a w' hC hs hl => rSub_C (RCan.arg (RCan.below (hl 47 (by kernel_rfl) (by kernel_rfl)) (b0.out.trans (hC.mono b0.out.size))) (S1.out.up (by decide))) (RCan.arg (RCan.below (hl 48 (by kernel_rfl) (by kernel_rfl)) (b0.out.trans (hC.mono b0.out.size))) (S2.out.up (by decide))) (T.out.below (b0.out.trans (hC.mono b0.out.size))))
  · exact .load (.agg #[.bool b2, .slice A2 n2 c2, .slice D2 m2 k2]) (.inr ⟨16, false, 46, by decide, rfl, rfl, rfl⟩) rfl rfl (fun a w' hC hs hl => by rw [show a.eval (.tmp 3) = (.pointer (some ⟨w.heap.size + 1, 0, none⟩) : Value) from (hs 3 (by kernel_rfl))]; exact ⟨ld_Rat_ ((K2.out.below' hC).at_ 0 rfl) ((K2.out.below' hC).at_ 1 rfl) ((K2.out.below' hC).at_ 2 rfl), a2.out⟩)
  · exact .call (.inr ⟨16, false, 46, by decide, rfl, rfl, rfl⟩) rfl rfl fn_rAdd (fun a w' hC hs hl => rAdd_C (RCan.arg (hl 49 (by kernel_rfl) (by kernel_rfl)) (Q5_.out.up (by decide))) (RCan.arg (RCan.below (hl 50 (by kernel_rfl) (by kernel_rfl)) (b0.out.trans (hC.mono b0.out.size))) (S2.out.up (by decide))) (T.out.below (b0.out.trans (hC.mono b0.out.size))))
  · exact .load (.agg #[.bool b1, .slice A1 n1 c1, .slice D1 m1 k1]) (.inr ⟨16, false, 46, by decide, rfl, rfl, rfl⟩) rfl rfl (fun a w' hC hs hl => by rw [show a.eval (.tmp 2) = (.pointer (some ⟨w.heap.size, 0, none⟩) : Value) from (hs 2 (by kernel_rfl))]; exact ⟨ld_Rat_ ((K1.out.below' hC).at_ 0 rfl) ((K1.out.below' hC).at_ 1 rfl) ((K1.out.below' hC).at_ 2 rfl), a1.out⟩)
  · exact .call (.inr ⟨16, false, 46, by decide, rfl, rfl, rfl⟩) rfl rfl fn_rsame (fun a w' hC hs hl => rsame_yes (hl 51 (by kernel_rfl) (by kernel_rfl)) (RCan.below (hl 52 (by kernel_rfl) (by kernel_rfl)) (b0.out.trans (hC.mono b0.out.size))) (by grind))
  · exact .value (.inr ⟨16, false, 46, by decide, rfl, rfl, rfl⟩) (by intro T e; cases e) rfl rfl (fun a w' hC hs hl => by
      have e0 : a.eval (.tmp 53) = (.bool true) := (hl 53 (by kernel_rfl) (by kernel_rfl))
      simp only [execOp, e0]
      skip
      simp [go_sem] <;> rfl)
  · exact .pick (b := false) (.inl rfl) rfl rfl (fun a w' hC hs hl => ⟨(hl 46 (by kernel_rfl) (by kernel_rfl)), (hl 54 (by kernel_rfl) (by kernel_rfl))⟩)
  intro f w5 hC hF _
  have f0 : f 55 = .bool false := hF 55 (by kernel_rfl)
  clear hF
  simp only [patch, List.drop]
  rw [f0]
  clear f0
  generalize f 30 = y30_ at *
  generalize f 31 = y31_ at *
  generalize f 32 = y32_ at *
  generalize f 33 = y33_ at *
  generalize f 34 = y34_ at *
  generalize f 35 = y35_ at *
  generalize f 36 = y36_ at *
  generalize f 37 = y37_ at *
  generalize f 38 = y38_ at *
  generalize f 39 = y39_ at *
  generalize f 40 = y40_ at *
  generalize f 41 = y41_ at *
  generalize f 42 = y42_ at *
  generalize f 43 = y43_ at *
  generalize f 44 = y44_ at *
  generalize f 45 = y45_ at *
  generalize f 46 = y46_ at *
  generalize f 47 = y47_ at *
  generalize f 48 = y48_ at *
  generalize f 49 = y49_ at *
  generalize f 50 = y50_ at *
  generalize f 51 = y51_ at *
  generalize f 52 = y52_ at *
  generalize f 53 = y53_ at *
  generalize f 54 = y54_ at *
  replace K1 := hide (K1.out.below' hC)
  replace K2 := hide (K2.out.below' hC)
  replace b0 := hide (b0.out.trans (hC.mono b0.out.size))
  clear hC
  by_cases hy : y = 0
  case pos =>
    replace hy := hide hy
    go_wp2
    have Q7_ : Hid (H ((x * y)) 50) := H_mul S1.out S2.out (by decide)
    refine RR.wp_region_R 10 w5 5 62 [(57, (.rat0 w x)), (58, (.rat0 w y)), (59, (.ratR (x * y) w5.heap.size)), (60, (.rat0 w y)), (61, .eq (.tuple #[.agg #[.bool false, .slice none 0 0, .slice none 0 0], .int .i64 10])), (56, .eq (.tuple #[.agg #[.bool false, .slice none 0 0, .slice none 0 0], .int .i64 10])), (62, .eq (.agg #[.bool false, .slice none 0 0, .slice none 0 0])), (63, .eq (.int .i64 10)), (5, (.var TR 3))] [false, false, false, false, false, true, false, false, false, false, false, false, false, false, false, false, false, false, false, false, false, false, false, false, false, false, false, false, false, false, false, false, false, false, false, false, false, false, false, false, false, false, false, false, false, false, false, false, false, false, false, false, false, false, false, false, true, true, true, true, true, true, true, true, false, false, false, false, false, false, false, false, false, false, false, false, false, false, false, false, false, false, false, false, false, false, false, false, false, false, false, false, false, false, false, false, false, false, false, false, false, false, false, false, false, false, false, false, false, false, false, false, false, false, false, false, false, false] mixed (by kernel_rfl) (by kernel_rfl) (by kernel_rfl) (Below.refl _ _).drew (by kernel_rfl) (by kernel_rfl) (by kernel_rfl) ⟨?_, ?_, ?_, ?_, ?_, ?_, ?_, ?_, ?_, ?_, trivial⟩ ?_
    · exact (.inl ⟨rfl, .load (.agg #[.bool b1, .slice A1 n1 c1, .slice D1 m1 k1]) (.inl rfl) rfl rfl (fun a w' hC hs hl => by rw [show a.eval (.tmp 2) = (.pointer (some ⟨w.heap.size, 0, none⟩) : Value) from (hs 2 (by kernel_rfl))]; exact ⟨ld_Rat_ ((K1.out.below' hC).at_ 0 rfl) ((K1.out.below' hC).at_ 1 rfl) ((K1.out.below' hC).at_ 2 rfl), a1.out⟩)⟩)
    · exact (.inl ⟨rfl, .load (.agg #[.bool b2, .slice A2 n2 c2, .slice D2 m2 k2]) (.inl rfl) rfl rfl (fun a w' hC hs hl => by rw [show a.eval (.tmp 3) = (.pointer (some ⟨w.heap.size + 1, 0, none⟩) : Value) from (hs 3 (by kernel_rfl))]; exact ⟨ld_Rat_ ((K2.out.below' hC).at_ 0 rfl) ((K2.out.below' hC).at_ 1 rfl) ((K2.out.below' hC).at_ 2 rfl), a2.out⟩)⟩)
    · exact (.inl ⟨rfl, .call (.inl rfl) rfl rfl fn_rMul (fun a w' hC hs hl => rMul_R _ hC.size (RCan.arg (RCan.below (hl 57 (by kernel_rfl) (by kernel_rfl)) (b0.out.trans (hC.mono b0.out.size))) (S1.out.up (by decide))) (RCan.arg (RCan.below (hl 58 (by kernel_rfl) (by kernel_rfl)) (b0.out.trans (hC.mono b0.out.size))) (S2.out.up (by decide))) (T.out.below (b0.out.trans (hC.mono b0.out.size))))⟩)
    · exact (.inl ⟨rfl, .load (.agg #[.bool b2, .slice A2 n2 c2, .slice D2 m2 k2]) (.inl rfl) rfl rfl (fun a w' hC hs hl => by rw [show a.eval (.tmp 3) = (.pointer (some ⟨w.heap.size + 1, 0, none⟩) : Value) from (hs 3 (by kernel_rfl))]; exact ⟨ld_Rat_ ((K2.out.below' hC).at_ 0 rfl) ((K2.out.below' hC).at_ 1 rfl) ((K2.out.below' hC).at_ 2 rfl), a2.out⟩)⟩)
    · exact (.inl ⟨rfl, .call (.inl rfl) rfl rfl fn_rDiv (fun a w' hC hs hl => rDiv_Z (RatR.can (hl 59 (by kernel_rfl) (by kernel_rfl))) (Q7_.out.up (by decide)) (RCan.below (hl 60 (by kernel_rfl) (by kernel_rfl)) (b0.out.trans (hC.mono b0.out.size))) (S2.out.up (by decide)) (T.out.below (b0.out.trans (hC.mono b0.out.size))) (hy.out))⟩)
    · exact (.inl ⟨rfl, .move (.inl rfl) (.inl rfl) rfl (by kernel_rfl) (by kernel_rfl) rfl⟩)
    · exact (.inl ⟨rfl, .value (.inl rfl) (by intro T e; cases e) rfl rfl (fun a w' hC hs hl => by
        have e0 : a.eval (.tmp 56) = (.tuple #[.agg #[.bool false, .slice none 0 0, .slice none 0 0], .int .i64 10]) := (hl 56 (by kernel_rfl) (by kernel_rfl))
        simp only [execOp, e0]
        skip
        simp [go_sem] <;> rfl)⟩)
    · exact (.inl ⟨rfl, .value (.inl rfl) (by intro T e; cases e) rfl rfl (fun a w' hC hs hl => by
        have e0 : a.eval (.tmp 56) = (.tuple #[.agg #[.bool false, .slice none 0 0, .slice none 0 0], .int .i64 10]) := (hl 56 (by kernel_rfl) (by kernel_rfl))
        simp only [execOp, e0]
        skip
        simp [go_sem] <;> rfl)⟩)
    · exact (.inl ⟨rfl, .alloc (.agg #[.bool false, .slice none 0 0, .slice none 0 0]) (.inl rfl) rfl rfl (fun a w' hC => ⟨run_alloc_Rat _ _ _ _ _ _ _, _, _, rfl, hC.size, Blk.new _ _ _, rfl⟩)⟩)
    · exact (.storeR (fun v w h => by cases h; exact ⟨_, _, _, _, _, _, _, rfl⟩) rfl rfl rfl (by kernel_rfl) (by kernel_rfl) (by kernel_rfl) (by kernel_rfl) rfl)
    intro f w6 hC hF _ hE
    obtain ⟨g5, b5, A5, n5, c5, D5, m5, k5, ep, lp, er, K5⟩ := hE
    have f63 : f 63 = .int .i64 10 := hF 63 (by kernel_rfl)
    replace K5 := hide K5
    clear hF lp
    simp only [patch, List.drop]
    rw [f63]
    clear f63
    generalize f 57 = y57_ at *
    generalize f 58 = y58_ at *
    generalize f 59 = y59_ at *
    generalize f 60 = y60_ at *
    generalize f 61 = y61_ at *
    generalize f 56 = y56_ at *
    generalize f 62 = y62_ at *
    generalize f 5 = y5_ at *
    subst er ep
    replace K1 := hide (K1.out.below' hC)
    replace K2 := hide (K2.out.below' hC)
    replace b0 := hide (b0.out.trans (hC.mono b0.out.size))
    clear hC
    have K1c0 : w6.cell? ⟨w.heap.size, 0, none⟩ = some (.bool b1) := K1.out.at_ 0 rfl
    have K1c1 : w6.cell? ⟨w.heap.size, 1, none⟩ = some (.slice A1 n1 c1) := K1.out.at_ 1 rfl
    have K1c2 : w6.cell? ⟨w.heap.size, 2, none⟩ = some (.slice D1 m1 k1) := K1.out.at_ 2 rfl
    have K2c0 : w6.cell? ⟨w.heap.size + 1, 0, none⟩ = some (.bool b2) := K2.out.at_ 0 rfl
    have K2c1 : w6.cell? ⟨w.heap.size + 1, 1, none⟩ = some (.slice A2 n2 c2) := K2.out.at_ 1 rfl
    have K2c2 : w6.cell? ⟨w.heap.size + 1, 2, none⟩ = some (.slice D2 m2 k2) := K2.out.at_ 2 rfl
    go_wp2_with fail
    refine (rDiv_zero (a1.out.below b0.out) (S1.out.up (by decide)) (a2.out.below b0.out) (S2.out.up (by decide)) (T.out.below b0.out) hy.out).mono ?_
    rintro e w7 ⟨rfl, d0⟩
    replace K1 := hide (K1.out.below' d0)
    replace K2 := hide (K2.out.below' d0)
    replace K5 := hide (K5.out.below' d0)
    replace b0 := hide (below_tr b0.out d0)
    clear d0
    clear K1c0 K1c1 K1c2 K2c0 K2c1 K2c2
    have K7 := hide (Blk.new_at w7 (w7.heap.size) (by simp) 27 #[.bool false, .slice none 0 0, .slice none 0 0])
    have y := (Below.refl w7.heap.size w7).alloc (Nat.le_refl _) (.cells #[.bool false, .slice none 0 0, .slice none 0 0] 27)
    replace K1 := hide (K1.out.below' y)
    replace K2 := hide (K2.out.below' y)
    replace K5 := hide (K5.out.below' y)
    replace b0 := hide (below_tr b0.out y)
    clear y
    go_wp2
    obtain ⟨V2_7, hV⟩ : ∃ V, (w7.alloc (.cells #[.bool false, .slice none 0 0, .slice none 0 0] 27)) = V := ⟨_, rfl⟩
    rw [hV] at K1 K2 K5 K7 b0
    rw [hV]
    clear hV
    have Q8_ : Hid (H ((Rat.divInt (1) (1))) 1) := H_small (by decide +kernel) (by decide +kernel)
    refine RR.wp_region_R 8 V2_7 9 74 [(71, (.ratR (Rat.divInt (1) (1)) V2_7.heap.size)), (72, (.rat0 w y)), (73, .eq (.tuple #[.agg #[.bool false, .slice none 0 0, .slice none 0 0], .int .i64 10])), (70, .eq (.tuple #[.agg #[.bool false, .slice none 0 0, .slice none 0 0], .int .i64 10])), (74, .eq (.agg #[.bool false, .slice none 0 0, .slice none 0 0])), (75, .eq (.int .i64 10)), (9, (.var TR 3))] [false, false, false, false, false, false, false, false, false, true, false, false, false, false, false, false, false, false, false, false, false, false, false, false, false, false, false, false, false, false, false, false, false, false, false, false, false, false, false, false, false, false, false, false, false, false, false, false, false, false, false, false, false, false, false, false, false, false, false, false, false, false, false, false, false, false, false, false, false, false, true, true, true, true, true, true, false, false, false, false, false, false, false, false, false, false, false, false, false, false, false, false, false, false, false, false, false, false, false, false, false, false, false, false, false, false, false, false, false, false, false, false, false, false, false, false, false, false] mixed (by kernel_rfl) (by kernel_rfl) (by kernel_rfl) (Below.refl _ _).drew (by kernel_rfl) (by kernel_rfl) (by kernel_rfl) ⟨?_, ?_, ?_, ?_, ?_, ?_, ?_, ?_, trivial⟩ ?_
    · exact (.inl ⟨rfl, .call (.inl rfl) rfl rfl fn_rlof (fun a w' hC hs hl => RR.rlof_R w' _ hC.size (1) (1) (by decide) (by decide) (by decide) (by decide) (by decide) (T.out.below (b0.out.trans (hC.mono b0.out.size))))⟩)
    · exact (.inl ⟨rfl, .load (.agg #[.bool b2, .slice A2 n2 c2, .slice D2 m2 k2]) (.inl rfl) rfl rfl (fun a w' hC hs hl => by rw [show a.eval (.tmp 3) = (.pointer (some ⟨w.heap.size + 1, 0, none⟩) : Value) from (hs 3 (by kernel_rfl))]; exact ⟨ld_Rat_ ((K2.out.below' hC).at_ 0 rfl) ((K2.out.below' hC).at_ 1 rfl) ((K2.out.below' hC).at_ 2 rfl), a2.out⟩)⟩)
    · exact (.inl ⟨rfl, .call (.inl rfl) rfl rfl fn_rDiv (fun a w' hC hs hl => rDiv_Z (RatR.can (hl 71 (by kernel_rfl) (by kernel_rfl))) (Q8_.out.up (by decide)) (RCan.below (hl 72 (by kernel_rfl) (by kernel_rfl)) (b0.out.trans (hC.mono b0.out.size))) (S2.out.up (by decide)) (T.out.below (b0.out.trans (hC.mono b0.out.size))) (hy.out))⟩)
    · exact (.inl ⟨rfl, .move (.inl rfl) (.inl rfl) rfl (by kernel_rfl) (by kernel_rfl) rfl⟩)
    · exact (.inl ⟨rfl, .value (.inl rfl) (by intro T e; cases e) rfl rfl (fun a w' hC hs hl => by
        have e0 : a.eval (.tmp 70) = (.tuple #[.agg #[.bool false, .slice none 0 0, .slice none 0 0], .int .i64 10]) := (hl 70 (by kernel_rfl) (by kernel_rfl))
        simp only [execOp, e0]
        skip
        simp [go_sem] <;> rfl)⟩)
    · exact (.inl ⟨rfl, .value (.inl rfl) (by intro T e; cases e) rfl rfl (fun a w' hC hs hl => by
        have e0 : a.eval (.tmp 70) = (.tuple #[.agg #[.bool false, .slice none 0 0, .slice none 0 0], .int .i64 10]) := (hl 70 (by kernel_rfl) (by kernel_rfl))
        simp only [execOp, e0]
        skip
        simp [go_sem] <;> rfl)⟩)
    · exact (.inl ⟨rfl, .alloc (.agg #[.bool false, .slice none 0 0, .slice none 0 0]) (.inl rfl) rfl rfl (fun a w' hC => ⟨run_alloc_Rat _ _ _ _ _ _ _, _, _, rfl, hC.size, Blk.new _ _ _, rfl⟩)⟩)
    · exact (.storeR (fun v w h => by cases h; exact ⟨_, _, _, _, _, _, _, rfl⟩) rfl rfl rfl (by kernel_rfl) (by kernel_rfl) (by kernel_rfl) (by kernel_rfl) rfl)
    intro f w8 hC hF _ hE
    obtain ⟨g9, b9, A9, n9, c9, D9, m9, k9, ep, lp, er, K9⟩ := hE
    have f75 : f 75 = .int .i64 10 := hF 75 (by kernel_rfl)
    replace K9 := hide K9
    clear hF lp
    simp only [patch, List.drop]
    rw [f75]
    clear f75
    generalize f 71 = y71_ at *
    generalize f 72 = y72_ at *
    generalize f 73 = y73_ at *
    generalize f 70 = y70_ at *
    generalize f 74 = y74_ at *
    generalize f 9 = y9_ at *
    subst er ep
    replace K1 := hide (K1.out.below' hC)
    replace K2 := hide (K2.out.below' hC)
    replace K5 := hide (K5.out.below' hC)
    replace K7 := hide (K7.out.below' hC)
    replace b0 := hide (b0.out.trans (hC.mono b0.out.size))
    clear hC
    have K1c0 : w8.cell? ⟨w.heap.size, 0, none⟩ = some (.bool b1) := K1.out.at_ 0 rfl
    have K1c1 : w8.cell? ⟨w.heap.size, 1, none⟩ = some (.slice A1 n1 c1) := K1.out.at_ 1 rfl
    have K1c2 : w8.cell? ⟨w.heap.size, 2, none⟩ = some (.slice D1 m1 k1) := K1.out.at_ 2 rfl
    have K2c0 : w8.cell? ⟨w.heap.size + 1, 0, none⟩ = some (.bool b2) := K2.out.at_ 0 rfl
    have K2c1 : w8.cell? ⟨w.heap.size + 1, 1, none⟩ = some (.slice A2 n2 c2) := K2.out.at_ 1 rfl
    have K2c2 : w8.cell? ⟨w.heap.size + 1, 2, none⟩ = some (.slice D2 m2 k2) := K2.out.at_ 2 rfl
    go_wp2_with fail
    refine (rSign_eq ((a2.out.below b0.out).arg (S2.out.up (by decide))) (T.out.below b0.out) 0 (by rw [hy.out]; exact cmpQ_eq 0)).mono ?_
    rintro e w9 ⟨_, rfl, d0, rfl⟩
    replace K1 := hide (K1.out.below' d0)
    replace K2 := hide (K2.out.below' d0)
    replace K5 := hide (K5.out.below' d0)
    replace K7 := hide (K7.out.below' d0)
    replace K9 := hide (K9.out.below' d0)
    replace b0 := hide (below_tr b0.out d0)
    clear d0
    clear K1c0 K1c1 K1c2 K2c0 K2c1 K2c2
    go_wp2
    exact opq_end hR ⟨rfl, b0⟩
  replace hy := hide hy
  obtain ⟨s, hs, hs0⟩ : ∃ s : Int, Hid (cmpQ y 0 = s) ∧ (s == 0) = false := by
    refine ⟨_, rfl, ?_⟩
    have := hy.out
    unfold cmpQ
    (repeat' split) <;> first | rfl | contradiction
  go_wp2
  have Q7_ : Hid (H ((x * y)) 50) := H_mul S1.out S2.out (by decide)
  have Q8_ : Hid (H (((x * y) / y)) 75) := H_div Q7_.out S2.out (by decide) (by decide)
  refine RR.wp_region_R 10 w5 5 62 [(57, (.rat0 w x)), (58, (.rat0 w y)), (59, (.ratR (x * y) w5.heap.size)), (60, (.rat0 w y)), (61, (.tupE (.ratR ((x * y) / y) w5.heap.size) (.int .i64 0))), (56, (.tupE (.ratR ((x * y) / y) w5.heap.size) (.int .i64 0))), (62, (.ratR ((x * y) / y) w5.heap.size)), (63, .eq ((.int .i64 0))), (5, (.var TR 3))] [false, false, false, false, false, true, false, false, false, false, false, false, false, false, false, false, false, false, false, false, false, false, false, false, false, false, false, false, false, false, false, false, false, false, false, false, false, false, false, false, false, false, false, false, false, false, false, false, false, false, false, false, false, false, false, false, true, true, true, true, true, true, true, true, false, false, false, false, false, false, false, false, false, false, false, false, false, false, false, false, false, false, false, false, false, false, false, false, false, false, false, false, false, false, false, false, false, false, false, false, false, false, false, false, false, false, false, false, false, false, false, false, false, false, false, false, false, false] mixed (by kernel_rfl) (by kernel_rfl) (by kernel_rfl) (Below.refl _ _).drew (by kernel_rfl) (by kernel_rfl) (by kernel_rfl) ⟨?_, ?_, ?_, ?_, ?_, ?_, ?_, ?_, ?_, ?_, trivial⟩ ?_
  · exact (.inl ⟨rfl, .load (.agg #[.bool b1, .slice A1 n1 c1, .slice D1 m1 k1]) (.inl rfl) rfl rfl (fun a w' hC hs hl => by rw [show a.eval (.tmp 2) = (.pointer (some ⟨w.heap.size, 0, none⟩) : Value) from (hs 2 (by kernel_rfl))]; exact ⟨ld_Rat_ ((K1.out.below' hC).at_ 0 rfl) ((K1.out.below' hC).at_ 1 rfl) ((K1.out.below' hC).at_ 2 rfl), a1.out⟩)⟩)
  · exact (.inl ⟨rfl, .load (.agg #[.bool b2, .slice A2 n2 c2, .slice D2 m2 k2]) (.inl rfl) rfl rfl (fun a w' hC hs hl => by rw [show a.eval (.tmp 3) = (.pointer (some ⟨w.heap.size + 1, 0, none⟩) : Value) from (hs 3 (by kernel_rfl))]; exact ⟨ld_Rat_ ((K2.out.below' hC).at_ 0 rfl) ((K2.out.below' hC).at_ 1 rfl) ((K2.out.below' hC).at_ 2 rfl), a2.out⟩)⟩)
  · exact (.inl ⟨rfl, .call (.inl rfl) rfl rfl fn_rMul (fun a w' hC hs hl => rMul_R _ hC.size (RCan.arg (RCan.below (hl 57 (by kernel_rfl) (by kernel_rfl)) (b0.out.trans (hC.mono b0.out.size))) (S1.out.up (by decide))) (RCan.arg (RCan.below (hl 58 (by kernel_rfl) (by kernel_rfl)) (b0.out.trans (hC.mono b0.out.size))) (S2.out.up (by decide))) (T.out.below (b0.out.trans (hC.mono b0.out.size))))⟩)
  · exact (.inl ⟨rfl, .load (.agg #[.bool b2, .slice A2 n2 c2, .slice D2 m2 k2]) (.inl rfl) rfl rfl (fun a w' hC hs hl => by rw [show a.eval (.tmp 3) = (.pointer (some ⟨w.heap.size + 1, 0, none⟩) : Value) from (hs 3 (by kernel_rfl))]; exact ⟨ld_Rat_ ((K2.out.below' hC).at_ 0 rfl) ((K2.out.below' hC).at_ 1 rfl) ((K2.out.below' hC).at_ 2 rfl), a2.out⟩)⟩)
  · exact (.inl ⟨rfl, .call (.inl rfl) rfl rfl fn_rDiv (fun a w' hC hs hl => RR.rDiv_T _ hC.size (RatR.can (hl 59 (by kernel_rfl) (by kernel_rfl))) (Q7_.out.up (by decide)) (RCan.below (hl 60 (by kernel_rfl) (by kernel_rfl)) (b0.out.trans (hC.mono b0.out.size))) (S2.out.up (by decide)) (T.out.below (b0.out.trans (hC.mono b0.out.size))) (hy.out))⟩)
  · exact (.inl ⟨rfl, .move (.inl rfl) (.inl rfl) rfl (by kernel_rfl) (by kernel_rfl) rfl⟩)
  · exact (.inl ⟨rfl, .make (.inl rfl) (by intro T e; cases e) rfl (fun a w' hC hs hl => by
      obtain ⟨u, e, h⟩ := (hl 56 (by kernel_rfl) (by kernel_rfl))
      have e' : a.tmps[56]?.getD undef = _ := (by simp [Act.eval] : _ = a.eval (.tmp 56)).trans e
      exact ⟨u, by simp [execOp, go_sem, e'], h⟩)⟩)
  · exact (.inl ⟨rfl, .make (.inl rfl) (by intro T e; cases e) rfl (fun a w' hC hs hl => by
      obtain ⟨u, e, h⟩ := (hl 56 (by kernel_rfl) (by kernel_rfl))
      have e' : a.tmps[56]?.getD undef = _ := (by simp [Act.eval] : _ = a.eval (.tmp 56)).trans e
      exact ⟨_, by simp [execOp, go_sem, e'], rfl⟩)⟩)
  · exact (.inl ⟨rfl, .alloc (.agg #[.bool false, .slice none 0 0, .slice none 0 0]) (.inl rfl) rfl rfl (fun a w' hC => ⟨run_alloc_Rat _ _ _ _ _ _ _, _, _, rfl, hC.size, Blk.new _ _ _, rfl⟩)⟩)
  · exact (.storeR (fun v w h => RatR.slice h) rfl rfl rfl (by kernel_rfl) (by kernel_rfl) (by kernel_rfl) (by kernel_rfl) rfl)
  intro f w6 hC hF _ hE
  obtain ⟨g5, b5, A5, n5, c5, D5, m5, k5, ep, lp, er, K5⟩ := hE
  have f63 : f 63 = (.int .i64 0) := hF 63 (by kernel_rfl)
  have fr : RatR ((x * y) / y) w5.heap.size w6 (f 62) := hF 62 (by kernel_rfl)
  rw [er] at fr
  have X := hide fr.can
  clear fr
  replace K5 := hide K5
  clear hF lp
  simp only [patch, List.drop]
  rw [f63]
  clear f63
  generalize f 57 = y57_ at *
  generalize f 58 = y58_ at *
  generalize f 59 = y59_ at *
  generalize f 60 = y60_ at *
  generalize f 61 = y61_ at *
  generalize f 56 = y56_ at *
  generalize f 62 = y62_ at *
  generalize f 5 = y5_ at *
  subst er ep
  replace K1 := hide (K1.out.below' hC)
  replace K2 := hide (K2.out.below' hC)
  replace b0 := hide (b0.out.trans (hC.mono b0.out.size))
  clear hC
  have K1c0 : w6.cell? ⟨w.heap.size, 0, none⟩ = some (.bool b1) := K1.out.at_ 0 rfl
  have K1c1 : w6.cell? ⟨w.heap.size, 1, none⟩ = some (.slice A1 n1 c1) := K1.out.at_ 1 rfl
  have K1c2 : w6.cell? ⟨w.heap.size, 2, none⟩ = some (.slice D1 m1 k1) := K1.out.at_ 2 rfl
  have K2c0 : w6.cell? ⟨w.heap.size + 1, 0, none⟩ = some (.bool b2) := K2.out.at_ 0 rfl
  have K2c1 : w6.cell? ⟨w.heap.size + 1, 1, none⟩ = some (.slice A2 n2 c2) := K2.out.at_ 1 rfl
  have K2c2 : w6.cell? ⟨w.heap.size + 1, 2, none⟩ = some (.slice D2 m2 k2) := K2.out.at_ 2 rfl
  go_wp2_with fail
  refine (rDiv_ok (a1.out.below b0.out) (S1.out.up (by decide)) (a2.out.below b0.out) (S2.out.up (by decide)) (T.out.below b0.out) hy.out).mono ?_
  rintro e w7 ⟨v7, rfl, d0, r7⟩
  replace K1 := hide (K1.out.below' d0)
  replace K2 := hide (K2.out.below' d0)
  replace K5 := hide (K5.out.below' d0)
  replace X := hide (X.out.below d0)
  replace b0 := hide (below_tr b0.out d0)
  have Y := hide (r7.can)
  clear d0
  clear r7
  obtain ⟨b7, A7, n7, c7, D7, m7, k7, rfl⟩ := Y.out.slice
  clear K1c0 K1c1 K1c2 K2c0 K2c1 K2c2
  have K7 := hide (Blk.new_at w7 (w7.heap.size) (by simp) 27 #[.bool b7, .slice A7 n7 c7, .slice D7 m7 k7])
  have y := (Below.refl w7.heap.size w7).alloc (Nat.le_refl _) (.cells #[.bool b7, .slice A7 n7 c7, .slice D7 m7 k7] 27)
  replace K1 := hide (K1.out.below' y)
  replace K2 := hide (K2.out.below' y)
  replace K5 := hide (K5.out.below' y)
  replace X := hide (X.out.below y)
  replace Y := hide (Y.out.below y)
  replace b0 := hide (below_tr b0.out y)
  clear y
  have Q9_ : Hid (H ((x / y)) 50) := H_div S1.out S2.out (by decide) (by decide)
  go_wp2
  obtain ⟨V2_7, hV⟩ : ∃ V, (w7.alloc (.cells #[.bool b7, .slice A7 n7 c7, .slice D7 m7 k7] 27)) = V := ⟨_, rfl⟩
  rw [hV] at K1 K2 K5 X Y K7 b0
  rw [hV]
  clear hV
  have Q10_ : Hid (H ((Rat.divInt (1) (1))) 1) := H_small (by decide +kernel) (by decide +kernel)
  have Q11_ : Hid (H (((Rat.divInt (1) (1)) / y)) 26) := H_div Q10_.out S2.out (by decide) (by decide)
  refine RR.wp_region_R 8 V2_7 9 74 [(71, (.ratR (Rat.divInt (1) (1)) V2_7.heap.size)), (72, (.rat0 w y)), (73, (.tupE (.ratR ((Rat.divInt (1) (1)) / y) V2_7.heap.size) (.int .i64 0))), (70, (.tupE (.ratR ((Rat.divInt (1) (1)) / y) V2_7.heap.size) (.int .i64 0))), (74, (.ratR ((Rat.divInt (1) (1)) / y) V2_7.heap.size)), (75, .eq ((.int .i64 0))), (9, (.var TR 3))] [false, false, false, false, false, false, false, false, false, true, false, false, false, false, false, false, false, false, false, false, false, false, false, false, false, false, false, false, false, false, false, false, false, false, false, false, false, false, false, false, false, false, false, false, false, false, false, false, false, false, false, false, false, false, false, false, false, false, false, false, false, false, false, false, false, false, false, false, false, false, true, true, true, true, true, true, false, false, false, false, false, false, false, false, false, false, false, false, false, false, false, false, false, false, false, false, false, false, false, false, false, false, false, false, false, false, false, false, false, false, false, false, false, false, false, false, false, false] mixed (by kernel_rfl) (by kernel_rfl) (by kernel_rfl) (Below.refl _ _).drew (by kernel_rfl) (by kernel_rfl) (by kernel_rfl) ⟨?_, ?_, ?_, ?_, ?_, ?_, ?_, ?_, trivial⟩ ?_
  · exact (.inl ⟨rfl, .call (.inl rfl) rfl rfl fn_rlof (fun a w' hC hs hl => RR.rlof_R w' _ hC.size (1) (1) (by decide) (by decide) (by decide) (by decide) (by decide) (T.out.below (b0.out.trans (hC.mono b0.out.size))))⟩)
  · exact (.inl ⟨rfl, .load (.agg #[.bool b2, .slice A2 n2 c2, .slice D2 m2 k2]) (.inl rfl) rfl rfl (fun a w' hC hs hl => by rw [show a.eval (.tmp 3) = (.pointer (some ⟨w.heap.size + 1, 0, none⟩) : Value) from (hs 3 (by kernel_rfl))]; exact ⟨ld_Rat_ ((K2.out.below' hC).at_ 0 rfl) ((K2.out.below' hC).at_ 1 rfl) ((K2.out.below' hC).at_ 2 rfl), a2.out⟩)⟩)
  · exact (.inl ⟨rfl, .call (.inl rfl) rfl rfl fn_rDiv (fun a w' hC hs hl => RR.rDiv_T _ hC.size (RatR.can (hl 71 (by kernel_rfl) (by kernel_rfl))) (Q10_.out.up (by decide)) (RCan.below (hl 72 (by kernel_rfl) (by kernel_rfl)) (b0.out.trans (hC.mono b0.out.size))) (S2.out.up (by decide)) (T.out.below (b0.out.trans (hC.mono b0.out.size))) (hy.out))⟩)
  · exact (.inl ⟨rfl, .move (.inl rfl) (.inl rfl) rfl (by kernel_rfl) (by kernel_rfl) rfl⟩)
  · exact (.inl ⟨rfl, .make (.inl rfl) (by intro T e; cases e) rfl (fun a w' hC hs hl => by
      obtain ⟨u, e, h⟩ := (hl 70 (by kernel_rfl) (by kernel_rfl))
      have e' : a.tmps[70]?.getD undef = _ := (by simp [Act.eval] : _ = a.eval (.tmp 70)).trans e
      exact ⟨u, by simp [execOp, go_sem, e'], h⟩)⟩)
  · exact (.inl ⟨rfl, .make (.inl rfl) (by intro T e; cases e) rfl (fun a w' hC hs hl => by
      obtain ⟨u, e, h⟩ := (hl 70 (by kernel_rfl) (by kernel_rfl))
      have e' : a.tmps[70]?.getD undef = _ := (by simp [Act.eval] : _ = a.eval (.tmp 70)).trans e
      exact ⟨_, by simp [execOp, go_sem, e'], rfl⟩)⟩)
  · exact (.inl ⟨rfl, .alloc (.agg #[.bool false, .slice none 0 0, .slice none 0 0]) (.inl rfl) rfl rfl (fun a w' hC => ⟨run_alloc_Rat _ _ _ _ _ _ _, _, _, rfl, hC.size, Blk.new _ _ _, rfl⟩)⟩)
  · exact (.storeR (fun v w h => RatR.slice h) rfl rfl rfl (by kernel_rfl) (by kernel_rfl) (by kernel_rfl) (by kernel_rfl) rfl)
  intro f w8 hC hF _ hE
  obtain ⟨g9, b9, A9, n9, c9, D9, m9, k9, ep, lp, er, K9⟩ := hE
  have f75 : f 75 = (.int .i64 0) := hF 75 (by kernel_rfl)
  have fr : RatR ((Rat.divInt (1) (1)) / y) V2_7.heap.size w8 (f 74) := hF 74 (by kernel_rfl)
  rw [er] at fr
  have Z := hide fr.can
  clear fr
  replace K9 := hide K9
  clear hF lp
  simp only [patch, List.drop]
  rw [f75]
  clear f75
  generalize f 71 = y71_ at *
  generalize f 72 = y72_ at *
  generalize f 73 = y73_ at *
  generalize f 70 = y70_ at *
  generalize f 74 = y74_ at *
  generalize f 9 = y9_ at *
  subst er ep
  replace K1 := hide (K1.out.below' hC)
  replace K2 := hide (K2.out.below' hC)
  replace K5 := hide (K5.out.below' hC)
  replace X := hide (X.out.below hC)
  replace Y := hide (Y.out.below hC)
  replace K7 := hide (K7.out.below' hC)
  replace b0 := hide (b0.out.trans (hC.mono b0.out.size))
  clear hC
  have K1c0 : w8.cell? ⟨w.heap.size, 0, none⟩ = some (.bool b1) := K1.out.at_ 0 rfl
  have K1c1 : w8.cell? ⟨w.heap.size, 1, none⟩ = some (.slice A1 n1 c1) := K1.out.at_ 1 rfl
  have K1c2 : w8.cell? ⟨w.heap.size, 2, none⟩ = some (.slice D1 m1 k1) := K1.out.at_ 2 rfl
  have K2c0 : w8.cell? ⟨w.heap.size + 1, 0, none⟩ = some (.bool b2) := K2.out.at_ 0 rfl
  have K2c1 : w8.cell? ⟨w.heap.size + 1, 1, none⟩ = some (.slice A2 n2 c2) := K2.out.at_ 1 rfl
  have K2c2 : w8.cell? ⟨w.heap.size + 1, 2, none⟩ = some (.slice D2 m2 k2) := K2.out.at_ 2 rfl
  go_wp2_with fail
  refine (rSign_eq ((a2.out.below b0.out).arg (S2.out.up (by decide))) (T.out.below b0.out) s hs.out).mono ?_
  rintro e w9 ⟨_, rfl, d0, rfl⟩
  replace K1 := hide (K1.out.below' d0)
  replace K2 := hide (K2.out.below' d0)
  replace K5 := hide (K5.out.below' d0)
  replace X := hide (X.out.below d0)
  replace Y := hide (Y.out.below d0)
  replace K7 := hide (K7.out.below' d0)
  replace K9 := hide (K9.out.below' d0)
  replace Z := hide (Z.out.below d0)
  replace b0 := hide (below_tr b0.out d0)
  clear d0
  clear K1c0 K1c1 K1c2 K2c0 K2c1 K2c2
  go_wp2
  have Q12_ : Hid (H (((x / y) * y)) 75) := H_mul Q9_.out S2.out (by decide)
  have Q13_ : Hid (H ((x * ((Rat.divInt (1) (1)) / y))) 51) := H_mul S1.out Q11_.out (by decide)
  refine wp_region_facts 30 (fun w' => Below w9.heap.size w9 w') [(89, .eq (.int .i64 (0))), (90, .eq (.bool true)), (91, .eq (.bool true)), (92, .eq (.int .i64 (0))), (93, .eq (.bool true)), (94, .eq (.bool true)), (95, .eq (.bool true)), (96, .eq (.int .i64 (0))), (97, .eq (.bool true)), (98, .eq (.bool true)), (99, .eq (.bool true)), (100, (.rat0 w9 ((x * y) / y))), (101, (.rat0 w x)), (102, .eq (.bool true)), (103, .eq (.bool true)), (104, .eq (.bool true)), (105, (.rat0 w9 (x / y))), (106, (.rat0 w y)), (107, (.rat ((x / y) * y))), (108, (.rat0 w x)), (109, .eq (.bool true)), (110, .eq (.bool true)), (111, .eq (.bool true)), (112, (.rat0 w x)), (113, (.rat0 w9 ((Rat.divInt (1) (1)) / y))), (114, (.rat (x * ((Rat.divInt (1) (1)) / y)))), (115, (.rat0 w9 (x / y))), (116, .eq (.bool true)), (117, .eq (.bool true)), (4, .eq (.bool true))] [false, false, false, false, true, false, false, false, false, false, false, false, false, false, false, false, false, false, false, false, false, false, false, false, false, false, false, false, false, false, false, false, false, false, false, false, false, false, false, false, false, false, false, false, false, false, false, false, false, false, false, false, false, false, false, false, false, false, false, false, false, false, false, false, false, false, false, false, false, false, false, false, false, false, false, false, false, false, false, false, false, false, false, false, false, false, false, false, false, true, true, true, true, true, true, true, true, true, true, true, true, true, true, true, true, true, true, true, true, true, true, true, true, true, true, true, true, true] mixed (by kernel_rfl) (by kernel_rfl) (by kernel_rfl) (fun _ _ h hb => h.trans (hb.mono h.size)) ((Below.refl _ _).drew) ⟨?_, ?_, ?_, ?_, ?_, ?_, ?_, ?_, ?_, ?_, ?_, ?_, ?_, ?_, ?_, ?_, ?_, ?_, ?_, ?_, ?_, ?_, ?_, ?_, ?_, ?_, ?_, ?_, ?_, ?_, trivial⟩ ?_
  · exact .moveC (.inl rfl) (.inl rfl) rfl (fun a w' hC hs => (hs 6 (by kernel_rfl)))
  · exact .value (.inl rfl) (by intro T e; cases e) rfl rfl (fun a w' hC hs hl => by
      have e0 : a.eval (.tmp 89) = (.int .i64 (0)) := (hl 89 (by kernel_rfl) (by kernel_rfl))
      simp only [execOp, e0]
      simp only [Act.eval]
      simp [go_sem] <;> rfl)
  · exact .move (.inl rfl) (.inl rfl) rfl (by kernel_rfl) (by kernel_rfl) rfl
  · exact .moveC (.inr ⟨2, true, 91, by decide, rfl, rfl, rfl⟩) (.inl rfl) rfl (fun a w' hC hs => (hs 8 (by kernel_rfl)))
  · exact .value (.inr ⟨2, true, 91, by decide, rfl, rfl, rfl⟩) (by intro T e; cases e) rfl rfl (fun a w' hC hs hl => by
      have e0 : a.eval (.tmp 92) = (.int .i64 (0)) := (hl 92 (by kernel_rfl) (by kernel_rfl))
      simp only [execOp, e0]
      simp only [Act.eval]
      simp [go_sem] <;> rfl)
  · exact .pick (b := true) (.inl rfl) rfl rfl (fun a w' hC hs hl => ⟨(hl 91 (by kernel_rfl) (by kernel_rfl)), (hl 93 (by kernel_rfl) (by kernel_rfl))⟩)
  · exact .move (.inl rfl) (.inl rfl) rfl (by kernel_rfl) (by kernel_rfl) rfl
  · exact .moveC (.inr ⟨6, true, 95, by decide, rfl, rfl, rfl⟩) (.inl rfl) rfl (fun a w' hC hs => (hs 10 (by kernel_rfl)))
  · exact .value (.inr ⟨6, true, 95, by decide, rfl, rfl, rfl⟩) (by intro T e; cases e) rfl rfl (fun a w' hC hs hl => by
      have e0 : a.eval (.tmp 96) = (.int .i64 (0)) := (hl 96 (by kernel_rfl) (by kernel_rfl))
      simp only [execOp, e0]
      simp only [Act.eval]
      simp [go_sem] <;> rfl)
  · exact .pick (b := true) (.inl rfl) rfl rfl (fun a w' hC hs hl => ⟨(hl 95 (by kernel_rfl) (by kernel_rfl)), (hl 97 (by kernel_rfl) (by kernel_rfl))⟩)
  · exact .move (.inl rfl) (.inl rfl) rfl (by kernel_rfl) (by kernel_rfl) rfl
  · exact .load (.agg #[.bool b5, .slice A5 n5 c5, .slice D5 m5 k5]) (.inr ⟨10, true, 99, by decide, rfl, rfl, rfl⟩) rfl rfl (fun a w' hC hs hl => by rw [show a.eval (.tmp 5) = (.pointer (some ⟨g5, 0, none⟩) : Value) from (hs 5 (by kernel_rfl))]; exact ⟨ld_Rat_ ((K5.out.below' hC).at_ 0 rfl) ((K5.out.below' hC).at_ 1 rfl) ((K5.out.below' hC).at_ 2 rfl), X.out⟩)
  · exact .load (.agg #[.bool b1, .slice A1 n1 c1, .slice D1 m1 k1]) (.inr ⟨10, true, 99, by decide, rfl, rfl, rfl⟩) rfl rfl (fun a w' hC hs hl => by rw [show a.eval (.tmp 2) = (.pointer (some ⟨w.heap.size, 0, none⟩) : Value) from (hs 2 (by kernel_rfl))]; exact ⟨ld_Rat_ ((K1.out.below' hC).at_ 0 rfl) ((K1.out.below' hC).at_ 1 rfl) ((K1.out.below' hC).at_ 2 rfl), a1.out⟩)
  · exact .call (.inr ⟨10, true, 99, by decide, rfl, rfl, rfl⟩) rfl rfl fn_rsame (fun a w' hC hs hl => rsame_yes (RCan.below (hl 100 (by kernel_rfl) (by kernel_rfl)) hC) (RCan.below (hl 101 (by kernel_rfl) (by kernel_rfl)) (b0.out.trans (hC.mono b0.out.size))) (by have := hy.out; grind))
  · exact .pick (b := true) (.inl rfl) rfl rfl (fun a w' hC hs hl => ⟨(hl 99 (by kernel_rfl) (by kernel_rfl)), (hl 102 (by kernel_rfl) (by kernel_rfl))⟩)
  · exact .move (.inl rfl) (.inl rfl) rfl (by kernel_rfl) (by kernel_rfl) rfl
  · exact .load (.agg #[.bool b7, .slice A7 n7 c7, .slice D7 m7 k7]) (.inr ⟨15, true, 104, by decide, rfl, rfl, rfl⟩) rfl rfl (fun a w' hC hs hl => by rw [show a.eval (.tmp 7) = (.pointer (some ⟨w7.heap.size, 0, none⟩) : Value) from (hs 7 (by kernel_rfl))]; exact ⟨ld_Rat_ ((K7.out.below' hC).at_ 0 rfl) ((K7.out.below' hC).at_ 1 rfl) ((K7.out.below' hC).at_ 2 rfl), Y.out⟩)
  · exact .load (.agg #[.bool b2, .slice A2 n2 c2, .slice D2 m2 k2]) (.inr ⟨15, true, 104, by decide, rfl, rfl, rfl⟩) rfl rfl (fun a w' hC hs hl => by rw [show a.eval (.tmp 3) = (.pointer (some ⟨w.heap.size + 1, 0, none⟩) : Value) from (hs 3 (by kernel_rfl))]; exact ⟨ld_Rat_ ((K2.out.below' hC).at_ 0 rfl) ((K2.out.below' hC).at_ 1 rfl) ((K2.out.below' hC).at_ 2 rfl), a2.out⟩)
  · exact .call (.inr ⟨15, true, 104, by decide, rfl, rfl, rfl⟩) rfl rfl fn_rMul (fun a w' hC hs hl => rMul_C (RCan.arg (RCan.below (hl 105 (by kernel_rfl) (by kernel_rfl)) hC) (Q9_.out.up (by decide))) (RCan.arg (RCan.below (hl 106 (by kernel_rfl) (by kernel_rfl)) (b0.out.trans (hC.mono b0.out.size))) (S2.out.up (by decide))) (T.out.below (b0.out.trans (hC.mono b0.out.size))))
  · exact .load (.agg #[.bool b1, .slice A1 n1 c1, .slice D1 m1 k1]) (.inr ⟨15, true, 104, by decide, rfl, rfl, rfl⟩) rfl rfl (fun a w' hC hs hl => by rw [show a.eval (.tmp 2) = (.pointer (some ⟨w.heap.size, 0, none⟩) : Value) from (hs 2 (by kernel_rfl))]; exact ⟨ld_Rat_ ((K1.out.below' hC).at_ 0 rfl) ((K1.out.below' hC).at_ 1 rfl) ((K1.out.below' hC).at_ 2 rfl), a1.out⟩)
  · exact .call (.inr ⟨15, true, 104, by decide, rfl, rfl, rfl⟩) rfl rfl fn_rsame (fun a w' hC hs hl => rsame_yes (hl 107 (by kernel_rfl) (by kernel_rfl)) (RCan.below (hl 108 (by kernel_rfl) (by kernel_rfl)) (b0.out.trans (hC.mono b0.out.size))) (by have := hy.out; grind))
  · exact .pick (b := true) (.inl rfl) rfl rfl (fun a w' hC hs hl => ⟨(hl 104 (by kernel_rfl) (by kernel_rfl)), (hl 109 (by kernel_rfl) (by kernel_rfl))⟩)
  · exact .move (.inl rfl) (.inl rfl) rfl (by kernel_rfl) (by kernel_rfl) rfl
  · exact .load (.agg #[.bool b1, .slice A1 n1 c1, .slice D1 m1 k1]) (.inr ⟨22, true, 111, by decide, rfl, rfl, rfl⟩) rfl rfl (fun a w' hC hs hl => by rw [show a.eval (.tmp 2) = (.pointer (some ⟨w.heap.size, 0, none⟩) : Value) from (hs 2 (by kernel_rfl))]; exact ⟨ld_Rat_ ((K1.out.below' hC).at_ 0 rfl) ((K1.out.below' hC).at_ 1 rfl) ((K1.out.below' hC).at_ 2 rfl), a1.out⟩)
  · exact .load (.agg #[.bool b9, .slice A9 n9 c9, .slice D9 m9 k9]) (.inr ⟨22, true, 111, by decide, rfl, rfl, rfl⟩) rfl rfl (fun a w' hC hs hl => by rw [show a.eval (.tmp 9) = (.pointer (some ⟨g9, 0, none⟩) : Value) from (hs 9 (by kernel_rfl))]; exact ⟨ld_Rat_ ((K9.out.below' hC).at_ 0 rfl) ((K9.out.below' hC).at_ 1 rfl) ((K9.out.below' hC).at_ 2 rfl), Z.out⟩)
  · exact .call (.inr ⟨22, true, 111, by decide, rfl, rfl, rfl⟩) rfl rfl fn_rMul (fun a w' hC hs hl => rMul_C (RCan.arg (RCan.below (hl 112 (by kernel_rfl) (by kernel_rfl)) (b0.out.trans (hC.mono b0.out.size))) (S1.out.up (by decide))) (RCan.arg (RCan.below (hl 113 (by kernel_rfl) (by kernel_rfl)) hC) (Q11_.out.up (by decide))) (T.out.below (b0.out.trans (hC.mono b0.out.size))))
  · exact .load (.agg #[.bool b7, .slice A7 n7 c7, .slice D7 m7 k7]) (.inr ⟨22, true, 111, by decide, rfl, rfl, rfl⟩) rfl rfl (fun a w' hC hs hl => by rw [show a.eval (.tmp 7) = (.pointer (some ⟨w7.heap.size, 0, none⟩) : Value) from (hs 7 (by kernel_rfl))]; exact ⟨ld_Rat_ ((K7.out.below' hC).at_ 0 rfl) ((K7.out.below' hC).at_ 1 rfl) ((K7.out.below' hC).at_ 2 rfl), Y.out⟩)
  · exact .call (.inr ⟨22, true, 111, by decide, rfl, rfl, rfl⟩) rfl rfl fn_rsame (fun a w' hC hs hl => rsame_yes (hl 114 (by kernel_rfl) (by kernel_rfl)) (RCan.below (hl 115 (by kernel_rfl) (by kernel_rfl)) hC) (by have := hy.out; rw [show Rat.divInt 1 1 = 1 from by decide +kernel]; grind))
  · exact .pick (b := true) (.inl rfl) rfl rfl (fun a w' hC hs hl => ⟨(hl 111 (by kernel_rfl) (by kernel_rfl)), (hl 116 (by kernel_rfl) (by kernel_rfl))⟩)
  · exact .move (.inl rfl) (.inr rfl) rfl (by kernel_rfl) (by kernel_rfl) rfl
  intro f w99 hC hF _
  have f0 : f 4 = .bool true := hF 4 (by kernel_rfl)
  clear hF
  simp only [patch, List.drop]
  have B9 := hide (b0.out.trans (hC.mono b0.out.size))
  clear hC
  rw [f0]
  try change wpList _ _ _ [] _ _
  go_wp2
  exact opq_end hR ⟨rfl, B9⟩
end Go.Proofs.YtnpfochbpdfcmaaGreatDoor
