/- the laws of ints: IntsOrder. -/
import Derived.Test.YtcdejccbamjdoaaDoorJd
import Derived.Test.YtcdejccbamjdoaaDoorFree3
set_option linter.unusedVariables false
set_option linter.unusedSimpArgs false
set_option maxRecDepth 100000
namespace Go.Proofs.YtcdejccbamjdoaaDoor
open Go.RowKit

set_option maxHeartbeats 2000000 in
theorem IntsOrder_ok (w : World) (b1 : Bool) (A1 : Option Addr) (n1 c1 : Nat) (xs1 : List Nat) (b2 : Bool) (A2 : Option Addr) (n2 c2 : Nat) (xs2 : List Nat) (b3 : Bool) (A3 : Option Addr) (n3 c3 : Nat) (xs3 : List Nat) (h1 : Rd w A1 n1 xs1) (i1 : Is32 xs1) (l1 : n1 ≤ c1) (h2 : Rd w A2 n2 xs2) (i2 : Is32 xs2) (l2 : n2 ≤ c2) (h3 : Rd w A3 n3 xs3) (i3 : Is32 xs3) (l3 : n3 ≤ c3) :
    Calls Tryd.prog 4 #[.agg #[.bool b1, .slice A1 n1 c1], .agg #[.bool b2, .slice A2 n2 c2], .agg #[.bool b3, .slice A3 n3 c3]] w fun e w' => e = .returned (.bool true) ∧ Hid (Below w.heap.size w w') := by
  refine opq fun R hR => ?_
  have m1 := h1.2.1
  replace h1 := hide h1
  replace i1 := hide i1
  have m2 := h2.2.1
  replace h2 := hide h2
  replace i2 := hide i2
  have m3 := h3.2.1
  replace h3 := hide h3
  replace i3 := hide i3
  go_enter Tryd.func4, Tryd.ntmps4
  have b0 := hide (Below.refl w.heap.size w)
  have K1 := hide (Blk.new_at w (w.heap.size) (by simp) 25 #[.bool b1, .slice A1 n1 c1])
  have y := (Below.refl w.heap.size w).alloc (Nat.le_refl _) (.cells #[.bool b1, .slice A1 n1 c1] 25)
  replace b0 := hide (below_tr b0.out y)
  clear y
  have K2 := hide (Blk.new_at (w.alloc (.cells #[.bool b1, .slice A1 n1 c1] 25)) (w.heap.size + 1) (by simp) 25 #[.bool b2, .slice A2 n2 c2])
  have y := (Below.refl (w.alloc (.cells #[.bool b1, .slice A1 n1 c1] 25)).heap.size (w.alloc (.cells #[.bool b1, .slice A1 n1 c1] 25))).alloc (Nat.le_refl _) (.cells #[.bool b2, .slice A2 n2 c2] 25)
  replace K1 := hide (K1.out.below' y)
  replace b0 := hide (below_tr b0.out y)
  clear y
  have K3 := hide (Blk.new_at ((w.alloc (.cells #[.bool b1, .slice A1 n1 c1] 25)).alloc (.cells #[.bool b2, .slice A2 n2 c2] 25)) (w.heap.size + 1 + 1) (by simp) 25 #[.bool b3, .slice A3 n3 c3])
  have y := (Below.refl ((w.alloc (.cells #[.bool b1, .slice A1 n1 c1] 25)).alloc (.cells #[.bool b2, .slice A2 n2 c2] 25)).heap.size ((w.alloc (.cells #[.bool b1, .slice A1 n1 c1] 25)).alloc (.cells #[.bool b2, .slice A2 n2 c2] 25))).alloc (Nat.le_refl _) (.cells #[.bool b3, .slice A3 n3 c3] 25)
  replace K1 := hide (K1.out.below' y)
  replace K2 := hide (K2.out.below' y)
  replace b0 := hide (below_tr b0.out y)
  clear y
  go_wp2_with fail
  refine (ialive_F (((w.alloc (.cells #[.bool b1, .slice A1 n1 c1] 25)).alloc (.cells #[.bool b2, .slice A2 n2 c2] 25)).alloc (.cells #[.bool b3, .slice A3 n3 c3] 25))).mono ?_
  rintro e w1 ⟨_, rfl, d0, rfl⟩
  replace K1 := hide (K1.out.below' d0)
  replace K2 := hide (K2.out.below' d0)
  replace K3 := hide (K3.out.below' d0)
  replace b0 := hide (below_tr b0.out d0)
  clear d0
  have K1c0 := K1.out.at_ 0 rfl
  have K1c1 := K1.out.at_ 1 rfl
  have K2c0 := K2.out.at_ 0 rfl
  have K2c1 := K2.out.at_ 1 rfl
  have K3c0 := K3.out.at_ 0 rfl
  have K3c1 := K3.out.at_ 1 rfl
  by_cases gg : 200 < n1 ∨ 200 < n2 ∨ 200 < n3
  case pos =>
    have y := (Below.refl w1.heap.size w1).alloc (Nat.le_refl _) (.cells #[.bool b1, .slice A1 n1 c1, .bool b2, .slice A2 n2 c2, .bool b3, .slice A3 n3 c3] 25)
    replace K1 := hide (K1.out.below' y)
    replace K2 := hide (K2.out.below' y)
    replace K3 := hide (K3.out.below' y)
    replace b0 := hide (below_tr b0.out y)
    clear y
    go_wp2_with fail
    refine (igreat3 (w := w1) rfl true (by simp; omega)).mono ?_
    rintro e w2 ⟨_, rfl, d0, rfl⟩
    replace K1 := hide (K1.out.below' d0)
    replace K2 := hide (K2.out.below' d0)
    replace K3 := hide (K3.out.below' d0)
    replace b0 := hide (below_tr b0.out d0)
    clear d0
    go_wp2_with fail
    refine (ialive_F _).mono ?_
    rintro e w3 ⟨_, rfl, d0, rfl⟩
    replace K1 := hide (K1.out.below' d0)
    replace K2 := hide (K2.out.below' d0)
    replace K3 := hide (K3.out.below' d0)
    replace b0 := hide (below_tr b0.out d0)
    clear d0
    go_wp2
    exact opq_end hR ⟨rfl, b0⟩
  have y := (Below.refl w1.heap.size w1).alloc (Nat.le_refl _) (.cells #[.bool b1, .slice A1 n1 c1, .bool b2, .slice A2 n2 c2, .bool b3, .slice A3 n3 c3] 25)
  replace K1 := hide (K1.out.below' y)
  replace K2 := hide (K2.out.below' y)
  replace K3 := hide (K3.out.below' y)
  replace b0 := hide (below_tr b0.out y)
  clear y
  go_wp2_with fail
  refine (igreat3 (w := w1) rfl false (by simp; omega)).mono ?_
  rintro e w2 ⟨_, rfl, d0, rfl⟩
  replace K1 := hide (K1.out.below' d0)
  replace K2 := hide (K2.out.below' d0)
  replace K3 := hide (K3.out.below' d0)
  replace b0 := hide (below_tr b0.out d0)
  clear d0
  clear K1c0 K1c1 K2c0 K2c1 K3c0 K3c1
  have K1c0 := K1.out.at_ 0 rfl
  have K1c1 := K1.out.at_ 1 rfl
  have K2c0 := K2.out.at_ 0 rfl
  have K2c1 := K2.out.at_ 1 rfl
  have K3c0 := K3.out.at_ 0 rfl
  have K3c1 := K3.out.at_ 1 rfl
  by_cases k1 : iok b1 xs1 = false
  case pos =>
    go_wp2_with fail
    refine (iCheck_F (h1.out.below b0.out) i1.out l1 (by omega) false k1).mono ?_
    rintro e w3 ⟨_, rfl, d0, rfl⟩
    replace K1 := hide (K1.out.below' d0)
    replace K2 := hide (K2.out.below' d0)
    replace K3 := hide (K3.out.below' d0)
    replace b0 := hide (below_tr b0.out d0)
    clear d0
    go_wp2_with fail
    refine (ialive_F _).mono ?_
    rintro e w4 ⟨_, rfl, d0, rfl⟩
    replace K1 := hide (K1.out.below' d0)
    replace K2 := hide (K2.out.below' d0)
    replace K3 := hide (K3.out.below' d0)
    replace b0 := hide (below_tr b0.out d0)
    clear d0
    go_wp2
    exact opq_end hR ⟨rfl, b0⟩
  replace k1 : iok b1 xs1 = true := by simpa using k1
  go_wp2_with fail
  refine (iCheck_F (h1.out.below b0.out) i1.out l1 (by omega) true k1).mono ?_
  rintro e w3 ⟨_, rfl, d0, rfl⟩
  replace K1 := hide (K1.out.below' d0)
  replace K2 := hide (K2.out.below' d0)
  replace K3 := hide (K3.out.below' d0)
  replace b0 := hide (below_tr b0.out d0)
  clear d0
  clear K1c0 K1c1 K2c0 K2c1 K3c0 K3c1
  have K1c0 := K1.out.at_ 0 rfl
  have K1c1 := K1.out.at_ 1 rfl
  have K2c0 := K2.out.at_ 0 rfl
  have K2c1 := K2.out.at_ 1 rfl
  have K3c0 := K3.out.at_ 0 rfl
  have K3c1 := K3.out.at_ 1 rfl
  by_cases k2 : iok b2 xs2 = false
  case pos =>
    go_wp2_with fail
    refine (iCheck_F (h2.out.below b0.out) i2.out l2 (by omega) false k2).mono ?_
    rintro e w4 ⟨_, rfl, d0, rfl⟩
    replace K1 := hide (K1.out.below' d0)
    replace K2 := hide (K2.out.below' d0)
    replace K3 := hide (K3.out.below' d0)
    replace b0 := hide (below_tr b0.out d0)
    clear d0
    go_wp2_with fail
    refine (ialive_F _).mono ?_
    rintro e w5 ⟨_, rfl, d0, rfl⟩
    replace K1 := hide (K1.out.below' d0)
    replace K2 := hide (K2.out.below' d0)
    replace K3 := hide (K3.out.below' d0)
    replace b0 := hide (below_tr b0.out d0)
    clear d0
    go_wp2
    exact opq_end hR ⟨rfl, b0⟩
  replace k2 : iok b2 xs2 = true := by simpa using k2
  go_wp2_with fail
  refine (iCheck_F (h2.out.below b0.out) i2.out l2 (by omega) true k2).mono ?_
  rintro e w4 ⟨_, rfl, d0, rfl⟩
  replace K1 := hide (K1.out.below' d0)
  replace K2 := hide (K2.out.below' d0)
  replace K3 := hide (K3.out.below' d0)
  replace b0 := hide (below_tr b0.out d0)
  clear d0
  clear K1c0 K1c1 K2c0 K2c1 K3c0 K3c1
  have K1c0 := K1.out.at_ 0 rfl
  have K1c1 := K1.out.at_ 1 rfl
  have K2c0 := K2.out.at_ 0 rfl
  have K2c1 := K2.out.at_ 1 rfl
  have K3c0 := K3.out.at_ 0 rfl
  have K3c1 := K3.out.at_ 1 rfl
  by_cases k3 : iok b3 xs3 = false
  case pos =>
    go_wp2_with fail
    refine (iCheck_F (h3.out.below b0.out) i3.out l3 (by omega) false k3).mono ?_
    rintro e w5 ⟨_, rfl, d0, rfl⟩
    replace K1 := hide (K1.out.below' d0)
    replace K2 := hide (K2.out.below' d0)
    replace K3 := hide (K3.out.below' d0)
    replace b0 := hide (below_tr b0.out d0)
    clear d0
    go_wp2_with fail
    refine (ialive_F _).mono ?_
    rintro e w6 ⟨_, rfl, d0, rfl⟩
    replace K1 := hide (K1.out.below' d0)
    replace K2 := hide (K2.out.below' d0)
    replace K3 := hide (K3.out.below' d0)
    replace b0 := hide (below_tr b0.out d0)
    clear d0
    go_wp2
    exact opq_end hR ⟨rfl, b0⟩
  replace k3 : iok b3 xs3 = true := by simpa using k3
  go_wp2_with fail
  refine (iCheck_F (h3.out.below b0.out) i3.out l3 (by omega) true k3).mono ?_
  rintro e w5 ⟨_, rfl, d0, rfl⟩
  replace K1 := hide (K1.out.below' d0)
  replace K2 := hide (K2.out.below' d0)
  replace K3 := hide (K3.out.below' d0)
  replace b0 := hide (below_tr b0.out d0)
  clear d0
  clear K1c0 K1c1 K2c0 K2c1 K3c0 K3c1
  have K1c0 := K1.out.at_ 0 rfl
  have K1c1 := K1.out.at_ 1 rfl
  have K2c0 := K2.out.at_ 0 rfl
  have K2c1 := K2.out.at_ 1 rfl
  have K3c0 := K3.out.at_ 0 rfl
  have K3c1 := K3.out.at_ 1 rfl
  have a1 := hide (ican_of h1.out i1.out l1 (by omega) k1)
  have S1 : Hid (L (iv b1 xs1).natAbs ≤ 200) := Nat.le_trans (iv_L i1.out) (by rw [h1.out.1]; omega)
  clear h1 i1 k1
  generalize iv b1 xs1 = x at *
  have a2 := hide (ican_of h2.out i2.out l2 (by omega) k2)
  have S2 : Hid (L (iv b2 xs2).natAbs ≤ 200) := Nat.le_trans (iv_L i2.out) (by rw [h2.out.1]; omega)
  clear h2 i2 k2
  generalize iv b2 xs2 = y at *
  have a3 := hide (ican_of h3.out i3.out l3 (by omega) k3)
  have S3 : Hid (L (iv b3 xs3).natAbs ≤ 200) := Nat.le_trans (iv_L i3.out) (by rw [h3.out.1]; omega)
  clear h3 i3 k3
  generalize iv b3 xs3 = z at *
  rcases Int.lt_trichotomy x y with h0 | h0 | h0
  case inl =>
    replace h0 := hide h0
    go_wp2_with fail
    refine (iCmp_eq (ICan.arg (a1.out.below b0.out) (L_up S1.out (by decide))) (ICan.arg (a2.out.below b0.out) (L_up S2.out (by decide))) (cmpI_lt h0.out)).mono ?_
    rintro e w6 ⟨_, rfl, d0, rfl⟩
    replace K1 := hide (K1.out.below' d0)
    replace K2 := hide (K2.out.below' d0)
    replace K3 := hide (K3.out.below' d0)
    replace b0 := hide (below_tr b0.out d0)
    clear d0
    clear K1c0 K1c1 K2c0 K2c1 K3c0 K3c1
    go_wp2
    have Q1 : Hid (L ((x + z)).natAbs ≤ 201) := Z_add S1.out S3.out (by decide)
    have Q2 : Hid (L ((y + z)).natAbs ≤ 201) := Z_add S2.out S3.out (by decide)
    have Q3 : Hid (L ((x - y)).natAbs ≤ 201) := Z_sub S1.out S2.out (by decide)
    refine wp_region_facts 41 (fun w' => Below w6.heap.size w6 w') [(36, .eq (.int .i64 (-1))), (37, .eq (.bool false)), (38, .eq (.bool false)), (39, .eq (.int .i64 (-1))), (40, .eq (.bool false)), (41, .eq (.bool false)), (42, .eq (.bool false)), (43, (.int0 w y)), (44, (.int0 w x)), (45, .eq (.int .i64 (1))), (46, .eq (.int .i64 (-1))), (47, .eq (.int .i64 (1))), (48, .eq (.bool false)), (49, .eq (.bool false)), (50, .eq (.bool false)), (51, .eq (.int .i64 (-1))), (52, .eq (.bool false)), (53, (.int0 w x)), (54, (.int0 w y)), (55, .eq (.bool false)), (56, .eq (.bool false)), (57, .eq (.bool false)), (58, .eq (.bool false)), (59, (.int0 w x)), (60, (.int0 w z)), (61, (.int (x + z))), (62, (.int0 w y)), (63, (.int0 w z)), (64, (.int (y + z))), (65, .eq (.int .i64 (-1))), (66, .eq (.int .i64 (-1))), (67, .eq (.bool false)), (68, .eq (.bool false)), (69, .eq (.bool false)), (70, (.int0 w x)), (71, (.int0 w y)), (72, (.int (x - y))), (73, .eq (.int .i64 (-1))), (74, .eq (.int .i64 (-1))), (75, .eq (.bool false)), (76, .eq (.bool false))] [false, false, false, false, false, false, false, false, false, false, false, false, false, false, false, false, false, false, false, false, false, false, false, false, false, false, false, false, false, false, false, false, false, false, false, false, true, true, true, true, true, true, true, true, true, true, true, true, true, true, true, true, true, true, true, true, true, true, true, true, true, true, true, true, true, true, true, true, true, true, true, true, true, true, true, true, true, false, false, false, false, false, false, false, false, false, false, false, false, false, false] mixed (by kernel_rfl) (by kernel_rfl) (by kernel_rfl) (fun _ _ h hb => h.trans (hb.mono h.size)) ((Below.refl _ _).drew) ⟨?_, ?_, ?_, ?_, ?_, ?_, ?_, ?_, ?_, ?_, ?_, ?_, ?_, ?_, ?_, ?_, ?_, ?_, ?_, ?_, ?_, ?_, ?_, ?_, ?_, ?_, ?_, ?_, ?_, ?_, ?_, ?_, ?_, ?_, ?_, ?_, ?_, ?_, ?_, ?_, ?_, trivial⟩ ?_
    · exact .moveC (.inl rfl) (.inl rfl) rfl (fun a w' hC hs => (hs 7 (by kernel_rfl)))
    · exact .value (.inl rfl) (by intro T e; cases e) rfl rfl (fun a w' hC hs hl => by
        have e0 : a.eval (.tmp 36) = (.int .i64 (-1)) := (hl 36 (by kernel_rfl) (by kernel_rfl))
        simp only [execOp, e0]
        simp only [Act.eval]
        simp [go_sem] <;> rfl)
    · exact .move (.inl rfl) (.inl rfl) rfl (by kernel_rfl) (by kernel_rfl) rfl
    · exact .moveC (.inr ⟨2, false, 38, by decide, rfl, rfl, rfl⟩) (.inl rfl) rfl (fun a w' hC hs => (hs 7 (by kernel_rfl)))
    · exact .value (.inr ⟨2, false, 38, by decide, rfl, rfl, rfl⟩) (by intro T e; cases e) rfl rfl (fun a w' hC hs hl => by
        have e0 : a.eval (.tmp 39) = (.int .i64 (-1)) := (hl 39 (by kernel_rfl) (by kernel_rfl))
        simp only [execOp, e0]
        simp only [Act.eval]
        simp [go_sem] <;> rfl)
    · exact .pick (b := false) (.inl rfl) rfl rfl (fun a w' hC hs hl => ⟨(hl 38 (by kernel_rfl) (by kernel_rfl)), (hl 40 (by kernel_rfl) (by kernel_rfl))⟩)
    · exact .move (.inl rfl) (.inl rfl) rfl (by kernel_rfl) (by kernel_rfl) rfl
    · exact .load (.agg #[.bool b2, .slice A2 n2 c2]) (.inr ⟨6, false, 42, by decide, rfl, rfl, rfl⟩) rfl rfl (fun a w' hC hs hl => by rw [show a.eval (.tmp 4) = (.pointer (some ⟨w.heap.size + 1, 0, none⟩) : Value) from (hs 4 (by kernel_rfl))]; exact ⟨ld_Int (K2.out.below' hC), a2.out⟩)
    · exact .load (.agg #[.bool b1, .slice A1 n1 c1]) (.inr ⟨6, false, 42, by decide, rfl, rfl, rfl⟩) rfl rfl (fun a w' hC hs hl => by rw [show a.eval (.tmp 3) = (.pointer (some ⟨w.heap.size, 0, none⟩) : Value) from (hs 3 (by kernel_rfl))]; exact ⟨ld_Int (K1.out.below' hC), a1.out⟩)
    · exact .call (.inr ⟨6, false, 42, by decide, rfl, rfl, rfl⟩) rfl rfl fn_iCmp (fun a w' hC hs hl => iCmp_eq (ICan.arg ((hl 43 (by kernel_rfl) (by kernel_rfl)).below (b0.out.trans (hC.mono b0.out.size))) (L_up S2.out (by decide))) (ICan.arg ((hl 44 (by kernel_rfl) (by kernel_rfl)).below (b0.out.trans (hC.mono b0.out.size))) (L_up S1.out (by decide))) (cmpI_gt h0.out))
    · exact .moveC (.inr ⟨6, false, 42, by decide, rfl, rfl, rfl⟩) (.inl rfl) rfl (fun a w' hC hs => (hs 7 (by kernel_rfl)))
    · exact .value (.inr ⟨6, false, 42, by decide, rfl, rfl, rfl⟩) (by intro T e; cases e) rfl rfl (fun a w' hC hs hl => by
        have e0 : a.eval (.tmp 46) = (.int .i64 (-1)) := (hl 46 (by kernel_rfl) (by kernel_rfl))
        simp only [execOp, e0]
        skip
        simp [go_sem] <;> rfl)
    · exact .value (.inr ⟨6, false, 42, by decide, rfl, rfl, rfl⟩) (by intro T e; cases e) rfl rfl (fun a w' hC hs hl => by
        have e0 : a.eval (.tmp 45) = (.int .i64 (1)) := (hl 45 (by kernel_rfl) (by kernel_rfl))
        have e1 : a.eval (.tmp 47) = (.int .i64 (1)) := (hl 47 (by kernel_rfl) (by kernel_rfl))
        simp only [execOp, e0, e1]
        skip
        simp [go_sem] <;> rfl)
    · exact .pick (b := false) (.inl rfl) rfl rfl (fun a w' hC hs hl => ⟨(hl 42 (by kernel_rfl) (by kernel_rfl)), (hl 48 (by kernel_rfl) (by kernel_rfl))⟩)
    · exact .move (.inl rfl) (.inl rfl) rfl (by kernel_rfl) (by kernel_rfl) rfl
    · exact .moveC (.inr ⟨14, false, 50, by decide, rfl, rfl, rfl⟩) (.inl rfl) rfl (fun a w' hC hs => (hs 7 (by kernel_rfl)))
    · exact .value (.inr ⟨14, false, 50, by decide, rfl, rfl, rfl⟩) (by intro T e; cases e) rfl rfl (fun a w' hC hs hl => by
        have e0 : a.eval (.tmp 51) = (.int .i64 (-1)) := (hl 51 (by kernel_rfl) (by kernel_rfl))
        simp only [execOp, e0]
        simp only [Act.eval]
        simp [go_sem] <;> rfl)
    · exact .load (.agg #[.bool b1, .slice A1 n1 c1]) (.inr ⟨14, false, 50, by decide, rfl, rfl, rfl⟩) rfl rfl (fun a w' hC hs hl => by rw [show a.eval (.tmp 3) = (.pointer (some ⟨w.heap.size, 0, none⟩) : Value) from (hs 3 (by kernel_rfl))]; exact ⟨ld_Int (K1.out.below' hC), a1.out⟩)
    · exact .load (.agg #[.bool b2, .slice A2 n2 c2]) (.inr ⟨14, false, 50, by decide, rfl, rfl, rfl⟩) rfl rfl (fun a w' hC hs hl => by rw [show a.eval (.tmp 4) = (.pointer (some ⟨w.heap.size + 1, 0, none⟩) : Value) from (hs 4 (by kernel_rfl))]; exact ⟨ld_Int (K2.out.below' hC), a2.out⟩)
    · exact .call (.inr ⟨14, false, 50, by decide, rfl, rfl, rfl⟩) rfl rfl fn_isame (fun a w' hC hs hl => isame_no ((hl 53 (by kernel_rfl) (by kernel_rfl)).below (b0.out.trans (hC.mono b0.out.size))) ((hl 54 (by kernel_rfl) (by kernel_rfl)).below (b0.out.trans (hC.mono b0.out.size))) (by have := h0.out; omega))
    · exact .value (.inr ⟨14, false, 50, by decide, rfl, rfl, rfl⟩) (by intro T e; cases e) rfl rfl (fun a w' hC hs hl => by
        have e0 : a.eval (.tmp 52) = (.bool false) := (hl 52 (by kernel_rfl) (by kernel_rfl))
        have e1 : a.eval (.tmp 55) = (.bool false) := (hl 55 (by kernel_rfl) (by kernel_rfl))
        simp only [execOp, e0, e1]
        skip
        simp [go_sem] <;> rfl)
    · exact .pick (b := false) (.inl rfl) rfl rfl (fun a w' hC hs hl => ⟨(hl 50 (by kernel_rfl) (by kernel_rfl)), (hl 56 (by kernel_rfl) (by kernel_rfl))⟩)
    · exact .move (.inl rfl) (.inl rfl) rfl (by kernel_rfl) (by kernel_rfl) rfl
    · exact .load (.agg #[.bool b1, .slice A1 n1 c1]) (.inr ⟨22, false, 58, by decide, rfl, rfl, rfl⟩) rfl rfl (fun a w' hC hs hl => by rw [show a.eval (.tmp 3) = (.pointer (some ⟨w.heap.size, 0, none⟩) : Value) from (hs 3 (by kernel_rfl))]; exact ⟨ld_Int (K1.out.below' hC), a1.out⟩)
    · exact .load (.agg #[.bool b3, .slice A3 n3 c3]) (.inr ⟨22, false, 58, by decide, rfl, rfl, rfl⟩) rfl rfl (fun a w' hC hs hl => by rw [show a.eval (.tmp 5) = (.pointer (some ⟨w.heap.size + 1 + 1, 0, none⟩) : Value) from (hs 5 (by kernel_rfl))]; exact ⟨ld_Int (K3.out.below' hC), a3.out⟩)
    · exact .call (.inr ⟨22, false, 58, by decide, rfl, rfl, rfl⟩) rfl rfl fn_iAdd (fun a w' hC hs hl => iAdd_C (ICan.arg ((hl 59 (by kernel_rfl) (by kernel_rfl)).below (b0.out.trans (hC.mono b0.out.size))) (L_up S1.out (by decide))) (ICan.arg ((hl 60 (by kernel_rfl) (by kernel_rfl)).below (b0.out.trans (hC.mono b0.out.size))) (L_up S3.out (by decide))))
    · exact .load (.agg #[.bool b2, .slice A2 n2 c2]) (.inr ⟨22, false, 58, by decide, rfl, rfl, rfl⟩) rfl rfl (fun a w' hC hs hl => by rw [show a.eval (.tmp 4) = (.pointer (some ⟨w.heap.size + 1, 0, none⟩) : Value) from (hs 4 (by kernel_rfl))]; exact ⟨ld_Int (K2.out.below' hC), a2.out⟩)
    · exact .load (.agg #[.bool b3, .slice A3 n3 c3]) (.inr ⟨22, false, 58, by decide, rfl, rfl, rfl⟩) rfl rfl (fun a w' hC hs hl => by rw [show a.eval (.tmp 5) = (.pointer (some ⟨w.heap.size + 1 + 1, 0, none⟩) : Value) from (hs 5 (by kernel_rfl))]; exact ⟨ld_Int (K3.out.below' hC), a3.out⟩)
    · exact .call (.inr ⟨22, false, 58, by decide, rfl, rfl, rfl⟩) rfl rfl fn_iAdd (fun a w' hC hs hl => iAdd_C (ICan.arg ((hl 62 (by kernel_rfl) (by kernel_rfl)).below (b0.out.trans (hC.mono b0.out.size))) (L_up S2.out (by decide))) (ICan.arg ((hl 63 (by kernel_rfl) (by kernel_rfl)).below (b0.out.trans (hC.mono b0.out.size))) (L_up S3.out (by decide))))
    · exact .call (.inr ⟨22, false, 58, by decide, rfl, rfl, rfl⟩) rfl rfl fn_iCmp (fun a w' hC hs hl => iCmp_eq (ICan.arg (hl 61 (by kernel_rfl) (by kernel_rfl)) (L_up Q1.out (by decide))) (ICan.arg (hl 64 (by kernel_rfl) (by kernel_rfl)) (L_up Q2.out (by decide))) (cmpI_lt (by have := h0.out; omega)))
    · exact .moveC (.inr ⟨22, false, 58, by decide, rfl, rfl, rfl⟩) (.inl rfl) rfl (fun a w' hC hs => (hs 7 (by kernel_rfl)))
    · exact .value (.inr ⟨22, false, 58, by decide, rfl, rfl, rfl⟩) (by intro T e; cases e) rfl rfl (fun a w' hC hs hl => by
        have e0 : a.eval (.tmp 65) = (.int .i64 (-1)) := (hl 65 (by kernel_rfl) (by kernel_rfl))
        have e1 : a.eval (.tmp 66) = (.int .i64 (-1)) := (hl 66 (by kernel_rfl) (by kernel_rfl))
        simp only [execOp, e0, e1]
        skip
        simp [go_sem] <;> rfl)
    · exact .pick (b := false) (.inl rfl) rfl rfl (fun a w' hC hs hl => ⟨(hl 58 (by kernel_rfl) (by kernel_rfl)), (hl 67 (by kernel_rfl) (by kernel_rfl))⟩)
    · exact .move (.inl rfl) (.inl rfl) rfl (by kernel_rfl) (by kernel_rfl) rfl
    · exact .load (.agg #[.bool b1, .slice A1 n1 c1]) (.inr ⟨33, false, 69, by decide, rfl, rfl, rfl⟩) rfl rfl (fun a w' hC hs hl => by rw [show a.eval (.tmp 3) = (.pointer (some ⟨w.heap.size, 0, none⟩) : Value) from (hs 3 (by kernel_rfl))]; exact ⟨ld_Int (K1.out.below' hC), a1.out⟩)
    · exact .load (.agg #[.bool b2, .slice A2 n2 c2]) (.inr ⟨33, false, 69, by decide, rfl, rfl, rfl⟩) rfl rfl (fun a w' hC hs hl => by rw [show a.eval (.tmp 4) = (.pointer (some ⟨w.heap.size + 1, 0, none⟩) : Value) from (hs 4 (by kernel_rfl))]; exact ⟨ld_Int (K2.out.below' hC), a2.out⟩)
    · exact .call (.inr ⟨33, false, 69, by decide, rfl, rfl, rfl⟩) rfl rfl fn_iSub (fun a w' hC hs hl => iSub_C (ICan.arg ((hl 70 (by kernel_rfl) (by kernel_rfl)).below (b0.out.trans (hC.mono b0.out.size))) (L_up S1.out (by decide))) (ICan.arg ((hl 71 (by kernel_rfl) (by kernel_rfl)).below (b0.out.trans (hC.mono b0.out.size))) (L_up S2.out (by decide))))
    · exact .call (.inr ⟨33, false, 69, by decide, rfl, rfl, rfl⟩) rfl rfl fn_iSign (fun a w' hC hs hl => iSign_eq (ICan.arg (hl 72 (by kernel_rfl) (by kernel_rfl)) (L_up Q3.out (by decide))) (cmpI_lt (by have := h0.out; omega)))
    · exact .moveC (.inr ⟨33, false, 69, by decide, rfl, rfl, rfl⟩) (.inl rfl) rfl (fun a w' hC hs => (hs 7 (by kernel_rfl)))
    · exact .value (.inr ⟨33, false, 69, by decide, rfl, rfl, rfl⟩) (by intro T e; cases e) rfl rfl (fun a w' hC hs hl => by
        have e0 : a.eval (.tmp 73) = (.int .i64 (-1)) := (hl 73 (by kernel_rfl) (by kernel_rfl))
        have e1 : a.eval (.tmp 74) = (.int .i64 (-1)) := (hl 74 (by kernel_rfl) (by kernel_rfl))
        simp only [execOp, e0, e1]
        skip
        simp [go_sem] <;> rfl)
    · exact .pick (b := false) (.inl rfl) rfl rfl (fun a w' hC hs hl => ⟨(hl 69 (by kernel_rfl) (by kernel_rfl)), (hl 75 (by kernel_rfl) (by kernel_rfl))⟩)
    intro f w9 hC hF _
    have f6 : f 76 = .bool false := hF 76 (by kernel_rfl)
    clear hF
    simp only [patch, List.drop]
    rw [f6]
    generalize f 36 = y36 at *
    generalize f 37 = y37 at *
    generalize f 38 = y38 at *
    generalize f 39 = y39 at *
    generalize f 40 = y40 at *
    generalize f 41 = y41 at *
    generalize f 42 = y42 at *
    generalize f 43 = y43 at *
    generalize f 44 = y44 at *
    generalize f 45 = y45 at *
    generalize f 46 = y46 at *
    generalize f 47 = y47 at *
    generalize f 48 = y48 at *
    generalize f 49 = y49 at *
    generalize f 50 = y50 at *
    generalize f 51 = y51 at *
    generalize f 52 = y52 at *
    generalize f 53 = y53 at *
    generalize f 54 = y54 at *
    generalize f 55 = y55 at *
    generalize f 56 = y56 at *
    generalize f 57 = y57 at *
    generalize f 58 = y58 at *
    generalize f 59 = y59 at *
    generalize f 60 = y60 at *
    generalize f 61 = y61 at *
    generalize f 62 = y62 at *
    generalize f 63 = y63 at *
    generalize f 64 = y64 at *
    generalize f 65 = y65 at *
    generalize f 66 = y66 at *
    generalize f 67 = y67 at *
    generalize f 68 = y68 at *
    generalize f 69 = y69 at *
    generalize f 70 = y70 at *
    generalize f 71 = y71 at *
    generalize f 72 = y72 at *
    generalize f 73 = y73 at *
    generalize f 74 = y74 at *
    generalize f 75 = y75 at *
    clear f6
    replace K1 := hide (K1.out.below' hC)
    replace K2 := hide (K2.out.below' hC)
    replace K3 := hide (K3.out.below' hC)
    replace b0 := hide (b0.out.trans (hC.mono b0.out.size))
    clear hC
    by_cases h2 : y > z
    case pos =>
      have K1c0 := K1.out.at_ 0 rfl
      have K1c1 := K1.out.at_ 1 rfl
      have K2c0 := K2.out.at_ 0 rfl
      have K2c1 := K2.out.at_ 1 rfl
      have K3c0 := K3.out.at_ 0 rfl
      have K3c1 := K3.out.at_ 1 rfl
      go_wp2_with fail
      refine (iCmp_eq (ICan.arg (a2.out.below b0.out) (L_up S2.out (by decide))) (ICan.arg (a3.out.below b0.out) (L_up S3.out (by decide))) (r := 1) (cmpI_gt h2)).mono ?_
      rintro e w7 ⟨_, rfl, d0, rfl⟩
      replace K1 := hide (K1.out.below' d0)
      replace K2 := hide (K2.out.below' d0)
      replace K3 := hide (K3.out.below' d0)
      replace b0 := hide (below_tr b0.out d0)
      clear d0
      clear K1c0 K1c1 K2c0 K2c1 K3c0 K3c1
      have K1c0 := K1.out.at_ 0 rfl
      have K1c1 := K1.out.at_ 1 rfl
      have K2c0 := K2.out.at_ 0 rfl
      have K2c1 := K2.out.at_ 1 rfl
      have K3c0 := K3.out.at_ 0 rfl
      have K3c1 := K3.out.at_ 1 rfl
      go_wp2
      exact opq_end hR ⟨rfl, b0⟩
    rcases Int.lt_or_eq_of_le (Int.not_lt.1 h2) with h3 | h3
    case inl =>
      have K1c0 := K1.out.at_ 0 rfl
      have K1c1 := K1.out.at_ 1 rfl
      have K2c0 := K2.out.at_ 0 rfl
      have K2c1 := K2.out.at_ 1 rfl
      have K3c0 := K3.out.at_ 0 rfl
      have K3c1 := K3.out.at_ 1 rfl
      go_wp2_with fail
      refine (iCmp_eq (ICan.arg (a2.out.below b0.out) (L_up S2.out (by decide))) (ICan.arg (a3.out.below b0.out) (L_up S3.out (by decide))) (r := -1) (cmpI_lt h3)).mono ?_
      rintro e w7 ⟨_, rfl, d0, rfl⟩
      replace K1 := hide (K1.out.below' d0)
      replace K2 := hide (K2.out.below' d0)
      replace K3 := hide (K3.out.below' d0)
      replace b0 := hide (below_tr b0.out d0)
      clear d0
      clear K1c0 K1c1 K2c0 K2c1 K3c0 K3c1
      have K1c0 := K1.out.at_ 0 rfl
      have K1c1 := K1.out.at_ 1 rfl
      have K2c0 := K2.out.at_ 0 rfl
      have K2c1 := K2.out.at_ 1 rfl
      have K3c0 := K3.out.at_ 0 rfl
      have K3c1 := K3.out.at_ 1 rfl
      go_wp2_with fail
      refine (iCmp_eq (ICan.arg (a1.out.below b0.out) (L_up S1.out (by decide))) (ICan.arg (a3.out.below b0.out) (L_up S3.out (by decide))) (r := -1) (cmpI_lt (by have := h0.out; omega))).mono ?_
      rintro e w8 ⟨_, rfl, d0, rfl⟩
      replace K1 := hide (K1.out.below' d0)
      replace K2 := hide (K2.out.below' d0)
      replace K3 := hide (K3.out.below' d0)
      replace b0 := hide (below_tr b0.out d0)
      clear d0
      clear K1c0 K1c1 K2c0 K2c1 K3c0 K3c1
      have K1c0 := K1.out.at_ 0 rfl
      have K1c1 := K1.out.at_ 1 rfl
      have K2c0 := K2.out.at_ 0 rfl
      have K2c1 := K2.out.at_ 1 rfl
      have K3c0 := K3.out.at_ 0 rfl
      have K3c1 := K3.out.at_ 1 rfl
      go_wp2
      exact opq_end hR ⟨rfl, b0⟩
    case inr =>
      have K1c0 := K1.out.at_ 0 rfl
      have K1c1 := K1.out.at_ 1 rfl
      have K2c0 := K2.out.at_ 0 rfl
      have K2c1 := K2.out.at_ 1 rfl
      have K3c0 := K3.out.at_ 0 rfl
      have K3c1 := K3.out.at_ 1 rfl
      go_wp2_with fail
      refine (iCmp_eq (ICan.arg (a2.out.below b0.out) (L_up S2.out (by decide))) (ICan.arg (a3.out.below b0.out) (L_up S3.out (by decide))) (r := 0) (by rw [h3]; exact cmpI_eq _)).mono ?_
      rintro e w7 ⟨_, rfl, d0, rfl⟩
      replace K1 := hide (K1.out.below' d0)
      replace K2 := hide (K2.out.below' d0)
      replace K3 := hide (K3.out.below' d0)
      replace b0 := hide (below_tr b0.out d0)
      clear d0
      clear K1c0 K1c1 K2c0 K2c1 K3c0 K3c1
      have K1c0 := K1.out.at_ 0 rfl
      have K1c1 := K1.out.at_ 1 rfl
      have K2c0 := K2.out.at_ 0 rfl
      have K2c1 := K2.out.at_ 1 rfl
      have K3c0 := K3.out.at_ 0 rfl
      have K3c1 := K3.out.at_ 1 rfl
      go_wp2_with fail
      refine (iCmp_eq (ICan.arg (a1.out.below b0.out) (L_up S1.out (by decide))) (ICan.arg (a3.out.below b0.out) (L_up S3.out (by decide))) (r := -1) (cmpI_lt (by have := h0.out; omega))).mono ?_
      rintro e w8 ⟨_, rfl, d0, rfl⟩
      replace K1 := hide (K1.out.below' d0)
      replace K2 := hide (K2.out.below' d0)
      replace K3 := hide (K3.out.below' d0)
      replace b0 := hide (below_tr b0.out d0)
      clear d0
      clear K1c0 K1c1 K2c0 K2c1 K3c0 K3c1
      have K1c0 := K1.out.at_ 0 rfl
      have K1c1 := K1.out.at_ 1 rfl
      have K2c0 := K2.out.at_ 0 rfl
      have K2c1 := K2.out.at_ 1 rfl
      have K3c0 := K3.out.at_ 0 rfl
      have K3c1 := K3.out.at_ 1 rfl
      go_wp2
      exact opq_end hR ⟨rfl, b0⟩
  case inr.inl =>
    subst h0
    go_wp2_with fail
    refine (iCmp_eq (ICan.arg (a1.out.below b0.out) (L_up S1.out (by decide))) (ICan.arg (a2.out.below b0.out) (L_up S2.out (by decide))) (cmpI_eq _)).mono ?_
    rintro e w6 ⟨_, rfl, d0, rfl⟩
    replace K1 := hide (K1.out.below' d0)
    replace K2 := hide (K2.out.below' d0)
    replace K3 := hide (K3.out.below' d0)
    replace b0 := hide (below_tr b0.out d0)
    clear d0
    clear K1c0 K1c1 K2c0 K2c1 K3c0 K3c1
    go_wp2
    have Q1 : Hid (L ((x + z)).natAbs ≤ 201) := Z_add S1.out S3.out (by decide)
    have Q2 : Hid (L ((x - x)).natAbs ≤ 201) := Z_sub S1.out S1.out (by decide)
    refine wp_region_facts 41 (fun w' => Below w6.heap.size w6 w') [(36, .eq (.int .i64 (0))), (37, .eq (.bool false)), (38, .eq (.bool false)), (39, .eq (.int .i64 (0))), (40, .eq (.bool false)), (41, .eq (.bool false)), (42, .eq (.bool false)), (43, (.int0 w x)), (44, (.int0 w x)), (45, .eq (.int .i64 (0))), (46, .eq (.int .i64 (0))), (47, .eq (.int .i64 (0))), (48, .eq (.bool false)), (49, .eq (.bool false)), (50, .eq (.bool false)), (51, .eq (.int .i64 (0))), (52, .eq (.bool true)), (53, (.int0 w x)), (54, (.int0 w x)), (55, .eq (.bool true)), (56, .eq (.bool false)), (57, .eq (.bool false)), (58, .eq (.bool false)), (59, (.int0 w x)), (60, (.int0 w z)), (61, (.int (x + z))), (62, (.int0 w x)), (63, (.int0 w z)), (64, (.int (x + z))), (65, .eq (.int .i64 (0))), (66, .eq (.int .i64 (0))), (67, .eq (.bool false)), (68, .eq (.bool false)), (69, .eq (.bool false)), (70, (.int0 w x)), (71, (.int0 w x)), (72, (.int (x - x))), (73, .eq (.int .i64 (0))), (74, .eq (.int .i64 (0))), (75, .eq (.bool false)), (76, .eq (.bool false))] [false, false, false, false, false, false, false, false, false, false, false, false, false, false, false, false, false, false, false, false, false, false, false, false, false, false, false, false, false, false, false, false, false, false, false, false, true, true, true, true, true, true, true, true, true, true, true, true, true, true, true, true, true, true, true, true, true, true, true, true, true, true, true, true, true, true, true, true, true, true, true, true, true, true, true, true, true, false, false, false, false, false, false, false, false, false, false, false, false, false, false] mixed (by kernel_rfl) (by kernel_rfl) (by kernel_rfl) (fun _ _ h hb => h.trans (hb.mono h.size)) ((Below.refl _ _).drew) ⟨?_, ?_, ?_, ?_, ?_, ?_, ?_, ?_, ?_, ?_, ?_, ?_, ?_, ?_, ?_, ?_, ?_, ?_, ?_, ?_, ?_, ?_, ?_, ?_, ?_, ?_, ?_, ?_, ?_, ?_, ?_, ?_, ?_, ?_, ?_, ?_, ?_, ?_, ?_, ?_, ?_, trivial⟩ ?_
    · exact .moveC (.inl rfl) (.inl rfl) rfl (fun a w' hC hs => (hs 7 (by kernel_rfl)))
    · exact .value (.inl rfl) (by intro T e; cases e) rfl rfl (fun a w' hC hs hl => by
        have e0 : a.eval (.tmp 36) = (.int .i64 (0)) := (hl 36 (by kernel_rfl) (by kernel_rfl))
        simp only [execOp, e0]
        simp only [Act.eval]
        simp [go_sem] <;> rfl)
    · exact .move (.inl rfl) (.inl rfl) rfl (by kernel_rfl) (by kernel_rfl) rfl
    · exact .moveC (.inr ⟨2, false, 38, by decide, rfl, rfl, rfl⟩) (.inl rfl) rfl (fun a w' hC hs => (hs 7 (by kernel_rfl)))
    · exact .value (.inr ⟨2, false, 38, by decide, rfl, rfl, rfl⟩) (by intro T e; cases e) rfl rfl (fun a w' hC hs hl => by
        have e0 : a.eval (.tmp 39) = (.int .i64 (0)) := (hl 39 (by kernel_rfl) (by kernel_rfl))
        simp only [execOp, e0]
        simp only [Act.eval]
        simp [go_sem] <;> rfl)
    · exact .pick (b := false) (.inl rfl) rfl rfl (fun a w' hC hs hl => ⟨(hl 38 (by kernel_rfl) (by kernel_rfl)), (hl 40 (by kernel_rfl) (by kernel_rfl))⟩)
    · exact .move (.inl rfl) (.inl rfl) rfl (by kernel_rfl) (by kernel_rfl) rfl
    · exact .load (.agg #[.bool b2, .slice A2 n2 c2]) (.inr ⟨6, false, 42, by decide, rfl, rfl, rfl⟩) rfl rfl (fun a w' hC hs hl => by rw [show a.eval (.tmp 4) = (.pointer (some ⟨w.heap.size + 1, 0, none⟩) : Value) from (hs 4 (by kernel_rfl))]; exact ⟨ld_Int (K2.out.below' hC), a2.out⟩)
    · exact .load (.agg #[.bool b1, .slice A1 n1 c1]) (.inr ⟨6, false, 42, by decide, rfl, rfl, rfl⟩) rfl rfl (fun a w' hC hs hl => by rw [show a.eval (.tmp 3) = (.pointer (some ⟨w.heap.size, 0, none⟩) : Value) from (hs 3 (by kernel_rfl))]; exact ⟨ld_Int (K1.out.below' hC), a1.out⟩)
    · exact .call (.inr ⟨6, false, 42, by decide, rfl, rfl, rfl⟩) rfl rfl fn_iCmp (fun a w' hC hs hl => iCmp_eq (ICan.arg ((hl 43 (by kernel_rfl) (by kernel_rfl)).below (b0.out.trans (hC.mono b0.out.size))) (L_up S1.out (by decide))) (ICan.arg ((hl 44 (by kernel_rfl) (by kernel_rfl)).below (b0.out.trans (hC.mono b0.out.size))) (L_up S1.out (by decide))) (cmpI_eq _))
    · exact .moveC (.inr ⟨6, false, 42, by decide, rfl, rfl, rfl⟩) (.inl rfl) rfl (fun a w' hC hs => (hs 7 (by kernel_rfl)))
    · exact .value (.inr ⟨6, false, 42, by decide, rfl, rfl, rfl⟩) (by intro T e; cases e) rfl rfl (fun a w' hC hs hl => by
        have e0 : a.eval (.tmp 46) = (.int .i64 (0)) := (hl 46 (by kernel_rfl) (by kernel_rfl))
        simp only [execOp, e0]
        skip
        simp [go_sem] <;> rfl)
    · exact .value (.inr ⟨6, false, 42, by decide, rfl, rfl, rfl⟩) (by intro T e; cases e) rfl rfl (fun a w' hC hs hl => by
        have e0 : a.eval (.tmp 45) = (.int .i64 (0)) := (hl 45 (by kernel_rfl) (by kernel_rfl))
        have e1 : a.eval (.tmp 47) = (.int .i64 (0)) := (hl 47 (by kernel_rfl) (by kernel_rfl))
        simp only [execOp, e0, e1]
        skip
        simp [go_sem] <;> rfl)
    · exact .pick (b := false) (.inl rfl) rfl rfl (fun a w' hC hs hl => ⟨(hl 42 (by kernel_rfl) (by kernel_rfl)), (hl 48 (by kernel_rfl) (by kernel_rfl))⟩)
    · exact .move (.inl rfl) (.inl rfl) rfl (by kernel_rfl) (by kernel_rfl) rfl
    · exact .moveC (.inr ⟨14, false, 50, by decide, rfl, rfl, rfl⟩) (.inl rfl) rfl (fun a w' hC hs => (hs 7 (by kernel_rfl)))
    · exact .value (.inr ⟨14, false, 50, by decide, rfl, rfl, rfl⟩) (by intro T e; cases e) rfl rfl (fun a w' hC hs hl => by
        have e0 : a.eval (.tmp 51) = (.int .i64 (0)) := (hl 51 (by kernel_rfl) (by kernel_rfl))
        simp only [execOp, e0]
        simp only [Act.eval]
        simp [go_sem] <;> rfl)
    · exact .load (.agg #[.bool b1, .slice A1 n1 c1]) (.inr ⟨14, false, 50, by decide, rfl, rfl, rfl⟩) rfl rfl (fun a w' hC hs hl => by rw [show a.eval (.tmp 3) = (.pointer (some ⟨w.heap.size, 0, none⟩) : Value) from (hs 3 (by kernel_rfl))]; exact ⟨ld_Int (K1.out.below' hC), a1.out⟩)
    · exact .load (.agg #[.bool b2, .slice A2 n2 c2]) (.inr ⟨14, false, 50, by decide, rfl, rfl, rfl⟩) rfl rfl (fun a w' hC hs hl => by rw [show a.eval (.tmp 4) = (.pointer (some ⟨w.heap.size + 1, 0, none⟩) : Value) from (hs 4 (by kernel_rfl))]; exact ⟨ld_Int (K2.out.below' hC), a2.out⟩)
    · exact .call (.inr ⟨14, false, 50, by decide, rfl, rfl, rfl⟩) rfl rfl fn_isame (fun a w' hC hs hl => isame_yes ((hl 53 (by kernel_rfl) (by kernel_rfl)).below (b0.out.trans (hC.mono b0.out.size))) ((hl 54 (by kernel_rfl) (by kernel_rfl)).below (b0.out.trans (hC.mono b0.out.size))) (rfl))
    · exact .value (.inr ⟨14, false, 50, by decide, rfl, rfl, rfl⟩) (by intro T e; cases e) rfl rfl (fun a w' hC hs hl => by
        have e0 : a.eval (.tmp 52) = (.bool true) := (hl 52 (by kernel_rfl) (by kernel_rfl))
        have e1 : a.eval (.tmp 55) = (.bool true) := (hl 55 (by kernel_rfl) (by kernel_rfl))
        simp only [execOp, e0, e1]
        skip
        simp [go_sem] <;> rfl)
    · exact .pick (b := false) (.inl rfl) rfl rfl (fun a w' hC hs hl => ⟨(hl 50 (by kernel_rfl) (by kernel_rfl)), (hl 56 (by kernel_rfl) (by kernel_rfl))⟩)
    · exact .move (.inl rfl) (.inl rfl) rfl (by kernel_rfl) (by kernel_rfl) rfl
    · exact .load (.agg #[.bool b1, .slice A1 n1 c1]) (.inr ⟨22, false, 58, by decide, rfl, rfl, rfl⟩) rfl rfl (fun a w' hC hs hl => by rw [show a.eval (.tmp 3) = (.pointer (some ⟨w.heap.size, 0, none⟩) : Value) from (hs 3 (by kernel_rfl))]; exact ⟨ld_Int (K1.out.below' hC), a1.out⟩)
    · exact .load (.agg #[.bool b3, .slice A3 n3 c3]) (.inr ⟨22, false, 58, by decide, rfl, rfl, rfl⟩) rfl rfl (fun a w' hC hs hl => by rw [show a.eval (.tmp 5) = (.pointer (some ⟨w.heap.size + 1 + 1, 0, none⟩) : Value) from (hs 5 (by kernel_rfl))]; exact ⟨ld_Int (K3.out.below' hC), a3.out⟩)
    · exact .call (.inr ⟨22, false, 58, by decide, rfl, rfl, rfl⟩) rfl rfl fn_iAdd (fun a w' hC hs hl => iAdd_C (ICan.arg ((hl 59 (by kernel_rfl) (by kernel_rfl)).below (b0.out.trans (hC.mono b0.out.size))) (L_up S1.out (by decide))) (ICan.arg ((hl 60 (by kernel_rfl) (by kernel_rfl)).below (b0.out.trans (hC.mono b0.out.size))) (L_up S3.out (by decide))))
    · exact .load (.agg #[.bool b2, .slice A2 n2 c2]) (.inr ⟨22, false, 58, by decide, rfl, rfl, rfl⟩) rfl rfl (fun a w' hC hs hl => by rw [show a.eval (.tmp 4) = (.pointer (some ⟨w.heap.size + 1, 0, none⟩) : Value) from (hs 4 (by kernel_rfl))]; exact ⟨ld_Int (K2.out.below' hC), a2.out⟩)
    · exact .load (.agg #[.bool b3, .slice A3 n3 c3]) (.inr ⟨22, false, 58, by decide, rfl, rfl, rfl⟩) rfl rfl (fun a w' hC hs hl => by rw [show a.eval (.tmp 5) = (.pointer (some ⟨w.heap.size + 1 + 1, 0, none⟩) : Value) from (hs 5 (by kernel_rfl))]; exact ⟨ld_Int (K3.out.below' hC), a3.out⟩)
    · exact .call (.inr ⟨22, false, 58, by decide, rfl, rfl, rfl⟩) rfl rfl fn_iAdd (fun a w' hC hs hl => iAdd_C (ICan.arg ((hl 62 (by kernel_rfl) (by kernel_rfl)).below (b0.out.trans (hC.mono b0.out.size))) (L_up S1.out (by decide))) (ICan.arg ((hl 63 (by kernel_rfl) (by kernel_rfl)).below (b0.out.trans (hC.mono b0.out.size))) (L_up S3.out (by decide))))
    · exact .call (.inr ⟨22, false, 58, by decide, rfl, rfl, rfl⟩) rfl rfl fn_iCmp (fun a w' hC hs hl => iCmp_eq (ICan.arg (hl 61 (by kernel_rfl) (by kernel_rfl)) (L_up Q1.out (by decide))) (ICan.arg (hl 64 (by kernel_rfl) (by kernel_rfl)) (L_up Q1.out (by decide))) (cmpI_eq _))
    · exact .moveC (.inr ⟨22, false, 58, by decide, rfl, rfl, rfl⟩) (.inl rfl) rfl (fun a w' hC hs => (hs 7 (by kernel_rfl)))
    · exact .value (.inr ⟨22, false, 58, by decide, rfl, rfl, rfl⟩) (by intro T e; cases e) rfl rfl (fun a w' hC hs hl => by
        have e0 : a.eval (.tmp 65) = (.int .i64 (0)) := (hl 65 (by kernel_rfl) (by kernel_rfl))
        have e1 : a.eval (.tmp 66) = (.int .i64 (0)) := (hl 66 (by kernel_rfl) (by kernel_rfl))
        simp only [execOp, e0, e1]
        skip
        simp [go_sem] <;> rfl)
    · exact .pick (b := false) (.inl rfl) rfl rfl (fun a w' hC hs hl => ⟨(hl 58 (by kernel_rfl) (by kernel_rfl)), (hl 67 (by kernel_rfl) (by kernel_rfl))⟩)
    · exact .move (.inl rfl) (.inl rfl) rfl (by kernel_rfl) (by kernel_rfl) rfl
    · exact .load (.agg #[.bool b1, .slice A1 n1 c1]) (.inr ⟨33, false, 69, by decide, rfl, rfl, rfl⟩) rfl rfl (fun a w' hC hs hl => by rw [show a.eval (.tmp 3) = (.pointer (some ⟨w.heap.size, 0, none⟩) : Value) from (hs 3 (by kernel_rfl))]; exact ⟨ld_Int (K1.out.below' hC), a1.out⟩)
    · exact .load (.agg #[.bool b2, .slice A2 n2 c2]) (.inr ⟨33, false, 69, by decide, rfl, rfl, rfl⟩) rfl rfl (fun a w' hC hs hl => by rw [show a.eval (.tmp 4) = (.pointer (some ⟨w.heap.size + 1, 0, none⟩) : Value) from (hs 4 (by kernel_rfl))]; exact ⟨ld_Int (K2.out.below' hC), a2.out⟩)
    · exact .call (.inr ⟨33, false, 69, by decide, rfl, rfl, rfl⟩) rfl rfl fn_iSub (fun a w' hC hs hl => iSub_C (ICan.arg ((hl 70 (by kernel_rfl) (by kernel_rfl)).below (b0.out.trans (hC.mono b0.out.size))) (L_up S1.out (by decide))) (ICan.arg ((hl 71 (by kernel_rfl) (by kernel_rfl)).below (b0.out.trans (hC.mono b0.out.size))) (L_up S1.out (by decide))))
    · exact .call (.inr ⟨33, false, 69, by decide, rfl, rfl, rfl⟩) rfl rfl fn_iSign (fun a w' hC hs hl => iSign_eq (ICan.arg (hl 72 (by kernel_rfl) (by kernel_rfl)) (L_up Q2.out (by decide))) (by rw [Int.sub_self]; exact cmpI_eq 0))
    · exact .moveC (.inr ⟨33, false, 69, by decide, rfl, rfl, rfl⟩) (.inl rfl) rfl (fun a w' hC hs => (hs 7 (by kernel_rfl)))
    · exact .value (.inr ⟨33, false, 69, by decide, rfl, rfl, rfl⟩) (by intro T e; cases e) rfl rfl (fun a w' hC hs hl => by
        have e0 : a.eval (.tmp 73) = (.int .i64 (0)) := (hl 73 (by kernel_rfl) (by kernel_rfl))
        have e1 : a.eval (.tmp 74) = (.int .i64 (0)) := (hl 74 (by kernel_rfl) (by kernel_rfl))
        simp only [execOp, e0, e1]
        skip
        simp [go_sem] <;> rfl)
    · exact .pick (b := false) (.inl rfl) rfl rfl (fun a w' hC hs hl => ⟨(hl 69 (by kernel_rfl) (by kernel_rfl)), (hl 75 (by kernel_rfl) (by kernel_rfl))⟩)
    intro f w9 hC hF _
    have f6 : f 76 = .bool false := hF 76 (by kernel_rfl)
    clear hF
    simp only [patch, List.drop]
    rw [f6]
    generalize f 36 = y36 at *
    generalize f 37 = y37 at *
    generalize f 38 = y38 at *
    generalize f 39 = y39 at *
    generalize f 40 = y40 at *
    generalize f 41 = y41 at *
    generalize f 42 = y42 at *
    generalize f 43 = y43 at *
    generalize f 44 = y44 at *
    generalize f 45 = y45 at *
    generalize f 46 = y46 at *
    generalize f 47 = y47 at *
    generalize f 48 = y48 at *
    generalize f 49 = y49 at *
    generalize f 50 = y50 at *
    generalize f 51 = y51 at *
    generalize f 52 = y52 at *
    generalize f 53 = y53 at *
    generalize f 54 = y54 at *
    generalize f 55 = y55 at *
    generalize f 56 = y56 at *
    generalize f 57 = y57 at *
    generalize f 58 = y58 at *
    generalize f 59 = y59 at *
    generalize f 60 = y60 at *
    generalize f 61 = y61 at *
    generalize f 62 = y62 at *
    generalize f 63 = y63 at *
    generalize f 64 = y64 at *
    generalize f 65 = y65 at *
    generalize f 66 = y66 at *
    generalize f 67 = y67 at *
    generalize f 68 = y68 at *
    generalize f 69 = y69 at *
    generalize f 70 = y70 at *
    generalize f 71 = y71 at *
    generalize f 72 = y72 at *
    generalize f 73 = y73 at *
    generalize f 74 = y74 at *
    generalize f 75 = y75 at *
    clear f6
    replace K1 := hide (K1.out.below' hC)
    replace K2 := hide (K2.out.below' hC)
    replace K3 := hide (K3.out.below' hC)
    replace b0 := hide (b0.out.trans (hC.mono b0.out.size))
    clear hC
    by_cases h2 : x > z
    case pos =>
      have K1c0 := K1.out.at_ 0 rfl
      have K1c1 := K1.out.at_ 1 rfl
      have K2c0 := K2.out.at_ 0 rfl
      have K2c1 := K2.out.at_ 1 rfl
      have K3c0 := K3.out.at_ 0 rfl
      have K3c1 := K3.out.at_ 1 rfl
      go_wp2_with fail
      refine (iCmp_eq (ICan.arg (a2.out.below b0.out) (L_up S2.out (by decide))) (ICan.arg (a3.out.below b0.out) (L_up S3.out (by decide))) (r := 1) (cmpI_gt h2)).mono ?_
      rintro e w7 ⟨_, rfl, d0, rfl⟩
      replace K1 := hide (K1.out.below' d0)
      replace K2 := hide (K2.out.below' d0)
      replace K3 := hide (K3.out.below' d0)
      replace b0 := hide (below_tr b0.out d0)
      clear d0
      clear K1c0 K1c1 K2c0 K2c1 K3c0 K3c1
      have K1c0 := K1.out.at_ 0 rfl
      have K1c1 := K1.out.at_ 1 rfl
      have K2c0 := K2.out.at_ 0 rfl
      have K2c1 := K2.out.at_ 1 rfl
      have K3c0 := K3.out.at_ 0 rfl
      have K3c1 := K3.out.at_ 1 rfl
      go_wp2
      exact opq_end hR ⟨rfl, b0⟩
    rcases Int.lt_or_eq_of_le (Int.not_lt.1 h2) with h3 | h3
    case inl =>
      have K1c0 := K1.out.at_ 0 rfl
      have K1c1 := K1.out.at_ 1 rfl
      have K2c0 := K2.out.at_ 0 rfl
      have K2c1 := K2.out.at_ 1 rfl
      have K3c0 := K3.out.at_ 0 rfl
      have K3c1 := K3.out.at_ 1 rfl
      go_wp2_with fail
      refine (iCmp_eq (ICan.arg (a2.out.below b0.out) (L_up S2.out (by decide))) (ICan.arg (a3.out.below b0.out) (L_up S3.out (by decide))) (r := -1) (cmpI_lt h3)).mono ?_
      rintro e w7 ⟨_, rfl, d0, rfl⟩
      replace K1 := hide (K1.out.below' d0)
      replace K2 := hide (K2.out.below' d0)
      replace K3 := hide (K3.out.below' d0)
      replace b0 := hide (below_tr b0.out d0)
      clear d0
      clear K1c0 K1c1 K2c0 K2c1 K3c0 K3c1
      have K1c0 := K1.out.at_ 0 rfl
      have K1c1 := K1.out.at_ 1 rfl
      have K2c0 := K2.out.at_ 0 rfl
      have K2c1 := K2.out.at_ 1 rfl
      have K3c0 := K3.out.at_ 0 rfl
      have K3c1 := K3.out.at_ 1 rfl
      go_wp2_with fail
      refine (iCmp_eq (ICan.arg (a1.out.below b0.out) (L_up S1.out (by decide))) (ICan.arg (a3.out.below b0.out) (L_up S3.out (by decide))) (r := -1) (cmpI_lt h3)).mono ?_
      rintro e w8 ⟨_, rfl, d0, rfl⟩
      replace K1 := hide (K1.out.below' d0)
      replace K2 := hide (K2.out.below' d0)
      replace K3 := hide (K3.out.below' d0)
      replace b0 := hide (below_tr b0.out d0)
      clear d0
      clear K1c0 K1c1 K2c0 K2c1 K3c0 K3c1
      have K1c0 := K1.out.at_ 0 rfl
      have K1c1 := K1.out.at_ 1 rfl
      have K2c0 := K2.out.at_ 0 rfl
      have K2c1 := K2.out.at_ 1 rfl
      have K3c0 := K3.out.at_ 0 rfl
      have K3c1 := K3.out.at_ 1 rfl
      go_wp2
      exact opq_end hR ⟨rfl, b0⟩
    case inr =>
      have K1c0 := K1.out.at_ 0 rfl
      have K1c1 := K1.out.at_ 1 rfl
      have K2c0 := K2.out.at_ 0 rfl
      have K2c1 := K2.out.at_ 1 rfl
      have K3c0 := K3.out.at_ 0 rfl
      have K3c1 := K3.out.at_ 1 rfl
      go_wp2_with fail
      refine (iCmp_eq (ICan.arg (a2.out.below b0.out) (L_up S2.out (by decide))) (ICan.arg (a3.out.below b0.out) (L_up S3.out (by decide))) (r := 0) (by rw [h3]; exact cmpI_eq _)).mono ?_
      rintro e w7 ⟨_, rfl, d0, rfl⟩
      replace K1 := hide (K1.out.below' d0)
      replace K2 := hide (K2.out.below' d0)
      replace K3 := hide (K3.out.below' d0)
      replace b0 := hide (below_tr b0.out d0)
      clear d0
      clear K1c0 K1c1 K2c0 K2c1 K3c0 K3c1
      have K1c0 := K1.out.at_ 0 rfl
      have K1c1 := K1.out.at_ 1 rfl
      have K2c0 := K2.out.at_ 0 rfl
      have K2c1 := K2.out.at_ 1 rfl
      have K3c0 := K3.out.at_ 0 rfl
      have K3c1 := K3.out.at_ 1 rfl
      go_wp2_with fail
      refine (iCmp_eq (ICan.arg (a1.out.below b0.out) (L_up S1.out (by decide))) (ICan.arg (a3.out.below b0.out) (L_up S3.out (by decide))) (r := 0) (by rw [h3]; exact cmpI_eq _)).mono ?_
      rintro e w8 ⟨_, rfl, d0, rfl⟩
      replace K1 := hide (K1.out.below' d0)
      replace K2 := hide (K2.out.below' d0)
      replace K3 := hide (K3.out.below' d0)
      replace b0 := hide (below_tr b0.out d0)
      clear d0
      clear K1c0 K1c1 K2c0 K2c1 K3c0 K3c1
      have K1c0 := K1.out.at_ 0 rfl
      have K1c1 := K1.out.at_ 1 rfl
      have K2c0 := K2.out.at_ 0 rfl
      have K2c1 := K2.out.at_ 1 rfl
      have K3c0 := K3.out.at_ 0 rfl
      have K3c1 := K3.out.at_ 1 rfl
      go_wp2
      exact opq_end hR ⟨rfl, b0⟩
  case inr.inr =>
    replace h0 := hide h0
    go_wp2_with fail
    refine (iCmp_eq (ICan.arg (a1.out.below b0.out) (L_up S1.out (by decide))) (ICan.arg (a2.out.below b0.out) (L_up S2.out (by decide))) (cmpI_gt h0.out)).mono ?_
    rintro e w6 ⟨_, rfl, d0, rfl⟩
    replace K1 := hide (K1.out.below' d0)
    replace K2 := hide (K2.out.below' d0)
    replace K3 := hide (K3.out.below' d0)
    replace b0 := hide (below_tr b0.out d0)
    clear d0
    clear K1c0 K1c1 K2c0 K2c1 K3c0 K3c1
    go_wp2
    have Q1 : Hid (L ((x + z)).natAbs ≤ 201) := Z_add S1.out S3.out (by decide)
    have Q2 : Hid (L ((y + z)).natAbs ≤ 201) := Z_add S2.out S3.out (by decide)
    have Q3 : Hid (L ((x - y)).natAbs ≤ 201) := Z_sub S1.out S2.out (by decide)
    refine wp_region_facts 41 (fun w' => Below w6.heap.size w6 w') [(36, .eq (.int .i64 (1))), (37, .eq (.bool false)), (38, .eq (.bool false)), (39, .eq (.int .i64 (1))), (40, .eq (.bool false)), (41, .eq (.bool false)), (42, .eq (.bool false)), (43, (.int0 w y)), (44, (.int0 w x)), (45, .eq (.int .i64 (-1))), (46, .eq (.int .i64 (1))), (47, .eq (.int .i64 (-1))), (48, .eq (.bool false)), (49, .eq (.bool false)), (50, .eq (.bool false)), (51, .eq (.int .i64 (1))), (52, .eq (.bool false)), (53, (.int0 w x)), (54, (.int0 w y)), (55, .eq (.bool false)), (56, .eq (.bool false)), (57, .eq (.bool false)), (58, .eq (.bool false)), (59, (.int0 w x)), (60, (.int0 w z)), (61, (.int (x + z))), (62, (.int0 w y)), (63, (.int0 w z)), (64, (.int (y + z))), (65, .eq (.int .i64 (1))), (66, .eq (.int .i64 (1))), (67, .eq (.bool false)), (68, .eq (.bool false)), (69, .eq (.bool false)), (70, (.int0 w x)), (71, (.int0 w y)), (72, (.int (x - y))), (73, .eq (.int .i64 (1))), (74, .eq (.int .i64 (1))), (75, .eq (.bool false)), (76, .eq (.bool false))] [false, false, false, false, false, false, false, false, false, false, false, false, false, false, false, false, false, false, false, false, false, false, false, false, false, false, false, false, false, false, false, false, false, false, false, false, true, true, true, true, true, true, true, true, true, true, true, true, true, true, true, true, true, true, true, true, true, true, true, true, true, true, true, true, true, true, true, true, true, true, true, true, true, true, true, true, true, false, false, false, false, false, false, false, false, false, false, false, false, false, false] mixed (by kernel_rfl) (by kernel_rfl) (by kernel_rfl) (fun _ _ h hb => h.trans (hb.mono h.size)) ((Below.refl _ _).drew) ⟨?_, ?_, ?_, ?_, ?_, ?_, ?_, ?_, ?_, ?_, ?_, ?_, ?_, ?_, ?_, ?_, ?_, ?_, ?_, ?_, ?_, ?_, ?_, ?_, ?_, ?_, ?_, ?_, ?_, ?_, ?_, ?_, ?_, ?_, ?_, ?_, ?_, ?_, ?_, ?_, ?_, trivial⟩ ?_
    · exact .moveC (.inl rfl) (.inl rfl) rfl (fun a w' hC hs => (hs 7 (by kernel_rfl)))
    · exact .value (.inl rfl) (by intro T e; cases e) rfl rfl (fun a w' hC hs hl => by
        have e0 : a.eval (.tmp 36) = (.int .i64 (1)) := (hl 36 (by kernel_rfl) (by kernel_rfl))
        simp only [execOp, e0]
        simp only [Act.eval]
        simp [go_sem] <;> rfl)
    · exact .move (.inl rfl) (.inl rfl) rfl (by kernel_rfl) (by kernel_rfl) rfl
    · exact .moveC (.inr ⟨2, false, 38, by decide, rfl, rfl, rfl⟩) (.inl rfl) rfl (fun a w' hC hs => (hs 7 (by kernel_rfl)))
    · exact .value (.inr ⟨2, false, 38, by decide, rfl, rfl, rfl⟩) (by intro T e; cases e) rfl rfl (fun a w' hC hs hl => by
        have e0 : a.eval (.tmp 39) = (.int .i64 (1)) := (hl 39 (by kernel_rfl) (by kernel_rfl))
        simp only [execOp, e0]
        simp only [Act.eval]
        simp [go_sem] <;> rfl)
    · exact .pick (b := false) (.inl rfl) rfl rfl (fun a w' hC hs hl => ⟨(hl 38 (by kernel_rfl) (by kernel_rfl)), (hl 40 (by kernel_rfl) (by kernel_rfl))⟩)
    · exact .move (.inl rfl) (.inl rfl) rfl (by kernel_rfl) (by kernel_rfl) rfl
    · exact .load (.agg #[.bool b2, .slice A2 n2 c2]) (.inr ⟨6, false, 42, by decide, rfl, rfl, rfl⟩) rfl rfl (fun a w' hC hs hl => by rw [show a.eval (.tmp 4) = (.pointer (some ⟨w.heap.size + 1, 0, none⟩) : Value) from (hs 4 (by kernel_rfl))]; exact ⟨ld_Int (K2.out.below' hC), a2.out⟩)
    · exact .load (.agg #[.bool b1, .slice A1 n1 c1]) (.inr ⟨6, false, 42, by decide, rfl, rfl, rfl⟩) rfl rfl (fun a w' hC hs hl => by rw [show a.eval (.tmp 3) = (.pointer (some ⟨w.heap.size, 0, none⟩) : Value) from (hs 3 (by kernel_rfl))]; exact ⟨ld_Int (K1.out.below' hC), a1.out⟩)
    · exact .call (.inr ⟨6, false, 42, by decide, rfl, rfl, rfl⟩) rfl rfl fn_iCmp (fun a w' hC hs hl => iCmp_eq (ICan.arg ((hl 43 (by kernel_rfl) (by kernel_rfl)).below (b0.out.trans (hC.mono b0.out.size))) (L_up S2.out (by decide))) (ICan.arg ((hl 44 (by kernel_rfl) (by kernel_rfl)).below (b0.out.trans (hC.mono b0.out.size))) (L_up S1.out (by decide))) (cmpI_lt h0.out))
    · exact .moveC (.inr ⟨6, false, 42, by decide, rfl, rfl, rfl⟩) (.inl rfl) rfl (fun a w' hC hs => (hs 7 (by kernel_rfl)))
    · exact .value (.inr ⟨6, false, 42, by decide, rfl, rfl, rfl⟩) (by intro T e; cases e) rfl rfl (fun a w' hC hs hl => by
        have e0 : a.eval (.tmp 46) = (.int .i64 (1)) := (hl 46 (by kernel_rfl) (by kernel_rfl))
        simp only [execOp, e0]
        skip
        simp [go_sem] <;> rfl)
    · exact .value (.inr ⟨6, false, 42, by decide, rfl, rfl, rfl⟩) (by intro T e; cases e) rfl rfl (fun a w' hC hs hl => by
        have e0 : a.eval (.tmp 45) = (.int .i64 (-1)) := (hl 45 (by kernel_rfl) (by kernel_rfl))
        have e1 : a.eval (.tmp 47) = (.int .i64 (-1)) := (hl 47 (by kernel_rfl) (by kernel_rfl))
        simp only [execOp, e0, e1]
        skip
        simp [go_sem] <;> rfl)
    · exact .pick (b := false) (.inl rfl) rfl rfl (fun a w' hC hs hl => ⟨(hl 42 (by kernel_rfl) (by kernel_rfl)), (hl 48 (by kernel_rfl) (by kernel_rfl))⟩)
    · exact .move (.inl rfl) (.inl rfl) rfl (by kernel_rfl) (by kernel_rfl) rfl
    · exact .moveC (.inr ⟨14, false, 50, by decide, rfl, rfl, rfl⟩) (.inl rfl) rfl (fun a w' hC hs => (hs 7 (by kernel_rfl)))
    · exact .value (.inr ⟨14, false, 50, by decide, rfl, rfl, rfl⟩) (by intro T e; cases e) rfl rfl (fun a w' hC hs hl => by
        have e0 : a.eval (.tmp 51) = (.int .i64 (1)) := (hl 51 (by kernel_rfl) (by kernel_rfl))
        simp only [execOp, e0]
        simp only [Act.eval]
        simp [go_sem] <;> rfl)
    · exact .load (.agg #[.bool b1, .slice A1 n1 c1]) (.inr ⟨14, false, 50, by decide, rfl, rfl, rfl⟩) rfl rfl (fun a w' hC hs hl => by rw [show a.eval (.tmp 3) = (.pointer (some ⟨w.heap.size, 0, none⟩) : Value) from (hs 3 (by kernel_rfl))]; exact ⟨ld_Int (K1.out.below' hC), a1.out⟩)
    · exact .load (.agg #[.bool b2, .slice A2 n2 c2]) (.inr ⟨14, false, 50, by decide, rfl, rfl, rfl⟩) rfl rfl (fun a w' hC hs hl => by rw [show a.eval (.tmp 4) = (.pointer (some ⟨w.heap.size + 1, 0, none⟩) : Value) from (hs 4 (by kernel_rfl))]; exact ⟨ld_Int (K2.out.below' hC), a2.out⟩)
    · exact .call (.inr ⟨14, false, 50, by decide, rfl, rfl, rfl⟩) rfl rfl fn_isame (fun a w' hC hs hl => isame_no ((hl 53 (by kernel_rfl) (by kernel_rfl)).below (b0.out.trans (hC.mono b0.out.size))) ((hl 54 (by kernel_rfl) (by kernel_rfl)).below (b0.out.trans (hC.mono b0.out.size))) (by have := h0.out; omega))
    · exact .value (.inr ⟨14, false, 50, by decide, rfl, rfl, rfl⟩) (by intro T e; cases e) rfl rfl (fun a w' hC hs hl => by
        have e0 : a.eval (.tmp 52) = (.bool false) := (hl 52 (by kernel_rfl) (by kernel_rfl))
        have e1 : a.eval (.tmp 55) = (.bool false) := (hl 55 (by kernel_rfl) (by kernel_rfl))
        simp only [execOp, e0, e1]
        skip
        simp [go_sem] <;> rfl)
    · exact .pick (b := false) (.inl rfl) rfl rfl (fun a w' hC hs hl => ⟨(hl 50 (by kernel_rfl) (by kernel_rfl)), (hl 56 (by kernel_rfl) (by kernel_rfl))⟩)
    · exact .move (.inl rfl) (.inl rfl) rfl (by kernel_rfl) (by kernel_rfl) rfl
    · exact .load (.agg #[.bool b1, .slice A1 n1 c1]) (.inr ⟨22, false, 58, by decide, rfl, rfl, rfl⟩) rfl rfl (fun a w' hC hs hl => by rw [show a.eval (.tmp 3) = (.pointer (some ⟨w.heap.size, 0, none⟩) : Value) from (hs 3 (by kernel_rfl))]; exact ⟨ld_Int (K1.out.below' hC), a1.out⟩)
    · exact .load (.agg #[.bool b3, .slice A3 n3 c3]) (.inr ⟨22, false, 58, by decide, rfl, rfl, rfl⟩) rfl rfl (fun a w' hC hs hl => by rw [show a.eval (.tmp 5) = (.pointer (some ⟨w.heap.size + 1 + 1, 0, none⟩) : Value) from (hs 5 (by kernel_rfl))]; exact ⟨ld_Int (K3.out.below' hC), a3.out⟩)
    · exact .call (.inr ⟨22, false, 58, by decide, rfl, rfl, rfl⟩) rfl rfl fn_iAdd (fun a w' hC hs hl => iAdd_C (ICan.arg ((hl 59 (by kernel_rfl) (by kernel_rfl)).below (b0.out.trans (hC.mono b0.out.size))) (L_up S1.out (by decide))) (ICan.arg ((hl 60 (by kernel_rfl) (by kernel_rfl)).below (b0.out.trans (hC.mono b0.out.size))) (L_up S3.out (by decide))))
    · exact .load (.agg #[.bool b2, .slice A2 n2 c2]) (.inr ⟨22, false, 58, by decide, rfl, rfl, rfl⟩) rfl rfl (fun a w' hC hs hl => by rw [show a.eval (.tmp 4) = (.pointer (some ⟨w.heap.size + 1, 0, none⟩) : Value) from (hs 4 (by kernel_rfl))]; exact ⟨ld_Int (K2.out.below' hC), a2.out⟩)
    · exact .load (.agg #[.bool b3, .slice A3 n3 c3]) (.inr ⟨22, false, 58, by decide, rfl, rfl, rfl⟩) rfl rfl (fun a w' hC hs hl => by rw [show a.eval (.tmp 5) = (.pointer (some ⟨w.heap.size + 1 + 1, 0, none⟩) : Value) from (hs 5 (by kernel_rfl))]; exact ⟨ld_Int (K3.out.below' hC), a3.out⟩)
    · exact .call (.inr ⟨22, false, 58, by decide, rfl, rfl, rfl⟩) rfl rfl fn_iAdd (fun a w' hC hs hl => iAdd_C (ICan.arg ((hl 62 (by kernel_rfl) (by kernel_rfl)).below (b0.out.trans (hC.mono b0.out.size))) (L_up S2.out (by decide))) (ICan.arg ((hl 63 (by kernel_rfl) (by kernel_rfl)).below (b0.out.trans (hC.mono b0.out.size))) (L_up S3.out (by decide))))
    · exact .call (.inr ⟨22, false, 58, by decide, rfl, rfl, rfl⟩) rfl rfl fn_iCmp (fun a w' hC hs hl => iCmp_eq (ICan.arg (hl 61 (by kernel_rfl) (by kernel_rfl)) (L_up Q1.out (by decide))) (ICan.arg (hl 64 (by kernel_rfl) (by kernel_rfl)) (L_up Q2.out (by decide))) (cmpI_gt (by have := h0.out; omega)))
    · exact .moveC (.inr ⟨22, false, 58, by decide, rfl, rfl, rfl⟩) (.inl rfl) rfl (fun a w' hC hs => (hs 7 (by kernel_rfl)))
    · exact .value (.inr ⟨22, false, 58, by decide, rfl, rfl, rfl⟩) (by intro T e; cases e) rfl rfl (fun a w' hC hs hl => by
        have e0 : a.eval (.tmp 65) = (.int .i64 (1)) := (hl 65 (by kernel_rfl) (by kernel_rfl))
        have e1 : a.eval (.tmp 66) = (.int .i64 (1)) := (hl 66 (by kernel_rfl) (by kernel_rfl))
        simp only [execOp, e0, e1]
        skip
        simp [go_sem] <;> rfl)
    · exact .pick (b := false) (.inl rfl) rfl rfl (fun a w' hC hs hl => ⟨(hl 58 (by kernel_rfl) (by kernel_rfl)), (hl 67 (by kernel_rfl) (by kernel_rfl))⟩)
    · exact .move (.inl rfl) (.inl rfl) rfl (by kernel_rfl) (by kernel_rfl) rfl
    · exact .load (.agg #[.bool b1, .slice A1 n1 c1]) (.inr ⟨33, false, 69, by decide, rfl, rfl, rfl⟩) rfl rfl (fun a w' hC hs hl => by rw [show a.eval (.tmp 3) = (.pointer (some ⟨w.heap.size, 0, none⟩) : Value) from (hs 3 (by kernel_rfl))]; exact ⟨ld_Int (K1.out.below' hC), a1.out⟩)
    · exact .load (.agg #[.bool b2, .slice A2 n2 c2]) (.inr ⟨33, false, 69, by decide, rfl, rfl, rfl⟩) rfl rfl (fun a w' hC hs hl => by rw [show a.eval (.tmp 4) = (.pointer (some ⟨w.heap.size + 1, 0, none⟩) : Value) from (hs 4 (by kernel_rfl))]; exact ⟨ld_Int (K2.out.below' hC), a2.out⟩)
    · exact .call (.inr ⟨33, false, 69, by decide, rfl, rfl, rfl⟩) rfl rfl fn_iSub (fun a w' hC hs hl => iSub_C (ICan.arg ((hl 70 (by kernel_rfl) (by kernel_rfl)).below (b0.out.trans (hC.mono b0.out.size))) (L_up S1.out (by decide))) (ICan.arg ((hl 71 (by kernel_rfl) (by kernel_rfl)).below (b0.out.trans (hC.mono b0.out.size))) (L_up S2.out (by decide))))
    · exact .call (.inr ⟨33, false, 69, by decide, rfl, rfl, rfl⟩) rfl rfl fn_iSign (fun a w' hC hs hl => iSign_eq (ICan.arg (hl 72 (by kernel_rfl) (by kernel_rfl)) (L_up Q3.out (by decide))) (cmpI_gt (by have := h0.out; omega)))
    · exact .moveC (.inr ⟨33, false, 69, by decide, rfl, rfl, rfl⟩) (.inl rfl) rfl (fun a w' hC hs => (hs 7 (by kernel_rfl)))
    · exact .value (.inr ⟨33, false, 69, by decide, rfl, rfl, rfl⟩) (by intro T e; cases e) rfl rfl (fun a w' hC hs hl => by
        have e0 : a.eval (.tmp 73) = (.int .i64 (1)) := (hl 73 (by kernel_rfl) (by kernel_rfl))
        have e1 : a.eval (.tmp 74) = (.int .i64 (1)) := (hl 74 (by kernel_rfl) (by kernel_rfl))
        simp only [execOp, e0, e1]
        skip
        simp [go_sem] <;> rfl)
    · exact .pick (b := false) (.inl rfl) rfl rfl (fun a w' hC hs hl => ⟨(hl 69 (by kernel_rfl) (by kernel_rfl)), (hl 75 (by kernel_rfl) (by kernel_rfl))⟩)
    intro f w9 hC hF _
    have f6 : f 76 = .bool false := hF 76 (by kernel_rfl)
    clear hF
    simp only [patch, List.drop]
    rw [f6]
    generalize f 36 = y36 at *
    generalize f 37 = y37 at *
    generalize f 38 = y38 at *
    generalize f 39 = y39 at *
    generalize f 40 = y40 at *
    generalize f 41 = y41 at *
    generalize f 42 = y42 at *
    generalize f 43 = y43 at *
    generalize f 44 = y44 at *
    generalize f 45 = y45 at *
    generalize f 46 = y46 at *
    generalize f 47 = y47 at *
    generalize f 48 = y48 at *
    generalize f 49 = y49 at *
    generalize f 50 = y50 at *
    generalize f 51 = y51 at *
    generalize f 52 = y52 at *
    generalize f 53 = y53 at *
    generalize f 54 = y54 at *
    generalize f 55 = y55 at *
    generalize f 56 = y56 at *
    generalize f 57 = y57 at *
    generalize f 58 = y58 at *
    generalize f 59 = y59 at *
    generalize f 60 = y60 at *
    generalize f 61 = y61 at *
    generalize f 62 = y62 at *
    generalize f 63 = y63 at *
    generalize f 64 = y64 at *
    generalize f 65 = y65 at *
    generalize f 66 = y66 at *
    generalize f 67 = y67 at *
    generalize f 68 = y68 at *
    generalize f 69 = y69 at *
    generalize f 70 = y70 at *
    generalize f 71 = y71 at *
    generalize f 72 = y72 at *
    generalize f 73 = y73 at *
    generalize f 74 = y74 at *
    generalize f 75 = y75 at *
    clear f6
    replace K1 := hide (K1.out.below' hC)
    replace K2 := hide (K2.out.below' hC)
    replace K3 := hide (K3.out.below' hC)
    replace b0 := hide (b0.out.trans (hC.mono b0.out.size))
    clear hC
    have K1c0 := K1.out.at_ 0 rfl
    have K1c1 := K1.out.at_ 1 rfl
    have K2c0 := K2.out.at_ 0 rfl
    have K2c1 := K2.out.at_ 1 rfl
    have K3c0 := K3.out.at_ 0 rfl
    have K3c1 := K3.out.at_ 1 rfl
    go_wp2
    exact opq_end hR ⟨rfl, b0⟩
end Go.Proofs.YtcdejccbamjdoaaDoor
