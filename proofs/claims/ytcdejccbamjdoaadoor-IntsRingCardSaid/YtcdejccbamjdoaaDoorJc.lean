/- the laws of ints: IntsRing. -/
import Derived.Test.YtcdejccbamjdoaaDoorJb
set_option linter.unusedVariables false
set_option linter.unusedSimpArgs false
set_option maxRecDepth 100000
namespace Go.Proofs.YtcdejccbamjdoaaDoor
open Go.RowKit

set_option maxHeartbeats 2000000 in
theorem IntsRing_ok (w : World) (b1 : Bool) (A1 : Option Addr) (n1 c1 : Nat) (xs1 : List Nat) (b2 : Bool) (A2 : Option Addr) (n2 c2 : Nat) (xs2 : List Nat) (b3 : Bool) (A3 : Option Addr) (n3 c3 : Nat) (xs3 : List Nat) (h1 : Rd w A1 n1 xs1) (i1 : Is32 xs1) (l1 : n1 ≤ c1) (h2 : Rd w A2 n2 xs2) (i2 : Is32 xs2) (l2 : n2 ≤ c2) (h3 : Rd w A3 n3 xs3) (i3 : Is32 xs3) (l3 : n3 ≤ c3) :
    Calls Tryd.prog 3 #[.agg #[.bool b1, .slice A1 n1 c1], .agg #[.bool b2, .slice A2 n2 c2], .agg #[.bool b3, .slice A3 n3 c3]] w fun e w' => e = .returned (.bool true) ∧ Hid (Below w.heap.size w w') := by
  refine opq fun R hR => ?_
  have m1 := h1.2.1
  replace h1 := hide h1
  replace i1 := hide i1
  have m2 := h2.2.1
  replace h2 := hide h2
  replace i2 := hide i2
  have m3 := h3.2.1
  replace h3 := hide h3
  replace i3 := hide i3
  go_enter Tryd.func3, Tryd.ntmps3
  have b0 := hide (Below.refl w.heap.size w)
  have K1 := hide (Blk.new_at w (w.heap.size) (by simp) 25 #[.bool b1, .slice A1 n1 c1])
  have y := (Below.refl w.heap.size w).alloc (Nat.le_refl _) (.cells #[.bool b1, .slice A1 n1 c1] 25)
  replace b0 := hide (below_tr b0.out y)
  clear y
  have K2 := hide (Blk.new_at (w.alloc (.cells #[.bool b1, .slice A1 n1 c1] 25)) (w.heap.size + 1) (by simp) 25 #[.bool b2, .slice A2 n2 c2])
  have y := (Below.refl (w.alloc (.cells #[.bool b1, .slice A1 n1 c1] 25)).heap.size (w.alloc (.cells #[.bool b1, .slice A1 n1 c1] 25))).alloc (Nat.le_refl _) (.cells #[.bool b2, .slice A2 n2 c2] 25)
  replace K1 := hide (K1.out.below' y)
  replace b0 := hide (below_tr b0.out y)
  clear y
  have K3 := hide (Blk.new_at ((w.alloc (.cells #[.bool b1, .slice A1 n1 c1] 25)).alloc (.cells #[.bool b2, .slice A2 n2 c2] 25)) (w.heap.size + 1 + 1) (by simp) 25 #[.bool b3, .slice A3 n3 c3])
  have y := (Below.refl ((w.alloc (.cells #[.bool b1, .slice A1 n1 c1] 25)).alloc (.cells #[.bool b2, .slice A2 n2 c2] 25)).heap.size ((w.alloc (.cells #[.bool b1, .slice A1 n1 c1] 25)).alloc (.cells #[.bool b2, .slice A2 n2 c2] 25))).alloc (Nat.le_refl _) (.cells #[.bool b3, .slice A3 n3 c3] 25)
  replace K1 := hide (K1.out.below' y)
  replace K2 := hide (K2.out.below' y)
  replace b0 := hide (below_tr b0.out y)
  clear y
  go_wp2_with fail
  refine (ialive_F (((w.alloc (.cells #[.bool b1, .slice A1 n1 c1] 25)).alloc (.cells #[.bool b2, .slice A2 n2 c2] 25)).alloc (.cells #[.bool b3, .slice A3 n3 c3] 25))).mono ?_
  rintro e w1 ⟨_, rfl, d0, rfl⟩
  replace K1 := hide (K1.out.below' d0)
  replace K2 := hide (K2.out.below' d0)
  replace K3 := hide (K3.out.below' d0)
  replace b0 := hide (below_tr b0.out d0)
  clear d0
  have K1c0 := K1.out.at_ 0 rfl
  have K1c1 := K1.out.at_ 1 rfl
  have K2c0 := K2.out.at_ 0 rfl
  have K2c1 := K2.out.at_ 1 rfl
  have K3c0 := K3.out.at_ 0 rfl
  have K3c1 := K3.out.at_ 1 rfl
  by_cases g1 : 60 < n1
  case pos =>
    go_wp2_with fail
    refine (ialive_F _).mono ?_
    rintro e w2 ⟨_, rfl, d0, rfl⟩
    replace K1 := hide (K1.out.below' d0)
    replace K2 := hide (K2.out.below' d0)
    replace K3 := hide (K3.out.below' d0)
    replace b0 := hide (below_tr b0.out d0)
    clear d0
    go_wp2
    exact opq_end hR ⟨rfl, b0⟩
  by_cases g2 : 60 < n2
  case pos =>
    go_wp2_with fail
    refine (ialive_F _).mono ?_
    rintro e w2 ⟨_, rfl, d0, rfl⟩
    replace K1 := hide (K1.out.below' d0)
    replace K2 := hide (K2.out.below' d0)
    replace K3 := hide (K3.out.below' d0)
    replace b0 := hide (below_tr b0.out d0)
    clear d0
    go_wp2
    exact opq_end hR ⟨rfl, b0⟩
  by_cases g3 : 60 < n3
  case pos =>
    go_wp2_with fail
    refine (ialive_F _).mono ?_
    rintro e w2 ⟨_, rfl, d0, rfl⟩
    replace K1 := hide (K1.out.below' d0)
    replace K2 := hide (K2.out.below' d0)
    replace K3 := hide (K3.out.below' d0)
    replace b0 := hide (below_tr b0.out d0)
    clear d0
    go_wp2
    exact opq_end hR ⟨rfl, b0⟩
  have a1 := hide (iprt_of (b := b1) h1.out i1.out l1 (by omega))
  have S1 : Hid (L (iv b1 xs1).natAbs ≤ 60) := Nat.le_trans (iv_L i1.out) (by rw [h1.out.1]; omega)
  clear h1 i1
  generalize iv b1 xs1 = x at *
  have a2 := hide (iprt_of (b := b2) h2.out i2.out l2 (by omega))
  have S2 : Hid (L (iv b2 xs2).natAbs ≤ 60) := Nat.le_trans (iv_L i2.out) (by rw [h2.out.1]; omega)
  clear h2 i2
  generalize iv b2 xs2 = y at *
  have a3 := hide (iprt_of (b := b3) h3.out i3.out l3 (by omega))
  have S3 : Hid (L (iv b3 xs3).natAbs ≤ 60) := Nat.le_trans (iv_L i3.out) (by rw [h3.out.1]; omega)
  clear h3 i3
  generalize iv b3 xs3 = z at *
  go_wp2_with fail
  refine (iAdd_C (a1.out.below b0.out) (a2.out.below b0.out)).mono ?_
  rintro e w2 ⟨v7, rfl, d0, r7⟩
  replace K1 := hide (K1.out.below' d0)
  replace K2 := hide (K2.out.below' d0)
  replace K3 := hide (K3.out.below' d0)
  replace b0 := hide (below_tr b0.out d0)
  have s := hide (r7)
  clear d0
  obtain ⟨b7, A7, n7, c7, rfl⟩ := r7.slice
  clear r7
  clear K1c0 K1c1 K2c0 K2c1 K3c0 K3c1
  have K7 := hide (Blk.new_at w2 (w2.heap.size) (by simp) 25 #[.bool b7, .slice A7 n7 c7])
  have y := (Below.refl w2.heap.size w2).alloc (Nat.le_refl _) (.cells #[.bool b7, .slice A7 n7 c7] 25)
  replace K1 := hide (K1.out.below' y)
  replace K2 := hide (K2.out.below' y)
  replace K3 := hide (K3.out.below' y)
  replace s := hide (s.out.below y)
  replace b0 := hide (below_tr b0.out y)
  clear y
  have K1c0 := K1.out.at_ 0 rfl
  have K1c1 := K1.out.at_ 1 rfl
  have K2c0 := K2.out.at_ 0 rfl
  have K2c1 := K2.out.at_ 1 rfl
  have K3c0 := K3.out.at_ 0 rfl
  have K3c1 := K3.out.at_ 1 rfl
  go_wp2_with fail
  refine (iMul_C (a1.out.below b0.out) (a2.out.below b0.out)).mono ?_
  rintro e w3 ⟨v8, rfl, d0, r8⟩
  replace K1 := hide (K1.out.below' d0)
  replace K2 := hide (K2.out.below' d0)
  replace K3 := hide (K3.out.below' d0)
  replace s := hide (s.out.below d0)
  replace K7 := hide (K7.out.below' d0)
  replace b0 := hide (below_tr b0.out d0)
  have p := hide (r8)
  clear d0
  obtain ⟨b8, A8, n8, c8, rfl⟩ := r8.slice
  clear r8
  clear K1c0 K1c1 K2c0 K2c1 K3c0 K3c1
  have K8 := hide (Blk.new_at w3 (w3.heap.size) (by simp) 25 #[.bool b8, .slice A8 n8 c8])
  have y := (Below.refl w3.heap.size w3).alloc (Nat.le_refl _) (.cells #[.bool b8, .slice A8 n8 c8] 25)
  replace K1 := hide (K1.out.below' y)
  replace K2 := hide (K2.out.below' y)
  replace K3 := hide (K3.out.below' y)
  replace s := hide (s.out.below y)
  replace K7 := hide (K7.out.below' y)
  replace p := hide (p.out.below y)
  replace b0 := hide (below_tr b0.out y)
  clear y
  go_wp2
  obtain ⟨V, hV⟩ : ∃ V, (w3.alloc (.cells #[.bool b8, .slice A8 n8 c8] 25)) = V := ⟨_, rfl⟩
  rw [hV] at s p K1 K2 K3 K7 K8 b0 ⊢
  clear hV
  have Q1 : Hid (L ((x + y)).natAbs ≤ 61) := Z_add S1.out S2.out (by decide)
  have Q2 : Hid (L ((x * y)).natAbs ≤ 120) := Z_mul S1.out S2.out (by decide)
  have Q3 : Hid (L ((y + x)).natAbs ≤ 61) := Z_add S2.out S1.out (by decide)
  have Q4 : Hid (L ((y * x)).natAbs ≤ 120) := Z_mul S2.out S1.out (by decide)
  have Q5 : Hid (L (((x + y) + z)).natAbs ≤ 62) := Z_add Q1.out S3.out (by decide)
  have Q6 : Hid (L ((y + z)).natAbs ≤ 61) := Z_add S2.out S3.out (by decide)
  have Q7 : Hid (L ((x + (y + z))).natAbs ≤ 62) := Z_add S1.out Q6.out (by decide)
  have Q8 : Hid (L (((x * y) * z)).natAbs ≤ 180) := Z_mul Q2.out S3.out (by decide)
  have Q9 : Hid (L ((y * z)).natAbs ≤ 120) := Z_mul S2.out S3.out (by decide)
  have Q10 : Hid (L ((x * (y * z))).natAbs ≤ 180) := Z_mul S1.out Q9.out (by decide)
  have Q11 : Hid (L (((x + y) * z)).natAbs ≤ 121) := Z_mul Q1.out S3.out (by decide)
  have Q12 : Hid (L ((x * z)).natAbs ≤ 120) := Z_mul S1.out S3.out (by decide)
  have Q13 : Hid (L (((x * z) + (y * z))).natAbs ≤ 121) := Z_add Q12.out Q9.out (by decide)
  refine wp_region_facts 56 (fun w' => Below V.heap.size V w') [(36, (.int (x + y))), (37, .eq (.bool true)), (38, .eq (.bool true)), (39, (.int (x * y))), (40, .eq (.bool true)), (41, .eq (.bool true)), (42, .eq (.bool true)), (43, (.int (x + y))), (44, (.iarg0 w y)), (45, (.iarg0 w x)), (46, (.int (y + x))), (47, .eq (.bool true)), (48, .eq (.bool true)), (49, .eq (.bool true)), (50, (.int (x * y))), (51, (.iarg0 w y)), (52, (.iarg0 w x)), (53, (.int (y * x))), (54, .eq (.bool true)), (55, .eq (.bool true)), (56, .eq (.bool true)), (57, (.int (x + y))), (58, (.iarg0 w z)), (59, (.int ((x + y) + z))), (60, (.iarg0 w x)), (61, (.iarg0 w y)), (62, (.iarg0 w z)), (63, (.int (y + z))), (64, (.int (x + (y + z)))), (65, .eq (.bool true)), (66, .eq (.bool true)), (67, .eq (.bool true)), (68, (.int (x * y))), (69, (.iarg0 w z)), (70, (.int ((x * y) * z))), (71, (.iarg0 w x)), (72, (.iarg0 w y)), (73, (.iarg0 w z)), (74, (.int (y * z))), (75, (.int (x * (y * z)))), (76, .eq (.bool true)), (77, .eq (.bool true)), (78, .eq (.bool true)), (79, (.int (x + y))), (80, (.iarg0 w z)), (81, (.int ((x + y) * z))), (82, (.iarg0 w x)), (83, (.iarg0 w z)), (84, (.int (x * z))), (85, (.iarg0 w y)), (86, (.iarg0 w z)), (87, (.int (y * z))), (88, (.int ((x * z) + (y * z)))), (89, .eq (.bool true)), (90, .eq (.bool true)), (6, .eq (.bool true))] [false, false, false, false, false, false, true, false, false, false, false, false, false, false, false, false, false, false, false, false, false, false, false, false, false, false, false, false, false, false, false, false, false, false, false, false, true, true, true, true, true, true, true, true, true, true, true, true, true, true, true, true, true, true, true, true, true, true, true, true, true, true, true, true, true, true, true, true, true, true, true, true, true, true, true, true, true, true, true, true, true, true, true, true, true, true, true, true, true, true, true] mixed (by kernel_rfl) (by kernel_rfl) (by kernel_rfl) (fun _ _ h hb => h.trans (hb.mono h.size)) ((Below.refl _ _).drew) ⟨?_, ?_, ?_, ?_, ?_, ?_, ?_, ?_, ?_, ?_, ?_, ?_, ?_, ?_, ?_, ?_, ?_, ?_, ?_, ?_, ?_, ?_, ?_, ?_, ?_, ?_, ?_, ?_, ?_, ?_, ?_, ?_, ?_, ?_, ?_, ?_, ?_, ?_, ?_, ?_, ?_, ?_, ?_, ?_, ?_, ?_, ?_, ?_, ?_, ?_, ?_, ?_, ?_, ?_, ?_, ?_, trivial⟩ ?_
  · exact .load (.agg #[.bool b7, .slice A7 n7 c7]) (.inl rfl) rfl rfl (fun a w' hC hs hl => by rw [show a.eval (.tmp 7) = (.pointer (some ⟨w2.heap.size, 0, none⟩) : Value) from (hs 7 (by kernel_rfl))]; exact ⟨ld_Int (K7.out.below' hC), s.out.below hC⟩)
  · exact .call (.inl rfl) rfl rfl fn_iCheck (fun a w' hC hs hl => iCheck_can (hl 36 (by kernel_rfl) (by kernel_rfl)) (L_up Q1.out (by decide)))
  · exact .move (.inl rfl) (.inl rfl) rfl (by kernel_rfl) (by kernel_rfl) rfl
  · exact .load (.agg #[.bool b8, .slice A8 n8 c8]) (.inr ⟨2, true, 38, by decide, rfl, rfl, rfl⟩) rfl rfl (fun a w' hC hs hl => by rw [show a.eval (.tmp 8) = (.pointer (some ⟨w3.heap.size, 0, none⟩) : Value) from (hs 8 (by kernel_rfl))]; exact ⟨ld_Int (K8.out.below' hC), p.out.below hC⟩)
  · exact .call (.inr ⟨2, true, 38, by decide, rfl, rfl, rfl⟩) rfl rfl fn_iCheck (fun a w' hC hs hl => iCheck_can (hl 39 (by kernel_rfl) (by kernel_rfl)) (L_up Q2.out (by decide)))
  · exact .pick (b := true) (.inl rfl) rfl rfl (fun a w' hC hs hl => ⟨(hl 38 (by kernel_rfl) (by kernel_rfl)), (hl 40 (by kernel_rfl) (by kernel_rfl))⟩)
  · exact .move (.inl rfl) (.inl rfl) rfl (by kernel_rfl) (by kernel_rfl) rfl
  · exact .load (.agg #[.bool b7, .slice A7 n7 c7]) (.inr ⟨6, true, 42, by decide, rfl, rfl, rfl⟩) rfl rfl (fun a w' hC hs hl => by rw [show a.eval (.tmp 7) = (.pointer (some ⟨w2.heap.size, 0, none⟩) : Value) from (hs 7 (by kernel_rfl))]; exact ⟨ld_Int (K7.out.below' hC), s.out.below hC⟩)
  · exact .load (.agg #[.bool b2, .slice A2 n2 c2]) (.inr ⟨6, true, 42, by decide, rfl, rfl, rfl⟩) rfl rfl (fun a w' hC hs hl => by rw [show a.eval (.tmp 4) = (.pointer (some ⟨w.heap.size + 1, 0, none⟩) : Value) from (hs 4 (by kernel_rfl))]; exact ⟨ld_Int (K2.out.below' hC), a2.out⟩)
  · exact .load (.agg #[.bool b1, .slice A1 n1 c1]) (.inr ⟨6, true, 42, by decide, rfl, rfl, rfl⟩) rfl rfl (fun a w' hC hs hl => by rw [show a.eval (.tmp 3) = (.pointer (some ⟨w.heap.size, 0, none⟩) : Value) from (hs 3 (by kernel_rfl))]; exact ⟨ld_Int (K1.out.below' hC), a1.out⟩)
  · exact .call (.inr ⟨6, true, 42, by decide, rfl, rfl, rfl⟩) rfl rfl fn_iAdd (fun a w' hC hs hl => iAdd_C ((hl 44 (by kernel_rfl) (by kernel_rfl)).below (b0.out.trans (hC.mono b0.out.size))) ((hl 45 (by kernel_rfl) (by kernel_rfl)).below (b0.out.trans (hC.mono b0.out.size))))
  · exact .call (.inr ⟨6, true, 42, by decide, rfl, rfl, rfl⟩) rfl rfl fn_isame (fun a w' hC hs hl => isame_yes (hl 43 (by kernel_rfl) (by kernel_rfl)) (hl 46 (by kernel_rfl) (by kernel_rfl)) (Int.add_comm _ _))
  · exact .pick (b := true) (.inl rfl) rfl rfl (fun a w' hC hs hl => ⟨(hl 42 (by kernel_rfl) (by kernel_rfl)), (hl 47 (by kernel_rfl) (by kernel_rfl))⟩)
  · exact .move (.inl rfl) (.inl rfl) rfl (by kernel_rfl) (by kernel_rfl) rfl
  · exact .load (.agg #[.bool b8, .slice A8 n8 c8]) (.inr ⟨13, true, 49, by decide, rfl, rfl, rfl⟩) rfl rfl (fun a w' hC hs hl => by rw [show a.eval (.tmp 8) = (.pointer (some ⟨w3.heap.size, 0, none⟩) : Value) from (hs 8 (by kernel_rfl))]; exact ⟨ld_Int (K8.out.below' hC), p.out.below hC⟩)
  · exact .load (.agg #[.bool b2, .slice A2 n2 c2]) (.inr ⟨13, true, 49, by decide, rfl, rfl, rfl⟩) rfl rfl (fun a w' hC hs hl => by rw [show a.eval (.tmp 4) = (.pointer (some ⟨w.heap.size + 1, 0, none⟩) : Value) from (hs 4 (by kernel_rfl))]; exact ⟨ld_Int (K2.out.below' hC), a2.out⟩)
  · exact .load (.agg #[.bool b1, .slice A1 n1 c1]) (.inr ⟨13, true, 49, by decide, rfl, rfl, rfl⟩) rfl rfl (fun a w' hC hs hl => by rw [show a.eval (.tmp 3) = (.pointer (some ⟨w.heap.size, 0, none⟩) : Value) from (hs 3 (by kernel_rfl))]; exact ⟨ld_Int (K1.out.below' hC), a1.out⟩)
  · exact .call (.inr ⟨13, true, 49, by decide, rfl, rfl, rfl⟩) rfl rfl fn_iMul (fun a w' hC hs hl => iMul_C ((hl 51 (by kernel_rfl) (by kernel_rfl)).below (b0.out.trans (hC.mono b0.out.size))) ((hl 52 (by kernel_rfl) (by kernel_rfl)).below (b0.out.trans (hC.mono b0.out.size))))
  · exact .call (.inr ⟨13, true, 49, by decide, rfl, rfl, rfl⟩) rfl rfl fn_isame (fun a w' hC hs hl => isame_yes (hl 50 (by kernel_rfl) (by kernel_rfl)) (hl 53 (by kernel_rfl) (by kernel_rfl)) (Int.mul_comm _ _))
  · exact .pick (b := true) (.inl rfl) rfl rfl (fun a w' hC hs hl => ⟨(hl 49 (by kernel_rfl) (by kernel_rfl)), (hl 54 (by kernel_rfl) (by kernel_rfl))⟩)
  · exact .move (.inl rfl) (.inl rfl) rfl (by kernel_rfl) (by kernel_rfl) rfl
  · exact .load (.agg #[.bool b7, .slice A7 n7 c7]) (.inr ⟨20, true, 56, by decide, rfl, rfl, rfl⟩) rfl rfl (fun a w' hC hs hl => by rw [show a.eval (.tmp 7) = (.pointer (some ⟨w2.heap.size, 0, none⟩) : Value) from (hs 7 (by kernel_rfl))]; exact ⟨ld_Int (K7.out.below' hC), s.out.below hC⟩)
  · exact .load (.agg #[.bool b3, .slice A3 n3 c3]) (.inr ⟨20, true, 56, by decide, rfl, rfl, rfl⟩) rfl rfl (fun a w' hC hs hl => by rw [show a.eval (.tmp 5) = (.pointer (some ⟨w.heap.size + 1 + 1, 0, none⟩) : Value) from (hs 5 (by kernel_rfl))]; exact ⟨ld_Int (K3.out.below' hC), a3.out⟩)
  · exact .call (.inr ⟨20, true, 56, by decide, rfl, rfl, rfl⟩) rfl rfl fn_iAdd (fun a w' hC hs hl => iAdd_C (ICan.arg (hl 57 (by kernel_rfl) (by kernel_rfl)) (L_up Q1.out (by decide))) ((hl 58 (by kernel_rfl) (by kernel_rfl)).below (b0.out.trans (hC.mono b0.out.size))))
  · exact .load (.agg #[.bool b1, .slice A1 n1 c1]) (.inr ⟨20, true, 56, by decide, rfl, rfl, rfl⟩) rfl rfl (fun a w' hC hs hl => by rw [show a.eval (.tmp 3) = (.pointer (some ⟨w.heap.size, 0, none⟩) : Value) from (hs 3 (by kernel_rfl))]; exact ⟨ld_Int (K1.out.below' hC), a1.out⟩)
  · exact .load (.agg #[.bool b2, .slice A2 n2 c2]) (.inr ⟨20, true, 56, by decide, rfl, rfl, rfl⟩) rfl rfl (fun a w' hC hs hl => by rw [show a.eval (.tmp 4) = (.pointer (some ⟨w.heap.size + 1, 0, none⟩) : Value) from (hs 4 (by kernel_rfl))]; exact ⟨ld_Int (K2.out.below' hC), a2.out⟩)
  · exact .load (.agg #[.bool b3, .slice A3 n3 c3]) (.inr ⟨20, true, 56, by decide, rfl, rfl, rfl⟩) rfl rfl (fun a w' hC hs hl => by rw [show a.eval (.tmp 5) = (.pointer (some ⟨w.heap.size + 1 + 1, 0, none⟩) : Value) from (hs 5 (by kernel_rfl))]; exact ⟨ld_Int (K3.out.below' hC), a3.out⟩)
  · exact .call (.inr ⟨20, true, 56, by decide, rfl, rfl, rfl⟩) rfl rfl fn_iAdd (fun a w' hC hs hl => iAdd_C ((hl 61 (by kernel_rfl) (by kernel_rfl)).below (b0.out.trans (hC.mono b0.out.size))) ((hl 62 (by kernel_rfl) (by kernel_rfl)).below (b0.out.trans (hC.mono b0.out.size))))
  · exact .call (.inr ⟨20, true, 56, by decide, rfl, rfl, rfl⟩) rfl rfl fn_iAdd (fun a w' hC hs hl => iAdd_C ((hl 60 (by kernel_rfl) (by kernel_rfl)).below (b0.out.trans (hC.mono b0.out.size))) (ICan.arg (hl 63 (by kernel_rfl) (by kernel_rfl)) (L_up Q6.out (by decide))))
  · exact .call (.inr ⟨20, true, 56, by decide, rfl, rfl, rfl⟩) rfl rfl fn_isame (fun a w' hC hs hl => isame_yes (hl 59 (by kernel_rfl) (by kernel_rfl)) (hl 64 (by kernel_rfl) (by kernel_rfl)) (Int.add_assoc _ _ _))
  · exact .pick (b := true) (.inl rfl) rfl rfl (fun a w' hC hs hl => ⟨(hl 56 (by kernel_rfl) (by kernel_rfl)), (hl 65 (by kernel_rfl) (by kernel_rfl))⟩)
  · exact .move (.inl rfl) (.inl rfl) rfl (by kernel_rfl) (by kernel_rfl) rfl
  · exact .load (.agg #[.bool b8, .slice A8 n8 c8]) (.inr ⟨31, true, 67, by decide, rfl, rfl, rfl⟩) rfl rfl (fun a w' hC hs hl => by rw [show a.eval (.tmp 8) = (.pointer (some ⟨w3.heap.size, 0, none⟩) : Value) from (hs 8 (by kernel_rfl))]; exact ⟨ld_Int (K8.out.below' hC), p.out.below hC⟩)
  · exact .load (.agg #[.bool b3, .slice A3 n3 c3]) (.inr ⟨31, true, 67, by decide, rfl, rfl, rfl⟩) rfl rfl (fun a w' hC hs hl => by rw [show a.eval (.tmp 5) = (.pointer (some ⟨w.heap.size + 1 + 1, 0, none⟩) : Value) from (hs 5 (by kernel_rfl))]; exact ⟨ld_Int (K3.out.below' hC), a3.out⟩)
  · exact .call (.inr ⟨31, true, 67, by decide, rfl, rfl, rfl⟩) rfl rfl fn_iMul (fun a w' hC hs hl => iMul_C (ICan.arg (hl 68 (by kernel_rfl) (by kernel_rfl)) (L_up Q2.out (by decide))) ((hl 69 (by kernel_rfl) (by kernel_rfl)).below (b0.out.trans (hC.mono b0.out.size))))
  · exact .load (.agg #[.bool b1, .slice A1 n1 c1]) (.inr ⟨31, true, 67, by decide, rfl, rfl, rfl⟩) rfl rfl (fun a w' hC hs hl => by rw [show a.eval (.tmp 3) = (.pointer (some ⟨w.heap.size, 0, none⟩) : Value) from (hs 3 (by kernel_rfl))]; exact ⟨ld_Int (K1.out.below' hC), a1.out⟩)
  · exact .load (.agg #[.bool b2, .slice A2 n2 c2]) (.inr ⟨31, true, 67, by decide, rfl, rfl, rfl⟩) rfl rfl (fun a w' hC hs hl => by rw [show a.eval (.tmp 4) = (.pointer (some ⟨w.heap.size + 1, 0, none⟩) : Value) from (hs 4 (by kernel_rfl))]; exact ⟨ld_Int (K2.out.below' hC), a2.out⟩)
  · exact .load (.agg #[.bool b3, .slice A3 n3 c3]) (.inr ⟨31, true, 67, by decide, rfl, rfl, rfl⟩) rfl rfl (fun a w' hC hs hl => by rw [show a.eval (.tmp 5) = (.pointer (some ⟨w.heap.size + 1 + 1, 0, none⟩) : Value) from (hs 5 (by kernel_rfl))]; exact ⟨ld_Int (K3.out.below' hC), a3.out⟩)
  · exact .call (.inr ⟨31, true, 67, by decide, rfl, rfl, rfl⟩) rfl rfl fn_iMul (fun a w' hC hs hl => iMul_C ((hl 72 (by kernel_rfl) (by kernel_rfl)).below (b0.out.trans (hC.mono b0.out.size))) ((hl 73 (by kernel_rfl) (by kernel_rfl)).below (b0.out.trans (hC.mono b0.out.size))))
  · exact .call (.inr ⟨31, true, 67, by decide, rfl, rfl, rfl⟩) rfl rfl fn_iMul (fun a w' hC hs hl => iMul_C ((hl 71 (by kernel_rfl) (by kernel_rfl)).below (b0.out.trans (hC.mono b0.out.size))) (ICan.arg (hl 74 (by kernel_rfl) (by kernel_rfl)) (L_up Q9.out (by decide))))
  · exact .call (.inr ⟨31, true, 67, by decide, rfl, rfl, rfl⟩) rfl rfl fn_isame (fun a w' hC hs hl => isame_yes (hl 70 (by kernel_rfl) (by kernel_rfl)) (hl 75 (by kernel_rfl) (by kernel_rfl)) (Int.mul_assoc _ _ _))
  · exact .pick (b := true) (.inl rfl) rfl rfl (fun a w' hC hs hl => ⟨(hl 67 (by kernel_rfl) (by kernel_rfl)), (hl 76 (by kernel_rfl) (by kernel_rfl))⟩)
  · exact .move (.inl rfl) (.inl rfl) rfl (by kernel_rfl) (by kernel_rfl) rfl
  · exact .load (.agg #[.bool b7, .slice A7 n7 c7]) (.inr ⟨42, true, 78, by decide, rfl, rfl, rfl⟩) rfl rfl (fun a w' hC hs hl => by rw [show a.eval (.tmp 7) = (.pointer (some ⟨w2.heap.size, 0, none⟩) : Value) from (hs 7 (by kernel_rfl))]; exact ⟨ld_Int (K7.out.below' hC), s.out.below hC⟩)
  · exact .load (.agg #[.bool b3, .slice A3 n3 c3]) (.inr ⟨42, true, 78, by decide, rfl, rfl, rfl⟩) rfl rfl (fun a w' hC hs hl => by rw [show a.eval (.tmp 5) = (.pointer (some ⟨w.heap.size + 1 + 1, 0, none⟩) : Value) from (hs 5 (by kernel_rfl))]; exact ⟨ld_Int (K3.out.below' hC), a3.out⟩)
  · exact .call (.inr ⟨42, true, 78, by decide, rfl, rfl, rfl⟩) rfl rfl fn_iMul (fun a w' hC hs hl => iMul_C (ICan.arg (hl 79 (by kernel_rfl) (by kernel_rfl)) (L_up Q1.out (by decide))) ((hl 80 (by kernel_rfl) (by kernel_rfl)).below (b0.out.trans (hC.mono b0.out.size))))
  · exact .load (.agg #[.bool b1, .slice A1 n1 c1]) (.inr ⟨42, true, 78, by decide, rfl, rfl, rfl⟩) rfl rfl (fun a w' hC hs hl => by rw [show a.eval (.tmp 3) = (.pointer (some ⟨w.heap.size, 0, none⟩) : Value) from (hs 3 (by kernel_rfl))]; exact ⟨ld_Int (K1.out.below' hC), a1.out⟩)
  · exact .load (.agg #[.bool b3, .slice A3 n3 c3]) (.inr ⟨42, true, 78, by decide, rfl, rfl, rfl⟩) rfl rfl (fun a w' hC hs hl => by rw [show a.eval (.tmp 5) = (.pointer (some ⟨w.heap.size + 1 + 1, 0, none⟩) : Value) from (hs 5 (by kernel_rfl))]; exact ⟨ld_Int (K3.out.below' hC), a3.out⟩)
  · exact .call (.inr ⟨42, true, 78, by decide, rfl, rfl, rfl⟩) rfl rfl fn_iMul (fun a w' hC hs hl => iMul_C ((hl 82 (by kernel_rfl) (by kernel_rfl)).below (b0.out.trans (hC.mono b0.out.size))) ((hl 83 (by kernel_rfl) (by kernel_rfl)).below (b0.out.trans (hC.mono b0.out.size))))
  · exact .load (.agg #[.bool b2, .slice A2 n2 c2]) (.inr ⟨42, true, 78, by decide, rfl, rfl, rfl⟩) rfl rfl (fun a w' hC hs hl => by rw [show a.eval (.tmp 4) = (.pointer (some ⟨w.heap.size + 1, 0, none⟩) : Value) from (hs 4 (by kernel_rfl))]; exact ⟨ld_Int (K2.out.below' hC), a2.out⟩)
  · exact .load (.agg #[.bool b3, .slice A3 n3 c3]) (.inr ⟨42, true, 78, by decide, rfl, rfl, rfl⟩) rfl rfl (fun a w' hC hs hl => by rw [show a.eval (.tmp 5) = (.pointer (some ⟨w.heap.size + 1 + 1, 0, none⟩) : Value) from (hs 5 (by kernel_rfl))]; exact ⟨ld_Int (K3.out.below' hC), a3.out⟩)
  · exact .call (.inr ⟨42, true, 78, by decide, rfl, rfl, rfl⟩) rfl rfl fn_iMul (fun a w' hC hs hl => iMul_C ((hl 85 (by kernel_rfl) (by kernel_rfl)).below (b0.out.trans (hC.mono b0.out.size))) ((hl 86 (by kernel_rfl) (by kernel_rfl)).below (b0.out.trans (hC.mono b0.out.size))))
  · exact .call (.inr ⟨42, true, 78, by decide, rfl, rfl, rfl⟩) rfl rfl fn_iAdd (fun a w' hC hs hl => iAdd_C (ICan.arg (hl 84 (by kernel_rfl) (by kernel_rfl)) (L_up Q12.out (by decide))) (ICan.arg (hl 87 (by kernel_rfl) (by kernel_rfl)) (L_up Q9.out (by decide))))
  · exact .call (.inr ⟨42, true, 78, by decide, rfl, rfl, rfl⟩) rfl rfl fn_isame (fun a w' hC hs hl => isame_yes (hl 81 (by kernel_rfl) (by kernel_rfl)) (hl 88 (by kernel_rfl) (by kernel_rfl)) (Int.add_mul _ _ _))
  · exact .pick (b := true) (.inl rfl) rfl rfl (fun a w' hC hs hl => ⟨(hl 78 (by kernel_rfl) (by kernel_rfl)), (hl 89 (by kernel_rfl) (by kernel_rfl))⟩)
  · exact .move (.inl rfl) (.inr rfl) rfl (by kernel_rfl) (by kernel_rfl) rfl
  intro f w9 hC hF _
  have f6 : f 6 = .bool true := hF 6 (by kernel_rfl)
  clear hF
  simp only [patch, List.drop]
  have B9 := hide (b0.out.trans (hC.mono b0.out.size))
  clear hC
  rw [f6]
  go_wp2
  exact opq_end hR ⟨rfl, B9⟩
end Go.Proofs.YtcdejccbamjdoaaDoor
