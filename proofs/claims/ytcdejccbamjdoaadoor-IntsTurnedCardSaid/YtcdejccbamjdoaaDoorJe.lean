/- the laws of ints: IntsTurned. -/
import Derived.Test.YtcdejccbamjdoaaDoorJd
set_option linter.unusedVariables false
set_option linter.unusedSimpArgs false
set_option maxRecDepth 100000
namespace Go.Proofs.YtcdejccbamjdoaaDoor
open Go.RowKit

theorem cmpI_neg0 {x s : Int} (h : cmpI x 0 = s) : cmpI (-x) 0 = -s := by
  subst h; unfold cmpI; (repeat' split) <;> omega
theorem cmpI_mul0 {x y s t : Int} (h : cmpI x 0 = s) (h' : cmpI y 0 = t) : cmpI (x * y) 0 = s * t := by
  subst h; subst h'
  rcases Int.lt_trichotomy x 0 with hx | hx | hx <;> rcases Int.lt_trichotomy y 0 with hy | hy | hy
  · rw [cmpI_lt hx, cmpI_lt hy, cmpI_gt (Int.mul_pos_of_neg_of_neg hx hy)]; rfl
  · subst hy; rw [Int.mul_zero, cmpI_eq, Int.mul_zero]
  · rw [cmpI_lt hx, cmpI_gt hy, cmpI_lt (Int.mul_neg_of_neg_of_pos hx hy)]; rfl
  · subst hx; rw [Int.zero_mul, cmpI_eq, Int.zero_mul]
  · subst hx; rw [Int.zero_mul, cmpI_eq, Int.zero_mul]
  · subst hx; rw [Int.zero_mul, cmpI_eq, Int.zero_mul]
  · rw [cmpI_gt hx, cmpI_lt hy, cmpI_lt (Int.mul_neg_of_pos_of_neg hx hy)]; rfl
  · subst hy; rw [Int.mul_zero, cmpI_eq, Int.mul_zero]
  · rw [cmpI_gt hx, cmpI_gt hy, cmpI_gt (Int.mul_pos hx hy)]; rfl
set_option maxHeartbeats 2000000 in
theorem IntsTurned_ok (w : World) (b1 : Bool) (A1 : Option Addr) (n1 c1 : Nat) (xs1 : List Nat) (b2 : Bool) (A2 : Option Addr) (n2 c2 : Nat) (xs2 : List Nat) (h1 : Rd w A1 n1 xs1) (i1 : Is32 xs1) (l1 : n1 ≤ c1) (h2 : Rd w A2 n2 xs2) (i2 : Is32 xs2) (l2 : n2 ≤ c2) :
    Calls Tryd.prog 5 #[.agg #[.bool b1, .slice A1 n1 c1], .agg #[.bool b2, .slice A2 n2 c2]] w fun e w' => e = .returned (.bool true) ∧ Hid (Below w.heap.size w w') := by
  refine opq fun R hR => ?_
  have m1 := h1.2.1
  replace h1 := hide h1
  replace i1 := hide i1
  have m2 := h2.2.1
  replace h2 := hide h2
  replace i2 := hide i2
  go_enter Tryd.func5, Tryd.ntmps5
  have b0 := hide (Below.refl w.heap.size w)
  have K1 := hide (Blk.new_at w (w.heap.size) (by simp) 25 #[.bool b1, .slice A1 n1 c1])
  have y := (Below.refl w.heap.size w).alloc (Nat.le_refl _) (.cells #[.bool b1, .slice A1 n1 c1] 25)
  replace b0 := hide (below_tr b0.out y)
  clear y
  have K2 := hide (Blk.new_at (w.alloc (.cells #[.bool b1, .slice A1 n1 c1] 25)) (w.heap.size + 1) (by simp) 25 #[.bool b2, .slice A2 n2 c2])
  have y := (Below.refl (w.alloc (.cells #[.bool b1, .slice A1 n1 c1] 25)).heap.size (w.alloc (.cells #[.bool b1, .slice A1 n1 c1] 25))).alloc (Nat.le_refl _) (.cells #[.bool b2, .slice A2 n2 c2] 25)
  replace K1 := hide (K1.out.below' y)
  replace b0 := hide (below_tr b0.out y)
  clear y
  go_wp2_with fail
  refine (ialive_F ((w.alloc (.cells #[.bool b1, .slice A1 n1 c1] 25)).alloc (.cells #[.bool b2, .slice A2 n2 c2] 25))).mono ?_
  rintro e w1 ⟨_, rfl, d0, rfl⟩
  replace K1 := hide (K1.out.below' d0)
  replace K2 := hide (K2.out.below' d0)
  replace b0 := hide (below_tr b0.out d0)
  clear d0
  have K1c0 := K1.out.at_ 0 rfl
  have K1c1 := K1.out.at_ 1 rfl
  have K2c0 := K2.out.at_ 0 rfl
  have K2c1 := K2.out.at_ 1 rfl
  by_cases gg : 200 < n1 ∨ 200 < n2
  case pos =>
    have y := (Below.refl w1.heap.size w1).alloc (Nat.le_refl _) (.cells #[.bool b1, .slice A1 n1 c1, .bool b2, .slice A2 n2 c2] 25)
    replace K1 := hide (K1.out.below' y)
    replace K2 := hide (K2.out.below' y)
    replace b0 := hide (below_tr b0.out y)
    clear y
    go_wp2_with fail
    refine (igreat2 (w := w1) rfl true (by simp; omega)).mono ?_
    rintro e w2 ⟨_, rfl, d0, rfl⟩
    replace K1 := hide (K1.out.below' d0)
    replace K2 := hide (K2.out.below' d0)
    replace b0 := hide (below_tr b0.out d0)
    clear d0
    go_wp2_with fail
    refine (ialive_F _).mono ?_
    rintro e w3 ⟨_, rfl, d0, rfl⟩
    replace K1 := hide (K1.out.below' d0)
    replace K2 := hide (K2.out.below' d0)
    replace b0 := hide (below_tr b0.out d0)
    clear d0
    go_wp2
    exact opq_end hR ⟨rfl, b0⟩
  have y := (Below.refl w1.heap.size w1).alloc (Nat.le_refl _) (.cells #[.bool b1, .slice A1 n1 c1, .bool b2, .slice A2 n2 c2] 25)
  replace K1 := hide (K1.out.below' y)
  replace K2 := hide (K2.out.below' y)
  replace b0 := hide (below_tr b0.out y)
  clear y
  go_wp2_with fail
  refine (igreat2 (w := w1) rfl false (by simp; omega)).mono ?_
  rintro e w2 ⟨_, rfl, d0, rfl⟩
  replace K1 := hide (K1.out.below' d0)
  replace K2 := hide (K2.out.below' d0)
  replace b0 := hide (below_tr b0.out d0)
  clear d0
  clear K1c0 K1c1 K2c0 K2c1
  have K1c0 := K1.out.at_ 0 rfl
  have K1c1 := K1.out.at_ 1 rfl
  have K2c0 := K2.out.at_ 0 rfl
  have K2c1 := K2.out.at_ 1 rfl
  by_cases k1 : iok b1 xs1 = false
  case pos =>
    go_wp2_with fail
    refine (iCheck_F (h1.out.below b0.out) i1.out l1 (by omega) false k1).mono ?_
    rintro e w3 ⟨_, rfl, d0, rfl⟩
    replace K1 := hide (K1.out.below' d0)
    replace K2 := hide (K2.out.below' d0)
    replace b0 := hide (below_tr b0.out d0)
    clear d0
    go_wp2_with fail
    refine (ialive_F _).mono ?_
    rintro e w4 ⟨_, rfl, d0, rfl⟩
    replace K1 := hide (K1.out.below' d0)
    replace K2 := hide (K2.out.below' d0)
    replace b0 := hide (below_tr b0.out d0)
    clear d0
    go_wp2
    exact opq_end hR ⟨rfl, b0⟩
  replace k1 : iok b1 xs1 = true := by simpa using k1
  go_wp2_with fail
  refine (iCheck_F (h1.out.below b0.out) i1.out l1 (by omega) true k1).mono ?_
  rintro e w3 ⟨_, rfl, d0, rfl⟩
  replace K1 := hide (K1.out.below' d0)
  replace K2 := hide (K2.out.below' d0)
  replace b0 := hide (below_tr b0.out d0)
  clear d0
  clear K1c0 K1c1 K2c0 K2c1
  have K1c0 := K1.out.at_ 0 rfl
  have K1c1 := K1.out.at_ 1 rfl
  have K2c0 := K2.out.at_ 0 rfl
  have K2c1 := K2.out.at_ 1 rfl
  by_cases k2 : iok b2 xs2 = false
  case pos =>
    go_wp2_with fail
    refine (iCheck_F (h2.out.below b0.out) i2.out l2 (by omega) false k2).mono ?_
    rintro e w4 ⟨_, rfl, d0, rfl⟩
    replace K1 := hide (K1.out.below' d0)
    replace K2 := hide (K2.out.below' d0)
    replace b0 := hide (below_tr b0.out d0)
    clear d0
    go_wp2_with fail
    refine (ialive_F _).mono ?_
    rintro e w5 ⟨_, rfl, d0, rfl⟩
    replace K1 := hide (K1.out.below' d0)
    replace K2 := hide (K2.out.below' d0)
    replace b0 := hide (below_tr b0.out d0)
    clear d0
    go_wp2
    exact opq_end hR ⟨rfl, b0⟩
  replace k2 : iok b2 xs2 = true := by simpa using k2
  go_wp2_with fail
  refine (iCheck_F (h2.out.below b0.out) i2.out l2 (by omega) true k2).mono ?_
  rintro e w4 ⟨_, rfl, d0, rfl⟩
  replace K1 := hide (K1.out.below' d0)
  replace K2 := hide (K2.out.below' d0)
  replace b0 := hide (below_tr b0.out d0)
  clear d0
  clear K1c0 K1c1 K2c0 K2c1
  have K1c0 := K1.out.at_ 0 rfl
  have K1c1 := K1.out.at_ 1 rfl
  have K2c0 := K2.out.at_ 0 rfl
  have K2c1 := K2.out.at_ 1 rfl
  have a1 := hide (ican_of h1.out i1.out l1 (by omega) k1)
  have S1 : Hid (L (iv b1 xs1).natAbs ≤ 200) := Nat.le_trans (iv_L i1.out) (by rw [h1.out.1]; omega)
  clear h1 i1 k1
  generalize iv b1 xs1 = x at *
  have a2 := hide (ican_of h2.out i2.out l2 (by omega) k2)
  have S2 : Hid (L (iv b2 xs2).natAbs ≤ 200) := Nat.le_trans (iv_L i2.out) (by rw [h2.out.1]; omega)
  clear h2 i2 k2
  generalize iv b2 xs2 = y at *
  have Q1 : Hid (L ((-x)).natAbs ≤ 200) := Z_neg S1.out
  go_wp2_with fail
  refine (iNeg_C (ICan.arg (a1.out.below b0.out) (L_up S1.out (by decide)))).mono ?_
  rintro e w5 ⟨v7, rfl, d0, r7⟩
  replace K1 := hide (K1.out.below' d0)
  replace K2 := hide (K2.out.below' d0)
  replace b0 := hide (below_tr b0.out d0)
  have s := hide (r7)
  clear d0
  obtain ⟨b7, A7, n7, c7, rfl⟩ := r7.slice
  clear r7
  clear K1c0 K1c1 K2c0 K2c1
  have K5 := hide (Blk.new_at w5 (w5.heap.size) (by simp) 25 #[.bool b7, .slice A7 n7 c7])
  have y := (Below.refl w5.heap.size w5).alloc (Nat.le_refl _) (.cells #[.bool b7, .slice A7 n7 c7] 25)
  replace K1 := hide (K1.out.below' y)
  replace K2 := hide (K2.out.below' y)
  replace s := hide (s.out.below y)
  replace b0 := hide (below_tr b0.out y)
  clear y
  go_wp2
  obtain ⟨V, hV⟩ : ∃ V, (w5.alloc (.cells #[.bool b7, .slice A7 n7 c7] 25)) = V := ⟨_, rfl⟩
  rw [hV] at s K1 K2 K5 b0 ⊢
  clear hV
  obtain ⟨sx, hsx, csx, _⟩ := sgn3 x
  obtain ⟨sy, hsy, csy, _⟩ := sgn3 y
  have hx : -1 ≤ sx ∧ sx ≤ 1 := by omega
  have hy : -1 ≤ sy ∧ sy ≤ 1 := by omega
  have hw1 : Hid (IntKind.i64.wrap (-sx) = -sx) := by
    show _ = _
    rcases csx with rfl | rfl | rfl <;> rfl
  have hw2 : Hid (IntKind.i64.wrap (sx * sy) = sx * sy) := by
    show _ = _
    rcases csx with rfl | rfl | rfl <;> rcases csy with rfl | rfl | rfl <;> rfl
  have hs2 := hide (cmpI_neg0 hsx.out)
  have hs3 := hide (cmpI_mul0 hsx.out hsy.out)
  clear csx csy
  have Q2 : Hid (L ((x + (-x))).natAbs ≤ 201) := Z_add S1.out Q1.out (by decide)
  have Q3 : Hid (L ((-(-x))).natAbs ≤ 200) := Z_neg Q1.out
  have Q4 : Hid (L ((y - x)).natAbs ≤ 201) := Z_sub S2.out S1.out (by decide)
  have Q5 : Hid (L ((y + (-x))).natAbs ≤ 201) := Z_add S2.out Q1.out (by decide)
  have Q6 : Hid (L ((x + y)).natAbs ≤ 201) := Z_add S1.out S2.out (by decide)
  have Q7 : Hid (L (((x + y) - y)).natAbs ≤ 202) := Z_sub Q6.out S2.out (by decide)
  have Q8 : Hid (L ((x * y)).natAbs ≤ 400) := Z_mul S1.out S2.out (by decide)
  have Q9 : Hid (L (((-x) * y)).natAbs ≤ 400) := Z_mul Q1.out S2.out (by decide)
  have Q10 : Hid (L ((-(x * y))).natAbs ≤ 400) := Z_neg Q8.out
  refine wp_region_facts 60 (fun w' => Below V.heap.size V w') [(27, (.int0 w x)), (28, (.int (-x))), (29, (.int (x + (-x)))), (30, (.int 0)), (31, .eq (.bool true)), (32, .eq (.bool true)), (33, (.int (-x))), (34, (.int (-(-x)))), (35, (.int0 w x)), (36, .eq (.bool true)), (37, .eq (.bool true)), (38, .eq (.bool true)), (39, (.int0 w y)), (40, (.int0 w x)), (41, (.int (y - x))), (42, (.int0 w y)), (43, (.int (-x))), (44, (.int (y + (-x)))), (45, .eq (.bool true)), (46, .eq (.bool true)), (47, .eq (.bool true)), (48, (.int0 w x)), (49, (.int0 w y)), (50, (.int (x + y))), (51, (.int0 w y)), (52, (.int ((x + y) - y))), (53, (.int0 w x)), (54, .eq (.bool true)), (55, .eq (.bool true)), (56, .eq (.bool true)), (57, (.int (-x))), (58, .eq (.int .i64 (-sx))), (59, (.int0 w x)), (60, .eq (.int .i64 (sx))), (61, .eq (.int .i64 (-sx))), (62, .eq (.bool true)), (63, .eq (.bool true)), (64, .eq (.bool true)), (65, (.int0 w x)), (66, (.int0 w y)), (67, (.int (x * y))), (68, .eq (.int .i64 (sx * sy))), (69, (.int0 w x)), (70, .eq (.int .i64 (sx))), (71, (.int0 w y)), (72, .eq (.int .i64 (sy))), (73, .eq (.int .i64 (sx * sy))), (74, .eq (.bool true)), (75, .eq (.bool true)), (76, .eq (.bool true)), (77, (.int (-x))), (78, (.int0 w y)), (79, (.int ((-x) * y))), (80, (.int0 w x)), (81, (.int0 w y)), (82, (.int (x * y))), (83, (.int (-(x * y)))), (84, .eq (.bool true)), (85, .eq (.bool true)), (4, .eq (.bool true))] [false, false, false, false, true, false, false, false, false, false, false, false, false, false, false, false, false, false, false, false, false, false, false, false, false, false, false, true, true, true, true, true, true, true, true, true, true, true, true, true, true, true, true, true, true, true, true, true, true, true, true, true, true, true, true, true, true, true, true, true, true, true, true, true, true, true, true, true, true, true, true, true, true, true, true, true, true, true, true, true, true, true, true, true, true, true] mixed (by kernel_rfl) (by kernel_rfl) (by kernel_rfl) (fun _ _ h hb => h.trans (hb.mono h.size)) ((Below.refl _ _).drew) ⟨?_, ?_, ?_, ?_, ?_, ?_, ?_, ?_, ?_, ?_, ?_, ?_, ?_, ?_, ?_, ?_, ?_, ?_, ?_, ?_, ?_, ?_, ?_, ?_, ?_, ?_, ?_, ?_, ?_, ?_, ?_, ?_, ?_, ?_, ?_, ?_, ?_, ?_, ?_, ?_, ?_, ?_, ?_, ?_, ?_, ?_, ?_, ?_, ?_, ?_, ?_, ?_, ?_, ?_, ?_, ?_, ?_, ?_, ?_, ?_, trivial⟩ ?_
  · exact .load (.agg #[.bool b1, .slice A1 n1 c1]) (.inl rfl) rfl rfl (fun a w' hC hs hl => by rw [show a.eval (.tmp 2) = (.pointer (some ⟨w.heap.size, 0, none⟩) : Value) from (hs 2 (by kernel_rfl))]; exact ⟨ld_Int (K1.out.below' hC), a1.out⟩)
  · exact .load (.agg #[.bool b7, .slice A7 n7 c7]) (.inl rfl) rfl rfl (fun a w' hC hs hl => by rw [show a.eval (.tmp 5) = (.pointer (some ⟨w5.heap.size, 0, none⟩) : Value) from (hs 5 (by kernel_rfl))]; exact ⟨ld_Int (K5.out.below' hC), s.out.below hC⟩)
  · exact .call (.inl rfl) rfl rfl fn_iAdd (fun a w' hC hs hl => iAdd_C (ICan.arg ((hl 27 (by kernel_rfl) (by kernel_rfl)).below (b0.out.trans (hC.mono b0.out.size))) (L_up S1.out (by decide))) (ICan.arg (hl 28 (by kernel_rfl) (by kernel_rfl)) (L_up Q1.out (by decide))))
  · exact .want (.inl rfl) (fun a w' hC hs hl => does_zero rfl (by intro t ht; cases ht; exact ican_zero _))
  · exact .call (.inl rfl) rfl rfl fn_isame (fun a w' hC hs hl => isame_yes (hl 29 (by kernel_rfl) (by kernel_rfl)) (hl 30 (by kernel_rfl) (by kernel_rfl)) (Int.add_right_neg _))
  · exact .move (.inl rfl) (.inl rfl) rfl (by kernel_rfl) (by kernel_rfl) rfl
  · exact .load (.agg #[.bool b7, .slice A7 n7 c7]) (.inr ⟨5, true, 32, by decide, rfl, rfl, rfl⟩) rfl rfl (fun a w' hC hs hl => by rw [show a.eval (.tmp 5) = (.pointer (some ⟨w5.heap.size, 0, none⟩) : Value) from (hs 5 (by kernel_rfl))]; exact ⟨ld_Int (K5.out.below' hC), s.out.below hC⟩)
  · exact .call (.inr ⟨5, true, 32, by decide, rfl, rfl, rfl⟩) rfl rfl fn_iNeg (fun a w' hC hs hl => iNeg_C (ICan.arg (hl 33 (by kernel_rfl) (by kernel_rfl)) (L_up Q1.out (by decide))))
  · exact .load (.agg #[.bool b1, .slice A1 n1 c1]) (.inr ⟨5, true, 32, by decide, rfl, rfl, rfl⟩) rfl rfl (fun a w' hC hs hl => by rw [show a.eval (.tmp 2) = (.pointer (some ⟨w.heap.size, 0, none⟩) : Value) from (hs 2 (by kernel_rfl))]; exact ⟨ld_Int (K1.out.below' hC), a1.out⟩)
  · exact .call (.inr ⟨5, true, 32, by decide, rfl, rfl, rfl⟩) rfl rfl fn_isame (fun a w' hC hs hl => isame_yes (hl 34 (by kernel_rfl) (by kernel_rfl)) ((hl 35 (by kernel_rfl) (by kernel_rfl)).below (b0.out.trans (hC.mono b0.out.size))) (Int.neg_neg _))
  · exact .pick (b := true) (.inl rfl) rfl rfl (fun a w' hC hs hl => ⟨(hl 32 (by kernel_rfl) (by kernel_rfl)), (hl 36 (by kernel_rfl) (by kernel_rfl))⟩)
  · exact .move (.inl rfl) (.inl rfl) rfl (by kernel_rfl) (by kernel_rfl) rfl
  · exact .load (.agg #[.bool b2, .slice A2 n2 c2]) (.inr ⟨11, true, 38, by decide, rfl, rfl, rfl⟩) rfl rfl (fun a w' hC hs hl => by rw [show a.eval (.tmp 3) = (.pointer (some ⟨w.heap.size + 1, 0, none⟩) : Value) from (hs 3 (by kernel_rfl))]; exact ⟨ld_Int (K2.out.below' hC), a2.out⟩)
  · exact .load (.agg #[.bool b1, .slice A1 n1 c1]) (.inr ⟨11, true, 38, by decide, rfl, rfl, rfl⟩) rfl rfl (fun a w' hC hs hl => by rw [show a.eval (.tmp 2) = (.pointer (some ⟨w.heap.size, 0, none⟩) : Value) from (hs 2 (by kernel_rfl))]; exact ⟨ld_Int (K1.out.below' hC), a1.out⟩)
  · exact .call (.inr ⟨11, true, 38, by decide, rfl, rfl, rfl⟩) rfl rfl fn_iSub (fun a w' hC hs hl => iSub_C (ICan.arg ((hl 39 (by kernel_rfl) (by kernel_rfl)).below (b0.out.trans (hC.mono b0.out.size))) (L_up S2.out (by decide))) (ICan.arg ((hl 40 (by kernel_rfl) (by kernel_rfl)).below (b0.out.trans (hC.mono b0.out.size))) (L_up S1.out (by decide))))
  · exact .load (.agg #[.bool b2, .slice A2 n2 c2]) (.inr ⟨11, true, 38, by decide, rfl, rfl, rfl⟩) rfl rfl (fun a w' hC hs hl => by rw [show a.eval (.tmp 3) = (.pointer (some ⟨w.heap.size + 1, 0, none⟩) : Value) from (hs 3 (by kernel_rfl))]; exact ⟨ld_Int (K2.out.below' hC), a2.out⟩)
  · exact .load (.agg #[.bool b7, .slice A7 n7 c7]) (.inr ⟨11, true, 38, by decide, rfl, rfl, rfl⟩) rfl rfl (fun a w' hC hs hl => by rw [show a.eval (.tmp 5) = (.pointer (some ⟨w5.heap.size, 0, none⟩) : Value) from (hs 5 (by kernel_rfl))]; exact ⟨ld_Int (K5.out.below' hC), s.out.below hC⟩)
  · exact .call (.inr ⟨11, true, 38, by decide, rfl, rfl, rfl⟩) rfl rfl fn_iAdd (fun a w' hC hs hl => iAdd_C (ICan.arg ((hl 42 (by kernel_rfl) (by kernel_rfl)).below (b0.out.trans (hC.mono b0.out.size))) (L_up S2.out (by decide))) (ICan.arg (hl 43 (by kernel_rfl) (by kernel_rfl)) (L_up Q1.out (by decide))))
  · exact .call (.inr ⟨11, true, 38, by decide, rfl, rfl, rfl⟩) rfl rfl fn_isame (fun a w' hC hs hl => isame_yes (hl 41 (by kernel_rfl) (by kernel_rfl)) (hl 44 (by kernel_rfl) (by kernel_rfl)) (Int.sub_eq_add_neg))
  · exact .pick (b := true) (.inl rfl) rfl rfl (fun a w' hC hs hl => ⟨(hl 38 (by kernel_rfl) (by kernel_rfl)), (hl 45 (by kernel_rfl) (by kernel_rfl))⟩)
  · exact .move (.inl rfl) (.inl rfl) rfl (by kernel_rfl) (by kernel_rfl) rfl
  · exact .load (.agg #[.bool b1, .slice A1 n1 c1]) (.inr ⟨20, true, 47, by decide, rfl, rfl, rfl⟩) rfl rfl (fun a w' hC hs hl => by rw [show a.eval (.tmp 2) = (.pointer (some ⟨w.heap.size, 0, none⟩) : Value) from (hs 2 (by kernel_rfl))]; exact ⟨ld_Int (K1.out.below' hC), a1.out⟩)
  · exact .load (.agg #[.bool b2, .slice A2 n2 c2]) (.inr ⟨20, true, 47, by decide, rfl, rfl, rfl⟩) rfl rfl (fun a w' hC hs hl => by rw [show a.eval (.tmp 3) = (.pointer (some ⟨w.heap.size + 1, 0, none⟩) : Value) from (hs 3 (by kernel_rfl))]; exact ⟨ld_Int (K2.out.below' hC), a2.out⟩)
  · exact .call (.inr ⟨20, true, 47, by decide, rfl, rfl, rfl⟩) rfl rfl fn_iAdd (fun a w' hC hs hl => iAdd_C (ICan.arg ((hl 48 (by kernel_rfl) (by kernel_rfl)).below (b0.out.trans (hC.mono b0.out.size))) (L_up S1.out (by decide))) (ICan.arg ((hl 49 (by kernel_rfl) (by kernel_rfl)).below (b0.out.trans (hC.mono b0.out.size))) (L_up S2.out (by decide))))
  · exact .load (.agg #[.bool b2, .slice A2 n2 c2]) (.inr ⟨20, true, 47, by decide, rfl, rfl, rfl⟩) rfl rfl (fun a w' hC hs hl => by rw [show a.eval (.tmp 3) = (.pointer (some ⟨w.heap.size + 1, 0, none⟩) : Value) from (hs 3 (by kernel_rfl))]; exact ⟨ld_Int (K2.out.below' hC), a2.out⟩)
  · exact .call (.inr ⟨20, true, 47, by decide, rfl, rfl, rfl⟩) rfl rfl fn_iSub (fun a w' hC hs hl => iSub_C (ICan.arg (hl 50 (by kernel_rfl) (by kernel_rfl)) (L_up Q6.out (by decide))) (ICan.arg ((hl 51 (by kernel_rfl) (by kernel_rfl)).below (b0.out.trans (hC.mono b0.out.size))) (L_up S2.out (by decide))))
  · exact .load (.agg #[.bool b1, .slice A1 n1 c1]) (.inr ⟨20, true, 47, by decide, rfl, rfl, rfl⟩) rfl rfl (fun a w' hC hs hl => by rw [show a.eval (.tmp 2) = (.pointer (some ⟨w.heap.size, 0, none⟩) : Value) from (hs 2 (by kernel_rfl))]; exact ⟨ld_Int (K1.out.below' hC), a1.out⟩)
  · exact .call (.inr ⟨20, true, 47, by decide, rfl, rfl, rfl⟩) rfl rfl fn_isame (fun a w' hC hs hl => isame_yes (hl 52 (by kernel_rfl) (by kernel_rfl)) ((hl 53 (by kernel_rfl) (by kernel_rfl)).below (b0.out.trans (hC.mono b0.out.size))) (Int.add_sub_cancel _ _))
  · exact .pick (b := true) (.inl rfl) rfl rfl (fun a w' hC hs hl => ⟨(hl 47 (by kernel_rfl) (by kernel_rfl)), (hl 54 (by kernel_rfl) (by kernel_rfl))⟩)
  · exact .move (.inl rfl) (.inl rfl) rfl (by kernel_rfl) (by kernel_rfl) rfl
  · exact .load (.agg #[.bool b7, .slice A7 n7 c7]) (.inr ⟨29, true, 56, by decide, rfl, rfl, rfl⟩) rfl rfl (fun a w' hC hs hl => by rw [show a.eval (.tmp 5) = (.pointer (some ⟨w5.heap.size, 0, none⟩) : Value) from (hs 5 (by kernel_rfl))]; exact ⟨ld_Int (K5.out.below' hC), s.out.below hC⟩)
  · exact .call (.inr ⟨29, true, 56, by decide, rfl, rfl, rfl⟩) rfl rfl fn_iSign (fun a w' hC hs hl => iSign_eq (ICan.arg (hl 57 (by kernel_rfl) (by kernel_rfl)) (L_up Q1.out (by decide))) (hs2.out))
  · exact .load (.agg #[.bool b1, .slice A1 n1 c1]) (.inr ⟨29, true, 56, by decide, rfl, rfl, rfl⟩) rfl rfl (fun a w' hC hs hl => by rw [show a.eval (.tmp 2) = (.pointer (some ⟨w.heap.size, 0, none⟩) : Value) from (hs 2 (by kernel_rfl))]; exact ⟨ld_Int (K1.out.below' hC), a1.out⟩)
  · exact .call (.inr ⟨29, true, 56, by decide, rfl, rfl, rfl⟩) rfl rfl fn_iSign (fun a w' hC hs hl => iSign_eq (ICan.arg ((hl 59 (by kernel_rfl) (by kernel_rfl)).below (b0.out.trans (hC.mono b0.out.size))) (L_up S1.out (by decide))) (hsx.out))
  · exact .value (.inr ⟨29, true, 56, by decide, rfl, rfl, rfl⟩) (by intro T e; cases e) rfl rfl (fun a w' hC hs hl => by
      have e0 : a.eval (.tmp 60) = (.int .i64 (sx)) := (hl 60 (by kernel_rfl) (by kernel_rfl))
      simp only [execOp, e0]
      skip
      simp [go_sem, hw1.out])
  · exact .value (.inr ⟨29, true, 56, by decide, rfl, rfl, rfl⟩) (by intro T e; cases e) rfl rfl (fun a w' hC hs hl => by
      have e0 : a.eval (.tmp 58) = (.int .i64 (-sx)) := (hl 58 (by kernel_rfl) (by kernel_rfl))
      have e1 : a.eval (.tmp 61) = (.int .i64 (-sx)) := (hl 61 (by kernel_rfl) (by kernel_rfl))
      simp only [execOp, e0, e1]
      skip
      simp [go_sem] <;> rfl)
  · exact .pick (b := true) (.inl rfl) rfl rfl (fun a w' hC hs hl => ⟨(hl 56 (by kernel_rfl) (by kernel_rfl)), (hl 62 (by kernel_rfl) (by kernel_rfl))⟩)
  · exact .move (.inl rfl) (.inl rfl) rfl (by kernel_rfl) (by kernel_rfl) rfl
  · exact .load (.agg #[.bool b1, .slice A1 n1 c1]) (.inr ⟨37, true, 64, by decide, rfl, rfl, rfl⟩) rfl rfl (fun a w' hC hs hl => by rw [show a.eval (.tmp 2) = (.pointer (some ⟨w.heap.size, 0, none⟩) : Value) from (hs 2 (by kernel_rfl))]; exact ⟨ld_Int (K1.out.below' hC), a1.out⟩)
  · exact .load (.agg #[.bool b2, .slice A2 n2 c2]) (.inr ⟨37, true, 64, by decide, rfl, rfl, rfl⟩) rfl rfl (fun a w' hC hs hl => by rw [show a.eval (.tmp 3) = (.pointer (some ⟨w.heap.size + 1, 0, none⟩) : Value) from (hs 3 (by kernel_rfl))]; exact ⟨ld_Int (K2.out.below' hC), a2.out⟩)
  · exact .call (.inr ⟨37, true, 64, by decide, rfl, rfl, rfl⟩) rfl rfl fn_iMul (fun a w' hC hs hl => iMul_C (ICan.arg ((hl 65 (by kernel_rfl) (by kernel_rfl)).below (b0.out.trans (hC.mono b0.out.size))) (L_up S1.out (by decide))) (ICan.arg ((hl 66 (by kernel_rfl) (by kernel_rfl)).below (b0.out.trans (hC.mono b0.out.size))) (L_up S2.out (by decide))))
  · exact .call (.inr ⟨37, true, 64, by decide, rfl, rfl, rfl⟩) rfl rfl fn_iSign (fun a w' hC hs hl => iSign_eq (ICan.arg (hl 67 (by kernel_rfl) (by kernel_rfl)) (L_up Q8.out (by decide))) (hs3.out))
  · exact .load (.agg #[.bool b1, .slice A1 n1 c1]) (.inr ⟨37, true, 64, by decide, rfl, rfl, rfl⟩) rfl rfl (fun a w' hC hs hl => by rw [show a.eval (.tmp 2) = (.pointer (some ⟨w.heap.size, 0, none⟩) : Value) from (hs 2 (by kernel_rfl))]; exact ⟨ld_Int (K1.out.below' hC), a1.out⟩)
  · exact .call (.inr ⟨37, true, 64, by decide, rfl, rfl, rfl⟩) rfl rfl fn_iSign (fun a w' hC hs hl => iSign_eq (ICan.arg ((hl 69 (by kernel_rfl) (by kernel_rfl)).below (b0.out.trans (hC.mono b0.out.size))) (L_up S1.out (by decide))) (hsx.out))
  · exact .load (.agg #[.bool b2, .slice A2 n2 c2]) (.inr ⟨37, true, 64, by decide, rfl, rfl, rfl⟩) rfl rfl (fun a w' hC hs hl => by rw [show a.eval (.tmp 3) = (.pointer (some ⟨w.heap.size + 1, 0, none⟩) : Value) from (hs 3 (by kernel_rfl))]; exact ⟨ld_Int (K2.out.below' hC), a2.out⟩)
  · exact .call (.inr ⟨37, true, 64, by decide, rfl, rfl, rfl⟩) rfl rfl fn_iSign (fun a w' hC hs hl => iSign_eq (ICan.arg ((hl 71 (by kernel_rfl) (by kernel_rfl)).below (b0.out.trans (hC.mono b0.out.size))) (L_up S2.out (by decide))) (hsy.out))
  · exact .value (.inr ⟨37, true, 64, by decide, rfl, rfl, rfl⟩) (by intro T e; cases e) rfl rfl (fun a w' hC hs hl => by
      have e0 : a.eval (.tmp 70) = (.int .i64 (sx)) := (hl 70 (by kernel_rfl) (by kernel_rfl))
      have e1 : a.eval (.tmp 72) = (.int .i64 (sy)) := (hl 72 (by kernel_rfl) (by kernel_rfl))
      simp only [execOp, e0, e1]
      skip
      simp [go_sem, hw2.out])
  · exact .value (.inr ⟨37, true, 64, by decide, rfl, rfl, rfl⟩) (by intro T e; cases e) rfl rfl (fun a w' hC hs hl => by
      have e0 : a.eval (.tmp 68) = (.int .i64 (sx * sy)) := (hl 68 (by kernel_rfl) (by kernel_rfl))
      have e1 : a.eval (.tmp 73) = (.int .i64 (sx * sy)) := (hl 73 (by kernel_rfl) (by kernel_rfl))
      simp only [execOp, e0, e1]
      skip
      simp [go_sem] <;> rfl)
  · exact .pick (b := true) (.inl rfl) rfl rfl (fun a w' hC hs hl => ⟨(hl 64 (by kernel_rfl) (by kernel_rfl)), (hl 74 (by kernel_rfl) (by kernel_rfl))⟩)
  · exact .move (.inl rfl) (.inl rfl) rfl (by kernel_rfl) (by kernel_rfl) rfl
  · exact .load (.agg #[.bool b7, .slice A7 n7 c7]) (.inr ⟨49, true, 76, by decide, rfl, rfl, rfl⟩) rfl rfl (fun a w' hC hs hl => by rw [show a.eval (.tmp 5) = (.pointer (some ⟨w5.heap.size, 0, none⟩) : Value) from (hs 5 (by kernel_rfl))]; exact ⟨ld_Int (K5.out.below' hC), s.out.below hC⟩)
  · exact .load (.agg #[.bool b2, .slice A2 n2 c2]) (.inr ⟨49, true, 76, by decide, rfl, rfl, rfl⟩) rfl rfl (fun a w' hC hs hl => by rw [show a.eval (.tmp 3) = (.pointer (some ⟨w.heap.size + 1, 0, none⟩) : Value) from (hs 3 (by kernel_rfl))]; exact ⟨ld_Int (K2.out.below' hC), a2.out⟩)
  · exact .call (.inr ⟨49, true, 76, by decide, rfl, rfl, rfl⟩) rfl rfl fn_iMul (fun a w' hC hs hl => iMul_C (ICan.arg (hl 77 (by kernel_rfl) (by kernel_rfl)) (L_up Q1.out (by decide))) (ICan.arg ((hl 78 (by kernel_rfl) (by kernel_rfl)).below (b0.out.trans (hC.mono b0.out.size))) (L_up S2.out (by decide))))
  · exact .load (.agg #[.bool b1, .slice A1 n1 c1]) (.inr ⟨49, true, 76, by decide, rfl, rfl, rfl⟩) rfl rfl (fun a w' hC hs hl => by rw [show a.eval (.tmp 2) = (.pointer (some ⟨w.heap.size, 0, none⟩) : Value) from (hs 2 (by kernel_rfl))]; exact ⟨ld_Int (K1.out.below' hC), a1.out⟩)
  · exact .load (.agg #[.bool b2, .slice A2 n2 c2]) (.inr ⟨49, true, 76, by decide, rfl, rfl, rfl⟩) rfl rfl (fun a w' hC hs hl => by rw [show a.eval (.tmp 3) = (.pointer (some ⟨w.heap.size + 1, 0, none⟩) : Value) from (hs 3 (by kernel_rfl))]; exact ⟨ld_Int (K2.out.below' hC), a2.out⟩)
  · exact .call (.inr ⟨49, true, 76, by decide, rfl, rfl, rfl⟩) rfl rfl fn_iMul (fun a w' hC hs hl => iMul_C (ICan.arg ((hl 80 (by kernel_rfl) (by kernel_rfl)).below (b0.out.trans (hC.mono b0.out.size))) (L_up S1.out (by decide))) (ICan.arg ((hl 81 (by kernel_rfl) (by kernel_rfl)).below (b0.out.trans (hC.mono b0.out.size))) (L_up S2.out (by decide))))
  · exact .call (.inr ⟨49, true, 76, by decide, rfl, rfl, rfl⟩) rfl rfl fn_iNeg (fun a w' hC hs hl => iNeg_C (ICan.arg (hl 82 (by kernel_rfl) (by kernel_rfl)) (L_up Q8.out (by decide))))
  · exact .call (.inr ⟨49, true, 76, by decide, rfl, rfl, rfl⟩) rfl rfl fn_isame (fun a w' hC hs hl => isame_yes (hl 79 (by kernel_rfl) (by kernel_rfl)) (hl 83 (by kernel_rfl) (by kernel_rfl)) (Int.neg_mul _ _))
  · exact .pick (b := true) (.inl rfl) rfl rfl (fun a w' hC hs hl => ⟨(hl 76 (by kernel_rfl) (by kernel_rfl)), (hl 84 (by kernel_rfl) (by kernel_rfl))⟩)
  · exact .move (.inl rfl) (.inr rfl) rfl (by kernel_rfl) (by kernel_rfl) rfl
  intro f w9 hC hF _
  have f6 : f 4 = .bool true := hF 4 (by kernel_rfl)
  clear hF
  simp only [patch, List.drop]
  have B9 := hide (b0.out.trans (hC.mono b0.out.size))
  clear hC
  rw [f6]
  go_wp2
  exact opq_end hR ⟨rfl, B9⟩
end Go.Proofs.YtcdejccbamjdoaaDoor
