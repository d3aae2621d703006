/- vecs: some answers that the document fixes. -/
import Derived.Test.YthnhcbdecgkacaaGreatDoorVB
set_option linter.unusedVariables false
set_option linter.unusedSimpArgs false
set_option maxRecDepth 100000
namespace Go.Proofs.YthnhcbdecgkacaaGreatDoor
open Go.RowKit

theorem rOf_C (w : World) (n : Int) (h0 : -9223372036854775808 ≤ n) (h1 : n < 9223372036854775808) :
    Calls Tryz.prog 55 #[.int .i64 n] w fun e w' => ∃ u, e = .returned u ∧ Below w.heap.size w w' ∧ RCan w' u ((n : Int) : Rat) :=
  (rOf_P w n h0 h1).mono fun e w' ⟨u, h1, h2, h3⟩ => ⟨u, h1, h2, h3.can⟩
theorem fn_rOf (args : Array Value) (w : World) : (callFunc 55 args).run Tryz.prog w = .ok (.enter 55 args) w := callFunc_enter Tryz.func55 (by kernel_rfl) rfl args w
theorem txt_11 : byt ⟨#[49, 49]⟩ = rtxt 11 := by
  unfold rtxt itxt
  rw [show (11 : Rat).num = 11 from by decide +kernel, show (11 : Rat).den = 1 from by decide +kernel, if_neg (by decide), if_pos rfl, show (11 : Int).natAbs = 11 from rfl, txt_one [49, 49] 11 (by decide) rfl]
  rfl
set_option maxHeartbeats 4000000 in
theorem valive_P (w : World) (hT : Tab w) :
    Calls Tryz.prog 41 #[] w fun e w' => ∃ u, e = .returned u ∧ Below w.heap.size w w' ∧ u = .bool true := by
  refine opq fun R hR => ?_
  have T := hide hT
  clear hT
  go_enter Tryz.func41, Tryz.ntmps41
  have b0 := hide (Below.refl w.heap.size w)
  have y := (Below.refl w.heap.size w).alloc (Nat.le_refl _) (.cells #[.int .i64 (1), .int .i64 (2)] 2)
  replace b0 := hide (below_tr b0.out y)
  clear y
  go_wp2_with fail
  refine (vof_A (w := w) (g := w.heap.size) (by simp) [(1), (2)] #[.int .i64 (1), .int .i64 (2)] rfl 2 2 rfl (by decide) (by decide)).mono ?_
  rintro e w1 ⟨v1, rfl, d0, h1⟩
  replace b0 := hide (below_tr b0.out d0)
  have L1 := hide (h1)
  clear d0
  clear h1
  obtain ⟨A1, c1, e1⟩ := L1.out.sl
  replace e1 : v1 = .slice A1 2 c1 := e1
  subst e1
  have Q1_ : Hid (Hs ((rats [(1), (2)])) 1000) := Hs_rats (by decide)
  have y := (Below.refl w1.heap.size w1).alloc (Nat.le_refl _) (.cells #[.int .i64 (3), .int .i64 (4)] 2)
  replace L1 := hide (L1.out.can_below y)
  replace b0 := hide (below_tr b0.out y)
  clear y
  go_wp2_with fail
  refine (vof_A (w := w1) (g := w1.heap.size) (by simp) [(3), (4)] #[.int .i64 (3), .int .i64 (4)] rfl 2 2 rfl (by decide) (by decide)).mono ?_
  rintro e w2 ⟨v2, rfl, d0, h2⟩
  replace L1 := hide (L1.out.can_below d0)
  replace b0 := hide (below_tr b0.out d0)
  have L2 := hide (h2)
  clear d0
  clear h2
  obtain ⟨A2, c2, e2⟩ := L2.out.sl
  replace e2 : v2 = .slice A2 2 c2 := e2
  subst e2
  have Q2_ : Hid (Hs ((rats [(3), (4)])) 1000) := Hs_rats (by decide)
  have Q3_ : Hid (H ((dot (rats [(1), (2)]) (rats [(3), (4)]))) 4003) := H_dot (Q1_.out.up (by decide)) (Q2_.out.up (by decide)) (k := 1000) 2 4003 (by decide) (by decide) (by decide)
  go_wp2_with fail
  refine (vDot_T (k := 1000) L1.out L2.out rfl Q1_.out Q2_.out (by decide) (T.out.below b0.out)).mono ?_
  rintro e w3 ⟨v3, rfl, d0, h3⟩
  replace L1 := hide (L1.out.can_below d0)
  replace L2 := hide (L2.out.can_below d0)
  replace b0 := hide (below_tr b0.out d0)
  have X3 := hide (h3)
  clear d0
  clear h3
  obtain ⟨b3, A3, n3, c3, D3, m3, k3, rfl⟩ := X3.out.slice
  have K3 := hide (Blk.new_at w3 (w3.heap.size) (by simp) 60 #[.bool b3, .slice A3 n3 c3, .slice D3 m3 k3])
  have y := (Below.refl w3.heap.size w3).alloc (Nat.le_refl _) (.cells #[.bool b3, .slice A3 n3 c3, .slice D3 m3 k3] 60)
  replace L1 := hide (L1.out.can_below y)
  replace L2 := hide (L2.out.can_below y)
  replace X3 := hide (X3.out.below y)
  replace b0 := hide (below_tr b0.out y)
  clear y
  clear L1 L2
  have y := (Below.refl (w3.alloc (.cells #[.bool b3, .slice A3 n3 c3, .slice D3 m3 k3] 60)).heap.size (w3.alloc (.cells #[.bool b3, .slice A3 n3 c3, .slice D3 m3 k3] 60))).alloc (Nat.le_refl _) (.cells #[.int .i64 (1)] 2)
  replace X3 := hide (X3.out.below y)
  replace K3 := hide (K3.out.below' y)
  replace b0 := hide (below_tr b0.out y)
  clear y
  go_wp2_with fail
  refine (vof_A (w := (w3.alloc (.cells #[.bool b3, .slice A3 n3 c3, .slice D3 m3 k3] 60))) (g := w3.heap.size + 1) (by simp) [(1)] #[.int .i64 (1)] rfl 2 1 rfl (by decide) (by decide)).mono ?_
  rintro e w4 ⟨v4, rfl, d0, h4⟩
  replace X3 := hide (X3.out.below d0)
  replace K3 := hide (K3.out.below' d0)
  replace b0 := hide (below_tr b0.out d0)
  have L4 := hide (h4)
  clear d0
  clear h4
  obtain ⟨A4, c4, e4⟩ := L4.out.sl
  replace e4 : v4 = .slice A4 1 c4 := e4
  subst e4
  have Q4_ : Hid (Hs ((rats [(1)])) 1000) := Hs_rats (by decide)
  go_wp2_with fail
  refine (vDot_bad _ _ _ _ _ none 0 0 [] (lst_raw_of_can L4.out (Q4_.out.up (by decide))) (lst_nil _ _) (T.out.below b0.out) (by decide)).mono ?_
  rintro e w5 ⟨rfl, d0⟩
  replace X3 := hide (X3.out.below d0)
  replace K3 := hide (K3.out.below' d0)
  replace L4 := hide (L4.out.can_below d0)
  replace b0 := hide (below_tr b0.out d0)
  clear d0
  have K5 := hide (Blk.new_at w5 (w5.heap.size) (by simp) 60 #[.bool false, .slice none 0 0, .slice none 0 0])
  have y := (Below.refl w5.heap.size w5).alloc (Nat.le_refl _) (.cells #[.bool false, .slice none 0 0, .slice none 0 0] 60)
  replace X3 := hide (X3.out.below y)
  replace K3 := hide (K3.out.below' y)
  replace L4 := hide (L4.out.can_below y)
  replace b0 := hide (below_tr b0.out y)
  clear y
  clear L4
  have G6 := hide (Blk.new_at (w5.alloc (.cells #[.bool false, .slice none 0 0, .slice none 0 0] 60)) (w5.heap.size + 1) (by simp) 60 #[.bool false, .slice none 0 0, .slice none 0 0])
  have y := (Below.refl (w5.alloc (.cells #[.bool false, .slice none 0 0, .slice none 0 0] 60)).heap.size (w5.alloc (.cells #[.bool false, .slice none 0 0, .slice none 0 0] 60))).alloc (Nat.le_refl _) (.cells #[.bool false, .slice none 0 0, .slice none 0 0] 60)
  replace X3 := hide (X3.out.below y)
  replace K3 := hide (K3.out.below' y)
  replace K5 := hide (K5.out.below' y)
  replace b0 := hide (below_tr b0.out y)
  clear y
  have y := (Below.refl ((w5.alloc (.cells #[.bool false, .slice none 0 0, .slice none 0 0] 60)).alloc (.cells #[.bool false, .slice none 0 0, .slice none 0 0] 60)).heap.size ((w5.alloc (.cells #[.bool false, .slice none 0 0, .slice none 0 0] 60)).alloc (.cells #[.bool false, .slice none 0 0, .slice none 0 0] 60))).alloc (Nat.le_refl _) (.cells #[.int .i64 (1)] 2)
  replace X3 := hide (X3.out.below y)
  replace K3 := hide (K3.out.below' y)
  replace K5 := hide (K5.out.below' y)
  replace G6 := hide (G6.out.below' y)
  replace b0 := hide (below_tr b0.out y)
  clear y
  go_wp2_with fail
  refine (vof_A (w := ((w5.alloc (.cells #[.bool false, .slice none 0 0, .slice none 0 0] 60)).alloc (.cells #[.bool false, .slice none 0 0, .slice none 0 0] 60))) (g := w5.heap.size + 1 + 1) (by simp) [(1)] #[.int .i64 (1)] rfl 2 1 rfl (by decide) (by decide)).mono ?_
  rintro e w6 ⟨v7, rfl, d0, h7⟩
  replace X3 := hide (X3.out.below d0)
  replace K3 := hide (K3.out.below' d0)
  replace K5 := hide (K5.out.below' d0)
  replace G6 := hide (G6.out.below' d0)
  replace b0 := hide (below_tr b0.out d0)
  have L7 := hide (h7)
  clear d0
  clear h7
  obtain ⟨A7, c7, e7⟩ := L7.out.sl
  replace e7 : v7 = .slice A7 1 c7 := e7
  subst e7
  go_wp2_with fail
  refine (vDot_bad _ (some ⟨w5.heap.size + 1, 0, none⟩) 1 1 [(false, [], [])] _ _ _ _ (lst_one tri_raw (u := .agg #[.bool false, .slice none 0 0, .slice none 0 0]) G6.out (raw_zero _)) (lst_raw_of_can L7.out (Q4_.out.up (by decide))) (T.out.below b0.out) (by decide)).mono ?_
  rintro e w7 ⟨rfl, d0⟩
  replace X3 := hide (X3.out.below d0)
  replace K3 := hide (K3.out.below' d0)
  replace K5 := hide (K5.out.below' d0)
  replace G6 := hide (G6.out.below' d0)
  replace L7 := hide (L7.out.can_below d0)
  replace b0 := hide (below_tr b0.out d0)
  clear d0
  have K7 := hide (Blk.new_at w7 (w7.heap.size) (by simp) 60 #[.bool false, .slice none 0 0, .slice none 0 0])
  have y := (Below.refl w7.heap.size w7).alloc (Nat.le_refl _) (.cells #[.bool false, .slice none 0 0, .slice none 0 0] 60)
  replace X3 := hide (X3.out.below y)
  replace K3 := hide (K3.out.below' y)
  replace K5 := hide (K5.out.below' y)
  replace G6 := hide (G6.out.below' y)
  replace L7 := hide (L7.out.can_below y)
  replace b0 := hide (below_tr b0.out y)
  clear y
  clear L7 G6
  have y := (Below.refl (w7.alloc (.cells #[.bool false, .slice none 0 0, .slice none 0 0] 60)).heap.size (w7.alloc (.cells #[.bool false, .slice none 0 0, .slice none 0 0] 60))).alloc (Nat.le_refl _) (.cells #[.int .i64 (1), .int .i64 (2)] 2)
  replace X3 := hide (X3.out.below y)
  replace K3 := hide (K3.out.below' y)
  replace K5 := hide (K5.out.below' y)
  replace K7 := hide (K7.out.below' y)
  replace b0 := hide (below_tr b0.out y)
  clear y
  go_wp2_with fail
  refine (vof_A (w := (w7.alloc (.cells #[.bool false, .slice none 0 0, .slice none 0 0] 60))) (g := w7.heap.size + 1) (by simp) [(1), (2)] #[.int .i64 (1), .int .i64 (2)] rfl 2 2 rfl (by decide) (by decide)).mono ?_
  rintro e w8 ⟨v8, rfl, d0, h8⟩
  replace X3 := hide (X3.out.below d0)
  replace K3 := hide (K3.out.below' d0)
  replace K5 := hide (K5.out.below' d0)
  replace K7 := hide (K7.out.below' d0)
  replace b0 := hide (below_tr b0.out d0)
  have L8 := hide (h8)
  clear d0
  clear h8
  obtain ⟨A8, c8, e8⟩ := L8.out.sl
  replace e8 : v8 = .slice A8 2 c8 := e8
  subst e8
  have y := (Below.refl w8.heap.size w8).alloc (Nat.le_refl _) (.cells #[.int .i64 (3), .int .i64 (4)] 2)
  replace X3 := hide (X3.out.below y)
  replace K3 := hide (K3.out.below' y)
  replace K5 := hide (K5.out.below' y)
  replace K7 := hide (K7.out.below' y)
  replace L8 := hide (L8.out.can_below y)
  replace b0 := hide (below_tr b0.out y)
  clear y
  go_wp2_with fail
  refine (vof_A (w := w8) (g := w8.heap.size) (by simp) [(3), (4)] #[.int .i64 (3), .int .i64 (4)] rfl 2 2 rfl (by decide) (by decide)).mono ?_
  rintro e w9 ⟨v9, rfl, d0, h9⟩
  replace X3 := hide (X3.out.below d0)
  replace K3 := hide (K3.out.below' d0)
  replace K5 := hide (K5.out.below' d0)
  replace K7 := hide (K7.out.below' d0)
  replace L8 := hide (L8.out.can_below d0)
  replace b0 := hide (below_tr b0.out d0)
  have L9 := hide (h9)
  clear d0
  clear h9
  obtain ⟨A9, c9, e9⟩ := L9.out.sl
  replace e9 : v9 = .slice A9 2 c9 := e9
  subst e9
  have Q5_ : Hid (H (((2 : Int) : Rat)) 2) := H_int (L_up (Z_64 (by decide) (by decide)) (by decide)) (by decide)
  go_wp2_with fail
  refine (rOf_C _ 2 (by decide) (by decide)).mono ?_
  rintro e w10 ⟨v10, rfl, d0, h10⟩
  replace X3 := hide (X3.out.below d0)
  replace K3 := hide (K3.out.below' d0)
  replace K5 := hide (K5.out.below' d0)
  replace K7 := hide (K7.out.below' d0)
  replace L8 := hide (L8.out.can_below d0)
  replace L9 := hide (L9.out.can_below d0)
  replace b0 := hide (below_tr b0.out d0)
  have X10 := hide (h10)
  clear d0
  clear h10
  obtain ⟨b10, A10, n10, c10, D10, m10, k10, rfl⟩ := X10.out.slice
  have Q6_ : Hid (Hs ((axpy (rats [(1), (2)]) (rats [(3), (4)]) ((2 : Int) : Rat))) 2003) := Hs_axpy Q1_.out Q2_.out Q5_.out _ (by decide)
  go_wp2_with fail
  refine (vAdd_T (k := 1000) L8.out L9.out X10.out rfl Q1_.out Q2_.out (Q5_.out.up (by decide)) (by decide) (by decide) (T.out.below b0.out)).mono ?_
  rintro e w11 ⟨v11, rfl, d0, h11⟩
  replace X3 := hide (X3.out.below d0)
  replace K3 := hide (K3.out.below' d0)
  replace K5 := hide (K5.out.below' d0)
  replace K7 := hide (K7.out.below' d0)
  replace L8 := hide (L8.out.can_below d0)
  replace L9 := hide (L9.out.can_below d0)
  replace X10 := hide (X10.out.below d0)
  replace b0 := hide (below_tr b0.out d0)
  have L11 := hide (h11)
  clear d0
  clear h11
  obtain ⟨A11, c11, e11⟩ := L11.out.sl
  replace e11 : v11 = .slice A11 2 c11 := e11
  subst e11
  clear L8 L9 X10
  repeat (first | with_reducible refine hold_reg (id := 5) ?_ | go_values | go_skip | go_guarded | go_step | go_upon | go_back | (simp only [Int.not_lt, Int.not_le] at *; go_simp))
  obtain ⟨V1_11, hV⟩ : ∃ V, w11 = V := ⟨_, rfl⟩
  rw [hV] at X3 K3 K5 K7 L11 b0
  rw [hV]
  clear hV
  unfold Hid
  refine wp_seq ?_
  have Q7_ : Hid (Hs ((rats [(7), (10)])) 1000) := Hs_rats (by decide)
  have Q8_ : Hid (Hs ((rats [(1), (3)])) 1000) := Hs_rats (by decide)
  have Q9_ : Hid (H (((-2 : Int) : Rat)) 2) := H_int (L_up (Z_64 (by decide) (by decide)) (by decide)) (by decide)
  have Q10_ : Hid (Hs (((rats [(1), (3)]).map (· * ((-2 : Int) : Rat)))) 1002) := Hs_scale Q8_.out Q9_.out _ (by decide)
  have Q11_ : Hid (Hs ((rats [(-2), (-6)])) 1000) := Hs_rats (by decide)
  have Q12_ : Hid (Hs ((List.replicate 2 (0 : Rat))) 1) := Hs_zero 2
  have Q13_ : Hid (Hs ((rats [(0), (0)])) 1000) := Hs_rats (by decide)
  refine wp_region_seq 55 (fun w' => Below V1_11.heap.size V1_11 w') [(40, .eq (.int .i64 0)), (41, .eq (.bool true)), (42, .eq (.bool true)), (43, .eq (.int .i64 1)), (44, .eq (.bool true)), (45, .eq (.bool true)), (46, .eq (.bool true)), (47, .eq (.int .i64 1)), (48, .eq (.bool true)), (49, .eq (.bool true)), (50, .eq (.bool true)), (51, .eq (.int .i64 0)), (52, .eq (.bool true)), (53, .eq (.bool true)), (54, .eq (.bool true)), (55, (.rat0 V1_11 (dot (rats [(1), (2)]) (rats [(3), (4)])))), (56, .eq (.string ⟨#[49, 49]⟩)), (57, .eq (.bool true)), (58, .eq (.bool true)), (59, .eq (.bool true)), (60, (.lst0 V1_11 (axpy (rats [(1), (2)]) (rats [(3), (4)]) ((2 : Int) : Rat)))), (61, (.nums [(7), (10)] 2)), (62, (.lst (rats [(7), (10)]))), (63, .eq (.bool true)), (64, .eq (.bool true)), (65, .eq (.bool true)), (66, (.nums [(1), (3)] 2)), (67, (.lst (rats [(1), (3)]))), (68, (.rat ((-2 : Int) : Rat))), (69, (.lst ((rats [(1), (3)]).map (· * ((-2 : Int) : Rat))))), (70, (.nums [(-2), (-6)] 2)), (71, (.lst (rats [(-2), (-6)]))), (72, .eq (.bool true)), (73, .eq (.bool true)), (74, .eq (.bool true)), (75, (.lst (List.replicate 2 (0 : Rat)))), (76, (.nums [(0), (0)] 2)), (77, (.lst (rats [(0), (0)]))), (78, .eq (.bool true)), (79, .eq (.bool true)), (80, .eq (.bool true)), (81, (.nums [(1)] 1)), (82, (.lst (rats [(1)]))), (83, (.nums [(1), (2)] 2)), (84, (.lst (rats [(1), (2)]))), (85, .eq (.bool false)), (86, .eq (.bool true)), (87, .eq (.bool true)), (88, .eq (.bool true)), (89, .eq (.agg #[.bool false, .slice none 0 0, .slice none 0 0])), (90, (.lraw [(false, [], [])])), (91, .eq (.bool false)), (92, .eq (.bool true)), (93, .eq (.bool true)), (0, .eq (.bool true))] [true, false, false, false, false, false, false, false, false, false, false, false, false, false, false, false, false, false, false, false, false, false, false, false, false, false, false, false, false, false, false, false, false, false, false, false, false, false, false, false, true, true, true, true, true, true, true, true, true, true, true, true, true, true, true, true, true, true, true, true, true, true, true, true, true, true, true, true, true, true, true, true, true, true, true, true, true, true, true, true, true, true, true, true, true, true, true, true, true, true, true, true, true, true] (by kernel_rfl) (by kernel_rfl) (by kernel_rfl) (fun _ _ h hb => h.trans (hb.mono h.size)) (Below.refl _ _) ⟨?_, ?_, ?_, ?_, ?_, ?_, ?_, ?_, ?_, ?_, ?_, ?_, ?_, ?_, ?_, ?_, ?_, ?_, ?_, ?_, ?_, ?_, ?_, ?_, ?_, ?_, ?_, ?_, ?_, ?_, ?_, ?_, ?_, ?_, ?_, ?_, ?_, ?_, ?_, ?_, ?_, ?_, ?_, ?_, ?_, ?_, ?_, ?_, ?_, ?_, ?_, ?_, ?_, ?_, ?_, trivial⟩ ?_
  · exact .moveC (.inl rfl) (.inl rfl) rfl (fun a w' hC hs => (hs 2 (by kernel_rfl)))
  · exact .value (.inl rfl) (by intro T e; cases e) rfl rfl (fun a w' hC hs hl => by
      have e0 : a.eval (.tmp 40) = (.int .i64 0) := (hl 40 (by kernel_rfl) (by kernel_rfl))
      simp only [execOp, e0]
      simp only [Act.eval]
      simp [go_sem] <;> rfl)
  · exact .move (.inl rfl) (.inl rfl) rfl (by kernel_rfl) (by kernel_rfl) rfl
  · exact .moveC (.inr ⟨2, true, 42, by decide, rfl, rfl, rfl⟩) (.inl rfl) rfl (fun a w' hC hs => (hs 4 (by kernel_rfl)))
  · exact .value (.inr ⟨2, true, 42, by decide, rfl, rfl, rfl⟩) (by intro T e; cases e) rfl rfl (fun a w' hC hs hl => by
      have e0 : a.eval (.tmp 43) = (.int .i64 1) := (hl 43 (by kernel_rfl) (by kernel_rfl))
      simp only [execOp, e0]
      simp only [Act.eval]
      simp [go_sem] <;> rfl)
  · exact .pick (b := true) (.inl rfl) rfl rfl (fun a w' hC hs hl => ⟨(hl 42 (by kernel_rfl) (by kernel_rfl)), (hl 44 (by kernel_rfl) (by kernel_rfl))⟩)
  · exact .move (.inl rfl) (.inl rfl) rfl (by kernel_rfl) (by kernel_rfl) rfl
  · exact .moveC (.inr ⟨6, true, 46, by decide, rfl, rfl, rfl⟩) (.inl rfl) rfl (fun a w' hC hs => (hs 6 (by kernel_rfl)))
  · exact .value (.inr ⟨6, true, 46, by decide, rfl, rfl, rfl⟩) (by intro T e; cases e) rfl rfl (fun a w' hC hs hl => by
      have e0 : a.eval (.tmp 47) = (.int .i64 1) := (hl 47 (by kernel_rfl) (by kernel_rfl))
      simp only [execOp, e0]
      simp only [Act.eval]
      simp [go_sem] <;> rfl)
  · exact .pick (b := true) (.inl rfl) rfl rfl (fun a w' hC hs hl => ⟨(hl 46 (by kernel_rfl) (by kernel_rfl)), (hl 48 (by kernel_rfl) (by kernel_rfl))⟩)
  · exact .move (.inl rfl) (.inl rfl) rfl (by kernel_rfl) (by kernel_rfl) rfl
  · exact .moveC (.inr ⟨10, true, 50, by decide, rfl, rfl, rfl⟩) (.inl rfl) rfl (fun a w' hC hs => (hs 8 (by kernel_rfl)))
  · exact .value (.inr ⟨10, true, 50, by decide, rfl, rfl, rfl⟩) (by intro T e; cases e) rfl rfl (fun a w' hC hs hl => by
      have e0 : a.eval (.tmp 51) = (.int .i64 0) := (hl 51 (by kernel_rfl) (by kernel_rfl))
      simp only [execOp, e0]
      simp only [Act.eval]
      simp [go_sem] <;> rfl)
  · exact .pick (b := true) (.inl rfl) rfl rfl (fun a w' hC hs hl => ⟨(hl 50 (by kernel_rfl) (by kernel_rfl)), (hl 52 (by kernel_rfl) (by kernel_rfl))⟩)
  · exact .move (.inl rfl) (.inl rfl) rfl (by kernel_rfl) (by kernel_rfl) rfl
  · exact .load (.agg #[.bool b3, .slice A3 n3 c3, .slice D3 m3 k3]) (.inr ⟨14, true, 54, by decide, rfl, rfl, rfl⟩) rfl rfl (fun a w' hC hs hl => by rw [show a.eval (.tmp 1) = (.pointer (some ⟨w3.heap.size, 0, none⟩) : Value) from (hs 1 (by kernel_rfl))]; exact ⟨ld_Rat_ ((K3.out.below' hC).at_ 0 rfl) ((K3.out.below' hC).at_ 1 rfl) ((K3.out.below' hC).at_ 2 rfl), X3.out⟩)
  · exact .call (.inr ⟨14, true, 54, by decide, rfl, rfl, rfl⟩) rfl rfl fn_rText (fun a w' hC hs hl => rText_S (RCan.arg (RCan.below (hl 55 (by kernel_rfl) (by kernel_rfl)) hC) (Q3_.out.up (by decide))) (Q3_.out.up (by decide)) (T.out.below (b0.out.trans (hC.mono b0.out.size))) ⟨#[49, 49]⟩ (by rw [show (dot (rats [(1), (2)]) (rats [(3), (4)])) = 11 from by decide +kernel]; exact txt_11))
  · exact .value (.inr ⟨14, true, 54, by decide, rfl, rfl, rfl⟩) (by intro T e; cases e) rfl rfl (fun a w' hC hs hl => by
      have e0 : a.eval (.tmp 56) = (.string ⟨#[49, 49]⟩) := (hl 56 (by kernel_rfl) (by kernel_rfl))
      simp only [execOp, e0]
      simp only [Act.eval]
      simp [go_sem] <;> rfl)
  · exact .pick (b := true) (.inl rfl) rfl rfl (fun a w' hC hs hl => ⟨(hl 54 (by kernel_rfl) (by kernel_rfl)), (hl 57 (by kernel_rfl) (by kernel_rfl))⟩)
  · exact .move (.inl rfl) (.inl rfl) rfl (by kernel_rfl) (by kernel_rfl) rfl
  · exact .moveC (.inr ⟨19, true, 59, by decide, rfl, rfl, rfl⟩) (.inl rfl) rfl (fun a w' hC hs => (show Lst RCan V1_11 (a.eval (.tmp 7)) (axpy (rats [(1), (2)]) (rats [(3), (4)]) ((2 : Int) : Rat)) from by rw [show a.eval (.tmp 7) = (.slice A11 2 c11 : Value) from (hs 7 (by kernel_rfl))]; exact L11.out))
  · exact .makeW (.inr ⟨19, true, 59, by decide, rfl, rfl, rfl⟩) (by intro T e; cases e) rfl (fun a w' hC hs hl => ⟨_, w'.alloc (.cells #[.int .i64 (7), .int .i64 (10)] 2), by simp [execOp, Act.eval, go_sem], (Below.refl _ _).alloc (Nat.le_refl _) _, w'.heap.size, rfl, by simp, nums_new w' _ rfl [(7), (10)] _ rfl _⟩)
  · exact .call (.inr ⟨19, true, 59, by decide, rfl, rfl, rfl⟩) rfl rfl fn_vof (fun a w' hC hs hl => vof_F (hl 61 (by kernel_rfl) (by kernel_rfl)) rfl (by decide) (by decide))
  · exact .call (.inr ⟨19, true, 59, by decide, rfl, rfl, rfl⟩) rfl rfl fn_vSame (fun a w' hC hs hl => vSame_L (k := 2003) (Lst.can_below (hl 60 (by kernel_rfl) (by kernel_rfl)) hC) (hl 62 (by kernel_rfl) (by kernel_rfl)) Q6_.out (Q7_.out.up (by decide)) (by decide) (T.out.below (b0.out.trans (hC.mono b0.out.size))) true (by decide +kernel))
  · exact .pick (b := true) (.inl rfl) rfl rfl (fun a w' hC hs hl => ⟨(hl 59 (by kernel_rfl) (by kernel_rfl)), (hl 63 (by kernel_rfl) (by kernel_rfl))⟩)
  · exact .move (.inl rfl) (.inl rfl) rfl (by kernel_rfl) (by kernel_rfl) rfl
  · exact .makeW (.inr ⟨25, true, 65, by decide, rfl, rfl, rfl⟩) (by intro T e; cases e) rfl (fun a w' hC hs hl => ⟨_, w'.alloc (.cells #[.int .i64 (1), .int .i64 (3)] 2), by simp [execOp, Act.eval, go_sem], (Below.refl _ _).alloc (Nat.le_refl _) _, w'.heap.size, rfl, by simp, nums_new w' _ rfl [(1), (3)] _ rfl _⟩)
  · exact .call (.inr ⟨25, true, 65, by decide, rfl, rfl, rfl⟩) rfl rfl fn_vof (fun a w' hC hs hl => vof_F (hl 66 (by kernel_rfl) (by kernel_rfl)) rfl (by decide) (by decide))
  · exact .call (.inr ⟨25, true, 65, by decide, rfl, rfl, rfl⟩) rfl rfl fn_rOf (fun a w' hC hs hl => rOf_C w' (-2) (by decide) (by decide))
  · exact .call (.inr ⟨25, true, 65, by decide, rfl, rfl, rfl⟩) rfl rfl fn_vScale (fun a w' hC hs hl => vScale_L (hl 67 (by kernel_rfl) (by kernel_rfl)) (RCan.arg (hl 68 (by kernel_rfl) (by kernel_rfl)) (Q9_.out.up (by decide))) (Q8_.out.up (by decide)) (by decide) (T.out.below (b0.out.trans (hC.mono b0.out.size))))
  · exact .makeW (.inr ⟨25, true, 65, by decide, rfl, rfl, rfl⟩) (by intro T e; cases e) rfl (fun a w' hC hs hl => ⟨_, w'.alloc (.cells #[.int .i64 (-2), .int .i64 (-6)] 2), by simp [execOp, Act.eval, go_sem], (Below.refl _ _).alloc (Nat.le_refl _) _, w'.heap.size, rfl, by simp, nums_new w' _ rfl [(-2), (-6)] _ rfl _⟩)
  · exact .call (.inr ⟨25, true, 65, by decide, rfl, rfl, rfl⟩) rfl rfl fn_vof (fun a w' hC hs hl => vof_F (hl 70 (by kernel_rfl) (by kernel_rfl)) rfl (by decide) (by decide))
  · exact .call (.inr ⟨25, true, 65, by decide, rfl, rfl, rfl⟩) rfl rfl fn_vSame (fun a w' hC hs hl => vSame_L (k := 1002) (hl 69 (by kernel_rfl) (by kernel_rfl)) (hl 71 (by kernel_rfl) (by kernel_rfl)) Q10_.out (Q11_.out.up (by decide)) (by decide) (T.out.below (b0.out.trans (hC.mono b0.out.size))) true (by decide +kernel))
  · exact .pick (b := true) (.inl rfl) rfl rfl (fun a w' hC hs hl => ⟨(hl 65 (by kernel_rfl) (by kernel_rfl)), (hl 72 (by kernel_rfl) (by kernel_rfl))⟩)
  · exact .move (.inl rfl) (.inl rfl) rfl (by kernel_rfl) (by kernel_rfl) rfl
  · exact .call (.inr ⟨34, true, 74, by decide, rfl, rfl, rfl⟩) rfl rfl fn_vZero (fun a w' hC hs hl => vZero_L w' 2 (by decide))
  · exact .makeW (.inr ⟨34, true, 74, by decide, rfl, rfl, rfl⟩) (by intro T e; cases e) rfl (fun a w' hC hs hl => ⟨_, w'.alloc (.cells #[.int .i64 (0), .int .i64 (0)] 2), by simp [execOp, Act.eval, go_sem], (Below.refl _ _).alloc (Nat.le_refl _) _, w'.heap.size, rfl, by simp, nums_new w' _ rfl [(0), (0)] _ rfl _⟩)
  · exact .call (.inr ⟨34, true, 74, by decide, rfl, rfl, rfl⟩) rfl rfl fn_vof (fun a w' hC hs hl => vof_F (hl 76 (by kernel_rfl) (by kernel_rfl)) rfl (by decide) (by decide))
  · exact .call (.inr ⟨34, true, 74, by decide, rfl, rfl, rfl⟩) rfl rfl fn_vSame (fun a w' hC hs hl => vSame_L (k := 1000) (hl 75 (by kernel_rfl) (by kernel_rfl)) (hl 77 (by kernel_rfl) (by kernel_rfl)) (Q12_.out.up (by decide)) Q13_.out (by decide) (T.out.below (b0.out.trans (hC.mono b0.out.size))) true (by decide +kernel))
  · exact .pick (b := true) (.inl rfl) rfl rfl (fun a w' hC hs hl => ⟨(hl 74 (by kernel_rfl) (by kernel_rfl)), (hl 78 (by kernel_rfl) (by kernel_rfl))⟩)
  · exact .move (.inl rfl) (.inl rfl) rfl (by kernel_rfl) (by kernel_rfl) rfl
  · exact .makeW (.inr ⟨40, true, 80, by decide, rfl, rfl, rfl⟩) (by intro T e; cases e) rfl (fun a w' hC hs hl => ⟨_, w'.alloc (.cells #[.int .i64 (1)] 2), by simp [execOp, Act.eval, go_sem], (Below.refl _ _).alloc (Nat.le_refl _) _, w'.heap.size, rfl, by simp, nums_new w' _ rfl [(1)] _ rfl _⟩)
  · exact .call (.inr ⟨40, true, 80, by decide, rfl, rfl, rfl⟩) rfl rfl fn_vof (fun a w' hC hs hl => vof_F (hl 81 (by kernel_rfl) (by kernel_rfl)) rfl (by decide) (by decide))
  · exact .makeW (.inr ⟨40, true, 80, by decide, rfl, rfl, rfl⟩) (by intro T e; cases e) rfl (fun a w' hC hs hl => ⟨_, w'.alloc (.cells #[.int .i64 (1), .int .i64 (2)] 2), by simp [execOp, Act.eval, go_sem], (Below.refl _ _).alloc (Nat.le_refl _) _, w'.heap.size, rfl, by simp, nums_new w' _ rfl [(1), (2)] _ rfl _⟩)
  · exact .call (.inr ⟨40, true, 80, by decide, rfl, rfl, rfl⟩) rfl rfl fn_vof (fun a w' hC hs hl => vof_F (hl 83 (by kernel_rfl) (by kernel_rfl)) rfl (by decide) (by decide))
  · exact .call (.inr ⟨40, true, 80, by decide, rfl, rfl, rfl⟩) rfl rfl fn_vSame (fun a w' hC hs hl => vSame_L (k := 1000) (hl 82 (by kernel_rfl) (by kernel_rfl)) (hl 84 (by kernel_rfl) (by kernel_rfl)) Q4_.out Q1_.out (by decide) (T.out.below (b0.out.trans (hC.mono b0.out.size))) false (by decide +kernel))
  · exact .value (.inr ⟨40, true, 80, by decide, rfl, rfl, rfl⟩) (by intro T e; cases e) rfl rfl (fun a w' hC hs hl => by
      have e0 : a.eval (.tmp 85) = (.bool false) := (hl 85 (by kernel_rfl) (by kernel_rfl))
      simp only [execOp, e0]
      skip
      simp [go_sem] <;> rfl)
  · exact .pick (b := true) (.inl rfl) rfl rfl (fun a w' hC hs hl => ⟨(hl 80 (by kernel_rfl) (by kernel_rfl)), (hl 86 (by kernel_rfl) (by kernel_rfl))⟩)
  · exact .move (.inl rfl) (.inl rfl) rfl (by kernel_rfl) (by kernel_rfl) rfl
  · exact .value (.inr ⟨48, true, 88, by decide, rfl, rfl, rfl⟩) (by intro T e; cases e) rfl rfl (fun a w' hC hs hl => by
      simp only [execOp]
      skip
      simp [go_sem] <;> rfl)
  · exact .makeW (.inr ⟨48, true, 88, by decide, rfl, rfl, rfl⟩) (by intro T e; cases e) rfl (fun a w' hC hs hl => by
      have e6 : a.tmps[89]?.getD undef = _ := (by simp [Act.eval] : _ = a.eval (.tmp 89)).trans (hl 89 (by kernel_rfl) (by kernel_rfl))
      exact ⟨_, w'.alloc (.cells #[.bool false, .slice none 0 0, .slice none 0 0] TR), by simp [execOp, Act.eval, go_sem, e6], (Below.refl _ _).alloc (Nat.le_refl _) _, lst_one tri_raw (Blk.new w' TR _) (raw_zero _)⟩)
  · exact .call (.inr ⟨48, true, 88, by decide, rfl, rfl, rfl⟩) rfl rfl fn_vCheck (fun a w' hC hs hl => vCheck_L (hl 90 (by kernel_rfl) (by kernel_rfl)) (T.out.below (b0.out.trans (hC.mono b0.out.size))) false (by decide))
  · exact .value (.inr ⟨48, true, 88, by decide, rfl, rfl, rfl⟩) (by intro T e; cases e) rfl rfl (fun a w' hC hs hl => by
      have e0 : a.eval (.tmp 91) = (.bool false) := (hl 91 (by kernel_rfl) (by kernel_rfl))
      simp only [execOp, e0]
      skip
      simp [go_sem] <;> rfl)
  · exact .pick (b := true) (.inl rfl) rfl rfl (fun a w' hC hs hl => ⟨(hl 88 (by kernel_rfl) (by kernel_rfl)), (hl 92 (by kernel_rfl) (by kernel_rfl))⟩)
  · exact .move (.inl rfl) (.inr rfl) rfl (by kernel_rfl) (by kernel_rfl) rfl
  intro f w99 hC hF _
  have f0 : f 0 = .bool true := hF 0 (by kernel_rfl)
  clear hF
  simp only [patch, List.drop]
  have B9 := hide (b0.out.trans (hC.mono b0.out.size))
  clear hC
  rw [f0]
  try change wpList _ _ _ [] _ _
  go_wp2
  exact opq_end hR ⟨_, rfl, B9.out, rfl⟩
theorem fn_valive (args : Array Value) (w : World) : (callFunc 41 args).run Tryz.prog w = .ok (.enter 41 args) w := callFunc_enter Tryz.func41 (by kernel_rfl) rfl args w
end Go.Proofs.YthnhcbdecgkacaaGreatDoor
