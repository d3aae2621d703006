/- the laws of ints: IntsSmall. -/
import Derived.Test.YtcdejccbamjdoaaDoorJd
import Derived.Test.YtcdejccbamjdoaaDoorFree3
set_option linter.unusedVariables false
set_option linter.unusedSimpArgs false
set_option maxRecDepth 100000
namespace Go.Proofs.YtcdejccbamjdoaaDoor
open Go.RowKit

theorem hold_region {P : Program} {id : Nat} {ops : Array Oper} {d : Bool} {c : Code} {Q : Exit → Act → World → Prop} {a : Act} {w : World} (h : Hid ((Code.seq (Code.region id ops d) c).wp P Q a w)) : (Code.seq (Code.region id ops d) c).wp P Q a w := h
theorem cmp_bit1 (x y : Int) : cmpI x y = -1 ↔ x < y := by
  unfold cmpI; (repeat' split) <;> omega
theorem cmp_bit0 (x y : Int) : cmpI x y = 0 ↔ x = y := by
  unfold cmpI; (repeat' split) <;> omega
theorem cmp_b1 (x y : Int) : (cmpI x y == -1) = decide (x < y) := by
  rw [Bool.eq_iff_iff, beq_iff_eq, decide_eq_true_eq]; exact cmp_bit1 x y
theorem cmp_b0 (x y : Int) : (cmpI x y == 0) = decide (x = y) := by
  rw [Bool.eq_iff_iff, beq_iff_eq, decide_eq_true_eq]; exact cmp_bit0 x y
theorem eq_b (x y : Int) : (x == y) = decide (x = y) := by
  rw [Bool.eq_iff_iff, beq_iff_eq, decide_eq_true_eq]
theorem sgn_bit (x : Int) : cmpI x 0 < 0 ↔ x < 0 := by
  unfold cmpI; (repeat' split) <;> omega
theorem mul_32 {x y : Int} (h0 : -2147483648 ≤ x) (h1 : x < 2147483648) (h2 : -2147483648 ≤ y) (h3 : y < 2147483648) : -4611686018427387904 ≤ x * y ∧ x * y ≤ 4611686018427387904 := by
  have e : (x * y).natAbs ≤ 2147483648 * 2147483648 := by rw [Int.natAbs_mul]; exact Nat.mul_le_mul (by omega) (by omega)
  omega
theorem wrap_in {x : Int} (h0 : -9223372036854775808 ≤ x) (h1 : x < 9223372036854775808) : IntKind.i64.wrap x = x := by
  simp only [IntKind.wrap_i64]; omega
theorem wrap64_in {x : Int} (h0 : -9223372036854775808 ≤ x) (h1 : x < 9223372036854775808) : wrap64 x = x := by
  simp only [wrap64]; omega
theorem iOf_C {w : World} {v : Value} {n : Int} (h : v = .int .i64 n) (h0 : -9223372036854775808 ≤ n) (h1 : n < 9223372036854775808) : Calls Tryd.prog 30 #[v] w fun e w' => ∃ u, e = .returned u ∧ Below w.heap.size w w' ∧ ICan w' u n := by
  subst h
  exact (iOf_ok w n h0 h1).mono fun e w' ⟨u, h1, h2, h3⟩ => ⟨u, h1, h2, h3.can⟩
theorem fn_iOf (args : Array Value) (w : World) : (callFunc 30 args).run Tryd.prog w = .ok (.enter 30 args) w := callFunc_enter Tryd.func30 (by kernel_rfl) rfl args w
set_option maxHeartbeats 2000000 in
theorem IntsSmall_ok (w : World) (m n k : Int) (m0 : -2147483648 ≤ m) (m1 : m < 2147483648) (n0 : -2147483648 ≤ n) (n1 : n < 2147483648) (k0 : -9223372036854775808 ≤ k) (k1 : k < 9223372036854775808) :
    Calls Tryd.prog 7 #[.int .i32 m, .int .i32 n, .int .i64 k] w fun e w' => e = .returned (.bool true) ∧ Hid (Below w.heap.size w w') := by
  refine opq fun R hR => ?_
  have b0 := hide (Below.refl w.heap.size w)
  have S1 : Hid (L m.natAbs ≤ 2) := Z_64 (by omega) (by omega)
  have S2 : Hid (L n.natAbs ≤ 2) := Z_64 (by omega) (by omega)
  have S3 : Hid (L k.natAbs ≤ 2) := Z_64 k0 k1
  have B1 := hide (mul_32 m0 m1 n0 n1)
  have wA : Hid (IntKind.i64.wrap (m + n) = m + n) := wrap_in (by omega) (by omega)
  have wS : Hid (IntKind.i64.wrap (m - n) = m - n) := wrap_in (by omega) (by omega)
  have wN : Hid (IntKind.i64.wrap (-m) = -m) := wrap_in (by omega) (by omega)
  have wm : Hid (wrap64 m = m) := wrap64_in (by omega) (by omega)
  have wn : Hid (wrap64 n = n) := wrap64_in (by omega) (by omega)
  have wM : Hid (IntKind.i64.wrap (m * n) = m * n) := wrap_in (by have := B1.out; omega) (by have := B1.out; omega)
  replace m0 := hide m0
  replace m1 := hide m1
  replace n0 := hide n0
  replace n1 := hide n1
  replace k0 := hide k0
  replace k1 := hide k1
  go_enter Tryd.func7, Tryd.ntmps7
  go_wp2_with fail
  refine (iOf_C (n := m) (by rw [wm.out]) (by have := m0.out; have := m1.out; have := n0.out; have := n1.out; have := B1.out; omega) (by have := m0.out; have := m1.out; have := n0.out; have := n1.out; have := B1.out; omega)).mono ?_
  rintro e w1 ⟨v7, rfl, d0, r7⟩
  replace b0 := hide (below_tr b0.out d0)
  have s := hide (r7)
  clear d0
  obtain ⟨b7, A7, n7, c7, rfl⟩ := r7.slice
  clear r7
  have K7 := hide (Blk.new_at w1 (w1.heap.size) (by simp) 25 #[.bool b7, .slice A7 n7 c7])
  have y := (Below.refl w1.heap.size w1).alloc (Nat.le_refl _) (.cells #[.bool b7, .slice A7 n7 c7] 25)
  replace s := hide (s.out.below y)
  replace b0 := hide (below_tr b0.out y)
  clear y
  go_wp2_with fail
  refine (iOf_C (n := n) (by rw [wn.out]) (by have := m0.out; have := m1.out; have := n0.out; have := n1.out; have := B1.out; omega) (by have := m0.out; have := m1.out; have := n0.out; have := n1.out; have := B1.out; omega)).mono ?_
  rintro e w2 ⟨v8, rfl, d0, r8⟩
  replace s := hide (s.out.below d0)
  replace K7 := hide (K7.out.below' d0)
  replace b0 := hide (below_tr b0.out d0)
  have p := hide (r8)
  clear d0
  obtain ⟨b8, A8, n8, c8, rfl⟩ := r8.slice
  clear r8
  have K8 := hide (Blk.new_at w2 (w2.heap.size) (by simp) 25 #[.bool b8, .slice A8 n8 c8])
  have y := (Below.refl w2.heap.size w2).alloc (Nat.le_refl _) (.cells #[.bool b8, .slice A8 n8 c8] 25)
  replace s := hide (s.out.below y)
  replace K7 := hide (K7.out.below' y)
  replace p := hide (p.out.below y)
  replace b0 := hide (below_tr b0.out y)
  clear y
  repeat (first | with_reducible refine hold_region (id := 5) ?_ | go_values | go_skip | go_guarded | go_step | go_upon | go_back | (simp only [Int.not_lt, Int.not_le] at *; go_simp))
  obtain ⟨V, hV⟩ : ∃ V, (w2.alloc (.cells #[.bool b8, .slice A8 n8 c8] 25)) = V := ⟨_, rfl⟩
  rw [hV] at s p K7 K8 b0 ⊢
  clear hV
  rw [wm.out, wn.out]
  unfold Hid
  refine wp_seq ?_
  have Q1 : Hid (L ((m + n)).natAbs ≤ 3) := Z_add S1.out S2.out (by decide)
  have Q2 : Hid (L ((m - n)).natAbs ≤ 3) := Z_sub S1.out S2.out (by decide)
  have Q3 : Hid (L ((m * n)).natAbs ≤ 4) := Z_mul S1.out S2.out (by decide)
  have Q4 : Hid (L ((-m)).natAbs ≤ 2) := Z_neg S1.out
  refine wp_region_seq 76 (fun w' => Below V.heap.size V w') [(19, .eq (.bool true)), (20, .eq (.bool true)), (21, (.int m)), (22, (.int n)), (23, (.int (m + n))), (24, .eq (.int .i64 (m + n))), (25, .eq ((.int .i64 m : Value))), (26, .eq ((.int .i64 n : Value))), (27, .eq (.int .i64 (m + n))), (28, .eq (.bool true)), (29, .eq (.bool true)), (30, .eq (.bool true)), (31, (.int m)), (32, (.int n)), (33, (.int (m - n))), (34, .eq (.int .i64 (m - n))), (35, .eq ((.int .i64 m : Value))), (36, .eq ((.int .i64 n : Value))), (37, .eq (.int .i64 (m - n))), (38, .eq (.bool true)), (39, .eq (.bool true)), (40, .eq (.bool true)), (41, (.int m)), (42, (.int n)), (43, (.int (m * n))), (44, .eq (.int .i64 (m * n))), (45, .eq ((.int .i64 m : Value))), (46, .eq ((.int .i64 n : Value))), (47, .eq (.int .i64 (m * n))), (48, .eq (.bool true)), (49, .eq (.bool true)), (50, .eq (.bool true)), (51, (.int m)), (52, (.int (-m))), (53, .eq (.int .i64 (-m))), (54, .eq ((.int .i64 m : Value))), (55, .eq (.int .i64 (-m))), (56, .eq (.bool true)), (57, .eq (.bool true)), (58, .eq (.bool true)), (59, (.int m)), (60, (.int n)), (61, .eq (.int .i64 (cmpI m n))), (62, .eq (.bool (decide (m < n)))), (63, .eq ((.int .i64 m : Value))), (64, .eq ((.int .i64 n : Value))), (65, .eq (.bool (decide (m < n)))), (66, .eq (.bool true)), (67, .eq (.bool true)), (68, .eq (.bool true)), (69, (.int m)), (70, (.int n)), (71, .eq (.int .i64 (cmpI m n))), (72, .eq (.bool (decide (m = n)))), (73, .eq ((.int .i64 m : Value))), (74, .eq ((.int .i64 n : Value))), (75, .eq (.bool (decide (m = n)))), (76, .eq (.bool true)), (77, .eq (.bool true)), (78, .eq (.bool true)), (79, .eq ((.int .i64 k : Value))), (80, (.int k)), (81, .eq (.int .i64 (k))), (82, .eq ((.int .i64 k : Value))), (83, .eq (.bool true)), (84, .eq (.bool true)), (85, .eq (.bool true)), (86, .eq ((.int .i64 k : Value))), (87, (.int k)), (88, .eq (.int .i64 (cmpI k 0))), (89, .eq (.bool (decide (k < 0)))), (90, .eq ((.int .i64 k : Value))), (91, .eq (.bool (decide (k < 0)))), (92, .eq (.bool true)), (93, .eq (.bool true)), (6, .eq (.bool true))] [false, false, false, false, false, false, true, false, false, false, false, false, false, false, false, false, false, false, false, true, true, true, true, true, true, true, true, true, true, true, true, true, true, true, true, true, true, true, true, true, true, true, true, true, true, true, true, true, true, true, true, true, true, true, true, true, true, true, true, true, true, true, true, true, true, true, true, true, true, true, true, true, true, true, true, true, true, true, true, true, true, true, true, true, true, true, true, true, true, true, true, true, true, true] (by kernel_rfl) (by kernel_rfl) (by kernel_rfl) (fun _ _ h hb => h.trans (hb.mono h.size)) (Below.refl _ _) ⟨?_, ?_, ?_, ?_, ?_, ?_, ?_, ?_, ?_, ?_, ?_, ?_, ?_, ?_, ?_, ?_, ?_, ?_, ?_, ?_, ?_, ?_, ?_, ?_, ?_, ?_, ?_, ?_, ?_, ?_, ?_, ?_, ?_, ?_, ?_, ?_, ?_, ?_, ?_, ?_, ?_, ?_, ?_, ?_, ?_, ?_, ?_, ?_, ?_, ?_, ?_, ?_, ?_, ?_, ?_, ?_, ?_, ?_, ?_, ?_, ?_, ?_, ?_, ?_, ?_, ?_, ?_, ?_, ?_, ?_, ?_, ?_, ?_, ?_, ?_, ?_, trivial⟩ ?_
  · exact .call (.inl rfl) rfl rfl fn_ialive (fun a w' hC hs hl => ialive_F _)
  · exact .move (.inl rfl) (.inl rfl) rfl (by kernel_rfl) (by kernel_rfl) rfl
  · exact .load (.agg #[.bool b7, .slice A7 n7 c7]) (.inr ⟨1, true, 20, by decide, rfl, rfl, rfl⟩) rfl rfl (fun a w' hC hs hl => by rw [show a.eval (.tmp 9) = (.pointer (some ⟨w1.heap.size, 0, none⟩) : Value) from (hs 9 (by kernel_rfl))]; exact ⟨ld_Int (K7.out.below' hC), s.out.below hC⟩)
  · exact .load (.agg #[.bool b8, .slice A8 n8 c8]) (.inr ⟨1, true, 20, by decide, rfl, rfl, rfl⟩) rfl rfl (fun a w' hC hs hl => by rw [show a.eval (.tmp 10) = (.pointer (some ⟨w2.heap.size, 0, none⟩) : Value) from (hs 10 (by kernel_rfl))]; exact ⟨ld_Int (K8.out.below' hC), p.out.below hC⟩)
  · exact .call (.inr ⟨1, true, 20, by decide, rfl, rfl, rfl⟩) rfl rfl fn_iAdd (fun a w' hC hs hl => iAdd_C (ICan.arg (hl 21 (by kernel_rfl) (by kernel_rfl)) (L_up S1.out (by decide))) (ICan.arg (hl 22 (by kernel_rfl) (by kernel_rfl)) (L_up S2.out (by decide))))
  · exact .call (.inr ⟨1, true, 20, by decide, rfl, rfl, rfl⟩) rfl rfl fn_ismall (fun a w' hC hs hl => ismall_ok (hl 23 (by kernel_rfl) (by kernel_rfl)) (L_up Q1.out (by decide)) (by have := k0.out; have := m0.out; have := n0.out; have := m1.out; have := n1.out; have := B1.out; omega) (by have := k1.out; have := m0.out; have := n0.out; have := m1.out; have := n1.out; have := B1.out; omega))
  · exact .moveC (.inr ⟨1, true, 20, by decide, rfl, rfl, rfl⟩) (.inl rfl) rfl (fun a w' hC hs => (hs 7 (by kernel_rfl)))
  · exact .moveC (.inr ⟨1, true, 20, by decide, rfl, rfl, rfl⟩) (.inl rfl) rfl (fun a w' hC hs => (hs 8 (by kernel_rfl)))
  · exact .value (.inr ⟨1, true, 20, by decide, rfl, rfl, rfl⟩) (by intro T e; cases e) rfl rfl (fun a w' hC hs hl => by
      have e0 : a.eval (.tmp 25) = ((.int .i64 m : Value)) := (hl 25 (by kernel_rfl) (by kernel_rfl))
      have e1 : a.eval (.tmp 26) = ((.int .i64 n : Value)) := (hl 26 (by kernel_rfl) (by kernel_rfl))
      simp only [execOp, e0, e1]
      skip
      simp [go_sem, wA.out])
  · exact .value (.inr ⟨1, true, 20, by decide, rfl, rfl, rfl⟩) (by intro T e; cases e) rfl rfl (fun a w' hC hs hl => by
      have e0 : a.eval (.tmp 24) = (.int .i64 (m + n)) := (hl 24 (by kernel_rfl) (by kernel_rfl))
      have e1 : a.eval (.tmp 27) = (.int .i64 (m + n)) := (hl 27 (by kernel_rfl) (by kernel_rfl))
      simp only [execOp, e0, e1]
      skip
      simp [go_sem] <;> rfl)
  · exact .pick (b := true) (.inl rfl) rfl rfl (fun a w' hC hs hl => ⟨(hl 20 (by kernel_rfl) (by kernel_rfl)), (hl 28 (by kernel_rfl) (by kernel_rfl))⟩)
  · exact .move (.inl rfl) (.inl rfl) rfl (by kernel_rfl) (by kernel_rfl) rfl
  · exact .load (.agg #[.bool b7, .slice A7 n7 c7]) (.inr ⟨11, true, 30, by decide, rfl, rfl, rfl⟩) rfl rfl (fun a w' hC hs hl => by rw [show a.eval (.tmp 9) = (.pointer (some ⟨w1.heap.size, 0, none⟩) : Value) from (hs 9 (by kernel_rfl))]; exact ⟨ld_Int (K7.out.below' hC), s.out.below hC⟩)
  · exact .load (.agg #[.bool b8, .slice A8 n8 c8]) (.inr ⟨11, true, 30, by decide, rfl, rfl, rfl⟩) rfl rfl (fun a w' hC hs hl => by rw [show a.eval (.tmp 10) = (.pointer (some ⟨w2.heap.size, 0, none⟩) : Value) from (hs 10 (by kernel_rfl))]; exact ⟨ld_Int (K8.out.below' hC), p.out.below hC⟩)
  · exact .call (.inr ⟨11, true, 30, by decide, rfl, rfl, rfl⟩) rfl rfl fn_iSub (fun a w' hC hs hl => iSub_C (ICan.arg (hl 31 (by kernel_rfl) (by kernel_rfl)) (L_up S1.out (by decide))) (ICan.arg (hl 32 (by kernel_rfl) (by kernel_rfl)) (L_up S2.out (by decide))))
  · exact .call (.inr ⟨11, true, 30, by decide, rfl, rfl, rfl⟩) rfl rfl fn_ismall (fun a w' hC hs hl => ismall_ok (hl 33 (by kernel_rfl) (by kernel_rfl)) (L_up Q2.out (by decide)) (by have := k0.out; have := m0.out; have := n0.out; have := m1.out; have := n1.out; have := B1.out; omega) (by have := k1.out; have := m0.out; have := n0.out; have := m1.out; have := n1.out; have := B1.out; omega))
  · exact .moveC (.inr ⟨11, true, 30, by decide, rfl, rfl, rfl⟩) (.inl rfl) rfl (fun a w' hC hs => (hs 7 (by kernel_rfl)))
  · exact .moveC (.inr ⟨11, true, 30, by decide, rfl, rfl, rfl⟩) (.inl rfl) rfl (fun a w' hC hs => (hs 8 (by kernel_rfl)))
  · exact .value (.inr ⟨11, true, 30, by decide, rfl, rfl, rfl⟩) (by intro T e; cases e) rfl rfl (fun a w' hC hs hl => by
      have e0 : a.eval (.tmp 35) = ((.int .i64 m : Value)) := (hl 35 (by kernel_rfl) (by kernel_rfl))
      have e1 : a.eval (.tmp 36) = ((.int .i64 n : Value)) := (hl 36 (by kernel_rfl) (by kernel_rfl))
      simp only [execOp, e0, e1]
      skip
      simp [go_sem, wS.out])
  · exact .value (.inr ⟨11, true, 30, by decide, rfl, rfl, rfl⟩) (by intro T e; cases e) rfl rfl (fun a w' hC hs hl => by
      have e0 : a.eval (.tmp 34) = (.int .i64 (m - n)) := (hl 34 (by kernel_rfl) (by kernel_rfl))
      have e1 : a.eval (.tmp 37) = (.int .i64 (m - n)) := (hl 37 (by kernel_rfl) (by kernel_rfl))
      simp only [execOp, e0, e1]
      skip
      simp [go_sem] <;> rfl)
  · exact .pick (b := true) (.inl rfl) rfl rfl (fun a w' hC hs hl => ⟨(hl 30 (by kernel_rfl) (by kernel_rfl)), (hl 38 (by kernel_rfl) (by kernel_rfl))⟩)
  · exact .move (.inl rfl) (.inl rfl) rfl (by kernel_rfl) (by kernel_rfl) rfl
  · exact .load (.agg #[.bool b7, .slice A7 n7 c7]) (.inr ⟨21, true, 40, by decide, rfl, rfl, rfl⟩) rfl rfl (fun a w' hC hs hl => by rw [show a.eval (.tmp 9) = (.pointer (some ⟨w1.heap.size, 0, none⟩) : Value) from (hs 9 (by kernel_rfl))]; exact ⟨ld_Int (K7.out.below' hC), s.out.below hC⟩)
  · exact .load (.agg #[.bool b8, .slice A8 n8 c8]) (.inr ⟨21, true, 40, by decide, rfl, rfl, rfl⟩) rfl rfl (fun a w' hC hs hl => by rw [show a.eval (.tmp 10) = (.pointer (some ⟨w2.heap.size, 0, none⟩) : Value) from (hs 10 (by kernel_rfl))]; exact ⟨ld_Int (K8.out.below' hC), p.out.below hC⟩)
  · exact .call (.inr ⟨21, true, 40, by decide, rfl, rfl, rfl⟩) rfl rfl fn_iMul (fun a w' hC hs hl => iMul_C (ICan.arg (hl 41 (by kernel_rfl) (by kernel_rfl)) (L_up S1.out (by decide))) (ICan.arg (hl 42 (by kernel_rfl) (by kernel_rfl)) (L_up S2.out (by decide))))
  · exact .call (.inr ⟨21, true, 40, by decide, rfl, rfl, rfl⟩) rfl rfl fn_ismall (fun a w' hC hs hl => ismall_ok (hl 43 (by kernel_rfl) (by kernel_rfl)) (L_up Q3.out (by decide)) (by have := k0.out; have := m0.out; have := n0.out; have := m1.out; have := n1.out; have := B1.out; omega) (by have := k1.out; have := m0.out; have := n0.out; have := m1.out; have := n1.out; have := B1.out; omega))
  · exact .moveC (.inr ⟨21, true, 40, by decide, rfl, rfl, rfl⟩) (.inl rfl) rfl (fun a w' hC hs => (hs 7 (by kernel_rfl)))
  · exact .moveC (.inr ⟨21, true, 40, by decide, rfl, rfl, rfl⟩) (.inl rfl) rfl (fun a w' hC hs => (hs 8 (by kernel_rfl)))
  · exact .value (.inr ⟨21, true, 40, by decide, rfl, rfl, rfl⟩) (by intro T e; cases e) rfl rfl (fun a w' hC hs hl => by
      have e0 : a.eval (.tmp 45) = ((.int .i64 m : Value)) := (hl 45 (by kernel_rfl) (by kernel_rfl))
      have e1 : a.eval (.tmp 46) = ((.int .i64 n : Value)) := (hl 46 (by kernel_rfl) (by kernel_rfl))
      simp only [execOp, e0, e1]
      skip
      simp [go_sem, wM.out])
  · exact .value (.inr ⟨21, true, 40, by decide, rfl, rfl, rfl⟩) (by intro T e; cases e) rfl rfl (fun a w' hC hs hl => by
      have e0 : a.eval (.tmp 44) = (.int .i64 (m * n)) := (hl 44 (by kernel_rfl) (by kernel_rfl))
      have e1 : a.eval (.tmp 47) = (.int .i64 (m * n)) := (hl 47 (by kernel_rfl) (by kernel_rfl))
      simp only [execOp, e0, e1]
      skip
      simp [go_sem] <;> rfl)
  · exact .pick (b := true) (.inl rfl) rfl rfl (fun a w' hC hs hl => ⟨(hl 40 (by kernel_rfl) (by kernel_rfl)), (hl 48 (by kernel_rfl) (by kernel_rfl))⟩)
  · exact .move (.inl rfl) (.inl rfl) rfl (by kernel_rfl) (by kernel_rfl) rfl
  · exact .load (.agg #[.bool b7, .slice A7 n7 c7]) (.inr ⟨31, true, 50, by decide, rfl, rfl, rfl⟩) rfl rfl (fun a w' hC hs hl => by rw [show a.eval (.tmp 9) = (.pointer (some ⟨w1.heap.size, 0, none⟩) : Value) from (hs 9 (by kernel_rfl))]; exact ⟨ld_Int (K7.out.below' hC), s.out.below hC⟩)
  · exact .call (.inr ⟨31, true, 50, by decide, rfl, rfl, rfl⟩) rfl rfl fn_iNeg (fun a w' hC hs hl => iNeg_C (ICan.arg (hl 51 (by kernel_rfl) (by kernel_rfl)) (L_up S1.out (by decide))))
  · exact .call (.inr ⟨31, true, 50, by decide, rfl, rfl, rfl⟩) rfl rfl fn_ismall (fun a w' hC hs hl => ismall_ok (hl 52 (by kernel_rfl) (by kernel_rfl)) (L_up Q4.out (by decide)) (by have := k0.out; have := m0.out; have := n0.out; have := m1.out; have := n1.out; have := B1.out; omega) (by have := k1.out; have := m0.out; have := n0.out; have := m1.out; have := n1.out; have := B1.out; omega))
  · exact .moveC (.inr ⟨31, true, 50, by decide, rfl, rfl, rfl⟩) (.inl rfl) rfl (fun a w' hC hs => (hs 7 (by kernel_rfl)))
  · exact .value (.inr ⟨31, true, 50, by decide, rfl, rfl, rfl⟩) (by intro T e; cases e) rfl rfl (fun a w' hC hs hl => by
      have e0 : a.eval (.tmp 54) = ((.int .i64 m : Value)) := (hl 54 (by kernel_rfl) (by kernel_rfl))
      simp only [execOp, e0]
      skip
      simp [go_sem, wN.out])
  · exact .value (.inr ⟨31, true, 50, by decide, rfl, rfl, rfl⟩) (by intro T e; cases e) rfl rfl (fun a w' hC hs hl => by
      have e0 : a.eval (.tmp 53) = (.int .i64 (-m)) := (hl 53 (by kernel_rfl) (by kernel_rfl))
      have e1 : a.eval (.tmp 55) = (.int .i64 (-m)) := (hl 55 (by kernel_rfl) (by kernel_rfl))
      simp only [execOp, e0, e1]
      skip
      simp [go_sem] <;> rfl)
  · exact .pick (b := true) (.inl rfl) rfl rfl (fun a w' hC hs hl => ⟨(hl 50 (by kernel_rfl) (by kernel_rfl)), (hl 56 (by kernel_rfl) (by kernel_rfl))⟩)
  · exact .move (.inl rfl) (.inl rfl) rfl (by kernel_rfl) (by kernel_rfl) rfl
  · exact .load (.agg #[.bool b7, .slice A7 n7 c7]) (.inr ⟨39, true, 58, by decide, rfl, rfl, rfl⟩) rfl rfl (fun a w' hC hs hl => by rw [show a.eval (.tmp 9) = (.pointer (some ⟨w1.heap.size, 0, none⟩) : Value) from (hs 9 (by kernel_rfl))]; exact ⟨ld_Int (K7.out.below' hC), s.out.below hC⟩)
  · exact .load (.agg #[.bool b8, .slice A8 n8 c8]) (.inr ⟨39, true, 58, by decide, rfl, rfl, rfl⟩) rfl rfl (fun a w' hC hs hl => by rw [show a.eval (.tmp 10) = (.pointer (some ⟨w2.heap.size, 0, none⟩) : Value) from (hs 10 (by kernel_rfl))]; exact ⟨ld_Int (K8.out.below' hC), p.out.below hC⟩)
  · exact .call (.inr ⟨39, true, 58, by decide, rfl, rfl, rfl⟩) rfl rfl fn_iCmp (fun a w' hC hs hl => iCmp_eq (ICan.arg (hl 59 (by kernel_rfl) (by kernel_rfl)) (L_up S1.out (by decide))) (ICan.arg (hl 60 (by kernel_rfl) (by kernel_rfl)) (L_up S2.out (by decide))) (rfl))
  · exact .value (.inr ⟨39, true, 58, by decide, rfl, rfl, rfl⟩) (by intro T e; cases e) rfl rfl (fun a w' hC hs hl => by
      have e0 : a.eval (.tmp 61) = (.int .i64 (cmpI m n)) := (hl 61 (by kernel_rfl) (by kernel_rfl))
      simp only [execOp, e0]
      simp only [Act.eval]
      simp [go_sem, cmp_b1])
  · exact .moveC (.inr ⟨39, true, 58, by decide, rfl, rfl, rfl⟩) (.inl rfl) rfl (fun a w' hC hs => (hs 7 (by kernel_rfl)))
  · exact .moveC (.inr ⟨39, true, 58, by decide, rfl, rfl, rfl⟩) (.inl rfl) rfl (fun a w' hC hs => (hs 8 (by kernel_rfl)))
  · exact .value (.inr ⟨39, true, 58, by decide, rfl, rfl, rfl⟩) (by intro T e; cases e) rfl rfl (fun a w' hC hs hl => by
      have e0 : a.eval (.tmp 63) = ((.int .i64 m : Value)) := (hl 63 (by kernel_rfl) (by kernel_rfl))
      have e1 : a.eval (.tmp 64) = ((.int .i64 n : Value)) := (hl 64 (by kernel_rfl) (by kernel_rfl))
      simp only [execOp, e0, e1]
      skip
      simp [go_sem])
  · exact .value (.inr ⟨39, true, 58, by decide, rfl, rfl, rfl⟩) (by intro T e; cases e) rfl rfl (fun a w' hC hs hl => by
      have e0 : a.eval (.tmp 62) = (.bool (decide (m < n))) := (hl 62 (by kernel_rfl) (by kernel_rfl))
      have e1 : a.eval (.tmp 65) = (.bool (decide (m < n))) := (hl 65 (by kernel_rfl) (by kernel_rfl))
      simp only [execOp, e0, e1]
      skip
      simp [go_sem] <;> rfl)
  · exact .pick (b := true) (.inl rfl) rfl rfl (fun a w' hC hs hl => ⟨(hl 58 (by kernel_rfl) (by kernel_rfl)), (hl 66 (by kernel_rfl) (by kernel_rfl))⟩)
  · exact .move (.inl rfl) (.inl rfl) rfl (by kernel_rfl) (by kernel_rfl) rfl
  · exact .load (.agg #[.bool b7, .slice A7 n7 c7]) (.inr ⟨49, true, 68, by decide, rfl, rfl, rfl⟩) rfl rfl (fun a w' hC hs hl => by rw [show a.eval (.tmp 9) = (.pointer (some ⟨w1.heap.size, 0, none⟩) : Value) from (hs 9 (by kernel_rfl))]; exact ⟨ld_Int (K7.out.below' hC), s.out.below hC⟩)
  · exact .load (.agg #[.bool b8, .slice A8 n8 c8]) (.inr ⟨49, true, 68, by decide, rfl, rfl, rfl⟩) rfl rfl (fun a w' hC hs hl => by rw [show a.eval (.tmp 10) = (.pointer (some ⟨w2.heap.size, 0, none⟩) : Value) from (hs 10 (by kernel_rfl))]; exact ⟨ld_Int (K8.out.below' hC), p.out.below hC⟩)
  · exact .call (.inr ⟨49, true, 68, by decide, rfl, rfl, rfl⟩) rfl rfl fn_iCmp (fun a w' hC hs hl => iCmp_eq (ICan.arg (hl 69 (by kernel_rfl) (by kernel_rfl)) (L_up S1.out (by decide))) (ICan.arg (hl 70 (by kernel_rfl) (by kernel_rfl)) (L_up S2.out (by decide))) (rfl))
  · exact .value (.inr ⟨49, true, 68, by decide, rfl, rfl, rfl⟩) (by intro T e; cases e) rfl rfl (fun a w' hC hs hl => by
      have e0 : a.eval (.tmp 71) = (.int .i64 (cmpI m n)) := (hl 71 (by kernel_rfl) (by kernel_rfl))
      simp only [execOp, e0]
      simp only [Act.eval]
      simp [go_sem, cmp_b0])
  · exact .moveC (.inr ⟨49, true, 68, by decide, rfl, rfl, rfl⟩) (.inl rfl) rfl (fun a w' hC hs => (hs 7 (by kernel_rfl)))
  · exact .moveC (.inr ⟨49, true, 68, by decide, rfl, rfl, rfl⟩) (.inl rfl) rfl (fun a w' hC hs => (hs 8 (by kernel_rfl)))
  · exact .value (.inr ⟨49, true, 68, by decide, rfl, rfl, rfl⟩) (by intro T e; cases e) rfl rfl (fun a w' hC hs hl => by
      have e0 : a.eval (.tmp 73) = ((.int .i64 m : Value)) := (hl 73 (by kernel_rfl) (by kernel_rfl))
      have e1 : a.eval (.tmp 74) = ((.int .i64 n : Value)) := (hl 74 (by kernel_rfl) (by kernel_rfl))
      simp only [execOp, e0, e1]
      skip
      simp [go_sem, eq_b])
  · exact .value (.inr ⟨49, true, 68, by decide, rfl, rfl, rfl⟩) (by intro T e; cases e) rfl rfl (fun a w' hC hs hl => by
      have e0 : a.eval (.tmp 72) = (.bool (decide (m = n))) := (hl 72 (by kernel_rfl) (by kernel_rfl))
      have e1 : a.eval (.tmp 75) = (.bool (decide (m = n))) := (hl 75 (by kernel_rfl) (by kernel_rfl))
      simp only [execOp, e0, e1]
      skip
      simp [go_sem] <;> rfl)
  · exact .pick (b := true) (.inl rfl) rfl rfl (fun a w' hC hs hl => ⟨(hl 68 (by kernel_rfl) (by kernel_rfl)), (hl 76 (by kernel_rfl) (by kernel_rfl))⟩)
  · exact .move (.inl rfl) (.inl rfl) rfl (by kernel_rfl) (by kernel_rfl) rfl
  · exact .moveC (.inr ⟨59, true, 78, by decide, rfl, rfl, rfl⟩) (.inl rfl) rfl (fun a w' hC hs => (hs 2 (by kernel_rfl)))
  · exact .call (.inr ⟨59, true, 78, by decide, rfl, rfl, rfl⟩) rfl rfl fn_iOf (fun a w' hC hs hl => iOf_C (hl 79 (by kernel_rfl) (by kernel_rfl)) k0.out k1.out)
  · exact .call (.inr ⟨59, true, 78, by decide, rfl, rfl, rfl⟩) rfl rfl fn_ismall (fun a w' hC hs hl => ismall_ok (hl 80 (by kernel_rfl) (by kernel_rfl)) (L_up S3.out (by decide)) (by have := k0.out; have := m0.out; have := n0.out; have := m1.out; have := n1.out; have := B1.out; omega) (by have := k1.out; have := m0.out; have := n0.out; have := m1.out; have := n1.out; have := B1.out; omega))
  · exact .moveC (.inr ⟨59, true, 78, by decide, rfl, rfl, rfl⟩) (.inl rfl) rfl (fun a w' hC hs => (hs 2 (by kernel_rfl)))
  · exact .value (.inr ⟨59, true, 78, by decide, rfl, rfl, rfl⟩) (by intro T e; cases e) rfl rfl (fun a w' hC hs hl => by
      have e0 : a.eval (.tmp 81) = (.int .i64 (k)) := (hl 81 (by kernel_rfl) (by kernel_rfl))
      have e1 : a.eval (.tmp 82) = ((.int .i64 k : Value)) := (hl 82 (by kernel_rfl) (by kernel_rfl))
      simp only [execOp, e0, e1]
      skip
      simp [go_sem] <;> rfl)
  · exact .pick (b := true) (.inl rfl) rfl rfl (fun a w' hC hs hl => ⟨(hl 78 (by kernel_rfl) (by kernel_rfl)), (hl 83 (by kernel_rfl) (by kernel_rfl))⟩)
  · exact .move (.inl rfl) (.inl rfl) rfl (by kernel_rfl) (by kernel_rfl) rfl
  · exact .moveC (.inr ⟨66, true, 85, by decide, rfl, rfl, rfl⟩) (.inl rfl) rfl (fun a w' hC hs => (hs 2 (by kernel_rfl)))
  · exact .call (.inr ⟨66, true, 85, by decide, rfl, rfl, rfl⟩) rfl rfl fn_iOf (fun a w' hC hs hl => iOf_C (hl 86 (by kernel_rfl) (by kernel_rfl)) k0.out k1.out)
  · exact .call (.inr ⟨66, true, 85, by decide, rfl, rfl, rfl⟩) rfl rfl fn_iSign (fun a w' hC hs hl => iSign_eq (ICan.arg (hl 87 (by kernel_rfl) (by kernel_rfl)) (L_up S3.out (by decide))) (rfl))
  · exact .value (.inr ⟨66, true, 85, by decide, rfl, rfl, rfl⟩) (by intro T e; cases e) rfl rfl (fun a w' hC hs hl => by
      have e0 : a.eval (.tmp 88) = (.int .i64 (cmpI k 0)) := (hl 88 (by kernel_rfl) (by kernel_rfl))
      simp only [execOp, e0]
      simp only [Act.eval]
      simp [go_sem, sgn_bit])
  · exact .moveC (.inr ⟨66, true, 85, by decide, rfl, rfl, rfl⟩) (.inl rfl) rfl (fun a w' hC hs => (hs 2 (by kernel_rfl)))
  · exact .value (.inr ⟨66, true, 85, by decide, rfl, rfl, rfl⟩) (by intro T e; cases e) rfl rfl (fun a w' hC hs hl => by
      have e0 : a.eval (.tmp 90) = ((.int .i64 k : Value)) := (hl 90 (by kernel_rfl) (by kernel_rfl))
      simp only [execOp, e0]
      simp only [Act.eval]
      simp [go_sem])
  · exact .value (.inr ⟨66, true, 85, by decide, rfl, rfl, rfl⟩) (by intro T e; cases e) rfl rfl (fun a w' hC hs hl => by
      have e0 : a.eval (.tmp 89) = (.bool (decide (k < 0))) := (hl 89 (by kernel_rfl) (by kernel_rfl))
      have e1 : a.eval (.tmp 91) = (.bool (decide (k < 0))) := (hl 91 (by kernel_rfl) (by kernel_rfl))
      simp only [execOp, e0, e1]
      skip
      simp [go_sem] <;> rfl)
  · exact .pick (b := true) (.inl rfl) rfl rfl (fun a w' hC hs hl => ⟨(hl 85 (by kernel_rfl) (by kernel_rfl)), (hl 92 (by kernel_rfl) (by kernel_rfl))⟩)
  · exact .move (.inl rfl) (.inr rfl) rfl (by kernel_rfl) (by kernel_rfl) rfl
  intro f w9 hC hF _
  have f6 : f 6 = .bool true := hF 6 (by kernel_rfl)
  clear hF
  change wpList _ _ _ [] _ _
  simp only [patch]
  have B9 := hide (b0.out.trans (hC.mono b0.out.size))
  clear hC
  rw [f6]
  go_wp2
  exact opq_end hR ⟨rfl, B9⟩
end Go.Proofs.YtcdejccbamjdoaaDoor
