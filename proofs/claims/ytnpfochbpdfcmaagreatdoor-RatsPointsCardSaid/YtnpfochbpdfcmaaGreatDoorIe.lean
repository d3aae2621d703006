/- ints: Add, Sub, Mul, Neg. -/
import Derived.Test.YtnpfochbpdfcmaaGreatDoorId
set_option linter.unusedVariables false
set_option linter.unusedSimpArgs false
set_option maxRecDepth 100000
namespace Go.Proofs.YtnpfochbpdfcmaaGreatDoor
open Go.RowKit

theorem iplus_F {w : World} {v v' : Value} {x y : Int} (B : Nat) (hB : B ≤ w.heap.size) (h : ICan w v x) (h' : ICan w v' y) (s : L x.natAbs ≤ 1000000000000) (s' : L y.natAbs ≤ 1000000000000) :
    Calls Tryz.prog 115 #[v, v'] w fun e w' => ∃ u, e = .returned u ∧ Below w.heap.size w w' ∧ IntR (x + y) B w' u :=
  (iplus_ok h h' (L_up s (by decide)) (L_up s' (by decide))).mono fun e w' ⟨u, e1, h3, h4⟩ => ⟨u, e1, h4.out, h3.out.mono hB⟩
theorem iturned_F {w : World} {v : Value} {x : Int} (h : ICan w v x) :
    Calls Tryz.prog 116 #[v] w fun e w' => ∃ u, e = .returned u ∧ Below w.heap.size w w' ∧ ICan w' u (-x) :=
  (iturned_ok h).mono fun e w' ⟨u, e1, h3, h4⟩ => ⟨u, e1, h4.out, h3.out⟩
theorem isign_F {w : World} {v : Value} {x : Int} (h : ICan w v x) :
    Calls Tryz.prog 72 #[v] w fun e w' => ∃ u, e = .returned u ∧ Below w.heap.size w w' ∧ u = .int .i64 (cmpI x 0) :=
  (isign_ok h).mono fun e w' ⟨e1, h4⟩ => ⟨_, e1, h4.out, rfl⟩
theorem nCmp_F {w : World} {v v' : Value} {M N : Nat} (h : Can w v M) (h' : Can w v' N) (s : L M ≤ 4398046511104) (s' : L N ≤ 4398046511104) :
    Calls Tryz.prog 112 #[v, v'] w fun e w' => ∃ u, e = .returned u ∧ Below w.heap.size w w' ∧ u = .int .i64 (cmpN M N) :=
  (Cmp_arg (h.arg s) (h'.arg s')).mono fun e w' ⟨e1, h2⟩ => ⟨_, e1, h2.out, rfl⟩
theorem run_alloc_whole (w : World) (a : Act) (d : Option Tmp) (t : TypeId) (p : String) (e : Array Edge) (gd : Option (Nat × Bool)) : (execOp a.eval ⟨d, .alloc 95, t, p, e, gd⟩).run Tryz.prog w = .ok (.value (.pointer (some ⟨w.heap.size, 0, none⟩))) (w.alloc (.cells (Value.agg #[.bool false, .slice none 0 0]).cells 95)) := by
  simp [execOp, go_sem, Value.cells]
set_option maxHeartbeats 1000000 in
theorem iAdd_ok {w : World} {v1 : Value} {v2 : Value} {x : Int} {y : Int} (h1 : IArg w v1 x) (h2 : IArg w v2 y) :
    Calls Tryz.prog 66 #[v1, v2] w fun e w' => ∃ u, e = .returned u ∧ Below w.heap.size w w' ∧ IntR (x + y) w.heap.size w' u := by
  refine opq fun R hR => ?_
  obtain ⟨b1, A1, n1, c1, rfl⟩ := h1.slice
  have S1 := hide h1.size
  replace h1 := hide h1
  obtain ⟨b2, A2, n2, c2, rfl⟩ := h2.slice
  have S2 := hide h2.size
  replace h2 := hide h2
  go_enter Tryz.func66, Tryz.ntmps66
  go_wp2
  obtain ⟨W, hW, K1, K2, K3, BW, ZW⟩ := alloc3 w #[.bool b1, .slice A1 n1 c1] #[.bool b2, .slice A2 n2 c2] #[.bool false, .slice none 0 0] 25 25 25
  rw [hW]
  clear hW
  refine wp_region_facts 5 (fun w' => Below W.heap.size W w') [(5, (.iarg0 w x)), (6, (.int0 w x)), (7, (.iarg0 w y)), (8, (.int0 w y)), (9, (.intR (x + y) w.heap.size))] [false, false, false, false, false, true, true, true, true, true] mixed (by kernel_rfl) (by kernel_rfl) (by kernel_rfl) (fun _ _ h hb => h.trans (hb.mono h.size)) ((Below.refl _ _).drew) ⟨?_, ?_, ?_, ?_, ?_, trivial⟩ ?_
  · exact .load (.agg #[.bool b1, .slice A1 n1 c1]) (.inl rfl) rfl rfl (fun a w' hC hs hl => by rw [show a.eval (.tmp 2) = (.pointer (some ⟨w.heap.size, 0, none⟩) : Value) from (hs 2 (by kernel_rfl))]; exact ⟨ld_Int (K1.out.below' hC), h1.out⟩)
  · exact .call (.inl rfl) rfl rfl fn_of (fun a w' hC hs hl => iof_F (hl 5 (by kernel_rfl) (by kernel_rfl)) (BW.out.trans (hC.mono BW.out.size)))
  · exact .load (.agg #[.bool b2, .slice A2 n2 c2]) (.inl rfl) rfl rfl (fun a w' hC hs hl => by rw [show a.eval (.tmp 3) = (.pointer (some ⟨w.heap.size + 1, 0, none⟩) : Value) from (hs 3 (by kernel_rfl))]; exact ⟨ld_Int (K2.out.below' hC), h2.out⟩)
  · exact .call (.inl rfl) rfl rfl fn_of (fun a w' hC hs hl => iof_F (hl 7 (by kernel_rfl) (by kernel_rfl)) (BW.out.trans (hC.mono BW.out.size)))
  · exact .call (.inl rfl) rfl rfl fn_plus (fun a w' hC hs hl => iplus_F w.heap.size (Nat.le_trans BW.out.size hC.size) ((hl 6 (by kernel_rfl) (by kernel_rfl)).below (BW.out.trans (hC.mono BW.out.size))) ((hl 8 (by kernel_rfl) (by kernel_rfl)).below (BW.out.trans (hC.mono BW.out.size))) S1.out S2.out)
  intro f w1 hC hF _
  have f9 := hF 9 (by kernel_rfl)
  clear hF
  have r9 : IntR (x + y) w.heap.size w1 (f 9) := f9
  clear f9
  simp only [patch, List.drop]
  obtain ⟨b9, A9, n9, c9, e9⟩ := r9.slice
  have R9 := hide r9
  clear r9
  generalize f 9 = v9 at *
  subst e9
  have K9 := hide (K3.out.below' hC)
  have q0 := K9.out.at_ 0 rfl
  have q1 := K9.out.at_ 1 rfl
  have q2 := K9.out.frozen 0
  have q3 := K9.out.frozen 1
  have B9 := hide (BW.out.trans (hC.mono BW.out.size))
  clear hC
  go_wp2
  refine bodyPost_ret (v := .agg #[.bool b9, .slice A9 n9 c9]) (by simp [results, Tryz.results66, go_sem, q0, q1, q2, q3]) rfl ?_
  exact opq_end hR ⟨_, rfl, (by (repeat (first | exact B9 | exact Below.refl _ _ | refine Below.setCell ?_ (by first | (simp; done) | (simp; omega)) _ | refine Below.alloc ?_ (by first | (simp; done) | (simp; omega)) _))), R9.out.only K9.out (by decide) (((Only.refl _ _).set _ _).set _ _)⟩
set_option maxHeartbeats 1000000 in
theorem iSub_ok {w : World} {v1 : Value} {v2 : Value} {x : Int} {y : Int} (h1 : IArg w v1 x) (h2 : IArg w v2 y) :
    Calls Tryz.prog 75 #[v1, v2] w fun e w' => ∃ u, e = .returned u ∧ Below w.heap.size w w' ∧ IntR (x - y) w.heap.size w' u := by
  refine opq fun R hR => ?_
  obtain ⟨b1, A1, n1, c1, rfl⟩ := h1.slice
  have S1 := hide h1.size
  replace h1 := hide h1
  obtain ⟨b2, A2, n2, c2, rfl⟩ := h2.slice
  have S2 := hide h2.size
  replace h2 := hide h2
  go_enter Tryz.func75, Tryz.ntmps75
  go_wp2
  obtain ⟨W, hW, K1, K2, K3, BW, ZW⟩ := alloc3 w #[.bool b1, .slice A1 n1 c1] #[.bool b2, .slice A2 n2 c2] #[.bool false, .slice none 0 0] 25 25 25
  rw [hW]
  clear hW
  refine wp_region_facts 6 (fun w' => Below W.heap.size W w') [(5, (.iarg0 w x)), (6, (.int0 w x)), (7, (.iarg0 w y)), (8, (.int0 w y)), (9, (.int (-y))), (10, (.intR (x + (-y)) w.heap.size))] [false, false, false, false, false, true, true, true, true, true, true] mixed (by kernel_rfl) (by kernel_rfl) (by kernel_rfl) (fun _ _ h hb => h.trans (hb.mono h.size)) ((Below.refl _ _).drew) ⟨?_, ?_, ?_, ?_, ?_, ?_, trivial⟩ ?_
  · exact .load (.agg #[.bool b1, .slice A1 n1 c1]) (.inl rfl) rfl rfl (fun a w' hC hs hl => by rw [show a.eval (.tmp 2) = (.pointer (some ⟨w.heap.size, 0, none⟩) : Value) from (hs 2 (by kernel_rfl))]; exact ⟨ld_Int (K1.out.below' hC), h1.out⟩)
  · exact .call (.inl rfl) rfl rfl fn_of (fun a w' hC hs hl => iof_F (hl 5 (by kernel_rfl) (by kernel_rfl)) (BW.out.trans (hC.mono BW.out.size)))
  · exact .load (.agg #[.bool b2, .slice A2 n2 c2]) (.inl rfl) rfl rfl (fun a w' hC hs hl => by rw [show a.eval (.tmp 3) = (.pointer (some ⟨w.heap.size + 1, 0, none⟩) : Value) from (hs 3 (by kernel_rfl))]; exact ⟨ld_Int (K2.out.below' hC), h2.out⟩)
  · exact .call (.inl rfl) rfl rfl fn_of (fun a w' hC hs hl => iof_F (hl 7 (by kernel_rfl) (by kernel_rfl)) (BW.out.trans (hC.mono BW.out.size)))
  · exact .call (.inl rfl) rfl rfl fn_turned (fun a w' hC hs hl => iturned_F ((hl 8 (by kernel_rfl) (by kernel_rfl)).below (BW.out.trans (hC.mono BW.out.size))))
  · exact .call (.inl rfl) rfl rfl fn_plus (fun a w' hC hs hl => iplus_F w.heap.size (Nat.le_trans BW.out.size hC.size) ((hl 6 (by kernel_rfl) (by kernel_rfl)).below (BW.out.trans (hC.mono BW.out.size))) (hl 9 (by kernel_rfl) (by kernel_rfl)) S1.out (Z_neg S2.out))
  intro f w1 hC hF _
  have f9 := hF 10 (by kernel_rfl)
  clear hF
  have r9 : IntR (x + -y) w.heap.size w1 (f 10) := f9
  clear f9
  rw [← Int.sub_eq_add_neg] at r9
  simp only [patch, List.drop]
  obtain ⟨b9, A9, n9, c9, e9⟩ := r9.slice
  have R9 := hide r9
  clear r9
  generalize f 10 = v9 at *
  subst e9
  have K9 := hide (K3.out.below' hC)
  have q0 := K9.out.at_ 0 rfl
  have q1 := K9.out.at_ 1 rfl
  have q2 := K9.out.frozen 0
  have q3 := K9.out.frozen 1
  have B9 := hide (BW.out.trans (hC.mono BW.out.size))
  clear hC
  go_wp2
  refine bodyPost_ret (v := .agg #[.bool b9, .slice A9 n9 c9]) (by simp [results, Tryz.results75, go_sem, q0, q1, q2, q3]) rfl ?_
  exact opq_end hR ⟨_, rfl, (by (repeat (first | exact B9 | exact Below.refl _ _ | refine Below.setCell ?_ (by first | (simp; done) | (simp; omega)) _ | refine Below.alloc ?_ (by first | (simp; done) | (simp; omega)) _))), R9.out.only K9.out (by decide) (((Only.refl _ _).set _ _).set _ _)⟩
theorem mul_sign (x y : Int) : decide (x * y < 0) = ((decide (x < 0) != decide (y < 0)) && decide (x.natAbs * y.natAbs ≠ 0)) := by
  have key : x * y < 0 ↔ (x < 0 ∧ 0 < y) ∨ (0 < x ∧ y < 0) := by
    rcases Int.lt_trichotomy x 0 with hx | hx | hx <;> rcases Int.lt_trichotomy y 0 with hy | hy | hy
    · have := Int.mul_pos_of_neg_of_neg hx hy; omega
    · subst hy; simp
    · have := Int.mul_neg_of_neg_of_pos hx hy; omega
    · subst hx; simp
    · subst hx; simp
    · subst hx; simp
    · have := Int.mul_neg_of_pos_of_neg hx hy; omega
    · subst hy; simp
    · have := Int.mul_pos hx hy; omega
  have hz : x.natAbs * y.natAbs ≠ 0 ↔ x ≠ 0 ∧ y ≠ 0 := by rw [Nat.mul_ne_zero_iff]; omega
  rw [Bool.eq_iff_iff]
  simp only [decide_eq_true_eq, key, Bool.and_eq_true, hz, bne_iff_ne, ne_eq, decide_eq_decide]
  omega
def Fact.nat0 (w : World) (N : Nat) : Fact := ⟨fun v _ => Can w v N, fun _ _ _ h _ => h⟩
set_option maxHeartbeats 1000000 in
theorem iMul_ok {w : World} {v1 : Value} {v2 : Value} {x : Int} {y : Int} (h1 : IArg w v1 x) (h2 : IArg w v2 y) :
    Calls Tryz.prog 28 #[v1, v2] w fun e w' => ∃ u, e = .returned u ∧ Below w.heap.size w w' ∧ IntR (x * y) w.heap.size w' u := by
  refine opq fun R hR => ?_
  obtain ⟨b1, A1, n1, c1, rfl⟩ := h1.slice
  have S1 := hide h1.size
  replace h1 := hide h1
  obtain ⟨b2, A2, n2, c2, rfl⟩ := h2.slice
  have S2 := hide h2.size
  replace h2 := hide h2
  go_enter Tryz.func28, Tryz.ntmps28
  go_wp2
  obtain ⟨W, hW, K1, K2, K3, BW, ZW⟩ := alloc3 w #[.bool b1, .slice A1 n1 c1] #[.bool b2, .slice A2 n2 c2] #[.bool false, .slice none 0 0] 25 25 25
  rw [hW]
  clear hW
  refine wp_region_facts 6 (fun w' => Below W.heap.size W w') [(7, (.iarg0 w x)), (8, (.int0 w x)), (9, (.iarg0 w y)), (10, (.int0 w y)), (5, (.var 95 #[.bool false, .slice none 0 0] w.heap.size)), (6, (.var 95 #[.bool false, .slice none 0 0] w.heap.size))] [false, false, false, false, false, true, true, true, true, true, true, false, false, false, false, false, false, false, false, false, false, false] mixed (by kernel_rfl) (by kernel_rfl) (by kernel_rfl) (fun _ _ h hb => h.trans (hb.mono h.size)) ((Below.refl _ _).drew) ⟨?_, ?_, ?_, ?_, ?_, ?_, trivial⟩ ?_
  · exact .load (.agg #[.bool b1, .slice A1 n1 c1]) (.inl rfl) rfl rfl (fun a w' hC hs hl => by rw [show a.eval (.tmp 2) = (.pointer (some ⟨w.heap.size, 0, none⟩) : Value) from (hs 2 (by kernel_rfl))]; exact ⟨ld_Int (K1.out.below' hC), h1.out⟩)
  · exact .call (.inl rfl) rfl rfl fn_of (fun a w' hC hs hl => iof_F (hl 7 (by kernel_rfl) (by kernel_rfl)) (BW.out.trans (hC.mono BW.out.size)))
  · exact .load (.agg #[.bool b2, .slice A2 n2 c2]) (.inl rfl) rfl rfl (fun a w' hC hs hl => by rw [show a.eval (.tmp 3) = (.pointer (some ⟨w.heap.size + 1, 0, none⟩) : Value) from (hs 3 (by kernel_rfl))]; exact ⟨ld_Int (K2.out.below' hC), h2.out⟩)
  · exact .call (.inl rfl) rfl rfl fn_of (fun a w' hC hs hl => iof_F (hl 9 (by kernel_rfl) (by kernel_rfl)) (BW.out.trans (hC.mono BW.out.size)))
  · exact .alloc (.agg #[.bool false, .slice none 0 0]) (.inl rfl) rfl rfl (fun a w' hC => ⟨run_alloc_whole _ _ _ _ _ _ _, _, rfl, Nat.le_trans BW.out.size hC.size, Blk.new _ _ _⟩)
  · exact .alloc (.agg #[.bool false, .slice none 0 0]) (.inl rfl) rfl rfl (fun a w' hC => ⟨run_alloc_whole _ _ _ _ _ _ _, _, rfl, Nat.le_trans BW.out.size hC.size, Blk.new _ _ _⟩)
  intro f w1 hC hF hN
  have f8 : ICan w (f 8) x := hF 8 (by kernel_rfl)
  have f10 : ICan w (f 10) y := hF 10 (by kernel_rfl)
  have f5 : ∃ g, f 5 = .pointer (some ⟨g, 0, none⟩) ∧ w.heap.size ≤ g ∧ Blk w1 g 95 #[.bool false, .slice none 0 0] := hF 5 (by kernel_rfl)
  have f6 : ∃ g, f 6 = .pointer (some ⟨g, 0, none⟩) ∧ w.heap.size ≤ g ∧ Blk w1 g 95 #[.bool false, .slice none 0 0] := hF 6 (by kernel_rfl)
  have n56 : f 5 ≠ f 6 := hN 4 5 _ _ 5 6 _ _ (by decide) (by decide) (by decide) rfl rfl rfl rfl rfl rfl rfl rfl
  clear hF hN
  simp only [patch, List.drop]
  obtain ⟨u8, e8, hu8⟩ := f8
  obtain ⟨u10, e10, hu10⟩ := f10
  obtain ⟨g5, e5, l5, k5⟩ := f5
  obtain ⟨g6, e6, l6, k6⟩ := f6
  obtain ⟨A8, n8, c8, rfl⟩ : ∃ A n c, u8 = .slice A n c := by obtain ⟨A, c, q, _⟩ := hu8; exact ⟨A, _, c, q⟩
  obtain ⟨A10, n10, c10, rfl⟩ : ∃ A n c, u10 = .slice A n c := by obtain ⟨A, c, q, _⟩ := hu10; exact ⟨A, _, c, q⟩
  rw [e5, e6] at n56
  have hne : g5 ≠ g6 := fun q => n56 (by rw [q])
  have hne' : g6 ≠ g5 := Ne.symm hne
  clear n56
  have U8 := hide hu8
  have U10 := hide hu10
  clear hu8 hu10
  generalize f 5 = v5 at *
  generalize f 6 = v6 at *
  generalize f 8 = v8 at *
  generalize f 10 = v10 at *
  generalize f 7 = v7 at *
  generalize f 9 = v9 at *
  subst e5 e6 e8 e10
  have K30 := hide (K3.out.below' hC)
  have B9 := hide (BW.out.trans (hC.mono BW.out.size))
  clear hC K1 K2 K3 ZW BW
  have a0 := k5.at_ 0 rfl
  have a1 := k5.at_ 1 rfl
  have a2 := k6.at_ 0 rfl
  have a3 := k6.at_ 1 rfl
  have q0 := k5.frozen 0
  have q1 := k5.frozen 1
  have q2 := k6.frozen 0
  have q3 := k6.frozen 1
  obtain ⟨x1, ex1⟩ : ∃ b, Hid (decide (x < 0) = b) := ⟨_, rfl⟩
  obtain ⟨y1, ey1⟩ : ∃ b, Hid (decide (y < 0) = b) := ⟨_, rfl⟩
  rw [ex1.out, ey1.out]
  have K5 := hide ((((k5.set_ 0 (.bool x1)).set_ 1 (.slice A8 n8 c8)).far (p := ⟨g6, 0, none⟩) hne (.bool y1)).far (p := ⟨g6, 1, none⟩) hne (.slice A10 n10 c10))
  have K6 := hide ((((k6.far (p := ⟨g5, 0, none⟩) hne' (.bool x1)).far (p := ⟨g5, 1, none⟩) hne' (.slice A8 n8 c8)).set_ 0 (.bool y1)).set_ 1 (.slice A10 n10 c10))
  have K3' := hide ((((K30.out.far (p := ⟨g5, 0, none⟩) (K30.out.type_ne k5 (by decide)) (.bool x1)).far (p := ⟨g5, 1, none⟩) (K30.out.type_ne k5 (by decide)) (.slice A8 n8 c8)).far (p := ⟨g6, 0, none⟩) (K30.out.type_ne k6 (by decide)) (.bool y1)).far (p := ⟨g6, 1, none⟩) (K30.out.type_ne k6 (by decide)) (.slice A10 n10 c10))
  have BV := hide ((((B9.out.setCell (p := ⟨g5, 0, none⟩) l5 (.bool x1)).setCell (p := ⟨g5, 1, none⟩) l5 (.slice A8 n8 c8)).setCell (p := ⟨g6, 0, none⟩) l6 (.bool y1)).setCell (p := ⟨g6, 1, none⟩) l6 (.slice A10 n10 c10))
  clear k5 k6 K30
  go_wp2
  clear a0 a1 a2 a3 q0 q1 q2 q3 B9
  obtain ⟨V, hV⟩ : ∃ V, (((w1.setCell ⟨g5, 0, none⟩ (.bool x1)).setCell ⟨g5, 1, none⟩ (.slice A8 n8 c8)).setCell ⟨g6, 0, none⟩ (.bool y1)).setCell ⟨g6, 1, none⟩ (.slice A10 n10 c10) = V := ⟨_, rfl⟩
  rw [hV] at K5 K6 BV K3' ⊢
  clear hV
  have L5 : Hid (Blk V g5 95 #[.bool x1, .slice A8 n8 c8]) := K5
  have L6 : Hid (Blk V g6 95 #[.bool y1, .slice A10 n10 c10]) := K6
  clear K5 K6
  refine wp_region_facts 11 (fun w' => Below V.heap.size V w') [(11, .eq ((.pointer (some ⟨g5, 0, none⟩) : Value))), (12, .eq (.bool x1)), (13, .eq ((.pointer (some ⟨g6, 0, none⟩) : Value))), (14, .eq (.bool y1)), (15, .eq (.bool (x1 != y1))), (16, .eq ((.pointer (some ⟨g5, 1, none⟩) : Value))), (17, (.nat0 w x.natAbs)), (18, .eq ((.pointer (some ⟨g6, 1, none⟩) : Value))), (19, (.nat0 w y.natAbs)), (20, (.natR (x.natAbs * y.natAbs) w.heap.size)), (21, (.intR (x * y) w.heap.size))] [false, false, false, false, false, false, false, false, false, false, false, true, true, true, true, true, true, true, true, true, true, true] mixed (by kernel_rfl) (by kernel_rfl) (by kernel_rfl) (fun _ _ h hb => h.trans (hb.mono h.size)) ((Below.refl _ _).drew) ⟨?_, ?_, ?_, ?_, ?_, ?_, ?_, ?_, ?_, ?_, ?_, trivial⟩ ?_
  · exact .fieldAddr (.inl rfl) rfl rfl rfl (fun a w' hC hs hl => by rw [show a.eval (.tmp 5) = (.pointer (some ⟨g5, 0, none⟩) : Value) from (hs 5 (by kernel_rfl))]; exact fa_whole0)
  · exact .load (.bool x1) (.inl rfl) rfl rfl (fun a w' hC hs hl => by rw [show a.eval (.tmp 11) = (.pointer (some ⟨g5, 0, none⟩) : Value) from (hl 11 (by kernel_rfl) (by kernel_rfl))]; exact ⟨ld_bool ((L5.out.below' hC).at_ 0 rfl), rfl⟩)
  · exact .fieldAddr (.inl rfl) rfl rfl rfl (fun a w' hC hs hl => by rw [show a.eval (.tmp 6) = (.pointer (some ⟨g6, 0, none⟩) : Value) from (hs 6 (by kernel_rfl))]; exact fa_whole0)
  · exact .load (.bool y1) (.inl rfl) rfl rfl (fun a w' hC hs hl => by rw [show a.eval (.tmp 13) = (.pointer (some ⟨g6, 0, none⟩) : Value) from (hl 13 (by kernel_rfl) (by kernel_rfl))]; exact ⟨ld_bool ((L6.out.below' hC).at_ 0 rfl), rfl⟩)
  · exact .value (.inl rfl) (by intro T e; cases e) rfl rfl (fun a w' hC hs hl => by
    have e1 : slot a 12 = .bool x1 := (hl 12 (by kernel_rfl) (by kernel_rfl))
    have e2 : slot a 14 = .bool y1 := (hl 14 (by kernel_rfl) (by kernel_rfl))
    simp only [execOp, Act.eval]
    unfold slot at e1 e2
    rw [e1, e2]
    simp [go_sem]
    cases x1 <;> cases y1 <;> rfl)
  · exact .fieldAddr (.inl rfl) rfl rfl rfl (fun a w' hC hs hl => by rw [show a.eval (.tmp 5) = (.pointer (some ⟨g5, 0, none⟩) : Value) from (hs 5 (by kernel_rfl))]; exact fa_whole1)
  · exact .load (.slice A8 n8 c8) (.inl rfl) rfl rfl (fun a w' hC hs hl => by rw [show a.eval (.tmp 16) = (.pointer (some ⟨g5, 1, none⟩) : Value) from (hl 16 (by kernel_rfl) (by kernel_rfl))]; exact ⟨ld_Nat ((L5.out.below' hC).at_ 1 rfl), U8.out⟩)
  · exact .fieldAddr (.inl rfl) rfl rfl rfl (fun a w' hC hs hl => by rw [show a.eval (.tmp 6) = (.pointer (some ⟨g6, 0, none⟩) : Value) from (hs 6 (by kernel_rfl))]; exact fa_whole1)
  · exact .load (.slice A10 n10 c10) (.inl rfl) rfl rfl (fun a w' hC hs hl => by rw [show a.eval (.tmp 18) = (.pointer (some ⟨g6, 1, none⟩) : Value) from (hl 18 (by kernel_rfl) (by kernel_rfl))]; exact ⟨ld_Nat ((L6.out.below' hC).at_ 1 rfl), U10.out⟩)
  · exact .call (.inl rfl) rfl rfl fn_Mul (fun a w' hC hs hl => nMul_F w.heap.size (Nat.le_trans BV.out.size hC.size) ((hl 17 (by kernel_rfl) (by kernel_rfl)).below (BV.out.trans (hC.mono BV.out.size))) ((hl 19 (by kernel_rfl) (by kernel_rfl)).below (BV.out.trans (hC.mono BV.out.size))) (L_up S1.out (by decide)) (L_up S2.out (by decide)))
  · exact .call (.inl rfl) rfl rfl fn_signed (fun a w' hC hs hl => by
    have e : slot a 15 = .bool (x1 != y1) := (hl 15 (by kernel_rfl) (by kernel_rfl))
    show Calls _ _ #[slot a 15, slot a 20] _ _
    rw [e]
    exact isigned_F (hl 20 (by kernel_rfl) (by kernel_rfl)) (Int.natAbs_mul x y) (by rw [← ex1.out, ← ey1.out]; exact mul_sign x y))
  intro f w1 hC hF _
  have f9 := hF 21 (by kernel_rfl)
  clear hF
  have r9 : IntR (x * y) w.heap.size w1 (f 21) := f9
  clear f9
  simp only [patch, List.drop]
  obtain ⟨b9, A9, n9, c9, e9⟩ := r9.slice
  have R9 := hide r9
  clear r9
  generalize f 21 = v9 at *
  subst e9
  have K9 := hide (K3'.out.below' hC)
  have q0 := K9.out.at_ 0 rfl
  have q1 := K9.out.at_ 1 rfl
  have q2 := K9.out.frozen 0
  have q3 := K9.out.frozen 1
  have B9 := hide (BV.out.trans (hC.mono BV.out.size))
  clear hC
  go_wp2
  refine bodyPost_ret (v := .agg #[.bool b9, .slice A9 n9 c9]) (by simp [results, Tryz.results28, go_sem, q0, q1, q2, q3]) rfl ?_
  exact opq_end hR ⟨_, rfl, (by (repeat (first | exact B9 | exact Below.refl _ _ | refine Below.setCell ?_ (by first | (simp; done) | (simp; omega)) _ | refine Below.alloc ?_ (by first | (simp; done) | (simp; omega)) _))), R9.out.only K9.out (by decide) (((Only.refl _ _).set _ _).set _ _)⟩
end Go.Proofs.YtnpfochbpdfcmaaGreatDoor
