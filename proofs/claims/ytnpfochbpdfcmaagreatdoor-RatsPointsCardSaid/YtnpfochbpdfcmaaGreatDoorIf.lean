/- ints: Neg, Cmp, Sign, Of. -/
import Derived.Test.YtnpfochbpdfcmaaGreatDoorIe
set_option linter.unusedVariables false
set_option linter.unusedSimpArgs false
set_option maxRecDepth 100000
namespace Go.Proofs.YtnpfochbpdfcmaaGreatDoor
open Go.RowKit

theorem clone_F {w : World} {v : Value} {N : Nat} (B : Nat) (hB : B ≤ w.heap.size) (h : Can w v N) (hl : L N ≤ 4398046511104) :
    Calls Tryz.prog 61 #[v] w fun e w' => ∃ u, e = .returned u ∧ Below w.heap.size w w' ∧ NatR N B w' u := by
  obtain ⟨A, c, rfl, l, r⟩ := h
  unfold L at hl
  have := clone_fine w A _ c _ r ⟨is32_limbs N, chk_limbs N⟩ (by omega)
  rw [val_limbs] at this
  exact this.mono fun e w' ⟨A', c', e1, h1, h2⟩ => ⟨_, e1, h2.out, h1.out.mono hB⟩
theorem fn_Clone (args : Array Value) (w : World) : (callFunc 61 args).run Tryz.prog w = .ok (.enter 61 args) w := callFunc_enter Tryz.func61 (by kernel_rfl) rfl args w
set_option maxHeartbeats 1000000 in
theorem iNeg_ok {w : World} {v1 : Value} {x : Int} (h1 : IArg w v1 x) :
    Calls Tryz.prog 68 #[v1] w fun e w' => ∃ u, e = .returned u ∧ Below w.heap.size w w' ∧ IntR (-x) w.heap.size w' u := by
  refine opq fun R hR => ?_
  obtain ⟨b1, A1, n1, c1, rfl⟩ := h1.slice
  have S1 := hide h1.size
  replace h1 := hide h1
  go_enter Tryz.func68, Tryz.ntmps68
  go_wp2_with fail
  obtain ⟨W, hW, K1, K2, BW, ZW⟩ := alloc2 w #[.bool b1, .slice A1 n1 c1] #[.bool false, .slice none 0 0] 25 25
  rw [hW]
  clear hW
  refine (iof_F h1.out BW.out).mono ?_
  rintro e w1 ⟨v8, rfl, d1, f8⟩
  have F8 := hide f8
  have B1 := hide (BW.out.trans (d1.mono BW.out.size))
  have K20 := hide (K2.out.below' d1)
  clear f8 d1 K1 K2 ZW
  go_wp2_with fail
  refine (iturned_F (F8.out.below B1.out)).mono ?_
  rintro e w2 ⟨v9, rfl, d2, f9⟩
  have B2 := hide (B1.out.trans (d2.mono B1.out.size))
  have K21 := hide (K20.out.below' d2)
  obtain ⟨u9, e9, hu9⟩ := f9
  obtain ⟨A9, n9, c9, rfl⟩ : ∃ A n c, u9 = .slice A n c := by obtain ⟨A, c, q, _⟩ := hu9; exact ⟨A, _, c, q⟩
  subst e9
  have U9 := hide hu9
  obtain ⟨x1, ex1⟩ : ∃ b, Hid (decide (-x < 0) = b) := ⟨_, rfl⟩
  rw [ex1.out]
  clear hu9 d2 B1 K20
  go_wp2
  obtain ⟨V, hV, KV, BV⟩ : ∃ V, w2.alloc (.cells #[.bool x1, .slice A9 n9 c9] 95) = V ∧ Hid (Blk V w2.heap.size 95 #[.bool x1, .slice A9 n9 c9]) ∧ Hid (Below w2.heap.size w2 V) := ⟨_, rfl, Blk.new _ _ _, (Below.refl _ _).alloc (Nat.le_refl _) _⟩
  rw [hV]
  clear hV
  have UV := hide (U9.out.below BV.out)
  have K22 := hide (K21.out.below' BV.out)
  have BW' := hide (B2.out.trans (BV.out.mono B2.out.size))
  clear U9 K21 B2 BV
  refine wp_region_facts 5 (fun w' => Below V.heap.size V w') [(7, .eq ((.pointer (some ⟨w2.heap.size, 0, none⟩) : Value))), (8, .eq (.bool x1)), (9, .eq ((.pointer (some ⟨w2.heap.size, 1, none⟩) : Value))), (10, (.nat (-x).natAbs)), (11, (.natR (-x).natAbs w.heap.size))] [false, false, false, false, false, false, false, true, true, true, true, true, false] mixed (by kernel_rfl) (by kernel_rfl) (by kernel_rfl) (fun _ _ h hb => h.trans (hb.mono h.size)) ((Below.refl _ _).drew) ⟨?_, ?_, ?_, ?_, ?_, trivial⟩ ?_
  · exact .fieldAddr (.inl rfl) rfl rfl rfl (fun a w' hC hs hl => by rw [show a.eval (.tmp 3) = (.pointer (some ⟨w2.heap.size, 0, none⟩) : Value) from (hs 3 (by kernel_rfl))]; exact fa_whole0)
  · exact .load (.bool x1) (.inl rfl) rfl rfl (fun a w' hC hs hl => by rw [show a.eval (.tmp 7) = (.pointer (some ⟨w2.heap.size, 0, none⟩) : Value) from (hl 7 (by kernel_rfl) (by kernel_rfl))]; exact ⟨ld_bool ((KV.out.below' hC).at_ 0 rfl), rfl⟩)
  · exact .fieldAddr (.inl rfl) rfl rfl rfl (fun a w' hC hs hl => by rw [show a.eval (.tmp 3) = (.pointer (some ⟨w2.heap.size, 0, none⟩) : Value) from (hs 3 (by kernel_rfl))]; exact fa_whole1)
  · exact .load (.slice A9 n9 c9) (.inl rfl) rfl rfl (fun a w' hC hs hl => by rw [show a.eval (.tmp 9) = (.pointer (some ⟨w2.heap.size, 1, none⟩) : Value) from (hl 9 (by kernel_rfl) (by kernel_rfl))]; exact ⟨ld_Nat ((KV.out.below' hC).at_ 1 rfl), UV.out.below hC⟩)
  · exact .call (.inl rfl) rfl rfl fn_Clone (fun a w' hC hs hl => clone_F w.heap.size (Nat.le_trans BW'.out.size hC.size) (hl 10 (by kernel_rfl) (by kernel_rfl)) (L_up (Z_neg S1.out) (by decide)))
  intro f w3 hC hF _
  have f8 : f 8 = .bool x1 := hF 8 (by kernel_rfl)
  have f11 : NatR (-x).natAbs w.heap.size w3 (f 11) := hF 11 (by kernel_rfl)
  clear hF
  simp only [patch, List.drop]
  obtain ⟨A7, c7, e7, _⟩ := f11.can
  have F11 := hide f11
  clear f11
  generalize f 11 = v11 at *
  generalize f 8 = v12 at *
  generalize f 7 = y7 at *
  generalize f 9 = y9 at *
  generalize f 10 = y10 at *
  subst f8 e7
  have K9 := hide (K22.out.below' hC)
  have q0 := K9.out.at_ 0 rfl
  have q1 := K9.out.at_ 1 rfl
  have q2 := K9.out.frozen 0
  have q3 := K9.out.frozen 1
  have B9 := hide (BW'.out.trans (hC.mono BW'.out.size))
  have R9 : Hid (IntR (-x) w.heap.size w3 (.agg #[.bool x1, .slice A7 (limbs (-x).natAbs).length c7])) := ⟨_, by rw [ex1.out], F11.out⟩
  clear hC F11
  generalize (limbs (-x).natAbs).length = n7 at *
  go_wp2
  refine bodyPost_ret (v := .agg #[.bool x1, .slice A7 n7 c7]) (by simp [results, Tryz.results68, go_sem, q0, q1, q2, q3]) rfl ?_
  exact opq_end hR ⟨_, rfl, (by (repeat (first | exact B9 | exact Below.refl _ _ | refine Below.setCell ?_ (by first | (simp; done) | (simp; omega)) _ | refine Below.alloc ?_ (by first | (simp; done) | (simp; omega)) _))), R9.out.only K9.out (by decide) (((Only.refl _ _).set _ _).set _ _)⟩
theorem iSign_ok {w : World} {v1 : Value} {x : Int} (h1 : IArg w v1 x) :
    Calls Tryz.prog 29 #[v1] w fun e w' => ∃ u, e = .returned u ∧ Below w.heap.size w w' ∧ u = .int .i64 (cmpI x 0) := by
  refine opq fun R hR => ?_
  obtain ⟨b1, A1, n1, c1, rfl⟩ := h1.slice
  have S1 := hide h1.size
  replace h1 := hide h1
  have BW := hide ((Below.refl w.heap.size w).alloc (Nat.le_refl _) (.cells #[.bool b1, .slice A1 n1 c1] 25))
  go_enter Tryz.func29, Tryz.ntmps29
  go_wp2_with fail
  refine (iof_F h1.out BW.out).mono ?_
  rintro e w1 ⟨v8, rfl, d1, f8⟩
  have F8 := hide f8
  have B1 := hide (BW.out.trans (d1.mono BW.out.size))
  clear f8 d1
  go_wp2_with fail
  refine (isign_F (F8.out.below B1.out)).mono ?_
  rintro e w2 ⟨v9, rfl, d2, rfl⟩
  have B2 := hide (B1.out.trans (d2.mono B1.out.size))
  clear d2
  go_wp2
  exact opq_end hR ⟨_, rfl, B2, rfl⟩
theorem sgn3 (x : Int) : ∃ s : Int, Hid (cmpI x 0 = s) ∧ (s = -1 ∨ s = 0 ∨ s = 1) ∧ Hid ((s = -1 ↔ x < 0) ∧ (s = 0 ↔ x = 0) ∧ (s = 1 ↔ 0 < x)) := by
  rcases Int.lt_trichotomy x 0 with h | h | h
  · exact ⟨-1, cmpI_lt h, .inl rfl, by show _ ∧ _; omega⟩
  · subst h; exact ⟨0, cmpI_eq 0, .inr (.inl rfl), by show _ ∧ _; omega⟩
  · exact ⟨1, cmpI_gt h, .inr (.inr rfl), by show _ ∧ _; omega⟩
set_option maxHeartbeats 1000000 in
theorem iCmp_ok {w : World} {v1 : Value} {v2 : Value} {x : Int} {y : Int} (h1 : IArg w v1 x) (h2 : IArg w v2 y) :
    Calls Tryz.prog 78 #[v1, v2] w fun e w' => ∃ u, e = .returned u ∧ Below w.heap.size w w' ∧ u = .int .i64 (cmpI x y) := by
  refine opq fun R hR => ?_
  obtain ⟨b1, A1, n1, c1, rfl⟩ := h1.slice
  have S1 := hide h1.size
  replace h1 := hide h1
  obtain ⟨b2, A2, n2, c2, rfl⟩ := h2.slice
  have S2 := hide h2.size
  replace h2 := hide h2
  obtain ⟨sx, hsx, csx, ksx⟩ := sgn3 x
  obtain ⟨sy, hsy, csy, ksy⟩ := sgn3 y
  go_enter Tryz.func78, Tryz.ntmps78
  go_wp2
  obtain ⟨W, hW, K1, K2, BW, ZW⟩ := alloc2 w #[.bool b1, .slice A1 n1 c1] #[.bool b2, .slice A2 n2 c2] 25 25
  rw [hW]
  clear hW
  refine wp_region_facts 6 (fun w' => Below W.heap.size W w') [(7, (.iarg0 w x)), (8, (.int0 w x)), (9, (.iarg0 w y)), (10, (.int0 w y)), (5, (.var 95 #[.bool false, .slice none 0 0] w.heap.size)), (6, (.var 95 #[.bool false, .slice none 0 0] w.heap.size))] [false, false, false, false, false, true, true, true, true, true, true, false, false, false, false, false, false, false, false, false, false, false, false, false, false, false, false, false, false, false, false] mixed (by kernel_rfl) (by kernel_rfl) (by kernel_rfl) (fun _ _ h hb => h.trans (hb.mono h.size)) ((Below.refl _ _).drew) ⟨?_, ?_, ?_, ?_, ?_, ?_, trivial⟩ ?_
  · exact .load (.agg #[.bool b1, .slice A1 n1 c1]) (.inl rfl) rfl rfl (fun a w' hC hs hl => by rw [show a.eval (.tmp 2) = (.pointer (some ⟨w.heap.size, 0, none⟩) : Value) from (hs 2 (by kernel_rfl))]; exact ⟨ld_Int (K1.out.below' hC), h1.out⟩)
  · exact .call (.inl rfl) rfl rfl fn_of (fun a w' hC hs hl => iof_F (hl 7 (by kernel_rfl) (by kernel_rfl)) (BW.out.trans (hC.mono BW.out.size)))
  · exact .load (.agg #[.bool b2, .slice A2 n2 c2]) (.inl rfl) rfl rfl (fun a w' hC hs hl => by rw [show a.eval (.tmp 3) = (.pointer (some ⟨w.heap.size + 1, 0, none⟩) : Value) from (hs 3 (by kernel_rfl))]; exact ⟨ld_Int (K2.out.below' hC), h2.out⟩)
  · exact .call (.inl rfl) rfl rfl fn_of (fun a w' hC hs hl => iof_F (hl 9 (by kernel_rfl) (by kernel_rfl)) (BW.out.trans (hC.mono BW.out.size)))
  · exact .alloc (.agg #[.bool false, .slice none 0 0]) (.inl rfl) rfl rfl (fun a w' hC => ⟨run_alloc_whole _ _ _ _ _ _ _, _, rfl, Nat.le_trans BW.out.size hC.size, Blk.new _ _ _⟩)
  · exact .alloc (.agg #[.bool false, .slice none 0 0]) (.inl rfl) rfl rfl (fun a w' hC => ⟨run_alloc_whole _ _ _ _ _ _ _, _, rfl, Nat.le_trans BW.out.size hC.size, Blk.new _ _ _⟩)
  intro f w1 hC hF hN
  have f8 : ICan w (f 8) x := hF 8 (by kernel_rfl)
  have f10 : ICan w (f 10) y := hF 10 (by kernel_rfl)
  have f5 : ∃ g, f 5 = .pointer (some ⟨g, 0, none⟩) ∧ w.heap.size ≤ g ∧ Blk w1 g 95 #[.bool false, .slice none 0 0] := hF 5 (by kernel_rfl)
  have f6 : ∃ g, f 6 = .pointer (some ⟨g, 0, none⟩) ∧ w.heap.size ≤ g ∧ Blk w1 g 95 #[.bool false, .slice none 0 0] := hF 6 (by kernel_rfl)
  have n56 : f 5 ≠ f 6 := hN 4 5 _ _ 5 6 _ _ (by decide) (by decide) (by decide) rfl rfl rfl rfl rfl rfl rfl rfl
  clear hF hN
  simp only [patch, List.drop]
  obtain ⟨u8, e8, hu8⟩ := f8
  obtain ⟨u10, e10, hu10⟩ := f10
  obtain ⟨g5, e5, l5, k5⟩ := f5
  obtain ⟨g6, e6, l6, k6⟩ := f6
  obtain ⟨A8, n8, c8, rfl⟩ : ∃ A n c, u8 = .slice A n c := by obtain ⟨A, c, q, _⟩ := hu8; exact ⟨A, _, c, q⟩
  obtain ⟨A10, n10, c10, rfl⟩ : ∃ A n c, u10 = .slice A n c := by obtain ⟨A, c, q, _⟩ := hu10; exact ⟨A, _, c, q⟩
  rw [e5, e6] at n56
  have hne : g5 ≠ g6 := fun q => n56 (by rw [q])
  have hne' : g6 ≠ g5 := Ne.symm hne
  clear n56
  have U8 := hide hu8
  have U10 := hide hu10
  clear hu8 hu10
  generalize f 5 = v5 at *
  generalize f 6 = v6 at *
  generalize f 8 = v8 at *
  generalize f 10 = v10 at *
  generalize f 7 = v7 at *
  generalize f 9 = v9 at *
  subst e5 e6 e8 e10
  
  have B9 := hide (BW.out.trans (hC.mono BW.out.size))
  clear hC K1 K2  ZW BW
  have a0 := k5.at_ 0 rfl
  have a1 := k5.at_ 1 rfl
  have a2 := k6.at_ 0 rfl
  have a3 := k6.at_ 1 rfl
  have q0 := k5.frozen 0
  have q1 := k5.frozen 1
  have q2 := k6.frozen 0
  have q3 := k6.frozen 1
  obtain ⟨x1, ex1⟩ : ∃ b, Hid (decide (x < 0) = b) := ⟨_, rfl⟩
  obtain ⟨y1, ey1⟩ : ∃ b, Hid (decide (y < 0) = b) := ⟨_, rfl⟩
  rw [ex1.out, ey1.out]
  have K5 := hide ((((k5.set_ 0 (.bool x1)).set_ 1 (.slice A8 n8 c8)).far (p := ⟨g6, 0, none⟩) hne (.bool y1)).far (p := ⟨g6, 1, none⟩) hne (.slice A10 n10 c10))
  have K6 := hide ((((k6.far (p := ⟨g5, 0, none⟩) hne' (.bool x1)).far (p := ⟨g5, 1, none⟩) hne' (.slice A8 n8 c8)).set_ 0 (.bool y1)).set_ 1 (.slice A10 n10 c10))
  
  have BV := hide ((((B9.out.setCell (p := ⟨g5, 0, none⟩) l5 (.bool x1)).setCell (p := ⟨g5, 1, none⟩) l5 (.slice A8 n8 c8)).setCell (p := ⟨g6, 0, none⟩) l6 (.bool y1)).setCell (p := ⟨g6, 1, none⟩) l6 (.slice A10 n10 c10))
  clear k5 k6 
  go_wp2
  clear a0 a1 a2 a3 q0 q1 q2 q3 B9
  obtain ⟨V, hV⟩ : ∃ V, (((w1.setCell ⟨g5, 0, none⟩ (.bool x1)).setCell ⟨g5, 1, none⟩ (.slice A8 n8 c8)).setCell ⟨g6, 0, none⟩ (.bool y1)).setCell ⟨g6, 1, none⟩ (.slice A10 n10 c10) = V := ⟨_, rfl⟩
  rw [hV] at K5 K6 BV  ⊢
  clear hV
  have L5 : Hid (Blk V g5 95 #[.bool x1, .slice A8 n8 c8]) := K5
  have L6 : Hid (Blk V g6 95 #[.bool y1, .slice A10 n10 c10]) := K6
  clear K5 K6
  refine wp_region_facts 4 (fun w' => Below V.heap.size V w') [(11, (.int0 w x)), (12, .eq (.int .i64 (cmpI x 0))), (13, (.int0 w y)), (14, .eq (.int .i64 (cmpI y 0)))] [false, false, false, false, false, false, false, false, false, false, false, true, true, true, true, false, false, false, false, false, false, false, false, false, false, false, false, false, false, false, false] mixed (by kernel_rfl) (by kernel_rfl) (by kernel_rfl) (fun _ _ h hb => h.trans (hb.mono h.size)) ((Below.refl _ _).drew) ⟨?_, ?_, ?_, ?_, trivial⟩ ?_
  · exact .load (.agg #[.bool x1, .slice A8 n8 c8]) (.inl rfl) rfl rfl (fun a w' hC hs hl => by rw [show a.eval (.tmp 5) = (.pointer (some ⟨g5, 0, none⟩) : Value) from (hs 5 (by kernel_rfl))]; exact ⟨ld_whole (L5.out.below' hC), ⟨_, by rw [ex1.out], U8.out⟩⟩)
  · exact .call (.inl rfl) rfl rfl fn_sign (fun a w' hC hs hl => isign_F ((hl 11 (by kernel_rfl) (by kernel_rfl)).below (BV.out.trans (hC.mono BV.out.size))))
  · exact .load (.agg #[.bool y1, .slice A10 n10 c10]) (.inl rfl) rfl rfl (fun a w' hC hs hl => by rw [show a.eval (.tmp 6) = (.pointer (some ⟨g6, 0, none⟩) : Value) from (hs 6 (by kernel_rfl))]; exact ⟨ld_whole (L6.out.below' hC), ⟨_, by rw [ey1.out], U10.out⟩⟩)
  · exact .call (.inl rfl) rfl rfl fn_sign (fun a w' hC hs hl => isign_F ((hl 13 (by kernel_rfl) (by kernel_rfl)).below (BV.out.trans (hC.mono BV.out.size))))
  intro f w2 hC hF _
  have f12 : f 12 = .int .i64 (cmpI x 0) := hF 12 (by kernel_rfl)
  have f14 : f 14 = .int .i64 (cmpI y 0) := hF 14 (by kernel_rfl)
  rw [hsx.out] at f12
  rw [hsy.out] at f14
  clear hF
  simp only [patch, List.drop]
  generalize f 12 = v12 at *
  generalize f 14 = v14 at *
  generalize f 11 = v11 at *
  generalize f 13 = v13 at *
  subst f12 f14
  have L5' := hide (L5.out.below' hC)
  have L6' := hide (L6.out.below' hC)
  have BV' := hide (BV.out.trans (hC.mono BV.out.size))
  clear hC L5 L6 BV
  by_cases hss : sx = sy
  case neg =>
    have hb : (sx != sy) = true := by simpa using hss
    have hb2 : (sx == sy) = false := by simpa using hss
    have hd : sx - sy ≤ 2 ∧ -2 ≤ sx - sy := by omega
    go_wp2
    refine wp_region_facts 4 (fun w' => Below w2.heap.size w2 w') [(16, (.int0 w x)), (17, .eq (.int .i64 (cmpI x 0))), (18, (.int0 w y)), (19, .eq (.int .i64 (cmpI y 0)))] [false, false, false, false, false, false, false, false, false, false, false, false, false, false, false, false, true, true, true, true, false, false, false, false, false, false, false, false, false, false, false] mixed (by kernel_rfl) (by kernel_rfl) (by kernel_rfl) (fun _ _ h hb => h.trans (hb.mono h.size)) ((Below.refl _ _).drew) ⟨?_, ?_, ?_, ?_, trivial⟩ ?_
    · exact .load (.agg #[.bool x1, .slice A8 n8 c8]) (.inl rfl) rfl rfl (fun a w' hC hs hl => by rw [show a.eval (.tmp 5) = (.pointer (some ⟨g5, 0, none⟩) : Value) from (hs 5 (by kernel_rfl))]; exact ⟨ld_whole (L5'.out.below' hC), ⟨_, by rw [ex1.out], U8.out⟩⟩)
    · exact .call (.inl rfl) rfl rfl fn_sign (fun a w' hC hs hl => isign_F ((hl 16 (by kernel_rfl) (by kernel_rfl)).below (BV'.out.trans (hC.mono BV'.out.size))))
    · exact .load (.agg #[.bool y1, .slice A10 n10 c10]) (.inl rfl) rfl rfl (fun a w' hC hs hl => by rw [show a.eval (.tmp 6) = (.pointer (some ⟨g6, 0, none⟩) : Value) from (hs 6 (by kernel_rfl))]; exact ⟨ld_whole (L6'.out.below' hC), ⟨_, by rw [ey1.out], U10.out⟩⟩)
    · exact .call (.inl rfl) rfl rfl fn_sign (fun a w' hC hs hl => isign_F ((hl 18 (by kernel_rfl) (by kernel_rfl)).below (BV'.out.trans (hC.mono BV'.out.size))))
    intro f w3 hC hF _
    have f17 : f 17 = .int .i64 (cmpI x 0) := hF 17 (by kernel_rfl)
    have f19 : f 19 = .int .i64 (cmpI y 0) := hF 19 (by kernel_rfl)
    rw [hsx.out] at f17
    rw [hsy.out] at f19
    clear hF
    simp only [patch, List.drop]
    generalize f 17 = v17 at *
    generalize f 19 = v19 at *
    generalize f 16 = v16 at *
    generalize f 18 = v18 at *
    subst f17 f19
    have B3 := hide (BV'.out.trans (hC.mono BV'.out.size))
    clear hC L5' L6' BV'
    have hres : Hid (cmpI x y = max (-1) (min 1 (sx - sy))) := by
      obtain ⟨p1, p2, p3⟩ := ksx.out
      obtain ⟨p4, p5, p6⟩ := ksy.out
      show _ = _
      unfold cmpI
      split
      · omega
      · split <;> omega
    obtain ⟨r, hr⟩ : ∃ r, Hid (max (-1) (min 1 (sx - sy)) = r) := ⟨_, rfl⟩
    clear hb hb2 hss
    rcases csx with rfl | rfl | rfl <;> rcases csy with rfl | rfl | rfl
    all_goals
      go_wp2
      exact opq_end hR ⟨_, rfl, B3, by rw [hres.out]; rfl⟩
  case pos =>
    subst hss
    have hb : (sx != sx) = false := by simp
    have hb2 : (sx == sx) = true := by simp
    go_wp2
    refine wp_region_facts 7 (fun w' => Below w2.heap.size w2 w') [(23, .eq ((.pointer (some ⟨g5, 1, none⟩) : Value))), (24, (.nat0 w x.natAbs)), (25, .eq ((.pointer (some ⟨g6, 1, none⟩) : Value))), (26, (.nat0 w y.natAbs)), (27, .eq (.int .i64 (cmpN x.natAbs y.natAbs))), (28, (.int0 w x)), (29, .eq (.int .i64 (cmpI x 0)))] [false, false, false, false, false, false, false, false, false, false, false, false, false, false, false, false, false, false, false, false, false, false, false, true, true, true, true, true, true, true, false] mixed (by kernel_rfl) (by kernel_rfl) (by kernel_rfl) (fun _ _ h hb => h.trans (hb.mono h.size)) ((Below.refl _ _).drew) ⟨?_, ?_, ?_, ?_, ?_, ?_, ?_, trivial⟩ ?_
    · exact .fieldAddr (.inl rfl) rfl rfl rfl (fun a w' hC hs hl => by rw [show a.eval (.tmp 5) = (.pointer (some ⟨g5, 0, none⟩) : Value) from (hs 5 (by kernel_rfl))]; exact fa_whole1)
    · exact .load (.slice A8 n8 c8) (.inl rfl) rfl rfl (fun a w' hC hs hl => by rw [show a.eval (.tmp 23) = (.pointer (some ⟨g5, 1, none⟩) : Value) from (hl 23 (by kernel_rfl) (by kernel_rfl))]; exact ⟨ld_Nat ((L5'.out.below' hC).at_ 1 rfl), U8.out⟩)
    · exact .fieldAddr (.inl rfl) rfl rfl rfl (fun a w' hC hs hl => by rw [show a.eval (.tmp 6) = (.pointer (some ⟨g6, 0, none⟩) : Value) from (hs 6 (by kernel_rfl))]; exact fa_whole1)
    · exact .load (.slice A10 n10 c10) (.inl rfl) rfl rfl (fun a w' hC hs hl => by rw [show a.eval (.tmp 25) = (.pointer (some ⟨g6, 1, none⟩) : Value) from (hl 25 (by kernel_rfl) (by kernel_rfl))]; exact ⟨ld_Nat ((L6'.out.below' hC).at_ 1 rfl), U10.out⟩)
    · exact .call (.inl rfl) rfl rfl fn_Cmp (fun a w' hC hs hl => nCmp_F ((hl 24 (by kernel_rfl) (by kernel_rfl)).below (BV'.out.trans (hC.mono BV'.out.size))) ((hl 26 (by kernel_rfl) (by kernel_rfl)).below (BV'.out.trans (hC.mono BV'.out.size))) (L_up S1.out (by decide)) (L_up S2.out (by decide)))
    · exact .load (.agg #[.bool x1, .slice A8 n8 c8]) (.inl rfl) rfl rfl (fun a w' hC hs hl => by rw [show a.eval (.tmp 5) = (.pointer (some ⟨g5, 0, none⟩) : Value) from (hs 5 (by kernel_rfl))]; exact ⟨ld_whole (L5'.out.below' hC), ⟨_, by rw [ex1.out], U8.out⟩⟩)
    · exact .call (.inl rfl) rfl rfl fn_sign (fun a w' hC hs hl => isign_F ((hl 28 (by kernel_rfl) (by kernel_rfl)).below (BV'.out.trans (hC.mono BV'.out.size))))
    intro f w3 hC hF _
    have f27 : f 27 = .int .i64 (cmpN x.natAbs y.natAbs) := hF 27 (by kernel_rfl)
    have f29 : f 29 = .int .i64 (cmpI x 0) := hF 29 (by kernel_rfl)
    rw [hsx.out] at f29
    clear hF
    simp only [patch, List.drop]
    generalize f 27 = v27 at *
    generalize f 29 = v29 at *
    generalize f 23 = v23 at *
    generalize f 24 = v24 at *
    generalize f 25 = v25 at *
    generalize f 26 = v26 at *
    generalize f 28 = v28 at *
    subst f27 f29
    have B3 := hide (BV'.out.trans (hC.mono BV'.out.size))
    clear hC L5' L6' BV'
    have hres : Hid (cmpI x y = cmpN x.natAbs y.natAbs * sx) := by
      obtain ⟨p1, p2, p3⟩ := ksx.out
      obtain ⟨p4, p5, p6⟩ := ksy.out
      show _ = _
      unfold cmpI cmpN
      rcases csx with rfl | rfl | rfl <;> (repeat' split) <;> omega
    have hr : cmpN x.natAbs y.natAbs = -1 ∨ cmpN x.natAbs y.natAbs = 0 ∨ cmpN x.natAbs y.natAbs = 1 := by unfold cmpN; (repeat' split) <;> omega
    clear hb hb2
    generalize cmpN x.natAbs y.natAbs = r at *
    rcases csx with rfl | rfl | rfl <;> rcases hr with rfl | rfl | rfl
    all_goals
      go_wp2
      exact opq_end hR ⟨_, rfl, B3, by rw [hres.out]; rfl⟩
end Go.Proofs.YtnpfochbpdfcmaaGreatDoor
