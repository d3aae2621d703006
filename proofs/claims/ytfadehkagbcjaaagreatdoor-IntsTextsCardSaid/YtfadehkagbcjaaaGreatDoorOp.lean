/- the laws of ints: IntsTexts. -/
import Derived.Test.YtfadehkagbcjaaaGreatDoorBq
import Derived.Test.YtfadehkagbcjaaaGreatDoorSd
set_option linter.unusedVariables false
set_option linter.unusedSimpArgs false
set_option maxRecDepth 100000
namespace Go.Proofs.YtfadehkagbcjaaaGreatDoor
open Go.RowKit

theorem fp_assayerlaw01_LeftInt (args : Array Value) (w : World) : (callFunc 28 args).run Tryz.prog w = .ok (.enter 28 args) w := callFunc_enter Tryz.func28 (by kernel_rfl) rfl args w
theorem fp_assayerlaw01_SameInt (args : Array Value) (w : World) : (callFunc 23 args).run Tryz.prog w = .ok (.enter 23 args) w := callFunc_enter Tryz.func23 (by kernel_rfl) rfl args w
theorem fp_assayerref02_Check (args : Array Value) (w : World) : (callFunc 103 args).run Tryz.prog w = .ok (.enter 103 args) w := callFunc_enter Tryz.func103 (by kernel_rfl) rfl args w
theorem fp_assayerref02_Of (args : Array Value) (w : World) : (callFunc 106 args).run Tryz.prog w = .ok (.enter 106 args) w := callFunc_enter Tryz.func106 (by kernel_rfl) rfl args w
theorem fp_assayerref02_Text (args : Array Value) (w : World) : (callFunc 105 args).run Tryz.prog w = .ok (.enter 105 args) w := callFunc_enter Tryz.func105 (by kernel_rfl) rfl args w
theorem fp_ints_Check (args : Array Value) (w : World) : (callFunc 102 args).run Tryz.prog w = .ok (.enter 102 args) w := callFunc_enter Tryz.func102 (by kernel_rfl) rfl args w
theorem fp_ints_Text (args : Array Value) (w : World) : (callFunc 104 args).run Tryz.prog w = .ok (.enter 104 args) w := callFunc_enter Tryz.func104 (by kernel_rfl) rfl args w
set_option maxHeartbeats 8000000 in
theorem IntsTexts_ok (w : World) (b1 : Bool) (A1 : Option Addr) (n1 c1 : Nat) (xs1 : List Nat) (s : ByteArray) (m : Int) (h1 : Rd w A1 n1 xs1) (i1 : Is32 xs1) (l1 : n1 ≤ c1) (hs : s.size ≤ 9223372036854775807) (hm0 : -9223372036854775808 ≤ m) (hm1 : m < 9223372036854775808) :
    Calls Tryz.prog 11 #[.agg #[.bool b1, .slice A1 n1 c1], .string s, .int .i64 m] w fun e w' => e = .returned (.bool true) ∧ Hid (Below w.heap.size w w') := by
  refine opq fun R hR => ?_
  have m1 := h1.2.1
  have r1 := hide h1
  replace i1 := hide i1
  clear h1
  have b0 := hide ((Below.refl w.heap.size w).alloc (Nat.le_refl _) (.cells #[.bool b1, .slice A1 n1 c1] 25))
  have K1 := hide (Blk.new w 25 #[.bool b1, .slice A1 n1 c1])
  go_enter Tryz.func11, Tryz.ntmps11
  obtain ⟨gg, hgg⟩ : ∃ gg, decide (200 < n1) = gg := ⟨_, rfl⟩
  replace hgg := hide hgg
  go_wp2_with fail
  obtain ⟨W, hW⟩ : ∃ W, w.alloc (.cells #[.bool b1, .slice A1 n1 c1] 25) = W := ⟨_, rfl⟩
  have ZW : W.heap.size = w.heap.size + 1 := by rw [← hW]; simp
  rw [hW] at b0 K1
  rw [hW, ← ZW]
  clear hW ZW
  refine (igreat1 (w := W) rfl gg hgg.out).mono ?_
  rintro e w1 ⟨_, rfl, dG, rfl⟩
  replace K1 := hide ((K1.out.below' ((Below.refl _ _).alloc (Nat.le_refl _) _)).below' dG)
  replace b0 := hide (below_tr (b0.out.alloc b0.out.size _) dG)
  clear dG
  by_cases hg : 200 < n1
  · rw [show gg = true by rw [← hgg.out]; simpa using hg]
    go_wp2
    exact opq_end hR ⟨rfl, b0⟩
  rw [show gg = false by rw [← hgg.out]; simpa using hg]
  clear hgg
  have g1 : n1 ≤ 200 := by omega
  clear hg
  by_cases hbs : 1048576 < s.size
  · go_wp2_with fail
    refine (beyond1 rfl hs true (by simpa using hbs)).mono ?_
    rintro e w2 ⟨_, rfl, d0, rfl⟩
    have b1' := hide (below_tr (b0.out.alloc b0.out.size _) d0)
    go_wp2
    exact opq_end hR ⟨rfl, b1'⟩
  go_wp2_with fail
  refine (beyond1 rfl hs false (by simpa using hbs)).mono ?_
  rintro e U ⟨_, rfl, d0, rfl⟩
  replace K1 := hide ((K1.out.below' ((Below.refl _ _).alloc (Nat.le_refl _) _)).below' d0)
  replace b0 := hide (below_tr (b0.out.alloc b0.out.size _) d0)
  clear d0 hbs
  have P1 : Hid (Prt U (.slice A1 n1 c1) xs1) := ⟨A1, n1, c1, rfl, l1, by omega, r1.out.below b0.out, i1.out⟩
  have x1 : Hid (xs1.length ≤ 1000) := by show _ ≤ _; rw [r1.out.1]; omega
  have I1 : Hid (IPrt U (.agg #[.bool b1, .slice A1 n1 c1]) b1 xs1) := ⟨_, rfl, P1.out⟩
  have e1 : Hid (L (iv b1 xs1).natAbs ≤ 200) := Nat.le_trans (iv_L i1.out) (by rw [r1.out.1]; exact g1)
  obtain ⟨bv, hbv⟩ : ∃ k, Hid (bakV b1 xs1 = k) := ⟨_, rfl⟩
  obtain ⟨bk, hbk⟩ : ∃ k, Hid (bakK b1 xs1 = k) := ⟨_, rfl⟩
  obtain ⟨pk, hpk⟩ : ∃ k, Hid (ipK s = k) := ⟨_, rfl⟩
  obtain ⟨cc, hcc⟩ : ∃ k, Hid (iok b1 xs1 = k) := ⟨_, rfl⟩
  obtain ⟨tt, htt⟩ : ∃ k, Hid (itxB (iv b1 xs1) = k) := ⟨_, rfl⟩
  replace hs := hide hs
  replace hm0 := hide hm0
  replace hm1 := hide hm1
  have H : Hid (HW w.heap.size U []) := HW.nil _ _
  clear r1 i1
  have vK10 : U.cell? ⟨w.heap.size, 0, none⟩ = some (.bool b1) := K1.out.at_ 0 rfl
  have vK11 : U.cell? ⟨w.heap.size, 1, none⟩ = some (.slice A1 n1 c1) := K1.out.at_ 1 rfl
  go_wp2_with fail
  clear vK10 vK11
  refine (ip_twin P1.out (by omega)).mono ?_
  rintro e w2 ⟨X, cx, rfl, d1, TX⟩
  obtain ⟨_, lr⟩ := TX.lrow
  replace H : Hid (HW w.heap.size w2 ([] ++ [⟨X, n1, cx, none, 0, 0, 0 + 1⟩])) := HW.next H.out d1.out lr b0.out.size (by omega) (by omega)
  clear lr
  replace P1 := hide (P1.out.below d1.out)
  replace I1 := hide (I1.out.below d1.out)
  replace K1 := hide (K1.out.below' d1.out)
  replace b0 := hide (below_tr b0.out d1.out)
  clear d1
  replace TX := hide TX
  have J1 : Hid (IPrt w2 (.agg #[.bool b1, .slice X n1 cx]) b1 xs1) := ⟨_, rfl, TX.out.prt⟩
  have dA := (Below.refl w2.heap.size w2).alloc (Nat.le_refl _) (.cells #[.bool b1, .slice X n1 cx] 25)
  have KX := hide (Blk.new w2 25 #[.bool b1, .slice X n1 cx])
  replace P1 := hide (P1.out.below dA)
  replace I1 := hide (I1.out.below dA)
  replace TX := hide (TX.out.below dA)
  replace J1 := hide (J1.out.below dA)
  replace K1 := hide (K1.out.below' dA)
  replace H := hide (H.out.below dA)
  replace b0 := hide (below_tr b0.out dA)
  clear dA
  have vKX0 : (w2.alloc (.cells #[.bool b1, .slice X n1 cx] 25)).cell? ⟨w2.heap.size, 0, none⟩ = some (.bool b1) := KX.out.at_ 0 rfl
  have vKX1 : (w2.alloc (.cells #[.bool b1, .slice X n1 cx] 25)).cell? ⟨w2.heap.size, 1, none⟩ = some (.slice X n1 cx) := KX.out.at_ 1 rfl
  go_wp2_with fail
  clear vKX0 vKX1
  obtain ⟨V1, hV⟩ : ∃ V, (w2.alloc (.cells #[.bool b1, .slice X n1 cx] 25)) = V := ⟨_, rfl⟩
  obtain ⟨gKX, hg⟩ : ∃ g, w2.heap.size = g := ⟨_, rfl⟩
  rw [hV] at P1 I1 TX J1 K1 KX b0 H
  rw [hg] at KX
  rw [hV, hg]
  clear hV hg
  refine (ip_Back J1.out x1.out).mono ?_
  rintro e w3 ⟨rfl, d1⟩
  replace H := hide (H.out.below d1.out)
  replace P1 := hide (P1.out.below d1.out)
  replace I1 := hide (I1.out.below d1.out)
  replace TX := hide (TX.out.below d1.out)
  replace J1 := hide (J1.out.below d1.out)
  replace K1 := hide (K1.out.below' d1.out)
  replace KX := hide (KX.out.below' d1.out)
  replace b0 := hide (below_tr b0.out d1.out)
  clear d1
  rw [hbv.out, hbk.out]
  have vK10 : w3.cell? ⟨w.heap.size, 0, none⟩ = some (.bool b1) := K1.out.at_ 0 rfl
  have vK11 : w3.cell? ⟨w.heap.size, 1, none⟩ = some (.slice A1 n1 c1) := K1.out.at_ 1 rfl
  go_wp2_with fail
  clear vK10 vK11
  refine (iq_Back I1.out x1.out).mono ?_
  rintro e w4 ⟨rfl, d1⟩
  replace H := hide (H.out.below d1.out)
  replace P1 := hide (P1.out.below d1.out)
  replace I1 := hide (I1.out.below d1.out)
  replace TX := hide (TX.out.below d1.out)
  replace J1 := hide (J1.out.below d1.out)
  replace K1 := hide (K1.out.below' d1.out)
  replace KX := hide (KX.out.below' d1.out)
  replace b0 := hide (below_tr b0.out d1.out)
  clear d1
  rw [hbv.out, hbk.out]
  go_wp2_with fail
  refine (ip_Parse _ s hs.out).mono ?_
  rintro e w5 ⟨sP, P, nP, cP, rfl, d1, FP⟩
  obtain ⟨_, lr⟩ := FP.lrow
  replace H : Hid (HW w.heap.size w5 ([] ++ [⟨X, n1, cx, none, 0, 0, 0 + 1⟩] ++ [⟨P, nP, cP, none, 0, 0, 0 + 1 + 1⟩])) := HW.next H.out d1.out lr b0.out.size (by rw [intR_len FP]; exact Nat.le_trans (L_ipV s) (by decide)) (by omega)
  clear lr
  replace P1 := hide (P1.out.below d1.out)
  replace I1 := hide (I1.out.below d1.out)
  replace TX := hide (TX.out.below d1.out)
  replace J1 := hide (J1.out.below d1.out)
  replace K1 := hide (K1.out.below' d1.out)
  replace KX := hide (KX.out.below' d1.out)
  replace b0 := hide (below_tr b0.out d1.out)
  clear d1
  replace FP := hide FP
  have dA := (Below.refl w5.heap.size w5).alloc (Nat.le_refl _) (.cells #[.bool sP, .slice P nP cP] 25)
  have KP := hide (Blk.new w5 25 #[.bool sP, .slice P nP cP])
  replace P1 := hide (P1.out.below dA)
  replace I1 := hide (I1.out.below dA)
  replace TX := hide (TX.out.below dA)
  replace J1 := hide (J1.out.below dA)
  replace FP := hide (FP.out.below dA)
  replace K1 := hide (K1.out.below' dA)
  replace KX := hide (KX.out.below' dA)
  replace H := hide (H.out.below dA)
  replace b0 := hide (below_tr b0.out dA)
  clear dA
  rw [hpk.out]
  go_wp2_with fail
  obtain ⟨V2, hV⟩ : ∃ V, (w5.alloc (.cells #[.bool sP, .slice P nP cP] 25)) = V := ⟨_, rfl⟩
  obtain ⟨gKP, hg⟩ : ∃ g, w5.heap.size = g := ⟨_, rfl⟩
  rw [hV] at P1 I1 TX J1 FP K1 KX KP b0 H
  rw [hg] at KP
  rw [hV, hg]
  clear hV hg
  refine (iq_Parse _ s hs.out).mono ?_
  rintro e w6 ⟨sQ, Q, nQ, cQ, rfl, d1, FQ⟩
  replace H := hide (H.out.below d1.out)
  replace P1 := hide (P1.out.below d1.out)
  replace I1 := hide (I1.out.below d1.out)
  replace TX := hide (TX.out.below d1.out)
  replace J1 := hide (J1.out.below d1.out)
  replace FP := hide (FP.out.below d1.out)
  replace K1 := hide (K1.out.below' d1.out)
  replace KX := hide (KX.out.below' d1.out)
  replace KP := hide (KP.out.below' d1.out)
  replace b0 := hide (below_tr b0.out d1.out)
  clear d1
  replace FQ := hide FQ
  have dA := (Below.refl w6.heap.size w6).alloc (Nat.le_refl _) (.cells #[.bool sQ, .slice Q nQ cQ] 25)
  have KQ := hide (Blk.new w6 25 #[.bool sQ, .slice Q nQ cQ])
  replace P1 := hide (P1.out.below dA)
  replace I1 := hide (I1.out.below dA)
  replace TX := hide (TX.out.below dA)
  replace J1 := hide (J1.out.below dA)
  replace FP := hide (FP.out.below dA)
  replace FQ := hide (FQ.out.below dA)
  replace K1 := hide (K1.out.below' dA)
  replace KX := hide (KX.out.below' dA)
  replace KP := hide (KP.out.below' dA)
  replace H := hide (H.out.below dA)
  replace b0 := hide (below_tr b0.out dA)
  clear dA
  rw [hpk.out]
  go_wp2_with fail
  obtain ⟨V3, hV⟩ : ∃ V, (w6.alloc (.cells #[.bool sQ, .slice Q nQ cQ] 25)) = V := ⟨_, rfl⟩
  obtain ⟨gKQ, hg⟩ : ∃ g, w6.heap.size = g := ⟨_, rfl⟩
  rw [hV] at P1 I1 TX J1 FP FQ K1 KX KP KQ b0 H
  rw [hg] at KQ
  rw [hV, hg]
  clear hV hg
  refine (ip_Of _ m hm0.out hm1.out).mono ?_
  rintro e w7 ⟨sO, O, nO, cO, rfl, d1, FO⟩
  obtain ⟨_, lr⟩ := FO.lrow
  replace H : Hid (HW w.heap.size w7 ([] ++ [⟨X, n1, cx, none, 0, 0, 0 + 1⟩] ++ [⟨P, nP, cP, none, 0, 0, 0 + 1 + 1⟩] ++ [⟨O, nO, cO, none, 0, 0, 0 + 1 + 1 + 1⟩])) := HW.next H.out d1.out lr b0.out.size (by rw [intR_len FO]; exact Nat.le_trans (L_i64 hm0.out hm1.out) (by decide)) (by omega)
  clear lr
  replace P1 := hide (P1.out.below d1.out)
  replace I1 := hide (I1.out.below d1.out)
  replace TX := hide (TX.out.below d1.out)
  replace J1 := hide (J1.out.below d1.out)
  replace FP := hide (FP.out.below d1.out)
  replace FQ := hide (FQ.out.below d1.out)
  replace K1 := hide (K1.out.below' d1.out)
  replace KX := hide (KX.out.below' d1.out)
  replace KP := hide (KP.out.below' d1.out)
  replace KQ := hide (KQ.out.below' d1.out)
  replace b0 := hide (below_tr b0.out d1.out)
  clear d1
  replace FO := hide FO
  have dA := (Below.refl w7.heap.size w7).alloc (Nat.le_refl _) (.cells #[.bool sO, .slice O nO cO] 25)
  have KO := hide (Blk.new w7 25 #[.bool sO, .slice O nO cO])
  replace P1 := hide (P1.out.below dA)
  replace I1 := hide (I1.out.below dA)
  replace TX := hide (TX.out.below dA)
  replace J1 := hide (J1.out.below dA)
  replace FP := hide (FP.out.below dA)
  replace FQ := hide (FQ.out.below dA)
  replace FO := hide (FO.out.below dA)
  replace K1 := hide (K1.out.below' dA)
  replace KX := hide (KX.out.below' dA)
  replace KP := hide (KP.out.below' dA)
  replace KQ := hide (KQ.out.below' dA)
  replace H := hide (H.out.below dA)
  replace b0 := hide (below_tr b0.out dA)
  clear dA
  go_wp2_with fail
  obtain ⟨V4, hV⟩ : ∃ V, (w7.alloc (.cells #[.bool sO, .slice O nO cO] 25)) = V := ⟨_, rfl⟩
  obtain ⟨gKO, hg⟩ : ∃ g, w7.heap.size = g := ⟨_, rfl⟩
  rw [hV] at P1 I1 TX J1 FP FQ FO K1 KX KP KQ KO b0 H
  rw [hg] at KO
  rw [hV, hg]
  clear hV hg
  refine wp_region_facts 46 (fun w' => Below V4.heap.size V4 w') [(51, .eq (.agg #[.bool b1, .slice X n1 cx])), (52, .eq (.bool cc)), (53, .eq (.agg #[.bool b1, .slice A1 n1 c1])), (54, .eq (.bool cc)), (55, .eq (.bool false)), (56, .eq (.bool false)), (57, .eq (.int .i64 bv)), (58, .eq (.int .i64 bv)), (59, .eq (.bool false)), (60, .eq (.bool false)), (61, .eq (.bool false)), (62, .eq (.int .i64 bk)), (63, .eq (.int .i64 bk)), (64, .eq (.bool false)), (65, .eq (.bool false)), (66, .eq (.bool false)), (67, .eq (.agg #[.bool b1, .slice X n1 cx])), (68, .eq (.string tt)), (69, .eq (.agg #[.bool b1, .slice A1 n1 c1])), (70, .eq (.string tt)), (71, .eq (.bool false)), (72, .eq (.bool false)), (73, .eq (.bool false)), (74, .eq (.agg #[.bool sP, .slice P nP cP])), (75, .eq (.agg #[.bool sQ, .slice Q nQ cQ])), (76, .eq (.bool true)), (77, .eq (.bool false)), (78, .eq (.bool false)), (79, .eq (.bool false)), (80, .eq (.int .i64 pk)), (81, .eq (.int .i64 pk)), (82, .eq (.bool false)), (83, .eq (.bool false)), (84, .eq (.bool false)), (85, .eq (.agg #[.bool sO, .slice O nO cO])), (86, .eq (.int .i64 m)), (87, (.int m)), (88, .eq (.bool true)), (89, .eq (.bool false)), (90, .eq (.bool false)), (91, .eq (.bool false)), (92, .eq (.agg #[.bool b1, .slice X n1 cx])), (93, .eq (.agg #[.bool b1, .slice A1 n1 c1])), (94, .eq (.bool true)), (95, .eq (.bool false)), (96, .eq (.bool false))] [false, false, false, false, false, false, false, false, false, false, false, false, false, false, false, false, false, false, false, false, false, false, false, false, false, false, false, false, false, false, false, false, false, false, false, false, false, false, false, false, false, false, false, false, false, false, false, false, false, false, false, true, true, true, true, true, true, true, true, true, true, true, true, true, true, true, true, true, true, true, true, true, true, true, true, true, true, true, true, true, true, true, true, true, true, true, true, true, true, true, true, true, true, true, true, true, true, false, false, false, false, false, false, false, false] mixed (by kernel_rfl) (by kernel_rfl) (by kernel_rfl) (fun _ _ h hb => h.trans (hb.mono h.size)) ((Below.refl _ _).drew) ⟨?_, ?_, ?_, ?_, ?_, ?_, ?_, ?_, ?_, ?_, ?_, ?_, ?_, ?_, ?_, ?_, ?_, ?_, ?_, ?_, ?_, ?_, ?_, ?_, ?_, ?_, ?_, ?_, ?_, ?_, ?_, ?_, ?_, ?_, ?_, ?_, ?_, ?_, ?_, ?_, ?_, ?_, ?_, ?_, ?_, ?_, trivial⟩ ?_
  · exact .load (.agg #[.bool b1, .slice X n1 cx]) (.inl rfl) rfl rfl (fun a w' hC hs hl => by rw [show a.eval (.tmp 7) = (.pointer (some ⟨gKX, 0, none⟩) : Value) from (hs 7 (by kernel_rfl))]; exact ⟨ld_Int_ ((KX.out.below' hC).at_ 0 rfl) ((KX.out.below' hC).at_ 1 rfl), rfl⟩)
  · exact .call (.inl rfl) rfl rfl fp_ints_Check (fun a w' hC hs hl => by
      show Calls _ _ #[a.eval (.tmp 51)] _ _
      rw [show a.eval (.tmp 51) = (.agg #[.bool b1, .slice X n1 cx] : Value) from (hl 51 (by kernel_rfl) (by kernel_rfl))]
      exact ip_CheckV (J1.out.below hC) hcc.out)
  · exact .load (.agg #[.bool b1, .slice A1 n1 c1]) (.inl rfl) rfl rfl (fun a w' hC hs hl => by rw [show a.eval (.tmp 3) = (.pointer (some ⟨w.heap.size, 0, none⟩) : Value) from (hs 3 (by kernel_rfl))]; exact ⟨ld_Int_ ((K1.out.below' hC).at_ 0 rfl) ((K1.out.below' hC).at_ 1 rfl), rfl⟩)
  · exact .call (.inl rfl) rfl rfl fp_assayerref02_Check (fun a w' hC hs hl => by
      show Calls _ _ #[a.eval (.tmp 53)] _ _
      rw [show a.eval (.tmp 53) = (.agg #[.bool b1, .slice A1 n1 c1] : Value) from (hl 53 (by kernel_rfl) (by kernel_rfl))]
      exact iq_CheckV (I1.out.below hC) hcc.out)
  · exact .value (.inl rfl) (by intro T e; cases e) rfl rfl (fun a w' hC hs hl => by
      have e0 : a.eval (.tmp 52) = (.bool cc) := (hl 52 (by kernel_rfl) (by kernel_rfl))
      have e1 : a.eval (.tmp 54) = (.bool cc) := (hl 54 (by kernel_rfl) (by kernel_rfl))
      simp only [execOp, e0, e1]
      skip
      simp [go_sem] <;> rfl)
  · exact .move (.inl rfl) (.inl rfl) rfl (by kernel_rfl) (by kernel_rfl) rfl
  · exact .moveC (.inr ⟨5, false, 56, by decide, rfl, rfl, rfl⟩) (.inl rfl) rfl (fun a w' hC hs => (hs 8 (by kernel_rfl)))
  · exact .moveC (.inr ⟨5, false, 56, by decide, rfl, rfl, rfl⟩) (.inl rfl) rfl (fun a w' hC hs => (hs 10 (by kernel_rfl)))
  · exact .value (.inr ⟨5, false, 56, by decide, rfl, rfl, rfl⟩) (by intro T e; cases e) rfl rfl (fun a w' hC hs hl => by
      have e0 : a.eval (.tmp 57) = (.int .i64 bv) := (hl 57 (by kernel_rfl) (by kernel_rfl))
      have e1 : a.eval (.tmp 58) = (.int .i64 bv) := (hl 58 (by kernel_rfl) (by kernel_rfl))
      simp only [execOp, e0, e1]
      skip
      simp [go_sem] <;> rfl)
  · exact .pick (b := false) (.inl rfl) rfl rfl (fun a w' hC hs hl => ⟨(hl 56 (by kernel_rfl) (by kernel_rfl)), (hl 59 (by kernel_rfl) (by kernel_rfl))⟩)
  · exact .move (.inl rfl) (.inl rfl) rfl (by kernel_rfl) (by kernel_rfl) rfl
  · exact .moveC (.inr ⟨10, false, 61, by decide, rfl, rfl, rfl⟩) (.inl rfl) rfl (fun a w' hC hs => (hs 9 (by kernel_rfl)))
  · exact .moveC (.inr ⟨10, false, 61, by decide, rfl, rfl, rfl⟩) (.inl rfl) rfl (fun a w' hC hs => (hs 11 (by kernel_rfl)))
  · exact .value (.inr ⟨10, false, 61, by decide, rfl, rfl, rfl⟩) (by intro T e; cases e) rfl rfl (fun a w' hC hs hl => by
      have e0 : a.eval (.tmp 62) = (.int .i64 bk) := (hl 62 (by kernel_rfl) (by kernel_rfl))
      have e1 : a.eval (.tmp 63) = (.int .i64 bk) := (hl 63 (by kernel_rfl) (by kernel_rfl))
      simp only [execOp, e0, e1]
      skip
      simp [go_sem] <;> rfl)
  · exact .pick (b := false) (.inl rfl) rfl rfl (fun a w' hC hs hl => ⟨(hl 61 (by kernel_rfl) (by kernel_rfl)), (hl 64 (by kernel_rfl) (by kernel_rfl))⟩)
  · exact .move (.inl rfl) (.inl rfl) rfl (by kernel_rfl) (by kernel_rfl) rfl
  · exact .load (.agg #[.bool b1, .slice X n1 cx]) (.inr ⟨15, false, 66, by decide, rfl, rfl, rfl⟩) rfl rfl (fun a w' hC hs hl => by rw [show a.eval (.tmp 7) = (.pointer (some ⟨gKX, 0, none⟩) : Value) from (hs 7 (by kernel_rfl))]; exact ⟨ld_Int_ ((KX.out.below' hC).at_ 0 rfl) ((KX.out.below' hC).at_ 1 rfl), rfl⟩)
  · exact .call (.inr ⟨15, false, 66, by decide, rfl, rfl, rfl⟩) rfl rfl fp_ints_Text (fun a w' hC hs hl => by
      show Calls _ _ #[a.eval (.tmp 67)] _ _
      rw [show a.eval (.tmp 67) = (.agg #[.bool b1, .slice X n1 cx] : Value) from (hl 67 (by kernel_rfl) (by kernel_rfl))]
      exact ip_TextV ⟨b1, xs1, J1.out.below hC, Nat.le_trans x1.out (by decide), rfl⟩ (Nat.le_trans e1.out (by decide)) htt.out)
  · exact .load (.agg #[.bool b1, .slice A1 n1 c1]) (.inr ⟨15, false, 66, by decide, rfl, rfl, rfl⟩) rfl rfl (fun a w' hC hs hl => by rw [show a.eval (.tmp 3) = (.pointer (some ⟨w.heap.size, 0, none⟩) : Value) from (hs 3 (by kernel_rfl))]; exact ⟨ld_Int_ ((K1.out.below' hC).at_ 0 rfl) ((K1.out.below' hC).at_ 1 rfl), rfl⟩)
  · exact .call (.inr ⟨15, false, 66, by decide, rfl, rfl, rfl⟩) rfl rfl fp_assayerref02_Text (fun a w' hC hs hl => by
      show Calls _ _ #[a.eval (.tmp 69)] _ _
      rw [show a.eval (.tmp 69) = (.agg #[.bool b1, .slice A1 n1 c1] : Value) from (hl 69 (by kernel_rfl) (by kernel_rfl))]
      exact iq_TextV ⟨b1, xs1, I1.out.below hC, Nat.le_trans x1.out (by decide), rfl⟩ (Nat.le_trans e1.out (by decide)) htt.out)
  · exact .value (.inr ⟨15, false, 66, by decide, rfl, rfl, rfl⟩) (by intro T e; cases e) rfl rfl (fun a w' hC hs hl => by
      have e0 : a.eval (.tmp 68) = (.string tt) := (hl 68 (by kernel_rfl) (by kernel_rfl))
      have e1 : a.eval (.tmp 70) = (.string tt) := (hl 70 (by kernel_rfl) (by kernel_rfl))
      simp only [execOp, e0, e1]
      skip
      simp [go_sem] <;> rfl)
  · exact .pick (b := false) (.inl rfl) rfl rfl (fun a w' hC hs hl => ⟨(hl 66 (by kernel_rfl) (by kernel_rfl)), (hl 71 (by kernel_rfl) (by kernel_rfl))⟩)
  · exact .move (.inl rfl) (.inl rfl) rfl (by kernel_rfl) (by kernel_rfl) rfl
  · exact .load (.agg #[.bool sP, .slice P nP cP]) (.inr ⟨22, false, 73, by decide, rfl, rfl, rfl⟩) rfl rfl (fun a w' hC hs hl => by rw [show a.eval (.tmp 12) = (.pointer (some ⟨gKP, 0, none⟩) : Value) from (hs 12 (by kernel_rfl))]; exact ⟨ld_Int_ ((KP.out.below' hC).at_ 0 rfl) ((KP.out.below' hC).at_ 1 rfl), rfl⟩)
  · exact .load (.agg #[.bool sQ, .slice Q nQ cQ]) (.inr ⟨22, false, 73, by decide, rfl, rfl, rfl⟩) rfl rfl (fun a w' hC hs hl => by rw [show a.eval (.tmp 14) = (.pointer (some ⟨gKQ, 0, none⟩) : Value) from (hs 14 (by kernel_rfl))]; exact ⟨ld_Int_ ((KQ.out.below' hC).at_ 0 rfl) ((KQ.out.below' hC).at_ 1 rfl), rfl⟩)
  · exact .call (.inr ⟨22, false, 73, by decide, rfl, rfl, rfl⟩) rfl rfl fp_assayerlaw01_SameInt (fun a w' hC hs hl => by
      show Calls _ _ #[a.eval (.tmp 74), a.eval (.tmp 75)] _ _
      rw [show a.eval (.tmp 74) = (.agg #[.bool sP, .slice P nP cP] : Value) from (hl 74 (by kernel_rfl) (by kernel_rfl)), show a.eval (.tmp 75) = (.agg #[.bool sQ, .slice Q nQ cQ] : Value) from (hl 75 (by kernel_rfl) (by kernel_rfl))]
      exact sameInt_yes (FP.out.can.below hC) (FQ.out.can.below hC))
  · exact .value (.inr ⟨22, false, 73, by decide, rfl, rfl, rfl⟩) (by intro T e; cases e) rfl rfl (fun a w' hC hs hl => by
      have e0 : a.eval (.tmp 76) = (.bool true) := (hl 76 (by kernel_rfl) (by kernel_rfl))
      simp only [execOp, e0]
      skip
      simp [go_sem] <;> rfl)
  · exact .pick (b := false) (.inl rfl) rfl rfl (fun a w' hC hs hl => ⟨(hl 73 (by kernel_rfl) (by kernel_rfl)), (hl 77 (by kernel_rfl) (by kernel_rfl))⟩)
  · exact .move (.inl rfl) (.inl rfl) rfl (by kernel_rfl) (by kernel_rfl) rfl
  · exact .moveC (.inr ⟨28, false, 79, by decide, rfl, rfl, rfl⟩) (.inl rfl) rfl (fun a w' hC hs => (hs 13 (by kernel_rfl)))
  · exact .moveC (.inr ⟨28, false, 79, by decide, rfl, rfl, rfl⟩) (.inl rfl) rfl (fun a w' hC hs => (hs 15 (by kernel_rfl)))
  · exact .value (.inr ⟨28, false, 79, by decide, rfl, rfl, rfl⟩) (by intro T e; cases e) rfl rfl (fun a w' hC hs hl => by
      have e0 : a.eval (.tmp 80) = (.int .i64 pk) := (hl 80 (by kernel_rfl) (by kernel_rfl))
      have e1 : a.eval (.tmp 81) = (.int .i64 pk) := (hl 81 (by kernel_rfl) (by kernel_rfl))
      simp only [execOp, e0, e1]
      skip
      simp [go_sem] <;> rfl)
  · exact .pick (b := false) (.inl rfl) rfl rfl (fun a w' hC hs hl => ⟨(hl 79 (by kernel_rfl) (by kernel_rfl)), (hl 82 (by kernel_rfl) (by kernel_rfl))⟩)
  · exact .move (.inl rfl) (.inl rfl) rfl (by kernel_rfl) (by kernel_rfl) rfl
  · exact .load (.agg #[.bool sO, .slice O nO cO]) (.inr ⟨33, false, 84, by decide, rfl, rfl, rfl⟩) rfl rfl (fun a w' hC hs hl => by rw [show a.eval (.tmp 16) = (.pointer (some ⟨gKO, 0, none⟩) : Value) from (hs 16 (by kernel_rfl))]; exact ⟨ld_Int_ ((KO.out.below' hC).at_ 0 rfl) ((KO.out.below' hC).at_ 1 rfl), rfl⟩)
  · exact .moveC (.inr ⟨33, false, 84, by decide, rfl, rfl, rfl⟩) (.inl rfl) rfl (fun a w' hC hs => (hs 2 (by kernel_rfl)))
  · exact .call (.inr ⟨33, false, 84, by decide, rfl, rfl, rfl⟩) rfl rfl fp_assayerref02_Of (fun a w' hC hs hl => by
      show Calls _ _ #[a.eval (.tmp 86)] _ _
      rw [show a.eval (.tmp 86) = (.int .i64 m : Value) from (hl 86 (by kernel_rfl) (by kernel_rfl))]
      exact iq_OfC _ m hm0.out hm1.out)
  · exact .call (.inr ⟨33, false, 84, by decide, rfl, rfl, rfl⟩) rfl rfl fp_assayerlaw01_SameInt (fun a w' hC hs hl => by
      show Calls _ _ #[a.eval (.tmp 85), a.eval (.tmp 87)] _ _
      rw [show a.eval (.tmp 85) = (.agg #[.bool sO, .slice O nO cO] : Value) from (hl 85 (by kernel_rfl) (by kernel_rfl))]
      exact sameInt_yes (FO.out.can.below hC) (hl 87 (by kernel_rfl) (by kernel_rfl)))
  · exact .value (.inr ⟨33, false, 84, by decide, rfl, rfl, rfl⟩) (by intro T e; cases e) rfl rfl (fun a w' hC hs hl => by
      have e0 : a.eval (.tmp 88) = (.bool true) := (hl 88 (by kernel_rfl) (by kernel_rfl))
      simp only [execOp, e0]
      skip
      simp [go_sem] <;> rfl)
  · exact .pick (b := false) (.inl rfl) rfl rfl (fun a w' hC hs hl => ⟨(hl 84 (by kernel_rfl) (by kernel_rfl)), (hl 89 (by kernel_rfl) (by kernel_rfl))⟩)
  · exact .move (.inl rfl) (.inl rfl) rfl (by kernel_rfl) (by kernel_rfl) rfl
  · exact .load (.agg #[.bool b1, .slice X n1 cx]) (.inr ⟨40, false, 91, by decide, rfl, rfl, rfl⟩) rfl rfl (fun a w' hC hs hl => by rw [show a.eval (.tmp 7) = (.pointer (some ⟨gKX, 0, none⟩) : Value) from (hs 7 (by kernel_rfl))]; exact ⟨ld_Int_ ((KX.out.below' hC).at_ 0 rfl) ((KX.out.below' hC).at_ 1 rfl), rfl⟩)
  · exact .load (.agg #[.bool b1, .slice A1 n1 c1]) (.inr ⟨40, false, 91, by decide, rfl, rfl, rfl⟩) rfl rfl (fun a w' hC hs hl => by rw [show a.eval (.tmp 3) = (.pointer (some ⟨w.heap.size, 0, none⟩) : Value) from (hs 3 (by kernel_rfl))]; exact ⟨ld_Int_ ((K1.out.below' hC).at_ 0 rfl) ((K1.out.below' hC).at_ 1 rfl), rfl⟩)
  · exact .call (.inr ⟨40, false, 91, by decide, rfl, rfl, rfl⟩) rfl rfl fp_assayerlaw01_LeftInt (fun a w' hC hs hl => by
      show Calls _ _ #[a.eval (.tmp 92), a.eval (.tmp 93)] _ _
      rw [show a.eval (.tmp 92) = (.agg #[.bool b1, .slice X n1 cx] : Value) from (hl 92 (by kernel_rfl) (by kernel_rfl)), show a.eval (.tmp 93) = (.agg #[.bool b1, .slice A1 n1 c1] : Value) from (hl 93 (by kernel_rfl) (by kernel_rfl))]
      exact left_C (TX.out.below hC) (P1.out.below hC))
  · exact .value (.inr ⟨40, false, 91, by decide, rfl, rfl, rfl⟩) (by intro T e; cases e) rfl rfl (fun a w' hC hs hl => by
      have e0 : a.eval (.tmp 94) = (.bool true) := (hl 94 (by kernel_rfl) (by kernel_rfl))
      simp only [execOp, e0]
      skip
      simp [go_sem] <;> rfl)
  · exact .pick (b := false) (.inl rfl) rfl rfl (fun a w' hC hs hl => ⟨(hl 91 (by kernel_rfl) (by kernel_rfl)), (hl 95 (by kernel_rfl) (by kernel_rfl))⟩)
  intro f w9 hC hF _
  have fz : f 96 = .bool false := hF 96 (by kernel_rfl)
  clear hF
  simp only [patch, List.drop]
  rw [fz]
  clear fz
  replace P1 := hide (P1.out.below hC)
  replace I1 := hide (I1.out.below hC)
  replace TX := hide (TX.out.below hC)
  replace J1 := hide (J1.out.below hC)
  replace FP := hide (FP.out.below hC)
  replace FQ := hide (FQ.out.below hC)
  replace FO := hide (FO.out.below hC)
  replace K1 := hide (K1.out.below' hC)
  replace KX := hide (KX.out.below' hC)
  replace KP := hide (KP.out.below' hC)
  replace KQ := hide (KQ.out.below' hC)
  replace KO := hide (KO.out.below' hC)
  replace H := hide (H.out.below hC)
  replace b0 := hide (b0.out.trans (hC.mono b0.out.size))
  clear hC
  have bB := hide b0.out.size
  have K : Hid (BookAt w.heap.size (w9.alloc (.cells #[.int .i64 0, .slice none 0 0, .slice none 0 0, .slice none 0 0, .slice none 0 0, .slice none 0 0, .slice none 0 0, .slice none 0 0, .slice none 0 0, .slice none 0 0, .slice none 0 0, .slice none 0 0, .slice none 0 0] TBK)) w9.heap.size 0 (.slice none 0 0) []) := BookAt.new bB.out
  obtain ⟨hi, hhi⟩ : ∃ hi, hi = w9.heap.size := ⟨_, rfl⟩
  have H0 : HB w.heap.size w9.heap.size w9 ([] ++ [⟨X, n1, cx, none, 0, 0, 0 + 1⟩] ++ [⟨P, nP, cP, none, 0, 0, 0 + 1 + 1⟩] ++ [⟨O, nO, cO, none, 0, 0, 0 + 1 + 1 + 1⟩]) := H.out
  rw [← hhi] at H0
  replace hhi := hide hhi
  have dB := hide ((Below.refl w9.heap.size w9).alloc (Nat.le_refl _) (.cells #[.int .i64 0, .slice none 0 0, .slice none 0 0, .slice none 0 0, .slice none 0 0, .slice none 0 0, .slice none 0 0, .slice none 0 0, .slice none 0 0, .slice none 0 0, .slice none 0 0, .slice none 0 0, .slice none 0 0] TBK))
  replace H : Hid (HB w.heap.size hi (w9.alloc (.cells #[.int .i64 0, .slice none 0 0, .slice none 0 0, .slice none 0 0, .slice none 0 0, .slice none 0 0, .slice none 0 0, .slice none 0 0, .slice none 0 0, .slice none 0 0, .slice none 0 0, .slice none 0 0, .slice none 0 0] TBK)) ([] ++ [⟨X, n1, cx, none, 0, 0, 0 + 1⟩] ++ [⟨P, nP, cP, none, 0, 0, 0 + 1 + 1⟩] ++ [⟨O, nO, cO, none, 0, 0, 0 + 1 + 1 + 1⟩])) := H0.bel dB.out
  replace K1 := hide (K1.out.below' dB.out)
  replace KX := hide (KX.out.below' dB.out)
  replace KP := hide (KP.out.below' dB.out)
  replace KQ := hide (KQ.out.below' dB.out)
  replace KO := hide (KO.out.below' dB.out)
  replace b0 := hide (below_tr b0.out dB.out)
  clear dB H0 bB
  clear P1 I1 TX J1 FP FQ FO
  have vKX0 : (w9.alloc (.cells #[.int .i64 0, .slice none 0 0, .slice none 0 0, .slice none 0 0, .slice none 0 0, .slice none 0 0, .slice none 0 0, .slice none 0 0, .slice none 0 0, .slice none 0 0, .slice none 0 0, .slice none 0 0, .slice none 0 0] TBK)).cell? ⟨gKX, 0, none⟩ = some (.bool b1) := KX.out.at_ 0 rfl
  have vKX1 : (w9.alloc (.cells #[.int .i64 0, .slice none 0 0, .slice none 0 0, .slice none 0 0, .slice none 0 0, .slice none 0 0, .slice none 0 0, .slice none 0 0, .slice none 0 0, .slice none 0 0, .slice none 0 0, .slice none 0 0, .slice none 0 0] TBK)).cell? ⟨gKX, 1, none⟩ = some (.slice X n1 cx) := KX.out.at_ 1 rfl
  go_wp2_with fail
  clear vKX0 vKX1
  obtain ⟨V, hV⟩ : ∃ V, w9.alloc (.cells #[.int .i64 0, .slice none 0 0, .slice none 0 0, .slice none 0 0, .slice none 0 0, .slice none 0 0, .slice none 0 0, .slice none 0 0, .slice none 0 0, .slice none 0 0, .slice none 0 0, .slice none 0 0, .slice none 0 0] TBK) = V := ⟨_, rfl⟩
  obtain ⟨g, hg⟩ : ∃ g, w9.heap.size = g := ⟨_, rfl⟩
  rw [hV, hg] at K
  rw [hV] at b0 H K1 KX KP KQ KO
  rw [hV, hg]
  clear hV hg hhi
  refine (bookInt_ok _ w.heap.size g (0) _ ([]) b0.out.size K.out b1 X n1 cx (by omega) (by simp)).mono ?_
  rintro e W0 ⟨⟨_, rfl⟩, k1, v0, k2⟩
  replace K := hide k2
  replace H := hide (H.out.kp k1)
  replace b0 := hide (b0.out.trans k1.base)
  replace K1 := hide (k1.nums _ _ _ (by decide) (by decide) K1.out)
  replace KX := hide (k1.nums _ _ _ (by decide) (by decide) KX.out)
  replace KP := hide (k1.nums _ _ _ (by decide) (by decide) KP.out)
  replace KQ := hide (k1.nums _ _ _ (by decide) (by decide) KQ.out)
  replace KO := hide (k1.nums _ _ _ (by decide) (by decide) KO.out)
  clear k1 k2
  have vKP0 : W0.cell? ⟨gKP, 0, none⟩ = some (.bool sP) := KP.out.at_ 0 rfl
  have vKP1 : W0.cell? ⟨gKP, 1, none⟩ = some (.slice P nP cP) := KP.out.at_ 1 rfl
  go_wp2_with fail
  clear vKP0 vKP1
  refine (bookInt_ok _ w.heap.size g (0 + 1) _ ([] ++ [⟨X, n1, cx, none, 0, 0, 0 + 1⟩]) b0.out.size K.out sP P nP cP (by omega) (by simp)).mono ?_
  rintro e W1 ⟨⟨_, rfl⟩, k1, v1, k2⟩
  replace K := hide k2
  replace H := hide (H.out.kp k1)
  replace b0 := hide (b0.out.trans k1.base)
  replace K1 := hide (k1.nums _ _ _ (by decide) (by decide) K1.out)
  replace KX := hide (k1.nums _ _ _ (by decide) (by decide) KX.out)
  replace KP := hide (k1.nums _ _ _ (by decide) (by decide) KP.out)
  replace KQ := hide (k1.nums _ _ _ (by decide) (by decide) KQ.out)
  replace KO := hide (k1.nums _ _ _ (by decide) (by decide) KO.out)
  clear k1 k2
  have vKO0 : W1.cell? ⟨gKO, 0, none⟩ = some (.bool sO) := KO.out.at_ 0 rfl
  have vKO1 : W1.cell? ⟨gKO, 1, none⟩ = some (.slice O nO cO) := KO.out.at_ 1 rfl
  go_wp2_with fail
  clear vKO0 vKO1
  refine (bookInt_ok _ w.heap.size g (0 + 1 + 1) _ ([] ++ [⟨X, n1, cx, none, 0, 0, 0 + 1⟩] ++ [⟨P, nP, cP, none, 0, 0, 0 + 1 + 1⟩]) b0.out.size K.out sO O nO cO (by omega) (by simp)).mono ?_
  rintro e W2 ⟨⟨_, rfl⟩, k1, v2, k2⟩
  replace K := hide k2
  replace H := hide (H.out.kp k1)
  replace b0 := hide (b0.out.trans k1.base)
  replace K1 := hide (k1.nums _ _ _ (by decide) (by decide) K1.out)
  replace KX := hide (k1.nums _ _ _ (by decide) (by decide) KX.out)
  replace KP := hide (k1.nums _ _ _ (by decide) (by decide) KP.out)
  replace KQ := hide (k1.nums _ _ _ (by decide) (by decide) KQ.out)
  replace KO := hide (k1.nums _ _ _ (by decide) (by decide) KO.out)
  clear k1 k2
  clear K1 KX KP KQ KO
  go_wp2_with fail
  refine (Apart_ok _ w.heap.size g (0 + 1 + 1 + 1) hi _ ([] ++ [⟨X, n1, cx, none, 0, 0, 0 + 1⟩] ++ [⟨P, nP, cP, none, 0, 0, 0 + 1 + 1⟩] ++ [⟨O, nO, cO, none, 0, 0, 0 + 1 + 1 + 1⟩]) b0.out.size K.out H.out (by simp)).mono ?_
  rintro e WW ⟨rfl, k1⟩
  replace b0 := hide (b0.out.trans k1)
  clear k1 K H
  go_wp2
  exact opq_end hR ⟨rfl, b0⟩
end Go.Proofs.YtfadehkagbcjaaaGreatDoor
