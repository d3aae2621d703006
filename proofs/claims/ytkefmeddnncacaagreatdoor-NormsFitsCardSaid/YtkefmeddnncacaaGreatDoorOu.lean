/- the laws of norms: NormsFits. -/
import Derived.Test.YtkefmeddnncacaaGreatDoorGN
set_option linter.unusedVariables false
set_option linter.unusedSimpArgs false
set_option maxRecDepth 100000
namespace Go.Proofs.YtkefmeddnncacaaGreatDoor
open Go.RowKit

theorem fou_assayerlaw01_LeftNorm (args : Array Value) (w : World) : (callFunc 51 args).run Tryz.prog w = .ok (.enter 51 args) w := callFunc_enter Tryz.func51 (by kernel_rfl) rfl args w
theorem fou_assayerlaw01_LeftRats (args : Array Value) (w : World) : (callFunc 34 args).run Tryz.prog w = .ok (.enter 34 args) w := callFunc_enter Tryz.func34 (by kernel_rfl) rfl args w
theorem fou_assayerref09_Check (args : Array Value) (w : World) : (callFunc 46 args).run Tryz.prog w = .ok (.enter 46 args) w := callFunc_enter Tryz.func46 (by kernel_rfl) rfl args w
theorem fou_assayerref09_Fits (args : Array Value) (w : World) : (callFunc 48 args).run Tryz.prog w = .ok (.enter 48 args) w := callFunc_enter Tryz.func48 (by kernel_rfl) rfl args w
theorem fou_assayerref09_Whole (args : Array Value) (w : World) : (callFunc 50 args).run Tryz.prog w = .ok (.enter 50 args) w := callFunc_enter Tryz.func50 (by kernel_rfl) rfl args w
theorem fou_norms_Check (args : Array Value) (w : World) : (callFunc 45 args).run Tryz.prog w = .ok (.enter 45 args) w := callFunc_enter Tryz.func45 (by kernel_rfl) rfl args w
theorem fou_norms_Fits (args : Array Value) (w : World) : (callFunc 47 args).run Tryz.prog w = .ok (.enter 47 args) w := callFunc_enter Tryz.func47 (by kernel_rfl) rfl args w
theorem fou_norms_Whole (args : Array Value) (w : World) : (callFunc 49 args).run Tryz.prog w = .ok (.enter 49 args) w := callFunc_enter Tryz.func49 (by kernel_rfl) rfl args w
set_option maxHeartbeats 8000000 in
theorem NormsFits_ok (w : World) (AL : Option Addr) (nL cL : Nat) (AR : Option Addr) (nR cR : Nat) (AG : Option Addr) (nG cG : Nat) (AW : Option Addr) (nW cW : Nat) (N : RN) (AX : Option Addr) (nX cX : Nat) (x : List Raw) (h : NRw w AL nL cL AR nR cR AG nG cG AW nW cW N) (hx : Lst RRw w (.slice AX nX cX) x) (hT : Tab w) :
    Calls Tryz.prog 6 #[.agg #[.slice AL nL cL, .slice AR nR cR, .slice AG nG cG, .slice AW nW cW], .slice AX nX cX] w fun e w' => e = .returned (.bool true) ∧ Hid (Below w.heap.size w w') := by
  refine opq fun R hR => ?_
  have T := hide hT
  clear hT
  have lX := hide hx.len
  have bX : nX ≤ 140737488355328 := by
    rw [← lX.out]
    exact hx.le_
  replace h := hide h
  replace hx := hide hx
  have K := hide (Blk.new w 70 #[.slice AL nL cL, .slice AR nR cR, .slice AG nG cG, .slice AW nW cW])
  have b0 := hide ((Below.refl w.heap.size w).alloc (Nat.le_refl _) (.cells #[.slice AL nL cL, .slice AR nR cR, .slice AG nG cG, .slice AW nW cW] 70))
  go_enter Tryz.func6, Tryz.ntmps6
  have c0 := K.out.at_ 0 rfl
  have c1 := K.out.at_ 1 rfl
  have c2 := K.out.at_ 2 rfl
  have c3 := K.out.at_ 3 rfl
  by_cases g1 : 200 < nL
  · have z1 : (nL : Int) > 200 := by omega
    go_wp2
    exact opq_end hR ⟨rfl, b0⟩
  have z1 : ¬ ((nL : Int) > 200) := by omega
  go_wp2_with fail
  refine (NormSize_ok (h.out.below b0.out)).mono ?_
  rintro e w1 ⟨r, rfl, cnt, d0⟩
  replace b0 := hide (below_tr b0.out d0)
  replace K := hide (K.out.below' d0)
  clear d0 c0 c1 c2 c3
  by_cases g2 : 3000 < r
  · have z2 : (r : Int) > 3000 := by omega
    go_wp2
    exact opq_end hR ⟨rfl, b0⟩
  have z2 : ¬ ((r : Int) > 3000) := by omega
  have hsz : Hid (nsz N ≤ 3000) := (by have := cnt.2; omega : nsz N ≤ 3000)
  by_cases g3 : 50 < nX
  · have z3 : (nX : Int) > 50 := by omega
    go_wp2
    exact opq_end hR ⟨rfl, b0⟩
  have z3 : ¬ ((nX : Int) > 50) := by omega
  clear cnt
  go_wp2_with fail
  refine (RatsSize_any _ AX nX cX x (hx.out.rw_below b0.out)).mono ?_
  rintro e w2 ⟨q, rfl, cnt, _, d0⟩
  replace b0 := hide (below_tr b0.out d0)
  replace K := hide (K.out.below' d0)
  clear d0
  by_cases g4 : 500 < q
  · have z4 : (q : Int) > 500 := by omega
    go_wp2
    exact opq_end hR ⟨rfl, b0⟩
  have z4 : ¬ ((q : Int) > 500) := by omega
  have sx : Hid (tsz x ≤ 500) := (by have := cnt.2; omega : tsz x ≤ 500)
  have vX : nX ≤ 50 := by omega
  clear cnt
  have NO := hide ((h.out.st hsz.out).below b0.out)
  have XO := hide ((hx.out.rawW 500 sx.out (by decide)).1.raw_below b0.out)
  have XA := hide ((hx.out.argW 500 sx.out (by decide)).arg_below b0.out)
  have SM := hide (smE_k (Nat.le_trans sx.out (show 500 ≤ 100000 by decide)))
  clear h hx
  have c0 := K.out.at_ 0 rfl
  have c1 := K.out.at_ 1 rfl
  have c2 := K.out.at_ 2 rfl
  have c3 := K.out.at_ 3 rfl
  go_wp2_with fail
  refine (twinNorm_ok NO.out hsz.out).mono ?_
  rintro e w3 ⟨XL, dL, XR, dR, XG, dG, XW, dW, rfl, d0, t0⟩
  have yy : Below w3.heap.size w3 (w3.alloc (.cells #[.slice XL nL dL, .slice XR nR dR, .slice XG nG dG, .slice XW nW dW] 70)) := (Below.refl _ _).alloc (Nat.le_refl _) _
  have D := hide (below_tr d0 yy)
  have TW := hide (t0.below yy)
  have K5 := hide (Blk.new w3 70 #[.slice XL nL dL, .slice XR nR dR, .slice XG nG dG, .slice XW nW dW])
  replace b0 := hide (below_tr b0.out D.out)
  replace K := hide (K.out.below' D.out)
  replace NO := hide (NO.out.below D.out)
  replace XO := hide (XO.out.raw_below D.out)
  replace XA := hide (XA.out.arg_below D.out)
  clear d0 yy t0 D c0 c1 c2 c3
  go_wp2_with fail
  refine (twinRats_n lX.out XO.out (by omega) SM.out).mono ?_
  rintro e W5 ⟨XX, dX, us, rfl, d0, XT⟩
  replace XT := hide XT
  replace TW := hide (TW.out.below d0)
  replace K5 := hide (K5.out.below' d0)
  replace b0 := hide (below_tr b0.out d0)
  replace K := hide (K.out.below' d0)
  replace NO := hide (NO.out.below d0)
  replace XO := hide (XO.out.raw_below d0)
  replace XA := hide (XA.out.arg_below d0)
  clear d0
  have NT := hide (TW.out.st (by have := NO.out.l.len; omega))
  obtain ⟨p5, hp5⟩ : ∃ p5, w3.heap.size = p5 := ⟨_, rfl⟩
  rw [hp5] at K5
  rw [hp5]
  clear hp5
  have P0 : Hid (W5.cell? ⟨w.heap.size, 0, none⟩ = some (.slice AL nL cL)) := K.out.at_ 0 rfl
  have Q0 : Hid (W5.cell? ⟨p5, 0, none⟩ = some (.slice XL nL dL)) := K5.out.at_ 0 rfl
  have P1 : Hid (W5.cell? ⟨w.heap.size, 1, none⟩ = some (.slice AR nR cR)) := K.out.at_ 1 rfl
  have Q1 : Hid (W5.cell? ⟨p5, 1, none⟩ = some (.slice XR nR dR)) := K5.out.at_ 1 rfl
  have P2 : Hid (W5.cell? ⟨w.heap.size, 2, none⟩ = some (.slice AG nG cG)) := K.out.at_ 2 rfl
  have Q2 : Hid (W5.cell? ⟨p5, 2, none⟩ = some (.slice XG nG dG)) := K5.out.at_ 2 rfl
  have P3 : Hid (W5.cell? ⟨w.heap.size, 3, none⟩ = some (.slice AW nW cW)) := K.out.at_ 3 rfl
  have Q3 : Hid (W5.cell? ⟨p5, 3, none⟩ = some (.slice XW nW dW)) := K5.out.at_ 3 rfl
  obtain ⟨r1, e1⟩ : ∃ r1, Hid (nok N = r1) := ⟨_, rfl⟩
  obtain ⟨r2, e2⟩ : ∃ r2, Hid (nfits N x = r2) := ⟨_, rfl⟩
  obtain ⟨r3, e3⟩ : ∃ r3, Hid (nwhole N x = r3) := ⟨_, rfl⟩
  clear K K5 SM z1 z2 z3 z4
  go_wp2
  refine wp_region_facts 34 (fun w' => Below W5.heap.size W5 w') [(30, .eq (.agg #[.slice XL nL dL, .slice XR nR dR, .slice XG nG dG, .slice XW nW dW])), (31, .eq (.bool r1)), (32, .eq (.agg #[.slice AL nL cL, .slice AR nR cR, .slice AG nG cG, .slice AW nW cW])), (33, .eq (.bool r1)), (34, .eq (.bool true)), (35, .eq (.bool true)), (36, .eq (.agg #[.slice XL nL dL, .slice XR nR dR, .slice XG nG dG, .slice XW nW dW])), (37, .eq (.slice XX nX dX)), (38, .eq (.bool r2)), (39, .eq (.agg #[.slice AL nL cL, .slice AR nR cR, .slice AG nG cG, .slice AW nW cW])), (40, .eq (.slice AX nX cX)), (41, .eq (.bool r2)), (42, .eq (.bool true)), (43, .eq (.bool true)), (44, .eq (.bool true)), (45, .eq (.agg #[.slice XL nL dL, .slice XR nR dR, .slice XG nG dG, .slice XW nW dW])), (46, .eq (.slice XX nX dX)), (47, .eq (.bool r3)), (48, .eq (.agg #[.slice AL nL cL, .slice AR nR cR, .slice AG nG cG, .slice AW nW cW])), (49, .eq (.slice AX nX cX)), (50, .eq (.bool r3)), (51, .eq (.bool true)), (52, .eq (.bool true)), (53, .eq (.bool true)), (54, .eq (.agg #[.slice XL nL dL, .slice XR nR dR, .slice XG nG dG, .slice XW nW dW])), (55, .eq (.agg #[.slice AL nL cL, .slice AR nR cR, .slice AG nG cG, .slice AW nW cW])), (56, .eq (.bool true)), (57, .eq (.bool true)), (58, .eq (.bool true)), (59, .eq (.slice XX nX dX)), (60, .eq (.slice AX nX cX)), (61, .eq (.bool true)), (62, .eq (.bool true)), (4, .eq (.bool true))] [false, false, false, false, true, false, false, false, false, false, false, false, false, false, false, false, false, false, false, false, false, false, false, false, false, false, false, false, false, false, true, true, true, true, true, true, true, true, true, true, true, true, true, true, true, true, true, true, true, true, true, true, true, true, true, true, true, true, true, true, true, true, true] mixed (by kernel_rfl) (by kernel_rfl) (by kernel_rfl) (fun _ _ h hb => h.trans (hb.mono h.size)) ((Below.refl _ _).drew) ⟨?_, ?_, ?_, ?_, ?_, ?_, ?_, ?_, ?_, ?_, ?_, ?_, ?_, ?_, ?_, ?_, ?_, ?_, ?_, ?_, ?_, ?_, ?_, ?_, ?_, ?_, ?_, ?_, ?_, ?_, ?_, ?_, ?_, ?_, trivial⟩ ?_
  · exact .load (.agg #[.slice XL nL dL, .slice XR nR dR, .slice XG nG dG, .slice XW nW dW]) (.inl rfl) rfl rfl (fun a w' hC hs hl => by rw [show a.eval (.tmp 5) = (.pointer (some ⟨p5, 0, none⟩) : Value) from (hs 5 (by kernel_rfl))]; exact ⟨by simp [go_sem, cell_below hC Q0.out, cell_below hC Q1.out, cell_below hC Q2.out, cell_below hC Q3.out], rfl⟩)
  · exact .call (.inl rfl) rfl rfl fou_norms_Check (fun a w' hC hs hl => by
      show Calls _ _ #[a.eval (.tmp 30)] _ _
      rw [show a.eval (.tmp 30) = (.agg #[.slice XL nL dL, .slice XR nR dR, .slice XG nG dG, .slice XW nW dW] : Value) from (hl 30 (by kernel_rfl) (by kernel_rfl))]
      exact normCheck_ok (NT.out.below hC) (T.out.below (below_tr b0.out hC)) r1 e1.out)
  · exact .load (.agg #[.slice AL nL cL, .slice AR nR cR, .slice AG nG cG, .slice AW nW cW]) (.inl rfl) rfl rfl (fun a w' hC hs hl => by rw [show a.eval (.tmp 2) = (.pointer (some ⟨w.heap.size, 0, none⟩) : Value) from (hs 2 (by kernel_rfl))]; exact ⟨by simp [go_sem, cell_below hC P0.out, cell_below hC P1.out, cell_below hC P2.out, cell_below hC P3.out], rfl⟩)
  · exact .call (.inl rfl) rfl rfl fou_assayerref09_Check (fun a w' hC hs hl => by
      show Calls _ _ #[a.eval (.tmp 32)] _ _
      rw [show a.eval (.tmp 32) = (.agg #[.slice AL nL cL, .slice AR nR cR, .slice AG nG cG, .slice AW nW cW] : Value) from (hl 32 (by kernel_rfl) (by kernel_rfl))]
      exact qnormCheck_ok (NO.out.below hC) r1 e1.out)
  · exact .value (.inl rfl) (by intro T e; cases e) rfl rfl (fun a w' hC hs hl => by
      have e0 : a.eval (.tmp 31) = (.bool r1) := (hl 31 (by kernel_rfl) (by kernel_rfl))
      have e1 : a.eval (.tmp 33) = (.bool r1) := (hl 33 (by kernel_rfl) (by kernel_rfl))
      simp only [execOp, e0, e1]
      skip
      simp [go_sem, beq_self_eq_true])
  · exact .move (.inl rfl) (.inl rfl) rfl (by kernel_rfl) (by kernel_rfl) rfl
  · exact .load (.agg #[.slice XL nL dL, .slice XR nR dR, .slice XG nG dG, .slice XW nW dW]) (.inr ⟨5, true, 35, by decide, rfl, rfl, rfl⟩) rfl rfl (fun a w' hC hs hl => by rw [show a.eval (.tmp 5) = (.pointer (some ⟨p5, 0, none⟩) : Value) from (hs 5 (by kernel_rfl))]; exact ⟨by simp [go_sem, cell_below hC Q0.out, cell_below hC Q1.out, cell_below hC Q2.out, cell_below hC Q3.out], rfl⟩)
  · exact .moveC (.inr ⟨5, true, 35, by decide, rfl, rfl, rfl⟩) (.inl rfl) rfl (fun a w' hC hs => (hs 6 (by kernel_rfl)))
  · exact .call (.inr ⟨5, true, 35, by decide, rfl, rfl, rfl⟩) rfl rfl fou_norms_Fits (fun a w' hC hs hl => by
      show Calls _ _ #[a.eval (.tmp 36), a.eval (.tmp 37)] _ _
      rw [show a.eval (.tmp 36) = (.agg #[.slice XL nL dL, .slice XR nR dR, .slice XG nG dG, .slice XW nW dW] : Value) from (hl 36 (by kernel_rfl) (by kernel_rfl)), show a.eval (.tmp 37) = (.slice XX nX dX : Value) from (hl 37 (by kernel_rfl) (by kernel_rfl))]
      exact normFits_ok (NT.out.below hC) hsz.out (XT.out.lst.raw_below hC) (XT.out.argl.arg_below hC) sx.out (T.out.below (below_tr b0.out hC)) r2 e2.out)
  · exact .load (.agg #[.slice AL nL cL, .slice AR nR cR, .slice AG nG cG, .slice AW nW cW]) (.inr ⟨5, true, 35, by decide, rfl, rfl, rfl⟩) rfl rfl (fun a w' hC hs hl => by rw [show a.eval (.tmp 2) = (.pointer (some ⟨w.heap.size, 0, none⟩) : Value) from (hs 2 (by kernel_rfl))]; exact ⟨by simp [go_sem, cell_below hC P0.out, cell_below hC P1.out, cell_below hC P2.out, cell_below hC P3.out], rfl⟩)
  · exact .moveC (.inr ⟨5, true, 35, by decide, rfl, rfl, rfl⟩) (.inl rfl) rfl (fun a w' hC hs => (hs 1 (by kernel_rfl)))
  · exact .call (.inr ⟨5, true, 35, by decide, rfl, rfl, rfl⟩) rfl rfl fou_assayerref09_Fits (fun a w' hC hs hl => by
      show Calls _ _ #[a.eval (.tmp 39), a.eval (.tmp 40)] _ _
      rw [show a.eval (.tmp 39) = (.agg #[.slice AL nL cL, .slice AR nR cR, .slice AG nG cG, .slice AW nW cW] : Value) from (hl 39 (by kernel_rfl) (by kernel_rfl)), show a.eval (.tmp 40) = (.slice AX nX cX : Value) from (hl 40 (by kernel_rfl) (by kernel_rfl))]
      exact qnormFits_ok (NO.out.below hC) hsz.out (XO.out.raw_below hC) (XA.out.arg_below hC) sx.out r2 e2.out)
  · exact .value (.inr ⟨5, true, 35, by decide, rfl, rfl, rfl⟩) (by intro T e; cases e) rfl rfl (fun a w' hC hs hl => by
      have e0 : a.eval (.tmp 38) = (.bool r2) := (hl 38 (by kernel_rfl) (by kernel_rfl))
      have e1 : a.eval (.tmp 41) = (.bool r2) := (hl 41 (by kernel_rfl) (by kernel_rfl))
      simp only [execOp, e0, e1]
      skip
      simp [go_sem, beq_self_eq_true])
  · exact .pick (b := true) (.inl rfl) rfl rfl (fun a w' hC hs hl => ⟨(hl 35 (by kernel_rfl) (by kernel_rfl)), (hl 42 (by kernel_rfl) (by kernel_rfl))⟩)
  · exact .move (.inl rfl) (.inl rfl) rfl (by kernel_rfl) (by kernel_rfl) rfl
  · exact .load (.agg #[.slice XL nL dL, .slice XR nR dR, .slice XG nG dG, .slice XW nW dW]) (.inr ⟨14, true, 44, by decide, rfl, rfl, rfl⟩) rfl rfl (fun a w' hC hs hl => by rw [show a.eval (.tmp 5) = (.pointer (some ⟨p5, 0, none⟩) : Value) from (hs 5 (by kernel_rfl))]; exact ⟨by simp [go_sem, cell_below hC Q0.out, cell_below hC Q1.out, cell_below hC Q2.out, cell_below hC Q3.out], rfl⟩)
  · exact .moveC (.inr ⟨14, true, 44, by decide, rfl, rfl, rfl⟩) (.inl rfl) rfl (fun a w' hC hs => (hs 6 (by kernel_rfl)))
  · exact .call (.inr ⟨14, true, 44, by decide, rfl, rfl, rfl⟩) rfl rfl fou_norms_Whole (fun a w' hC hs hl => by
      show Calls _ _ #[a.eval (.tmp 45), a.eval (.tmp 46)] _ _
      rw [show a.eval (.tmp 45) = (.agg #[.slice XL nL dL, .slice XR nR dR, .slice XG nG dG, .slice XW nW dW] : Value) from (hl 45 (by kernel_rfl) (by kernel_rfl)), show a.eval (.tmp 46) = (.slice XX nX dX : Value) from (hl 46 (by kernel_rfl) (by kernel_rfl))]
      exact normWhole_ok (NT.out.below hC) (XT.out.lst.raw_below hC) (XT.out.argl.arg_below hC) (T.out.below (below_tr b0.out hC)) r3 e3.out)
  · exact .load (.agg #[.slice AL nL cL, .slice AR nR cR, .slice AG nG cG, .slice AW nW cW]) (.inr ⟨14, true, 44, by decide, rfl, rfl, rfl⟩) rfl rfl (fun a w' hC hs hl => by rw [show a.eval (.tmp 2) = (.pointer (some ⟨w.heap.size, 0, none⟩) : Value) from (hs 2 (by kernel_rfl))]; exact ⟨by simp [go_sem, cell_below hC P0.out, cell_below hC P1.out, cell_below hC P2.out, cell_below hC P3.out], rfl⟩)
  · exact .moveC (.inr ⟨14, true, 44, by decide, rfl, rfl, rfl⟩) (.inl rfl) rfl (fun a w' hC hs => (hs 1 (by kernel_rfl)))
  · exact .call (.inr ⟨14, true, 44, by decide, rfl, rfl, rfl⟩) rfl rfl fou_assayerref09_Whole (fun a w' hC hs hl => by
      show Calls _ _ #[a.eval (.tmp 48), a.eval (.tmp 49)] _ _
      rw [show a.eval (.tmp 48) = (.agg #[.slice AL nL cL, .slice AR nR cR, .slice AG nG cG, .slice AW nW cW] : Value) from (hl 48 (by kernel_rfl) (by kernel_rfl)), show a.eval (.tmp 49) = (.slice AX nX cX : Value) from (hl 49 (by kernel_rfl) (by kernel_rfl))]
      exact qnormWhole_ok (NO.out.below hC) (XO.out.raw_below hC) (XA.out.arg_below hC) r3 e3.out)
  · exact .value (.inr ⟨14, true, 44, by decide, rfl, rfl, rfl⟩) (by intro T e; cases e) rfl rfl (fun a w' hC hs hl => by
      have e0 : a.eval (.tmp 47) = (.bool r3) := (hl 47 (by kernel_rfl) (by kernel_rfl))
      have e1 : a.eval (.tmp 50) = (.bool r3) := (hl 50 (by kernel_rfl) (by kernel_rfl))
      simp only [execOp, e0, e1]
      skip
      simp [go_sem, beq_self_eq_true])
  · exact .pick (b := true) (.inl rfl) rfl rfl (fun a w' hC hs hl => ⟨(hl 44 (by kernel_rfl) (by kernel_rfl)), (hl 51 (by kernel_rfl) (by kernel_rfl))⟩)
  · exact .move (.inl rfl) (.inl rfl) rfl (by kernel_rfl) (by kernel_rfl) rfl
  · exact .load (.agg #[.slice XL nL dL, .slice XR nR dR, .slice XG nG dG, .slice XW nW dW]) (.inr ⟨23, true, 53, by decide, rfl, rfl, rfl⟩) rfl rfl (fun a w' hC hs hl => by rw [show a.eval (.tmp 5) = (.pointer (some ⟨p5, 0, none⟩) : Value) from (hs 5 (by kernel_rfl))]; exact ⟨by simp [go_sem, cell_below hC Q0.out, cell_below hC Q1.out, cell_below hC Q2.out, cell_below hC Q3.out], rfl⟩)
  · exact .load (.agg #[.slice AL nL cL, .slice AR nR cR, .slice AG nG cG, .slice AW nW cW]) (.inr ⟨23, true, 53, by decide, rfl, rfl, rfl⟩) rfl rfl (fun a w' hC hs hl => by rw [show a.eval (.tmp 2) = (.pointer (some ⟨w.heap.size, 0, none⟩) : Value) from (hs 2 (by kernel_rfl))]; exact ⟨by simp [go_sem, cell_below hC P0.out, cell_below hC P1.out, cell_below hC P2.out, cell_below hC P3.out], rfl⟩)
  · exact .call (.inr ⟨23, true, 53, by decide, rfl, rfl, rfl⟩) rfl rfl fou_assayerlaw01_LeftNorm (fun a w' hC hs hl => by
      show Calls _ _ #[a.eval (.tmp 54), a.eval (.tmp 55)] _ _
      rw [show a.eval (.tmp 54) = (.agg #[.slice XL nL dL, .slice XR nR dR, .slice XG nG dG, .slice XW nW dW] : Value) from (hl 54 (by kernel_rfl) (by kernel_rfl)), show a.eval (.tmp 55) = (.agg #[.slice AL nL cL, .slice AR nR cR, .slice AG nG cG, .slice AW nW cW] : Value) from (hl 55 (by kernel_rfl) (by kernel_rfl))]
      exact leftNorm_ok (TW.out.below hC) (NO.out.below hC))
  · exact .pick (b := true) (.inl rfl) rfl rfl (fun a w' hC hs hl => ⟨(hl 53 (by kernel_rfl) (by kernel_rfl)), (hl 56 (by kernel_rfl) (by kernel_rfl))⟩)
  · exact .move (.inl rfl) (.inl rfl) rfl (by kernel_rfl) (by kernel_rfl) rfl
  · exact .moveC (.inr ⟨28, true, 58, by decide, rfl, rfl, rfl⟩) (.inl rfl) rfl (fun a w' hC hs => (hs 6 (by kernel_rfl)))
  · exact .moveC (.inr ⟨28, true, 58, by decide, rfl, rfl, rfl⟩) (.inl rfl) rfl (fun a w' hC hs => (hs 1 (by kernel_rfl)))
  · exact .call (.inr ⟨28, true, 58, by decide, rfl, rfl, rfl⟩) rfl rfl fou_assayerlaw01_LeftRats (fun a w' hC hs hl => by
      show Calls _ _ #[a.eval (.tmp 59), a.eval (.tmp 60)] _ _
      rw [show a.eval (.tmp 59) = (.slice XX nX dX : Value) from (hl 59 (by kernel_rfl) (by kernel_rfl)), show a.eval (.tmp 60) = (.slice AX nX cX : Value) from (hl 60 (by kernel_rfl) (by kernel_rfl))]
      exact leftRats_ok (XT.out.below hC) (XO.out.raw_below hC))
  · exact .pick (b := true) (.inl rfl) rfl rfl (fun a w' hC hs hl => ⟨(hl 58 (by kernel_rfl) (by kernel_rfl)), (hl 61 (by kernel_rfl) (by kernel_rfl))⟩)
  · exact .move (.inl rfl) (.inr rfl) rfl (by kernel_rfl) (by kernel_rfl) rfl
  · intro f wz hC hF _
    have fz : f 4 = .bool true := hF 4 (by kernel_rfl)
    clear hF
    simp only [patch, List.drop]
    rw [fz]
    clear fz
    try change wpList _ _ _ [] _ _
    generalize f 30 = y30_
    generalize f 31 = y31_
    generalize f 32 = y32_
    generalize f 33 = y33_
    generalize f 34 = y34_
    generalize f 35 = y35_
    generalize f 36 = y36_
    generalize f 37 = y37_
    generalize f 38 = y38_
    generalize f 39 = y39_
    generalize f 40 = y40_
    generalize f 41 = y41_
    generalize f 42 = y42_
    generalize f 43 = y43_
    generalize f 44 = y44_
    generalize f 45 = y45_
    generalize f 46 = y46_
    generalize f 47 = y47_
    generalize f 48 = y48_
    generalize f 49 = y49_
    generalize f 50 = y50_
    generalize f 51 = y51_
    generalize f 52 = y52_
    generalize f 53 = y53_
    generalize f 54 = y54_
    generalize f 55 = y55_
    generalize f 56 = y56_
    generalize f 57 = y57_
    generalize f 58 = y58_
    generalize f 59 = y59_
    generalize f 60 = y60_
    generalize f 61 = y61_
    generalize f 62 = y62_
    have b1 := hide (below_tr b0.out hC)
    clear hC b0 NO XO XA NT XT TW P0 P1 P2 P3 Q0 Q1 Q2 Q3
    go_wp2
    exact opq_end hR ⟨rfl, b1⟩
end Go.Proofs.YtkefmeddnncacaaGreatDoor
