/- the laws of rats: RatsTexts. -/
import Derived.Test.YtkefmeddnncacaaGreatDoorBr
import Derived.Test.YtkefmeddnncacaaGreatDoorKA
set_option linter.unusedVariables false
set_option linter.unusedSimpArgs false
set_option maxRecDepth 100000
namespace Go.Proofs.YtkefmeddnncacaaGreatDoor
open Go.RowKit

theorem fr2_assayerlaw01_LeftRat (args : Array Value) (w : World) : (callFunc 23 args).run Tryz.prog w = .ok (.enter 23 args) w := callFunc_enter Tryz.func23 (by kernel_rfl) rfl args w
theorem fr2_assayerlaw01_SameInt (args : Array Value) (w : World) : (callFunc 18 args).run Tryz.prog w = .ok (.enter 18 args) w := callFunc_enter Tryz.func18 (by kernel_rfl) rfl args w
theorem fr2_assayerlaw01_SameRat (args : Array Value) (w : World) : (callFunc 22 args).run Tryz.prog w = .ok (.enter 22 args) w := callFunc_enter Tryz.func22 (by kernel_rfl) rfl args w
theorem fr2_assayerref03_Check (args : Array Value) (w : World) : (callFunc 15 args).run Tryz.prog w = .ok (.enter 15 args) w := callFunc_enter Tryz.func15 (by kernel_rfl) rfl args w
theorem fr2_assayerref03_Floor (args : Array Value) (w : World) : (callFunc 19 args).run Tryz.prog w = .ok (.enter 19 args) w := callFunc_enter Tryz.func19 (by kernel_rfl) rfl args w
theorem fr2_assayerref03_Text (args : Array Value) (w : World) : (callFunc 21 args).run Tryz.prog w = .ok (.enter 21 args) w := callFunc_enter Tryz.func21 (by kernel_rfl) rfl args w
theorem fr2_assayerref03_Whole (args : Array Value) (w : World) : (callFunc 17 args).run Tryz.prog w = .ok (.enter 17 args) w := callFunc_enter Tryz.func17 (by kernel_rfl) rfl args w
theorem fr2_rats_Check (args : Array Value) (w : World) : (callFunc 14 args).run Tryz.prog w = .ok (.enter 14 args) w := callFunc_enter Tryz.func14 (by kernel_rfl) rfl args w
theorem fr2_rats_Text (args : Array Value) (w : World) : (callFunc 20 args).run Tryz.prog w = .ok (.enter 20 args) w := callFunc_enter Tryz.func20 (by kernel_rfl) rfl args w
theorem fr2_rats_Whole (args : Array Value) (w : World) : (callFunc 16 args).run Tryz.prog w = .ok (.enter 16 args) w := callFunc_enter Tryz.func16 (by kernel_rfl) rfl args w
set_option maxHeartbeats 16000000 in
theorem RatsTexts_ok (w : World) (b1 : Bool) (A1 : Option Addr) (n1 c1 : Nat) (xs1 : List Nat) (D1 : Option Addr) (m1 k1 : Nat) (ys1 : List Nat) (s : ByteArray) (h1 : Rd w A1 n1 xs1) (i1 : Is32 xs1) (l1 : n1 ≤ c1) (t1 : n1 ≤ 70368744177664) (h1' : Rd w D1 m1 ys1) (i1' : Is32 ys1) (l1' : m1 ≤ k1) (t1' : m1 ≤ 70368744177664) (hs : s.size ≤ 9223372036854775807) (hT : Tab w) (hM : MaxL w) :
    Calls Tryz.prog 3 #[.agg #[.bool b1, .slice A1 n1 c1, .slice D1 m1 k1], .string s] w fun e w' => e = .returned (.bool true) ∧ Hid (Below w.heap.size w w') := by
  refine opq fun R hR => ?_
  replace h1 := hide h1
  replace h1' := hide h1'
  replace i1 := hide i1
  replace i1' := hide i1'
  have T := hide hT
  have M := hide hM
  clear hT hM
  obtain ⟨gg, hgg⟩ : ∃ gg, decide (60 < n1 + m1) = gg := ⟨_, rfl⟩
  replace hgg := hide hgg
  have b0 := hide ((Below.refl w.heap.size w).alloc (Nat.le_refl _) (.cells #[.bool b1, .slice A1 n1 c1, .slice D1 m1 k1] TR))
  have K1 := hide (Blk.new w TR #[.bool b1, .slice A1 n1 c1, .slice D1 m1 k1])
  go_enter Tryz.func3, Tryz.ntmps3
  go_wp2_with fail
  obtain ⟨W, hW⟩ : ∃ W, w.alloc (.cells #[.bool b1, .slice A1 n1 c1, .slice D1 m1 k1] TR) = W := ⟨_, rfl⟩
  have ZW : W.heap.size = w.heap.size + 1 := by rw [← hW]; simp
  rw [hW] at b0 K1
  rw [hW, ← ZW]
  clear hW ZW
  refine (rgreat1 (w := W) rfl 60 (by decide) t1 t1' gg hgg.out).mono ?_
  rintro e w1 ⟨_, rfl, dG, rfl⟩
  replace K1 := hide ((K1.out.below' ((Below.refl _ _).alloc (Nat.le_refl _) _)).below' dG)
  replace b0 := hide (below_tr (b0.out.alloc b0.out.size _) dG)
  clear dG
  by_cases hg : 60 < n1 + m1
  · rw [show gg = true by rw [← hgg.out]; simpa using hg]
    go_wp2
    exact opq_end hR ⟨rfl, b0⟩
  rw [show gg = false by rw [← hgg.out]; simpa using hg]
  have g1 : n1 ≤ 60 ∧ m1 ≤ 60 := by omega
  clear hg hgg t1 t1'
  by_cases hbs : 2000 < s.size
  · go_wp2
    exact opq_end hR ⟨rfl, b0⟩
  have P1 : Hid (Prt w1 (.slice A1 n1 c1) xs1) := ⟨A1, n1, c1, rfl, l1, by omega, h1.out.below b0.out, i1.out⟩
  have P1' : Hid (Prt w1 (.slice D1 m1 k1) ys1) := ⟨D1, m1, k1, rfl, l1', by omega, h1'.out.below b0.out, i1'.out⟩
  have R1 : Hid (RPrt w1 (.agg #[.bool b1, .slice A1 n1 c1, .slice D1 m1 k1]) b1 xs1 ys1) := ⟨_, _, rfl, P1.out, P1'.out⟩
  have I1 : Hid (RArg w1 (.agg #[.bool b1, .slice A1 n1 c1, .slice D1 m1 k1]) (rv b1 xs1 ys1)) := R1.out.arg (by rw [h1.out.1]; omega) (by rw [h1'.out.1]; omega)
  have S1 : Hid (H (rv b1 xs1 ys1) 60) := H_rv i1.out i1'.out (by rw [h1.out.1]; omega) (by rw [h1'.out.1]; omega) (by decide)
  have x1 : Hid (xs1.length ≤ 60 ∧ ys1.length ≤ 60) := ⟨by rw [h1.out.1]; omega, by rw [h1'.out.1]; omega⟩
  obtain ⟨pk, hpk⟩ : ∃ k, Hid (sumK (rpR s) = k) := ⟨_, rfl⟩
  obtain ⟨cc, hcc⟩ : ∃ k, Hid (rok b1 xs1 ys1 = k) := ⟨_, rfl⟩
  obtain ⟨wd, hwd⟩ : ∃ k, Hid (decide ((rv b1 xs1 ys1).den = 1) = k) := ⟨_, rfl⟩
  obtain ⟨tt, htt⟩ : ∃ k, Hid (rtxB (rv b1 xs1 ys1) = k) := ⟨_, rfl⟩
  have PL := hide (rp_L s)
  have hs' : Hid (s.size ≤ 4294967000) := by show _ ≤ _; omega
  have H : Hid (HW w.heap.size w1 []) := HW.nil _ _
  replace T := hide (T.out.below b0.out)
  replace M := hide (M.out.below b0.out)
  clear h1 h1' i1 i1'
  have vK10 : w1.cell? ⟨w.heap.size, 0, none⟩ = some (.bool b1) := K1.out.at_ 0 rfl
  have vK11 : w1.cell? ⟨w.heap.size, 1, none⟩ = some (.slice A1 n1 c1) := K1.out.at_ 1 rfl
  have vK12 : w1.cell? ⟨w.heap.size, 2, none⟩ = some (.slice D1 m1 k1) := K1.out.at_ 2 rfl
  go_wp2_with fail
  clear vK10 vK11 vK12
  refine (rp_twin P1.out P1'.out (by omega) (by omega)).mono ?_
  rintro e w2 ⟨X, cX, X', cX', rfl, d1, TX, TX', sp1⟩
  replace H : Hid (HW w.heap.size w2 ([] ++ [⟨X, n1, cX, none, 0, 0, 0 + 1⟩] ++ [⟨X', m1, cX', none, 0, 0, 0 + 1 + 1⟩])) := Tw.next H.out d1.out TX TX' sp1 b0.out.size (by omega) (by omega)
  replace P1 := hide (P1.out.below d1.out)
  replace P1' := hide (P1'.out.below d1.out)
  replace R1 := hide (R1.out.below d1.out)
  replace I1 := hide (I1.out.below d1.out)
  replace T := hide (T.out.below d1.out)
  replace M := hide (M.out.below d1.out)
  replace K1 := hide (K1.out.below' d1.out)
  replace b0 := hide (below_tr b0.out d1.out)
  clear d1
  replace TX := hide TX
  replace TX' := hide TX'
  clear sp1
  have RJ1 : Hid (RPrt w2 (.agg #[.bool b1, .slice X n1 cX, .slice X' m1 cX']) b1 xs1 ys1) := ⟨_, _, rfl, TX.out.prt, TX'.out.prt⟩
  have J1 : Hid (RArg w2 (.agg #[.bool b1, .slice X n1 cX, .slice X' m1 cX']) (rv b1 xs1 ys1)) := RJ1.out.arg (Nat.le_trans x1.out.1 (by decide)) (Nat.le_trans x1.out.2 (by decide))
  have dA := (Below.refl w2.heap.size w2).alloc (Nat.le_refl _) (.cells #[.bool b1, .slice X n1 cX, .slice X' m1 cX'] TR)
  have KX := hide (Blk.new w2 TR #[.bool b1, .slice X n1 cX, .slice X' m1 cX'])
  replace P1 := hide (P1.out.below dA)
  replace P1' := hide (P1'.out.below dA)
  replace R1 := hide (R1.out.below dA)
  replace I1 := hide (I1.out.below dA)
  replace T := hide (T.out.below dA)
  replace M := hide (M.out.below dA)
  replace TX := hide (TX.out.below dA)
  replace TX' := hide (TX'.out.below dA)
  replace RJ1 := hide (RJ1.out.below dA)
  replace J1 := hide (J1.out.below dA)
  replace K1 := hide (K1.out.below' dA)
  replace H := hide (H.out.below dA)
  replace b0 := hide (below_tr b0.out dA)
  clear dA
  have vKX0 : (w2.alloc (.cells #[.bool b1, .slice X n1 cX, .slice X' m1 cX'] TR)).cell? ⟨w2.heap.size, 0, none⟩ = some (.bool b1) := KX.out.at_ 0 rfl
  have vKX1 : (w2.alloc (.cells #[.bool b1, .slice X n1 cX, .slice X' m1 cX'] TR)).cell? ⟨w2.heap.size, 1, none⟩ = some (.slice X n1 cX) := KX.out.at_ 1 rfl
  have vKX2 : (w2.alloc (.cells #[.bool b1, .slice X n1 cX, .slice X' m1 cX'] TR)).cell? ⟨w2.heap.size, 2, none⟩ = some (.slice X' m1 cX') := KX.out.at_ 2 rfl
  go_wp2_with fail
  clear vKX0 vKX1 vKX2
  obtain ⟨V1, hV⟩ : ∃ V, (w2.alloc (.cells #[.bool b1, .slice X n1 cX, .slice X' m1 cX'] TR)) = V := ⟨_, rfl⟩
  obtain ⟨gKX, hg⟩ : ∃ g, w2.heap.size = g := ⟨_, rfl⟩
  rw [hV] at P1 P1' R1 I1 T M TX TX' RJ1 J1 K1 KX b0 H
  rw [hg] at KX
  rw [hV, hg]
  clear hV hg
  refine (rp_Floor J1.out T.out).mono ?_
  rintro e w3 ⟨sN, N, nN, cN, rfl, d1, FN⟩
  obtain ⟨_, lr⟩ := FN.lrow
  replace H : Hid (HW w.heap.size w3 ([] ++ [⟨X, n1, cX, none, 0, 0, 0 + 1⟩] ++ [⟨X', m1, cX', none, 0, 0, 0 + 1 + 1⟩] ++ [⟨N, nN, cN, none, 0, 0, 0 + 1 + 1 + 1⟩])) := HW.next H.out d1.out lr b0.out.size (by rw [intR_len FN]; exact Nat.le_trans (floor_L S1.out) (by decide)) (by omega)
  clear lr
  replace P1 := hide (P1.out.below d1.out)
  replace P1' := hide (P1'.out.below d1.out)
  replace R1 := hide (R1.out.below d1.out)
  replace I1 := hide (I1.out.below d1.out)
  replace T := hide (T.out.below d1.out)
  replace M := hide (M.out.below d1.out)
  replace TX := hide (TX.out.below d1.out)
  replace TX' := hide (TX'.out.below d1.out)
  replace RJ1 := hide (RJ1.out.below d1.out)
  replace J1 := hide (J1.out.below d1.out)
  replace K1 := hide (K1.out.below' d1.out)
  replace KX := hide (KX.out.below' d1.out)
  replace b0 := hide (below_tr b0.out d1.out)
  clear d1
  replace FN := hide FN
  have dA := (Below.refl w3.heap.size w3).alloc (Nat.le_refl _) (.cells #[.bool sN, .slice N nN cN] 25)
  have KN := hide (Blk.new w3 25 #[.bool sN, .slice N nN cN])
  replace P1 := hide (P1.out.below dA)
  replace P1' := hide (P1'.out.below dA)
  replace R1 := hide (R1.out.below dA)
  replace I1 := hide (I1.out.below dA)
  replace T := hide (T.out.below dA)
  replace M := hide (M.out.below dA)
  replace TX := hide (TX.out.below dA)
  replace TX' := hide (TX'.out.below dA)
  replace RJ1 := hide (RJ1.out.below dA)
  replace J1 := hide (J1.out.below dA)
  replace FN := hide (FN.out.below dA)
  replace K1 := hide (K1.out.below' dA)
  replace KX := hide (KX.out.below' dA)
  replace H := hide (H.out.below dA)
  replace b0 := hide (below_tr b0.out dA)
  clear dA
  go_wp2_with fail
  obtain ⟨V2, hV⟩ : ∃ V, (w3.alloc (.cells #[.bool sN, .slice N nN cN] 25)) = V := ⟨_, rfl⟩
  obtain ⟨gKN, hg⟩ : ∃ g, w3.heap.size = g := ⟨_, rfl⟩
  rw [hV] at P1 P1' R1 I1 T M TX TX' RJ1 J1 FN K1 KX KN b0 H
  rw [hg] at KN
  rw [hV, hg]
  clear hV hg
  refine (rp_Parse _ s hs'.out T.out M.out).mono ?_
  rintro e w4 ⟨sB, B, nB, cB, B', mB, kB, rfl, d1, FB⟩
  rw [hpk.out]
  replace H : Hid (HW w.heap.size w4 ([] ++ [⟨X, n1, cX, none, 0, 0, 0 + 1⟩] ++ [⟨X', m1, cX', none, 0, 0, 0 + 1 + 1⟩] ++ [⟨N, nN, cN, none, 0, 0, 0 + 1 + 1 + 1⟩] ++ [⟨B, nB, cB, none, 0, 0, 0 + 1 + 1 + 1 + 1⟩] ++ [⟨B', mB, kB, none, 0, 0, 0 + 1 + 1 + 1 + 1 + 1⟩])) := PR.next H.out d1.out FB b0.out.size (Nat.le_trans PL.out.1 (by decide)) (Nat.le_trans PL.out.2 (by decide)) (by omega) (by omega)
  replace P1 := hide (P1.out.below d1.out)
  replace P1' := hide (P1'.out.below d1.out)
  replace R1 := hide (R1.out.below d1.out)
  replace I1 := hide (I1.out.below d1.out)
  replace T := hide (T.out.below d1.out)
  replace M := hide (M.out.below d1.out)
  replace TX := hide (TX.out.below d1.out)
  replace TX' := hide (TX'.out.below d1.out)
  replace RJ1 := hide (RJ1.out.below d1.out)
  replace J1 := hide (J1.out.below d1.out)
  replace FN := hide (FN.out.below d1.out)
  replace K1 := hide (K1.out.below' d1.out)
  replace KX := hide (KX.out.below' d1.out)
  replace KN := hide (KN.out.below' d1.out)
  replace b0 := hide (below_tr b0.out d1.out)
  clear d1
  replace FB := hide FB
  have dA := (Below.refl w4.heap.size w4).alloc (Nat.le_refl _) (.cells #[.bool sB, .slice B nB cB, .slice B' mB kB] TR)
  have KB := hide (Blk.new w4 TR #[.bool sB, .slice B nB cB, .slice B' mB kB])
  replace P1 := hide (P1.out.below dA)
  replace P1' := hide (P1'.out.below dA)
  replace R1 := hide (R1.out.below dA)
  replace I1 := hide (I1.out.below dA)
  replace T := hide (T.out.below dA)
  replace M := hide (M.out.below dA)
  replace TX := hide (TX.out.below dA)
  replace TX' := hide (TX'.out.below dA)
  replace RJ1 := hide (RJ1.out.below dA)
  replace J1 := hide (J1.out.below dA)
  replace FN := hide (FN.out.below dA)
  replace FB := hide (FB.out.below dA)
  replace K1 := hide (K1.out.below' dA)
  replace KX := hide (KX.out.below' dA)
  replace KN := hide (KN.out.below' dA)
  replace H := hide (H.out.below dA)
  replace b0 := hide (below_tr b0.out dA)
  clear dA
  go_wp2_with fail
  obtain ⟨V3, hV⟩ : ∃ V, (w4.alloc (.cells #[.bool sB, .slice B nB cB, .slice B' mB kB] TR)) = V := ⟨_, rfl⟩
  obtain ⟨gKB, hg⟩ : ∃ g, w4.heap.size = g := ⟨_, rfl⟩
  rw [hV] at P1 P1' R1 I1 T M TX TX' RJ1 J1 FN FB K1 KX KN KB b0 H
  rw [hg] at KB
  rw [hV, hg]
  clear hV hg
  refine (rq_Parse _ s hs'.out).mono ?_
  rintro e w5 ⟨sU, U, nU, cU, U', mU, kU, rfl, d1, FU⟩
  rw [hpk.out]
  replace H := hide (H.out.below d1.out)
  replace P1 := hide (P1.out.below d1.out)
  replace P1' := hide (P1'.out.below d1.out)
  replace R1 := hide (R1.out.below d1.out)
  replace I1 := hide (I1.out.below d1.out)
  replace T := hide (T.out.below d1.out)
  replace M := hide (M.out.below d1.out)
  replace TX := hide (TX.out.below d1.out)
  replace TX' := hide (TX'.out.below d1.out)
  replace RJ1 := hide (RJ1.out.below d1.out)
  replace J1 := hide (J1.out.below d1.out)
  replace FN := hide (FN.out.below d1.out)
  replace FB := hide (FB.out.below d1.out)
  replace K1 := hide (K1.out.below' d1.out)
  replace KX := hide (KX.out.below' d1.out)
  replace KN := hide (KN.out.below' d1.out)
  replace KB := hide (KB.out.below' d1.out)
  replace b0 := hide (below_tr b0.out d1.out)
  clear d1
  replace FU := hide FU
  have dA := (Below.refl w5.heap.size w5).alloc (Nat.le_refl _) (.cells #[.bool sU, .slice U nU cU, .slice U' mU kU] TR)
  have KU := hide (Blk.new w5 TR #[.bool sU, .slice U nU cU, .slice U' mU kU])
  replace P1 := hide (P1.out.below dA)
  replace P1' := hide (P1'.out.below dA)
  replace R1 := hide (R1.out.below dA)
  replace I1 := hide (I1.out.below dA)
  replace T := hide (T.out.below dA)
  replace M := hide (M.out.below dA)
  replace TX := hide (TX.out.below dA)
  replace TX' := hide (TX'.out.below dA)
  replace RJ1 := hide (RJ1.out.below dA)
  replace J1 := hide (J1.out.below dA)
  replace FN := hide (FN.out.below dA)
  replace FB := hide (FB.out.below dA)
  replace FU := hide (FU.out.below dA)
  replace K1 := hide (K1.out.below' dA)
  replace KX := hide (KX.out.below' dA)
  replace KN := hide (KN.out.below' dA)
  replace KB := hide (KB.out.below' dA)
  replace H := hide (H.out.below dA)
  replace b0 := hide (below_tr b0.out dA)
  clear dA
  go_wp2_with fail
  obtain ⟨V4, hV⟩ : ∃ V, (w5.alloc (.cells #[.bool sU, .slice U nU cU, .slice U' mU kU] TR)) = V := ⟨_, rfl⟩
  obtain ⟨gKU, hg⟩ : ∃ g, w5.heap.size = g := ⟨_, rfl⟩
  rw [hV] at P1 P1' R1 I1 T M TX TX' RJ1 J1 FN FB FU K1 KX KN KB KU b0 H
  rw [hg] at KU
  rw [hV, hg]
  clear hV hg
  refine wp_region_facts 43 (fun w' => Below V4.heap.size V4 w') [(34, .eq (.agg #[.bool b1, .slice X n1 cX, .slice X' m1 cX'])), (35, .eq (.bool cc)), (36, .eq (.agg #[.bool b1, .slice A1 n1 c1, .slice D1 m1 k1])), (37, .eq (.bool cc)), (38, .eq (.bool false)), (39, .eq (.bool false)), (40, .eq (.agg #[.bool b1, .slice X n1 cX, .slice X' m1 cX'])), (41, .eq (.bool wd)), (42, .eq (.agg #[.bool b1, .slice A1 n1 c1, .slice D1 m1 k1])), (43, .eq (.bool wd)), (44, .eq (.bool false)), (45, .eq (.bool false)), (46, .eq (.bool false)), (47, .eq (.agg #[.bool sN, .slice N nN cN])), (48, .eq (.agg #[.bool b1, .slice A1 n1 c1, .slice D1 m1 k1])), (49, (.int (rv b1 xs1 ys1).floor)), (50, .eq (.bool true)), (51, .eq (.bool false)), (52, .eq (.bool false)), (53, .eq (.bool false)), (54, .eq (.agg #[.bool b1, .slice X n1 cX, .slice X' m1 cX'])), (55, .eq (.string tt)), (56, .eq (.agg #[.bool b1, .slice A1 n1 c1, .slice D1 m1 k1])), (57, .eq (.string tt)), (58, .eq (.bool false)), (59, .eq (.bool false)), (60, .eq (.bool false)), (61, .eq (.agg #[.bool sB, .slice B nB cB, .slice B' mB kB])), (62, .eq (.agg #[.bool sU, .slice U nU cU, .slice U' mU kU])), (63, .eq (.bool true)), (64, .eq (.bool false)), (65, .eq (.bool false)), (66, .eq (.bool false)), (67, .eq (.int .i64 pk)), (68, .eq (.int .i64 pk)), (69, .eq (.bool false)), (70, .eq (.bool false)), (71, .eq (.bool false)), (72, .eq (.agg #[.bool b1, .slice X n1 cX, .slice X' m1 cX'])), (73, .eq (.agg #[.bool b1, .slice A1 n1 c1, .slice D1 m1 k1])), (74, .eq (.bool true)), (75, .eq (.bool false)), (76, .eq (.bool false))] [false, false, false, false, false, false, false, false, false, false, false, false, false, false, false, false, false, false, false, false, false, false, false, false, false, false, false, false, false, false, false, false, false, false, true, true, true, true, true, true, true, true, true, true, true, true, true, true, true, true, true, true, true, true, true, true, true, true, true, true, true, true, true, true, true, true, true, true, true, true, true, true, true, true, true, true, true, false, false, false, false, false, false, false, false] mixed (by kernel_rfl) (by kernel_rfl) (by kernel_rfl) (fun _ _ h hb => h.trans (hb.mono h.size)) ((Below.refl _ _).drew) ⟨?_, ?_, ?_, ?_, ?_, ?_, ?_, ?_, ?_, ?_, ?_, ?_, ?_, ?_, ?_, ?_, ?_, ?_, ?_, ?_, ?_, ?_, ?_, ?_, ?_, ?_, ?_, ?_, ?_, ?_, ?_, ?_, ?_, ?_, ?_, ?_, ?_, ?_, ?_, ?_, ?_, ?_, ?_, trivial⟩ ?_
  · exact .load (.agg #[.bool b1, .slice X n1 cX, .slice X' m1 cX']) (.inl rfl) rfl rfl (fun a w' hC hs hl => by rw [show a.eval (.tmp 5) = (.pointer (some ⟨gKX, 0, none⟩) : Value) from (hs 5 (by kernel_rfl))]; exact ⟨ld_Rat_ ((KX.out.below' hC).at_ 0 rfl) ((KX.out.below' hC).at_ 1 rfl) ((KX.out.below' hC).at_ 2 rfl), rfl⟩)
  · exact .call (.inl rfl) rfl rfl fr2_rats_Check (fun a w' hC hs hl => by
      show Calls _ _ #[a.eval (.tmp 34)] _ _
      rw [show a.eval (.tmp 34) = (.agg #[.bool b1, .slice X n1 cX, .slice X' m1 cX'] : Value) from (hl 34 (by kernel_rfl) (by kernel_rfl))]
      exact rCheck_P (RJ1.out.below hC) (T.out.below hC) cc hcc.out)
  · exact .load (.agg #[.bool b1, .slice A1 n1 c1, .slice D1 m1 k1]) (.inl rfl) rfl rfl (fun a w' hC hs hl => by rw [show a.eval (.tmp 2) = (.pointer (some ⟨w.heap.size, 0, none⟩) : Value) from (hs 2 (by kernel_rfl))]; exact ⟨ld_Rat_ ((K1.out.below' hC).at_ 0 rfl) ((K1.out.below' hC).at_ 1 rfl) ((K1.out.below' hC).at_ 2 rfl), rfl⟩)
  · exact .call (.inl rfl) rfl rfl fr2_assayerref03_Check (fun a w' hC hs hl => by
      show Calls _ _ #[a.eval (.tmp 36)] _ _
      rw [show a.eval (.tmp 36) = (.agg #[.bool b1, .slice A1 n1 c1, .slice D1 m1 k1] : Value) from (hl 36 (by kernel_rfl) (by kernel_rfl))]
      exact krCheck_P (R1.out.below hC) cc hcc.out)
  · exact .value (.inl rfl) (by intro T e; cases e) rfl rfl (fun a w' hC hs hl => by
      have e0 : a.eval (.tmp 35) = (.bool cc) := (hl 35 (by kernel_rfl) (by kernel_rfl))
      have e1 : a.eval (.tmp 37) = (.bool cc) := (hl 37 (by kernel_rfl) (by kernel_rfl))
      simp only [execOp, e0, e1]
      skip
      simp [go_sem] <;> rfl)
  · exact .move (.inl rfl) (.inl rfl) rfl (by kernel_rfl) (by kernel_rfl) rfl
  · exact .load (.agg #[.bool b1, .slice X n1 cX, .slice X' m1 cX']) (.inr ⟨5, false, 39, by decide, rfl, rfl, rfl⟩) rfl rfl (fun a w' hC hs hl => by rw [show a.eval (.tmp 5) = (.pointer (some ⟨gKX, 0, none⟩) : Value) from (hs 5 (by kernel_rfl))]; exact ⟨ld_Rat_ ((KX.out.below' hC).at_ 0 rfl) ((KX.out.below' hC).at_ 1 rfl) ((KX.out.below' hC).at_ 2 rfl), rfl⟩)
  · exact .call (.inr ⟨5, false, 39, by decide, rfl, rfl, rfl⟩) rfl rfl fr2_rats_Whole (fun a w' hC hs hl => by
      show Calls _ _ #[a.eval (.tmp 40)] _ _
      rw [show a.eval (.tmp 40) = (.agg #[.bool b1, .slice X n1 cX, .slice X' m1 cX'] : Value) from (hl 40 (by kernel_rfl) (by kernel_rfl))]
      exact rWhole_eq (J1.out.below hC) (T.out.below hC) wd hwd.out)
  · exact .load (.agg #[.bool b1, .slice A1 n1 c1, .slice D1 m1 k1]) (.inr ⟨5, false, 39, by decide, rfl, rfl, rfl⟩) rfl rfl (fun a w' hC hs hl => by rw [show a.eval (.tmp 2) = (.pointer (some ⟨w.heap.size, 0, none⟩) : Value) from (hs 2 (by kernel_rfl))]; exact ⟨ld_Rat_ ((K1.out.below' hC).at_ 0 rfl) ((K1.out.below' hC).at_ 1 rfl) ((K1.out.below' hC).at_ 2 rfl), rfl⟩)
  · exact .call (.inr ⟨5, false, 39, by decide, rfl, rfl, rfl⟩) rfl rfl fr2_assayerref03_Whole (fun a w' hC hs hl => by
      show Calls _ _ #[a.eval (.tmp 42)] _ _
      rw [show a.eval (.tmp 42) = (.agg #[.bool b1, .slice A1 n1 c1, .slice D1 m1 k1] : Value) from (hl 42 (by kernel_rfl) (by kernel_rfl))]
      exact krWhole_B (I1.out.below hC) hwd.out)
  · exact .value (.inr ⟨5, false, 39, by decide, rfl, rfl, rfl⟩) (by intro T e; cases e) rfl rfl (fun a w' hC hs hl => by
      have e0 : a.eval (.tmp 41) = (.bool wd) := (hl 41 (by kernel_rfl) (by kernel_rfl))
      have e1 : a.eval (.tmp 43) = (.bool wd) := (hl 43 (by kernel_rfl) (by kernel_rfl))
      simp only [execOp, e0, e1]
      skip
      simp [go_sem] <;> rfl)
  · exact .pick (b := false) (.inl rfl) rfl rfl (fun a w' hC hs hl => ⟨(hl 39 (by kernel_rfl) (by kernel_rfl)), (hl 44 (by kernel_rfl) (by kernel_rfl))⟩)
  · exact .move (.inl rfl) (.inl rfl) rfl (by kernel_rfl) (by kernel_rfl) rfl
  · exact .load (.agg #[.bool sN, .slice N nN cN]) (.inr ⟨12, false, 46, by decide, rfl, rfl, rfl⟩) rfl rfl (fun a w' hC hs hl => by rw [show a.eval (.tmp 6) = (.pointer (some ⟨gKN, 0, none⟩) : Value) from (hs 6 (by kernel_rfl))]; exact ⟨ld_Int_ ((KN.out.below' hC).at_ 0 rfl) ((KN.out.below' hC).at_ 1 rfl), rfl⟩)
  · exact .load (.agg #[.bool b1, .slice A1 n1 c1, .slice D1 m1 k1]) (.inr ⟨12, false, 46, by decide, rfl, rfl, rfl⟩) rfl rfl (fun a w' hC hs hl => by rw [show a.eval (.tmp 2) = (.pointer (some ⟨w.heap.size, 0, none⟩) : Value) from (hs 2 (by kernel_rfl))]; exact ⟨ld_Rat_ ((K1.out.below' hC).at_ 0 rfl) ((K1.out.below' hC).at_ 1 rfl) ((K1.out.below' hC).at_ 2 rfl), rfl⟩)
  · exact .call (.inr ⟨12, false, 46, by decide, rfl, rfl, rfl⟩) rfl rfl fr2_assayerref03_Floor (fun a w' hC hs hl => by
      show Calls _ _ #[a.eval (.tmp 48)] _ _
      rw [show a.eval (.tmp 48) = (.agg #[.bool b1, .slice A1 n1 c1, .slice D1 m1 k1] : Value) from (hl 48 (by kernel_rfl) (by kernel_rfl))]
      exact krFloor_C (I1.out.below hC))
  · exact .call (.inr ⟨12, false, 46, by decide, rfl, rfl, rfl⟩) rfl rfl fr2_assayerlaw01_SameInt (fun a w' hC hs hl => by
      show Calls _ _ #[a.eval (.tmp 47), a.eval (.tmp 49)] _ _
      rw [show a.eval (.tmp 47) = (.agg #[.bool sN, .slice N nN cN] : Value) from (hl 47 (by kernel_rfl) (by kernel_rfl))]
      exact sameInt_yes (FN.out.can.below hC) (hl 49 (by kernel_rfl) (by kernel_rfl)))
  · exact .value (.inr ⟨12, false, 46, by decide, rfl, rfl, rfl⟩) (by intro T e; cases e) rfl rfl (fun a w' hC hs hl => by
      have e0 : a.eval (.tmp 50) = (.bool true) := (hl 50 (by kernel_rfl) (by kernel_rfl))
      simp only [execOp, e0]
      skip
      simp [go_sem] <;> rfl)
  · exact .pick (b := false) (.inl rfl) rfl rfl (fun a w' hC hs hl => ⟨(hl 46 (by kernel_rfl) (by kernel_rfl)), (hl 51 (by kernel_rfl) (by kernel_rfl))⟩)
  · exact .move (.inl rfl) (.inl rfl) rfl (by kernel_rfl) (by kernel_rfl) rfl
  · exact .load (.agg #[.bool b1, .slice X n1 cX, .slice X' m1 cX']) (.inr ⟨19, false, 53, by decide, rfl, rfl, rfl⟩) rfl rfl (fun a w' hC hs hl => by rw [show a.eval (.tmp 5) = (.pointer (some ⟨gKX, 0, none⟩) : Value) from (hs 5 (by kernel_rfl))]; exact ⟨ld_Rat_ ((KX.out.below' hC).at_ 0 rfl) ((KX.out.below' hC).at_ 1 rfl) ((KX.out.below' hC).at_ 2 rfl), rfl⟩)
  · exact .call (.inr ⟨19, false, 53, by decide, rfl, rfl, rfl⟩) rfl rfl fr2_rats_Text (fun a w' hC hs hl => by
      show Calls _ _ #[a.eval (.tmp 54)] _ _
      rw [show a.eval (.tmp 54) = (.agg #[.bool b1, .slice X n1 cX, .slice X' m1 cX'] : Value) from (hl 54 (by kernel_rfl) (by kernel_rfl))]
      exact rTextV (J1.out.below hC) (S1.out.up (by decide)) (T.out.below hC) htt.out)
  · exact .load (.agg #[.bool b1, .slice A1 n1 c1, .slice D1 m1 k1]) (.inr ⟨19, false, 53, by decide, rfl, rfl, rfl⟩) rfl rfl (fun a w' hC hs hl => by rw [show a.eval (.tmp 2) = (.pointer (some ⟨w.heap.size, 0, none⟩) : Value) from (hs 2 (by kernel_rfl))]; exact ⟨ld_Rat_ ((K1.out.below' hC).at_ 0 rfl) ((K1.out.below' hC).at_ 1 rfl) ((K1.out.below' hC).at_ 2 rfl), rfl⟩)
  · exact .call (.inr ⟨19, false, 53, by decide, rfl, rfl, rfl⟩) rfl rfl fr2_assayerref03_Text (fun a w' hC hs hl => by
      show Calls _ _ #[a.eval (.tmp 56)] _ _
      rw [show a.eval (.tmp 56) = (.agg #[.bool b1, .slice A1 n1 c1, .slice D1 m1 k1] : Value) from (hl 56 (by kernel_rfl) (by kernel_rfl))]
      exact krTextV (I1.out.below hC) (S1.out.up (by decide)) htt.out)
  · exact .value (.inr ⟨19, false, 53, by decide, rfl, rfl, rfl⟩) (by intro T e; cases e) rfl rfl (fun a w' hC hs hl => by
      have e0 : a.eval (.tmp 55) = (.string tt) := (hl 55 (by kernel_rfl) (by kernel_rfl))
      have e1 : a.eval (.tmp 57) = (.string tt) := (hl 57 (by kernel_rfl) (by kernel_rfl))
      simp only [execOp, e0, e1]
      skip
      simp [go_sem] <;> rfl)
  · exact .pick (b := false) (.inl rfl) rfl rfl (fun a w' hC hs hl => ⟨(hl 53 (by kernel_rfl) (by kernel_rfl)), (hl 58 (by kernel_rfl) (by kernel_rfl))⟩)
  · exact .move (.inl rfl) (.inl rfl) rfl (by kernel_rfl) (by kernel_rfl) rfl
  · exact .load (.agg #[.bool sB, .slice B nB cB, .slice B' mB kB]) (.inr ⟨26, false, 60, by decide, rfl, rfl, rfl⟩) rfl rfl (fun a w' hC hs hl => by rw [show a.eval (.tmp 7) = (.pointer (some ⟨gKB, 0, none⟩) : Value) from (hs 7 (by kernel_rfl))]; exact ⟨ld_Rat_ ((KB.out.below' hC).at_ 0 rfl) ((KB.out.below' hC).at_ 1 rfl) ((KB.out.below' hC).at_ 2 rfl), rfl⟩)
  · exact .load (.agg #[.bool sU, .slice U nU cU, .slice U' mU kU]) (.inr ⟨26, false, 60, by decide, rfl, rfl, rfl⟩) rfl rfl (fun a w' hC hs hl => by rw [show a.eval (.tmp 9) = (.pointer (some ⟨gKU, 0, none⟩) : Value) from (hs 9 (by kernel_rfl))]; exact ⟨ld_Rat_ ((KU.out.below' hC).at_ 0 rfl) ((KU.out.below' hC).at_ 1 rfl) ((KU.out.below' hC).at_ 2 rfl), rfl⟩)
  · exact .call (.inr ⟨26, false, 60, by decide, rfl, rfl, rfl⟩) rfl rfl fr2_assayerlaw01_SameRat (fun a w' hC hs hl => by
      show Calls _ _ #[a.eval (.tmp 61), a.eval (.tmp 62)] _ _
      rw [show a.eval (.tmp 61) = (.agg #[.bool sB, .slice B nB cB, .slice B' mB kB] : Value) from (hl 61 (by kernel_rfl) (by kernel_rfl)), show a.eval (.tmp 62) = (.agg #[.bool sU, .slice U nU cU, .slice U' mU kU] : Value) from (hl 62 (by kernel_rfl) (by kernel_rfl))]
      exact same_PR (FB.out.below hC) (FU.out.below hC))
  · exact .value (.inr ⟨26, false, 60, by decide, rfl, rfl, rfl⟩) (by intro T e; cases e) rfl rfl (fun a w' hC hs hl => by
      have e0 : a.eval (.tmp 63) = (.bool true) := (hl 63 (by kernel_rfl) (by kernel_rfl))
      simp only [execOp, e0]
      skip
      simp [go_sem] <;> rfl)
  · exact .pick (b := false) (.inl rfl) rfl rfl (fun a w' hC hs hl => ⟨(hl 60 (by kernel_rfl) (by kernel_rfl)), (hl 64 (by kernel_rfl) (by kernel_rfl))⟩)
  · exact .move (.inl rfl) (.inl rfl) rfl (by kernel_rfl) (by kernel_rfl) rfl
  · exact .moveC (.inr ⟨32, false, 66, by decide, rfl, rfl, rfl⟩) (.inl rfl) rfl (fun a w' hC hs => (hs 8 (by kernel_rfl)))
  · exact .moveC (.inr ⟨32, false, 66, by decide, rfl, rfl, rfl⟩) (.inl rfl) rfl (fun a w' hC hs => (hs 10 (by kernel_rfl)))
  · exact .value (.inr ⟨32, false, 66, by decide, rfl, rfl, rfl⟩) (by intro T e; cases e) rfl rfl (fun a w' hC hs hl => by
      have e0 : a.eval (.tmp 67) = (.int .i64 pk) := (hl 67 (by kernel_rfl) (by kernel_rfl))
      have e1 : a.eval (.tmp 68) = (.int .i64 pk) := (hl 68 (by kernel_rfl) (by kernel_rfl))
      simp only [execOp, e0, e1]
      skip
      simp [go_sem] <;> rfl)
  · exact .pick (b := false) (.inl rfl) rfl rfl (fun a w' hC hs hl => ⟨(hl 66 (by kernel_rfl) (by kernel_rfl)), (hl 69 (by kernel_rfl) (by kernel_rfl))⟩)
  · exact .move (.inl rfl) (.inl rfl) rfl (by kernel_rfl) (by kernel_rfl) rfl
  · exact .load (.agg #[.bool b1, .slice X n1 cX, .slice X' m1 cX']) (.inr ⟨37, false, 71, by decide, rfl, rfl, rfl⟩) rfl rfl (fun a w' hC hs hl => by rw [show a.eval (.tmp 5) = (.pointer (some ⟨gKX, 0, none⟩) : Value) from (hs 5 (by kernel_rfl))]; exact ⟨ld_Rat_ ((KX.out.below' hC).at_ 0 rfl) ((KX.out.below' hC).at_ 1 rfl) ((KX.out.below' hC).at_ 2 rfl), rfl⟩)
  · exact .load (.agg #[.bool b1, .slice A1 n1 c1, .slice D1 m1 k1]) (.inr ⟨37, false, 71, by decide, rfl, rfl, rfl⟩) rfl rfl (fun a w' hC hs hl => by rw [show a.eval (.tmp 2) = (.pointer (some ⟨w.heap.size, 0, none⟩) : Value) from (hs 2 (by kernel_rfl))]; exact ⟨ld_Rat_ ((K1.out.below' hC).at_ 0 rfl) ((K1.out.below' hC).at_ 1 rfl) ((K1.out.below' hC).at_ 2 rfl), rfl⟩)
  · exact .call (.inr ⟨37, false, 71, by decide, rfl, rfl, rfl⟩) rfl rfl fr2_assayerlaw01_LeftRat (fun a w' hC hs hl => by
      show Calls _ _ #[a.eval (.tmp 72), a.eval (.tmp 73)] _ _
      rw [show a.eval (.tmp 72) = (.agg #[.bool b1, .slice X n1 cX, .slice X' m1 cX'] : Value) from (hl 72 (by kernel_rfl) (by kernel_rfl)), show a.eval (.tmp 73) = (.agg #[.bool b1, .slice A1 n1 c1, .slice D1 m1 k1] : Value) from (hl 73 (by kernel_rfl) (by kernel_rfl))]
      exact rp_left (TX.out.below hC) (TX'.out.below hC) (P1.out.below hC) (P1'.out.below hC))
  · exact .value (.inr ⟨37, false, 71, by decide, rfl, rfl, rfl⟩) (by intro T e; cases e) rfl rfl (fun a w' hC hs hl => by
      have e0 : a.eval (.tmp 74) = (.bool true) := (hl 74 (by kernel_rfl) (by kernel_rfl))
      simp only [execOp, e0]
      skip
      simp [go_sem] <;> rfl)
  · exact .pick (b := false) (.inl rfl) rfl rfl (fun a w' hC hs hl => ⟨(hl 71 (by kernel_rfl) (by kernel_rfl)), (hl 75 (by kernel_rfl) (by kernel_rfl))⟩)
  intro f w9 hC hF _
  have fz : f 76 = .bool false := hF 76 (by kernel_rfl)
  clear hF
  simp only [patch, List.drop]
  rw [fz]
  clear fz
  replace K1 := hide (K1.out.below' hC)
  replace KX := hide (KX.out.below' hC)
  replace KN := hide (KN.out.below' hC)
  replace KB := hide (KB.out.below' hC)
  replace KU := hide (KU.out.below' hC)
  replace H := hide (H.out.below hC)
  replace b0 := hide (b0.out.trans (hC.mono b0.out.size))
  clear hC
  clear P1 P1' R1 I1 T M TX TX' RJ1 J1 FN FB FU
  have bB := hide b0.out.size
  have K : Hid (BookAt w.heap.size (w9.alloc (.cells #[.int .i64 0, .slice none 0 0, .slice none 0 0, .slice none 0 0, .slice none 0 0, .slice none 0 0, .slice none 0 0, .slice none 0 0, .slice none 0 0, .slice none 0 0, .slice none 0 0, .slice none 0 0, .slice none 0 0] TBK)) w9.heap.size 0 (.slice none 0 0) []) := BookAt.new bB.out
  obtain ⟨hi, hhi⟩ : ∃ hi, hi = w9.heap.size := ⟨_, rfl⟩
  have H0 : HB w.heap.size w9.heap.size w9 ([] ++ [⟨X, n1, cX, none, 0, 0, 0 + 1⟩] ++ [⟨X', m1, cX', none, 0, 0, 0 + 1 + 1⟩] ++ [⟨N, nN, cN, none, 0, 0, 0 + 1 + 1 + 1⟩] ++ [⟨B, nB, cB, none, 0, 0, 0 + 1 + 1 + 1 + 1⟩] ++ [⟨B', mB, kB, none, 0, 0, 0 + 1 + 1 + 1 + 1 + 1⟩]) := H.out
  rw [← hhi] at H0
  replace hhi := hide hhi
  have dB := hide ((Below.refl w9.heap.size w9).alloc (Nat.le_refl _) (.cells #[.int .i64 0, .slice none 0 0, .slice none 0 0, .slice none 0 0, .slice none 0 0, .slice none 0 0, .slice none 0 0, .slice none 0 0, .slice none 0 0, .slice none 0 0, .slice none 0 0, .slice none 0 0, .slice none 0 0] TBK))
  replace H : Hid (HB w.heap.size hi (w9.alloc (.cells #[.int .i64 0, .slice none 0 0, .slice none 0 0, .slice none 0 0, .slice none 0 0, .slice none 0 0, .slice none 0 0, .slice none 0 0, .slice none 0 0, .slice none 0 0, .slice none 0 0, .slice none 0 0, .slice none 0 0] TBK)) ([] ++ [⟨X, n1, cX, none, 0, 0, 0 + 1⟩] ++ [⟨X', m1, cX', none, 0, 0, 0 + 1 + 1⟩] ++ [⟨N, nN, cN, none, 0, 0, 0 + 1 + 1 + 1⟩] ++ [⟨B, nB, cB, none, 0, 0, 0 + 1 + 1 + 1 + 1⟩] ++ [⟨B', mB, kB, none, 0, 0, 0 + 1 + 1 + 1 + 1 + 1⟩])) := H0.bel dB.out
  clear K1
  clear KU
  replace KX := hide (KX.out.below' dB.out)
  replace KN := hide (KN.out.below' dB.out)
  replace KB := hide (KB.out.below' dB.out)
  replace b0 := hide (below_tr b0.out dB.out)
  clear dB H0 bB
  have vKX0 : (w9.alloc (.cells #[.int .i64 0, .slice none 0 0, .slice none 0 0, .slice none 0 0, .slice none 0 0, .slice none 0 0, .slice none 0 0, .slice none 0 0, .slice none 0 0, .slice none 0 0, .slice none 0 0, .slice none 0 0, .slice none 0 0] TBK)).cell? ⟨gKX, 0, none⟩ = some (.bool b1) := KX.out.at_ 0 rfl
  have vKX1 : (w9.alloc (.cells #[.int .i64 0, .slice none 0 0, .slice none 0 0, .slice none 0 0, .slice none 0 0, .slice none 0 0, .slice none 0 0, .slice none 0 0, .slice none 0 0, .slice none 0 0, .slice none 0 0, .slice none 0 0, .slice none 0 0] TBK)).cell? ⟨gKX, 1, none⟩ = some (.slice X n1 cX) := KX.out.at_ 1 rfl
  have vKX2 : (w9.alloc (.cells #[.int .i64 0, .slice none 0 0, .slice none 0 0, .slice none 0 0, .slice none 0 0, .slice none 0 0, .slice none 0 0, .slice none 0 0, .slice none 0 0, .slice none 0 0, .slice none 0 0, .slice none 0 0, .slice none 0 0] TBK)).cell? ⟨gKX, 2, none⟩ = some (.slice X' m1 cX') := KX.out.at_ 2 rfl
  go_wp2_with fail
  clear vKX0 vKX1 vKX2
  obtain ⟨V_, hV⟩ : ∃ V, w9.alloc (.cells #[.int .i64 0, .slice none 0 0, .slice none 0 0, .slice none 0 0, .slice none 0 0, .slice none 0 0, .slice none 0 0, .slice none 0 0, .slice none 0 0, .slice none 0 0, .slice none 0 0, .slice none 0 0, .slice none 0 0] TBK) = V := ⟨_, rfl⟩
  obtain ⟨g_, hg⟩ : ∃ g, w9.heap.size = g := ⟨_, rfl⟩
  rw [hV, hg] at K
  rw [hV] at b0 H KX KN KB
  rw [hV, hg]
  clear hV hg hhi
  refine (bookRat_ok _ w.heap.size g_ (0) _ ([]) b0.out.size K.out b1 X n1 cX X' m1 cX' (by omega) (by simp)).mono ?_
  rintro e W0_ ⟨⟨_, rfl⟩, k1_, v0_, k2_⟩
  replace K := hide k2_
  replace H := hide (H.out.kp k1_)
  replace b0 := hide (b0.out.trans k1_.base)
  clear KX
  replace KN := hide (k1_.nums _ _ _ (by decide) (by decide) KN.out)
  replace KB := hide (k1_.nums _ _ _ (by decide) (by decide) KB.out)
  clear k1_ k2_
  have vKN0 : W0_.cell? ⟨gKN, 0, none⟩ = some (.bool sN) := KN.out.at_ 0 rfl
  have vKN1 : W0_.cell? ⟨gKN, 1, none⟩ = some (.slice N nN cN) := KN.out.at_ 1 rfl
  go_wp2_with fail
  clear vKN0 vKN1
  refine (bookInt_ok _ w.heap.size g_ (0 + 1 + 1) _ ([] ++ [⟨X, n1, cX, none, 0, 0, 0 + 1⟩] ++ [⟨X', m1, cX', none, 0, 0, 0 + 1 + 1⟩]) b0.out.size K.out sN N nN cN (by omega) (by simp)).mono ?_
  rintro e W1_ ⟨⟨_, rfl⟩, k1_, v1_, k2_⟩
  replace K := hide k2_
  replace H := hide (H.out.kp k1_)
  replace b0 := hide (b0.out.trans k1_.base)
  clear KN
  replace KB := hide (k1_.nums _ _ _ (by decide) (by decide) KB.out)
  clear k1_ k2_
  have vKB0 : W1_.cell? ⟨gKB, 0, none⟩ = some (.bool sB) := KB.out.at_ 0 rfl
  have vKB1 : W1_.cell? ⟨gKB, 1, none⟩ = some (.slice B nB cB) := KB.out.at_ 1 rfl
  have vKB2 : W1_.cell? ⟨gKB, 2, none⟩ = some (.slice B' mB kB) := KB.out.at_ 2 rfl
  go_wp2_with fail
  clear vKB0 vKB1 vKB2
  refine (bookRat_ok _ w.heap.size g_ (0 + 1 + 1 + 1) _ ([] ++ [⟨X, n1, cX, none, 0, 0, 0 + 1⟩] ++ [⟨X', m1, cX', none, 0, 0, 0 + 1 + 1⟩] ++ [⟨N, nN, cN, none, 0, 0, 0 + 1 + 1 + 1⟩]) b0.out.size K.out sB B nB cB B' mB kB (by omega) (by simp)).mono ?_
  rintro e W2_ ⟨⟨_, rfl⟩, k1_, v2_, k2_⟩
  replace K := hide k2_
  replace H := hide (H.out.kp k1_)
  replace b0 := hide (b0.out.trans k1_.base)
  clear KB
  clear k1_ k2_
  go_wp2_with fail
  refine (Apart_ok _ w.heap.size g_ (0 + 1 + 1 + 1 + 1 + 1) hi _ ([] ++ [⟨X, n1, cX, none, 0, 0, 0 + 1⟩] ++ [⟨X', m1, cX', none, 0, 0, 0 + 1 + 1⟩] ++ [⟨N, nN, cN, none, 0, 0, 0 + 1 + 1 + 1⟩] ++ [⟨B, nB, cB, none, 0, 0, 0 + 1 + 1 + 1 + 1⟩] ++ [⟨B', mB, kB, none, 0, 0, 0 + 1 + 1 + 1 + 1 + 1⟩]) b0.out.size K.out H.out (by simp)).mono ?_
  rintro e WW ⟨rfl, k1_⟩
  replace b0 := hide (b0.out.trans k1_)
  clear k1_ K H
  go_wp2
  exact opq_end hR ⟨rfl, b0⟩
end Go.Proofs.YtkefmeddnncacaaGreatDoor
