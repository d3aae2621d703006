/- the laws of rats: RatsMakes. -/
import Derived.Test.YtfadehkagbcjaaaGreatDoorBp
import Derived.Test.YtfadehkagbcjaaaGreatDoorKA
set_option linter.unusedVariables false
set_option linter.unusedSimpArgs false
set_option maxRecDepth 100000
namespace Go.Proofs.YtfadehkagbcjaaaGreatDoor
open Go.RowKit

theorem fm_assayerlaw01_LeftInt (args : Array Value) (w : World) : (callFunc 28 args).run Tryz.prog w = .ok (.enter 28 args) w := callFunc_enter Tryz.func28 (by kernel_rfl) rfl args w
theorem fm_assayerlaw01_SameRat (args : Array Value) (w : World) : (callFunc 54 args).run Tryz.prog w = .ok (.enter 54 args) w := callFunc_enter Tryz.func54 (by kernel_rfl) rfl args w
theorem fm_assayerref03_Of (args : Array Value) (w : World) : (callFunc 55 args).run Tryz.prog w = .ok (.enter 55 args) w := callFunc_enter Tryz.func55 (by kernel_rfl) rfl args w
set_option maxHeartbeats 16000000 in
theorem RatsMakes_ok (w : World) (b1 : Bool) (A1 : Option Addr) (n1 c1 : Nat) (xs1 : List Nat) (b2 : Bool) (A2 : Option Addr) (n2 c2 : Nat) (xs2 : List Nat) (z : Int) (h1 : Rd w A1 n1 xs1) (i1 : Is32 xs1) (l1 : n1 ≤ c1) (h2 : Rd w A2 n2 xs2) (i2 : Is32 xs2) (l2 : n2 ≤ c2) (hz0 : -9223372036854775808 ≤ z) (hz1 : z < 9223372036854775808) (hT : Tab w) :
    Calls Tryz.prog 6 #[.agg #[.bool b1, .slice A1 n1 c1], .agg #[.bool b2, .slice A2 n2 c2], .int .i64 z] w fun e w' => e = .returned (.bool true) ∧ Hid (Below w.heap.size w w') := by
  refine opq fun R hR => ?_
  have q1 := h1.2.1
  replace h1 := hide h1
  replace i1 := hide i1
  have q2 := h2.2.1
  replace h2 := hide h2
  replace i2 := hide i2
  have T := hide hT
  clear hT
  have B0 := hide (ints_box w b1 (.slice A1 n1 c1))
  have b0 := hide (B0.out.trans ((ints_box (w.alloc (.cells #[.bool b1, .slice A1 n1 c1] 25)) b2 (.slice A2 n2 c2)).mono B0.out.size))
  have K1 := hide ((Blk.new_at w w.heap.size rfl 25 #[.bool b1, .slice A1 n1 c1]).alloc (.cells #[.bool b2, .slice A2 n2 c2] 25))
  have K2 := hide (Blk.new_at (w.alloc (.cells #[.bool b1, .slice A1 n1 c1] 25)) (w.heap.size + 1) (by simp) 25 #[.bool b2, .slice A2 n2 c2])
  have v1 := K1.out.at_ 1 rfl
  have v2 := K2.out.at_ 1 rfl
  go_enter Tryz.func6, Tryz.ntmps6
  by_cases g1 : 60 < n1
  · go_wp2
    exact opq_end hR ⟨rfl, b0⟩
  by_cases g2 : 60 < n2
  · go_wp2
    exact opq_end hR ⟨rfl, b0⟩
  have w1 : n1 ≤ 60 := by omega
  have w2 : n2 ≤ 60 := by omega
  clear g1 g2 B0
  obtain ⟨U, hU⟩ : ∃ U, (w.alloc (.cells #[.bool b1, .slice A1 n1 c1] 25)).alloc (.cells #[.bool b2, .slice A2 n2 c2] 25) = U := ⟨_, rfl⟩
  have u0 : U.cell? ⟨w.heap.size, 0, none⟩ = some (.bool b1) := by rw [← hU]; exact K1.out.at_ 0 rfl
  rw [hU] at b0 K1 K2 v1 v2
  replace hU := hide hU
  have P1 : Hid (Prt U (.slice A1 n1 c1) xs1) := ⟨A1, n1, c1, rfl, l1, by omega, h1.out.below b0.out, i1.out⟩
  have S1 : Hid (L (iv b1 xs1).natAbs ≤ 60) := Nat.le_trans (iv_L i1.out) (by rw [h1.out.1]; omega)
  have R1 : Hid (IPrt U (.agg #[.bool b1, .slice A1 n1 c1]) b1 xs1) := ⟨_, rfl, P1.out⟩
  have P2 : Hid (Prt U (.slice A2 n2 c2) xs2) := ⟨A2, n2, c2, rfl, l2, by omega, h2.out.below b0.out, i2.out⟩
  have S2 : Hid (L (iv b2 xs2).natAbs ≤ 60) := Nat.le_trans (iv_L i2.out) (by rw [h2.out.1]; omega)
  have R2 : Hid (IPrt U (.agg #[.bool b2, .slice A2 n2 c2]) b2 xs2) := ⟨_, rfl, P2.out⟩
  have DL := hide (mk_L S1.out S2.out)
  obtain ⟨dk, hdk⟩ : ∃ k, Hid (mkK b1 xs1 b2 xs2 = k) := ⟨_, rfl⟩
  obtain ⟨dz, hdz⟩ : ∃ k, Hid (mkZ b1 xs1 b2 xs2 = k) := ⟨_, rfl⟩
  obtain ⟨dn, hdn⟩ : ∃ k, Hid (mkN b1 xs1 b2 xs2 = k) := ⟨_, rfl⟩
  rw [hdz.out, hdn.out] at DL
  replace hz0 := hide hz0
  replace hz1 := hide hz1
  have H : Hid (HW w.heap.size U []) := HW.nil _ _
  replace T := hide (T.out.below b0.out)
  clear h1 h2 i1 i2 v1 v2 u0
  have x10 := K1.out.at_ 0 rfl
  have x11 := K1.out.at_ 1 rfl
  have x20 := K2.out.at_ 0 rfl
  have x21 := K2.out.at_ 1 rfl
  rw [← hU.out] at x10 x11 x20 x21
  go_wp2_with fail
  clear x10 x11 x20 x21
  rw [hU.out]
  clear hU
  refine (ip_twin P1.out (by omega)).mono ?_
  rintro e w2 ⟨X, cx, rfl, d1, TX⟩
  obtain ⟨_, lr⟩ := TX.lrow
  replace H : Hid (HW w.heap.size w2 ([] ++ [⟨X, n1, cx, none, 0, 0, 0 + 1⟩])) := HW.next H.out d1.out lr b0.out.size (by omega) (by omega)
  clear lr
  replace P1 := hide (P1.out.below d1.out)
  replace P2 := hide (P2.out.below d1.out)
  replace R1 := hide (R1.out.below d1.out)
  replace R2 := hide (R2.out.below d1.out)
  replace T := hide (T.out.below d1.out)
  replace K1 := hide (K1.out.below' d1.out)
  replace K2 := hide (K2.out.below' d1.out)
  replace b0 := hide (below_tr b0.out d1.out)
  clear d1
  replace TX := hide TX
  have J1 : Hid (IPrt w2 (.agg #[.bool b1, .slice X n1 cx]) b1 xs1) := ⟨_, rfl, TX.out.prt⟩
  have dA := (Below.refl w2.heap.size w2).alloc (Nat.le_refl _) (.cells #[.bool b1, .slice X n1 cx] 25)
  have KX := hide (Blk.new w2 25 #[.bool b1, .slice X n1 cx])
  replace P1 := hide (P1.out.below dA)
  replace P2 := hide (P2.out.below dA)
  replace R1 := hide (R1.out.below dA)
  replace R2 := hide (R2.out.below dA)
  replace T := hide (T.out.below dA)
  replace TX := hide (TX.out.below dA)
  replace J1 := hide (J1.out.below dA)
  replace K1 := hide (K1.out.below' dA)
  replace K2 := hide (K2.out.below' dA)
  replace H := hide (H.out.below dA)
  replace b0 := hide (below_tr b0.out dA)
  clear dA
  have vK20 : (w2.alloc (.cells #[.bool b1, .slice X n1 cx] 25)).cell? ⟨(w.heap.size + 1), 0, none⟩ = some (.bool b2) := K2.out.at_ 0 rfl
  have vK21 : (w2.alloc (.cells #[.bool b1, .slice X n1 cx] 25)).cell? ⟨(w.heap.size + 1), 1, none⟩ = some (.slice A2 n2 c2) := K2.out.at_ 1 rfl
  go_wp2_with fail
  clear vK20 vK21
  obtain ⟨V1, hV⟩ : ∃ V, (w2.alloc (.cells #[.bool b1, .slice X n1 cx] 25)) = V := ⟨_, rfl⟩
  obtain ⟨gKX, hg⟩ : ∃ g, w2.heap.size = g := ⟨_, rfl⟩
  rw [hV] at P1 P2 R1 R2 T TX J1 K1 K2 KX b0 H
  rw [hg] at KX
  rw [hV, hg]
  clear hV hg
  refine (ip_twin P2.out (by omega)).mono ?_
  rintro e w3 ⟨Y, cy, rfl, d1, TY⟩
  obtain ⟨_, lr⟩ := TY.lrow
  replace H : Hid (HW w.heap.size w3 ([] ++ [⟨X, n1, cx, none, 0, 0, 0 + 1⟩] ++ [⟨Y, n2, cy, none, 0, 0, 0 + 1 + 1⟩])) := HW.next H.out d1.out lr b0.out.size (by omega) (by omega)
  clear lr
  replace P1 := hide (P1.out.below d1.out)
  replace P2 := hide (P2.out.below d1.out)
  replace R1 := hide (R1.out.below d1.out)
  replace R2 := hide (R2.out.below d1.out)
  replace T := hide (T.out.below d1.out)
  replace TX := hide (TX.out.below d1.out)
  replace J1 := hide (J1.out.below d1.out)
  replace K1 := hide (K1.out.below' d1.out)
  replace K2 := hide (K2.out.below' d1.out)
  replace KX := hide (KX.out.below' d1.out)
  replace b0 := hide (below_tr b0.out d1.out)
  clear d1
  replace TY := hide TY
  have J2 : Hid (IPrt w3 (.agg #[.bool b2, .slice Y n2 cy]) b2 xs2) := ⟨_, rfl, TY.out.prt⟩
  have dA := (Below.refl w3.heap.size w3).alloc (Nat.le_refl _) (.cells #[.bool b2, .slice Y n2 cy] 25)
  have KY := hide (Blk.new w3 25 #[.bool b2, .slice Y n2 cy])
  replace P1 := hide (P1.out.below dA)
  replace P2 := hide (P2.out.below dA)
  replace R1 := hide (R1.out.below dA)
  replace R2 := hide (R2.out.below dA)
  replace T := hide (T.out.below dA)
  replace TX := hide (TX.out.below dA)
  replace J1 := hide (J1.out.below dA)
  replace TY := hide (TY.out.below dA)
  replace J2 := hide (J2.out.below dA)
  replace K1 := hide (K1.out.below' dA)
  replace K2 := hide (K2.out.below' dA)
  replace KX := hide (KX.out.below' dA)
  replace H := hide (H.out.below dA)
  replace b0 := hide (below_tr b0.out dA)
  clear dA
  have vKX0 : (w3.alloc (.cells #[.bool b2, .slice Y n2 cy] 25)).cell? ⟨gKX, 0, none⟩ = some (.bool b1) := KX.out.at_ 0 rfl
  have vKX1 : (w3.alloc (.cells #[.bool b2, .slice Y n2 cy] 25)).cell? ⟨gKX, 1, none⟩ = some (.slice X n1 cx) := KX.out.at_ 1 rfl
  have vKY0 : (w3.alloc (.cells #[.bool b2, .slice Y n2 cy] 25)).cell? ⟨w3.heap.size, 0, none⟩ = some (.bool b2) := KY.out.at_ 0 rfl
  have vKY1 : (w3.alloc (.cells #[.bool b2, .slice Y n2 cy] 25)).cell? ⟨w3.heap.size, 1, none⟩ = some (.slice Y n2 cy) := KY.out.at_ 1 rfl
  go_wp2_with fail
  clear vKX0 vKX1 vKY0 vKY1
  obtain ⟨V2, hV⟩ : ∃ V, (w3.alloc (.cells #[.bool b2, .slice Y n2 cy] 25)) = V := ⟨_, rfl⟩
  obtain ⟨gKY, hg⟩ : ∃ g, w3.heap.size = g := ⟨_, rfl⟩
  rw [hV] at P1 P2 R1 R2 T TX J1 TY J2 K1 K2 KX KY b0 H
  rw [hg] at KY
  rw [hV, hg]
  clear hV hg
  refine (rp_Make J1.out J2.out (L_up S1.out (by decide)) (L_up S2.out (by decide)) T.out).mono ?_
  rintro e w4 ⟨sC, C, nC, cC, C', mC, kC, rfl, d1, FC⟩
  rw [hdk.out]
  rw [hdz.out, hdn.out] at FC
  replace H : Hid (HW w.heap.size w4 ([] ++ [⟨X, n1, cx, none, 0, 0, 0 + 1⟩] ++ [⟨Y, n2, cy, none, 0, 0, 0 + 1 + 1⟩] ++ [⟨C, nC, cC, none, 0, 0, 0 + 1 + 1 + 1⟩] ++ [⟨C', mC, kC, none, 0, 0, 0 + 1 + 1 + 1 + 1⟩])) := PR.next H.out d1.out FC b0.out.size (Nat.le_trans DL.out.1 (by decide)) (Nat.le_trans DL.out.2 (by decide)) (by omega) (by omega)
  replace P1 := hide (P1.out.below d1.out)
  replace P2 := hide (P2.out.below d1.out)
  replace R1 := hide (R1.out.below d1.out)
  replace R2 := hide (R2.out.below d1.out)
  replace T := hide (T.out.below d1.out)
  replace TX := hide (TX.out.below d1.out)
  replace J1 := hide (J1.out.below d1.out)
  replace TY := hide (TY.out.below d1.out)
  replace J2 := hide (J2.out.below d1.out)
  replace K1 := hide (K1.out.below' d1.out)
  replace K2 := hide (K2.out.below' d1.out)
  replace KX := hide (KX.out.below' d1.out)
  replace KY := hide (KY.out.below' d1.out)
  replace b0 := hide (below_tr b0.out d1.out)
  clear d1
  replace FC := hide FC
  have dA := (Below.refl w4.heap.size w4).alloc (Nat.le_refl _) (.cells #[.bool sC, .slice C nC cC, .slice C' mC kC] TR)
  have KC := hide (Blk.new w4 TR #[.bool sC, .slice C nC cC, .slice C' mC kC])
  replace P1 := hide (P1.out.below dA)
  replace P2 := hide (P2.out.below dA)
  replace R1 := hide (R1.out.below dA)
  replace R2 := hide (R2.out.below dA)
  replace T := hide (T.out.below dA)
  replace TX := hide (TX.out.below dA)
  replace J1 := hide (J1.out.below dA)
  replace TY := hide (TY.out.below dA)
  replace J2 := hide (J2.out.below dA)
  replace FC := hide (FC.out.below dA)
  replace K1 := hide (K1.out.below' dA)
  replace K2 := hide (K2.out.below' dA)
  replace KX := hide (KX.out.below' dA)
  replace KY := hide (KY.out.below' dA)
  replace H := hide (H.out.below dA)
  replace b0 := hide (below_tr b0.out dA)
  clear dA
  have vKX0 : (w4.alloc (.cells #[.bool sC, .slice C nC cC, .slice C' mC kC] TR)).cell? ⟨gKX, 0, none⟩ = some (.bool b1) := KX.out.at_ 0 rfl
  have vKX1 : (w4.alloc (.cells #[.bool sC, .slice C nC cC, .slice C' mC kC] TR)).cell? ⟨gKX, 1, none⟩ = some (.slice X n1 cx) := KX.out.at_ 1 rfl
  have vKY0 : (w4.alloc (.cells #[.bool sC, .slice C nC cC, .slice C' mC kC] TR)).cell? ⟨gKY, 0, none⟩ = some (.bool b2) := KY.out.at_ 0 rfl
  have vKY1 : (w4.alloc (.cells #[.bool sC, .slice C nC cC, .slice C' mC kC] TR)).cell? ⟨gKY, 1, none⟩ = some (.slice Y n2 cy) := KY.out.at_ 1 rfl
  go_wp2_with fail
  clear vKX0 vKX1 vKY0 vKY1
  obtain ⟨V3, hV⟩ : ∃ V, (w4.alloc (.cells #[.bool sC, .slice C nC cC, .slice C' mC kC] TR)) = V := ⟨_, rfl⟩
  obtain ⟨gKC, hg⟩ : ∃ g, w4.heap.size = g := ⟨_, rfl⟩
  rw [hV] at P1 P2 R1 R2 T TX J1 TY J2 FC K1 K2 KX KY KC b0 H
  rw [hg] at KC
  rw [hV, hg]
  clear hV hg
  refine (rp_Make J1.out J2.out (L_up S1.out (by decide)) (L_up S2.out (by decide)) T.out).mono ?_
  rintro e w5 ⟨sD, D, nD, cD, D', mD, kD, rfl, d1, FD⟩
  rw [hdk.out]
  rw [hdz.out, hdn.out] at FD
  replace H : Hid (HW w.heap.size w5 ([] ++ [⟨X, n1, cx, none, 0, 0, 0 + 1⟩] ++ [⟨Y, n2, cy, none, 0, 0, 0 + 1 + 1⟩] ++ [⟨C, nC, cC, none, 0, 0, 0 + 1 + 1 + 1⟩] ++ [⟨C', mC, kC, none, 0, 0, 0 + 1 + 1 + 1 + 1⟩] ++ [⟨D, nD, cD, none, 0, 0, 0 + 1 + 1 + 1 + 1 + 1⟩] ++ [⟨D', mD, kD, none, 0, 0, 0 + 1 + 1 + 1 + 1 + 1 + 1⟩])) := PR.next H.out d1.out FD b0.out.size (Nat.le_trans DL.out.1 (by decide)) (Nat.le_trans DL.out.2 (by decide)) (by omega) (by omega)
  replace P1 := hide (P1.out.below d1.out)
  replace P2 := hide (P2.out.below d1.out)
  replace R1 := hide (R1.out.below d1.out)
  replace R2 := hide (R2.out.below d1.out)
  replace T := hide (T.out.below d1.out)
  replace TX := hide (TX.out.below d1.out)
  replace J1 := hide (J1.out.below d1.out)
  replace TY := hide (TY.out.below d1.out)
  replace J2 := hide (J2.out.below d1.out)
  replace FC := hide (FC.out.below d1.out)
  replace K1 := hide (K1.out.below' d1.out)
  replace K2 := hide (K2.out.below' d1.out)
  replace KX := hide (KX.out.below' d1.out)
  replace KY := hide (KY.out.below' d1.out)
  replace KC := hide (KC.out.below' d1.out)
  replace b0 := hide (below_tr b0.out d1.out)
  clear d1
  replace FD := hide FD
  have dA := (Below.refl w5.heap.size w5).alloc (Nat.le_refl _) (.cells #[.bool sD, .slice D nD cD, .slice D' mD kD] TR)
  have KD := hide (Blk.new w5 TR #[.bool sD, .slice D nD cD, .slice D' mD kD])
  replace P1 := hide (P1.out.below dA)
  replace P2 := hide (P2.out.below dA)
  replace R1 := hide (R1.out.below dA)
  replace R2 := hide (R2.out.below dA)
  replace T := hide (T.out.below dA)
  replace TX := hide (TX.out.below dA)
  replace J1 := hide (J1.out.below dA)
  replace TY := hide (TY.out.below dA)
  replace J2 := hide (J2.out.below dA)
  replace FC := hide (FC.out.below dA)
  replace FD := hide (FD.out.below dA)
  replace K1 := hide (K1.out.below' dA)
  replace K2 := hide (K2.out.below' dA)
  replace KX := hide (KX.out.below' dA)
  replace KY := hide (KY.out.below' dA)
  replace KC := hide (KC.out.below' dA)
  replace H := hide (H.out.below dA)
  replace b0 := hide (below_tr b0.out dA)
  clear dA
  have vK10 : (w5.alloc (.cells #[.bool sD, .slice D nD cD, .slice D' mD kD] TR)).cell? ⟨w.heap.size, 0, none⟩ = some (.bool b1) := K1.out.at_ 0 rfl
  have vK11 : (w5.alloc (.cells #[.bool sD, .slice D nD cD, .slice D' mD kD] TR)).cell? ⟨w.heap.size, 1, none⟩ = some (.slice A1 n1 c1) := K1.out.at_ 1 rfl
  have vK20 : (w5.alloc (.cells #[.bool sD, .slice D nD cD, .slice D' mD kD] TR)).cell? ⟨(w.heap.size + 1), 0, none⟩ = some (.bool b2) := K2.out.at_ 0 rfl
  have vK21 : (w5.alloc (.cells #[.bool sD, .slice D nD cD, .slice D' mD kD] TR)).cell? ⟨(w.heap.size + 1), 1, none⟩ = some (.slice A2 n2 c2) := K2.out.at_ 1 rfl
  go_wp2_with fail
  clear vK10 vK11 vK20 vK21
  obtain ⟨V4, hV⟩ : ∃ V, (w5.alloc (.cells #[.bool sD, .slice D nD cD, .slice D' mD kD] TR)) = V := ⟨_, rfl⟩
  obtain ⟨gKD, hg⟩ : ∃ g, w5.heap.size = g := ⟨_, rfl⟩
  rw [hV] at P1 P2 R1 R2 T TX J1 TY J2 FC FD K1 K2 KX KY KC KD b0 H
  rw [hg] at KD
  rw [hV, hg]
  clear hV hg
  refine (rq_Make R1.out R2.out (L_up S1.out (by decide)) (L_up S2.out (by decide))).mono ?_
  rintro e w6 ⟨sE, E, nE, cE, E', mE, kE, rfl, d1, FE⟩
  rw [hdk.out]
  rw [hdz.out, hdn.out] at FE
  replace H := hide (H.out.below d1.out)
  replace P1 := hide (P1.out.below d1.out)
  replace P2 := hide (P2.out.below d1.out)
  replace R1 := hide (R1.out.below d1.out)
  replace R2 := hide (R2.out.below d1.out)
  replace T := hide (T.out.below d1.out)
  replace TX := hide (TX.out.below d1.out)
  replace J1 := hide (J1.out.below d1.out)
  replace TY := hide (TY.out.below d1.out)
  replace J2 := hide (J2.out.below d1.out)
  replace FC := hide (FC.out.below d1.out)
  replace FD := hide (FD.out.below d1.out)
  replace K1 := hide (K1.out.below' d1.out)
  replace K2 := hide (K2.out.below' d1.out)
  replace KX := hide (KX.out.below' d1.out)
  replace KY := hide (KY.out.below' d1.out)
  replace KC := hide (KC.out.below' d1.out)
  replace KD := hide (KD.out.below' d1.out)
  replace b0 := hide (below_tr b0.out d1.out)
  clear d1
  replace FE := hide FE
  have dA := (Below.refl w6.heap.size w6).alloc (Nat.le_refl _) (.cells #[.bool sE, .slice E nE cE, .slice E' mE kE] TR)
  have KE := hide (Blk.new w6 TR #[.bool sE, .slice E nE cE, .slice E' mE kE])
  replace P1 := hide (P1.out.below dA)
  replace P2 := hide (P2.out.below dA)
  replace R1 := hide (R1.out.below dA)
  replace R2 := hide (R2.out.below dA)
  replace T := hide (T.out.below dA)
  replace TX := hide (TX.out.below dA)
  replace J1 := hide (J1.out.below dA)
  replace TY := hide (TY.out.below dA)
  replace J2 := hide (J2.out.below dA)
  replace FC := hide (FC.out.below dA)
  replace FD := hide (FD.out.below dA)
  replace FE := hide (FE.out.below dA)
  replace K1 := hide (K1.out.below' dA)
  replace K2 := hide (K2.out.below' dA)
  replace KX := hide (KX.out.below' dA)
  replace KY := hide (KY.out.below' dA)
  replace KC := hide (KC.out.below' dA)
  replace KD := hide (KD.out.below' dA)
  replace H := hide (H.out.below dA)
  replace b0 := hide (below_tr b0.out dA)
  clear dA
  go_wp2_with fail
  obtain ⟨V5, hV⟩ : ∃ V, (w6.alloc (.cells #[.bool sE, .slice E nE cE, .slice E' mE kE] TR)) = V := ⟨_, rfl⟩
  obtain ⟨gKE, hg⟩ : ∃ g, w6.heap.size = g := ⟨_, rfl⟩
  rw [hV] at P1 P2 R1 R2 T TX J1 TY J2 FC FD FE K1 K2 KX KY KC KD KE b0 H
  rw [hg] at KE
  rw [hV, hg]
  clear hV hg
  refine ((rOf_P _ z hz0.out hz1.out).mono (fun e w' h => ratR_PR (P := fun _ _ => True) h)).mono ?_
  rintro e w7 ⟨sO, O, nO, cO, O', mO, kO, rfl, d1, FO⟩
  replace H : Hid (HW w.heap.size w7 ([] ++ [⟨X, n1, cx, none, 0, 0, 0 + 1⟩] ++ [⟨Y, n2, cy, none, 0, 0, 0 + 1 + 1⟩] ++ [⟨C, nC, cC, none, 0, 0, 0 + 1 + 1 + 1⟩] ++ [⟨C', mC, kC, none, 0, 0, 0 + 1 + 1 + 1 + 1⟩] ++ [⟨D, nD, cD, none, 0, 0, 0 + 1 + 1 + 1 + 1 + 1⟩] ++ [⟨D', mD, kD, none, 0, 0, 0 + 1 + 1 + 1 + 1 + 1 + 1⟩] ++ [⟨O, nO, cO, none, 0, 0, 0 + 1 + 1 + 1 + 1 + 1 + 1 + 1⟩] ++ [⟨O', mO, kO, none, 0, 0, 0 + 1 + 1 + 1 + 1 + 1 + 1 + 1 + 1⟩])) := PR.next H.out d1.out FO b0.out.size (Nat.le_trans (L_up (Z_64 hz0.out hz1.out) (by decide) : L (z.natAbs) ≤ 500000) (by decide)) (Nat.le_trans (L_small (N := 1) (by omega)) (by decide)) (by omega) (by omega)
  replace P1 := hide (P1.out.below d1.out)
  replace P2 := hide (P2.out.below d1.out)
  replace R1 := hide (R1.out.below d1.out)
  replace R2 := hide (R2.out.below d1.out)
  replace T := hide (T.out.below d1.out)
  replace TX := hide (TX.out.below d1.out)
  replace J1 := hide (J1.out.below d1.out)
  replace TY := hide (TY.out.below d1.out)
  replace J2 := hide (J2.out.below d1.out)
  replace FC := hide (FC.out.below d1.out)
  replace FD := hide (FD.out.below d1.out)
  replace FE := hide (FE.out.below d1.out)
  replace K1 := hide (K1.out.below' d1.out)
  replace K2 := hide (K2.out.below' d1.out)
  replace KX := hide (KX.out.below' d1.out)
  replace KY := hide (KY.out.below' d1.out)
  replace KC := hide (KC.out.below' d1.out)
  replace KD := hide (KD.out.below' d1.out)
  replace KE := hide (KE.out.below' d1.out)
  replace b0 := hide (below_tr b0.out d1.out)
  clear d1
  replace FO := hide FO
  have dA := (Below.refl w7.heap.size w7).alloc (Nat.le_refl _) (.cells #[.bool sO, .slice O nO cO, .slice O' mO kO] TR)
  have KO := hide (Blk.new w7 TR #[.bool sO, .slice O nO cO, .slice O' mO kO])
  replace P1 := hide (P1.out.below dA)
  replace P2 := hide (P2.out.below dA)
  replace R1 := hide (R1.out.below dA)
  replace R2 := hide (R2.out.below dA)
  replace T := hide (T.out.below dA)
  replace TX := hide (TX.out.below dA)
  replace J1 := hide (J1.out.below dA)
  replace TY := hide (TY.out.below dA)
  replace J2 := hide (J2.out.below dA)
  replace FC := hide (FC.out.below dA)
  replace FD := hide (FD.out.below dA)
  replace FE := hide (FE.out.below dA)
  replace FO := hide (FO.out.below dA)
  replace K1 := hide (K1.out.below' dA)
  replace K2 := hide (K2.out.below' dA)
  replace KX := hide (KX.out.below' dA)
  replace KY := hide (KY.out.below' dA)
  replace KC := hide (KC.out.below' dA)
  replace KD := hide (KD.out.below' dA)
  replace KE := hide (KE.out.below' dA)
  replace H := hide (H.out.below dA)
  replace b0 := hide (below_tr b0.out dA)
  clear dA
  go_wp2_with fail
  obtain ⟨V6, hV⟩ : ∃ V, (w7.alloc (.cells #[.bool sO, .slice O nO cO, .slice O' mO kO] TR)) = V := ⟨_, rfl⟩
  obtain ⟨gKO, hg⟩ : ∃ g, w7.heap.size = g := ⟨_, rfl⟩
  rw [hV] at P1 P2 R1 R2 T TX J1 TY J2 FC FD FE FO K1 K2 KX KY KC KD KE KO b0 H
  rw [hg] at KO
  rw [hV, hg]
  clear hV hg
  refine wp_region_facts 34 (fun w' => Below V6.heap.size V6 w') [(51, .eq (.agg #[.bool sC, .slice C nC cC, .slice C' mC kC])), (52, .eq (.agg #[.bool sE, .slice E nE cE, .slice E' mE kE])), (53, .eq (.bool true)), (54, .eq (.bool false)), (55, .eq (.bool false)), (56, .eq (.agg #[.bool sD, .slice D nD cD, .slice D' mD kD])), (57, .eq (.agg #[.bool sE, .slice E nE cE, .slice E' mE kE])), (58, .eq (.bool true)), (59, .eq (.bool false)), (60, .eq (.bool false)), (61, .eq (.bool false)), (62, .eq (.int .i64 dk)), (63, .eq (.int .i64 dk)), (64, .eq (.bool false)), (65, .eq (.bool false)), (66, .eq (.bool false)), (67, .eq (.agg #[.bool sO, .slice O nO cO, .slice O' mO kO])), (68, .eq (.int .i64 z)), (69, (.rat ((z : Int) : Rat))), (70, .eq (.bool true)), (71, .eq (.bool false)), (72, .eq (.bool false)), (73, .eq (.bool false)), (74, .eq (.agg #[.bool b1, .slice X n1 cx])), (75, .eq (.agg #[.bool b1, .slice A1 n1 c1])), (76, .eq (.bool true)), (77, .eq (.bool false)), (78, .eq (.bool false)), (79, .eq (.bool false)), (80, .eq (.agg #[.bool b2, .slice Y n2 cy])), (81, .eq (.agg #[.bool b2, .slice A2 n2 c2])), (82, .eq (.bool true)), (83, .eq (.bool false)), (84, .eq (.bool false))] [false, false, false, false, false, false, false, false, false, false, false, false, false, false, false, false, false, false, false, false, false, false, false, false, false, false, false, false, false, false, false, false, false, false, false, false, false, false, false, false, false, false, false, false, false, false, false, false, false, false, false, true, true, true, true, true, true, true, true, true, true, true, true, true, true, true, true, true, true, true, true, true, true, true, true, true, true, true, true, true, true, true, true, true, true, false, false, false, false, false, false, false, false, false, false, false, false] mixed (by kernel_rfl) (by kernel_rfl) (by kernel_rfl) (fun _ _ h hb => h.trans (hb.mono h.size)) ((Below.refl _ _).drew) ⟨?_, ?_, ?_, ?_, ?_, ?_, ?_, ?_, ?_, ?_, ?_, ?_, ?_, ?_, ?_, ?_, ?_, ?_, ?_, ?_, ?_, ?_, ?_, ?_, ?_, ?_, ?_, ?_, ?_, ?_, ?_, ?_, ?_, ?_, trivial⟩ ?_
  · exact .load (.agg #[.bool sC, .slice C nC cC, .slice C' mC kC]) (.inl rfl) rfl rfl (fun a w' hC hs hl => by rw [show a.eval (.tmp 9) = (.pointer (some ⟨gKC, 0, none⟩) : Value) from (hs 9 (by kernel_rfl))]; exact ⟨ld_Rat_ ((KC.out.below' hC).at_ 0 rfl) ((KC.out.below' hC).at_ 1 rfl) ((KC.out.below' hC).at_ 2 rfl), rfl⟩)
  · exact .load (.agg #[.bool sE, .slice E nE cE, .slice E' mE kE]) (.inl rfl) rfl rfl (fun a w' hC hs hl => by rw [show a.eval (.tmp 13) = (.pointer (some ⟨gKE, 0, none⟩) : Value) from (hs 13 (by kernel_rfl))]; exact ⟨ld_Rat_ ((KE.out.below' hC).at_ 0 rfl) ((KE.out.below' hC).at_ 1 rfl) ((KE.out.below' hC).at_ 2 rfl), rfl⟩)
  · exact .call (.inl rfl) rfl rfl fm_assayerlaw01_SameRat (fun a w' hC hs hl => by
      show Calls _ _ #[a.eval (.tmp 51), a.eval (.tmp 52)] _ _
      rw [show a.eval (.tmp 51) = (.agg #[.bool sC, .slice C nC cC, .slice C' mC kC] : Value) from (hl 51 (by kernel_rfl) (by kernel_rfl)), show a.eval (.tmp 52) = (.agg #[.bool sE, .slice E nE cE, .slice E' mE kE] : Value) from (hl 52 (by kernel_rfl) (by kernel_rfl))]
      exact same_PR (FC.out.below hC) (FE.out.below hC))
  · exact .value (.inl rfl) (by intro T e; cases e) rfl rfl (fun a w' hC hs hl => by
      have e0 : a.eval (.tmp 53) = (.bool true) := (hl 53 (by kernel_rfl) (by kernel_rfl))
      simp only [execOp, e0]
      skip
      simp [go_sem] <;> rfl)
  · exact .move (.inl rfl) (.inl rfl) rfl (by kernel_rfl) (by kernel_rfl) rfl
  · exact .load (.agg #[.bool sD, .slice D nD cD, .slice D' mD kD]) (.inr ⟨4, false, 55, by decide, rfl, rfl, rfl⟩) rfl rfl (fun a w' hC hs hl => by rw [show a.eval (.tmp 11) = (.pointer (some ⟨gKD, 0, none⟩) : Value) from (hs 11 (by kernel_rfl))]; exact ⟨ld_Rat_ ((KD.out.below' hC).at_ 0 rfl) ((KD.out.below' hC).at_ 1 rfl) ((KD.out.below' hC).at_ 2 rfl), rfl⟩)
  · exact .load (.agg #[.bool sE, .slice E nE cE, .slice E' mE kE]) (.inr ⟨4, false, 55, by decide, rfl, rfl, rfl⟩) rfl rfl (fun a w' hC hs hl => by rw [show a.eval (.tmp 13) = (.pointer (some ⟨gKE, 0, none⟩) : Value) from (hs 13 (by kernel_rfl))]; exact ⟨ld_Rat_ ((KE.out.below' hC).at_ 0 rfl) ((KE.out.below' hC).at_ 1 rfl) ((KE.out.below' hC).at_ 2 rfl), rfl⟩)
  · exact .call (.inr ⟨4, false, 55, by decide, rfl, rfl, rfl⟩) rfl rfl fm_assayerlaw01_SameRat (fun a w' hC hs hl => by
      show Calls _ _ #[a.eval (.tmp 56), a.eval (.tmp 57)] _ _
      rw [show a.eval (.tmp 56) = (.agg #[.bool sD, .slice D nD cD, .slice D' mD kD] : Value) from (hl 56 (by kernel_rfl) (by kernel_rfl)), show a.eval (.tmp 57) = (.agg #[.bool sE, .slice E nE cE, .slice E' mE kE] : Value) from (hl 57 (by kernel_rfl) (by kernel_rfl))]
      exact same_PR (FD.out.below hC) (FE.out.below hC))
  · exact .value (.inr ⟨4, false, 55, by decide, rfl, rfl, rfl⟩) (by intro T e; cases e) rfl rfl (fun a w' hC hs hl => by
      have e0 : a.eval (.tmp 58) = (.bool true) := (hl 58 (by kernel_rfl) (by kernel_rfl))
      simp only [execOp, e0]
      skip
      simp [go_sem] <;> rfl)
  · exact .pick (b := false) (.inl rfl) rfl rfl (fun a w' hC hs hl => ⟨(hl 55 (by kernel_rfl) (by kernel_rfl)), (hl 59 (by kernel_rfl) (by kernel_rfl))⟩)
  · exact .move (.inl rfl) (.inl rfl) rfl (by kernel_rfl) (by kernel_rfl) rfl
  · exact .moveC (.inr ⟨10, false, 61, by decide, rfl, rfl, rfl⟩) (.inl rfl) rfl (fun a w' hC hs => (hs 10 (by kernel_rfl)))
  · exact .moveC (.inr ⟨10, false, 61, by decide, rfl, rfl, rfl⟩) (.inl rfl) rfl (fun a w' hC hs => (hs 14 (by kernel_rfl)))
  · exact .value (.inr ⟨10, false, 61, by decide, rfl, rfl, rfl⟩) (by intro T e; cases e) rfl rfl (fun a w' hC hs hl => by
      have e0 : a.eval (.tmp 62) = (.int .i64 dk) := (hl 62 (by kernel_rfl) (by kernel_rfl))
      have e1 : a.eval (.tmp 63) = (.int .i64 dk) := (hl 63 (by kernel_rfl) (by kernel_rfl))
      simp only [execOp, e0, e1]
      skip
      simp [go_sem] <;> rfl)
  · exact .pick (b := false) (.inl rfl) rfl rfl (fun a w' hC hs hl => ⟨(hl 61 (by kernel_rfl) (by kernel_rfl)), (hl 64 (by kernel_rfl) (by kernel_rfl))⟩)
  · exact .move (.inl rfl) (.inl rfl) rfl (by kernel_rfl) (by kernel_rfl) rfl
  · exact .load (.agg #[.bool sO, .slice O nO cO, .slice O' mO kO]) (.inr ⟨15, false, 66, by decide, rfl, rfl, rfl⟩) rfl rfl (fun a w' hC hs hl => by rw [show a.eval (.tmp 15) = (.pointer (some ⟨gKO, 0, none⟩) : Value) from (hs 15 (by kernel_rfl))]; exact ⟨ld_Rat_ ((KO.out.below' hC).at_ 0 rfl) ((KO.out.below' hC).at_ 1 rfl) ((KO.out.below' hC).at_ 2 rfl), rfl⟩)
  · exact .moveC (.inr ⟨15, false, 66, by decide, rfl, rfl, rfl⟩) (.inl rfl) rfl (fun a w' hC hs => (hs 2 (by kernel_rfl)))
  · exact .call (.inr ⟨15, false, 66, by decide, rfl, rfl, rfl⟩) rfl rfl fm_assayerref03_Of (fun a w' hC hs hl => by
      show Calls _ _ #[a.eval (.tmp 68)] _ _
      rw [show a.eval (.tmp 68) = (.int .i64 z : Value) from (hl 68 (by kernel_rfl) (by kernel_rfl))]
      exact krOf_C w' z hz0.out hz1.out)
  · exact .call (.inr ⟨15, false, 66, by decide, rfl, rfl, rfl⟩) rfl rfl fm_assayerlaw01_SameRat (fun a w' hC hs hl => by
      show Calls _ _ #[a.eval (.tmp 67), a.eval (.tmp 69)] _ _
      rw [show a.eval (.tmp 67) = (.agg #[.bool sO, .slice O nO cO, .slice O' mO kO] : Value) from (hl 67 (by kernel_rfl) (by kernel_rfl))]
      exact sameRat_yes (FO.out.rcan.below hC) (hl 69 (by kernel_rfl) (by kernel_rfl)))
  · exact .value (.inr ⟨15, false, 66, by decide, rfl, rfl, rfl⟩) (by intro T e; cases e) rfl rfl (fun a w' hC hs hl => by
      have e0 : a.eval (.tmp 70) = (.bool true) := (hl 70 (by kernel_rfl) (by kernel_rfl))
      simp only [execOp, e0]
      skip
      simp [go_sem] <;> rfl)
  · exact .pick (b := false) (.inl rfl) rfl rfl (fun a w' hC hs hl => ⟨(hl 66 (by kernel_rfl) (by kernel_rfl)), (hl 71 (by kernel_rfl) (by kernel_rfl))⟩)
  · exact .move (.inl rfl) (.inl rfl) rfl (by kernel_rfl) (by kernel_rfl) rfl
  · exact .load (.agg #[.bool b1, .slice X n1 cx]) (.inr ⟨22, false, 73, by decide, rfl, rfl, rfl⟩) rfl rfl (fun a w' hC hs hl => by rw [show a.eval (.tmp 7) = (.pointer (some ⟨gKX, 0, none⟩) : Value) from (hs 7 (by kernel_rfl))]; exact ⟨ld_Int_ ((KX.out.below' hC).at_ 0 rfl) ((KX.out.below' hC).at_ 1 rfl), rfl⟩)
  · exact .load (.agg #[.bool b1, .slice A1 n1 c1]) (.inr ⟨22, false, 73, by decide, rfl, rfl, rfl⟩) rfl rfl (fun a w' hC hs hl => by rw [show a.eval (.tmp 3) = (.pointer (some ⟨w.heap.size, 0, none⟩) : Value) from (hs 3 (by kernel_rfl))]; exact ⟨ld_Int_ ((K1.out.below' hC).at_ 0 rfl) ((K1.out.below' hC).at_ 1 rfl), rfl⟩)
  · exact .call (.inr ⟨22, false, 73, by decide, rfl, rfl, rfl⟩) rfl rfl fm_assayerlaw01_LeftInt (fun a w' hC hs hl => by
      show Calls _ _ #[a.eval (.tmp 74), a.eval (.tmp 75)] _ _
      rw [show a.eval (.tmp 74) = (.agg #[.bool b1, .slice X n1 cx] : Value) from (hl 74 (by kernel_rfl) (by kernel_rfl)), show a.eval (.tmp 75) = (.agg #[.bool b1, .slice A1 n1 c1] : Value) from (hl 75 (by kernel_rfl) (by kernel_rfl))]
      exact left_C (TX.out.below hC) (P1.out.below hC))
  · exact .value (.inr ⟨22, false, 73, by decide, rfl, rfl, rfl⟩) (by intro T e; cases e) rfl rfl (fun a w' hC hs hl => by
      have e0 : a.eval (.tmp 76) = (.bool true) := (hl 76 (by kernel_rfl) (by kernel_rfl))
      simp only [execOp, e0]
      skip
      simp [go_sem] <;> rfl)
  · exact .pick (b := false) (.inl rfl) rfl rfl (fun a w' hC hs hl => ⟨(hl 73 (by kernel_rfl) (by kernel_rfl)), (hl 77 (by kernel_rfl) (by kernel_rfl))⟩)
  · exact .move (.inl rfl) (.inl rfl) rfl (by kernel_rfl) (by kernel_rfl) rfl
  · exact .load (.agg #[.bool b2, .slice Y n2 cy]) (.inr ⟨28, false, 79, by decide, rfl, rfl, rfl⟩) rfl rfl (fun a w' hC hs hl => by rw [show a.eval (.tmp 8) = (.pointer (some ⟨gKY, 0, none⟩) : Value) from (hs 8 (by kernel_rfl))]; exact ⟨ld_Int_ ((KY.out.below' hC).at_ 0 rfl) ((KY.out.below' hC).at_ 1 rfl), rfl⟩)
  · exact .load (.agg #[.bool b2, .slice A2 n2 c2]) (.inr ⟨28, false, 79, by decide, rfl, rfl, rfl⟩) rfl rfl (fun a w' hC hs hl => by rw [show a.eval (.tmp 4) = (.pointer (some ⟨(w.heap.size + 1), 0, none⟩) : Value) from (hs 4 (by kernel_rfl))]; exact ⟨ld_Int_ ((K2.out.below' hC).at_ 0 rfl) ((K2.out.below' hC).at_ 1 rfl), rfl⟩)
  · exact .call (.inr ⟨28, false, 79, by decide, rfl, rfl, rfl⟩) rfl rfl fm_assayerlaw01_LeftInt (fun a w' hC hs hl => by
      show Calls _ _ #[a.eval (.tmp 80), a.eval (.tmp 81)] _ _
      rw [show a.eval (.tmp 80) = (.agg #[.bool b2, .slice Y n2 cy] : Value) from (hl 80 (by kernel_rfl) (by kernel_rfl)), show a.eval (.tmp 81) = (.agg #[.bool b2, .slice A2 n2 c2] : Value) from (hl 81 (by kernel_rfl) (by kernel_rfl))]
      exact left_C (TY.out.below hC) (P2.out.below hC))
  · exact .value (.inr ⟨28, false, 79, by decide, rfl, rfl, rfl⟩) (by intro T e; cases e) rfl rfl (fun a w' hC hs hl => by
      have e0 : a.eval (.tmp 82) = (.bool true) := (hl 82 (by kernel_rfl) (by kernel_rfl))
      simp only [execOp, e0]
      skip
      simp [go_sem] <;> rfl)
  · exact .pick (b := false) (.inl rfl) rfl rfl (fun a w' hC hs hl => ⟨(hl 79 (by kernel_rfl) (by kernel_rfl)), (hl 83 (by kernel_rfl) (by kernel_rfl))⟩)
  intro f w9 hC hF _
  have fz : f 84 = .bool false := hF 84 (by kernel_rfl)
  clear hF
  simp only [patch, List.drop]
  rw [fz]
  clear fz
  replace K1 := hide (K1.out.below' hC)
  replace K2 := hide (K2.out.below' hC)
  replace KX := hide (KX.out.below' hC)
  replace KY := hide (KY.out.below' hC)
  replace KC := hide (KC.out.below' hC)
  replace KD := hide (KD.out.below' hC)
  replace KE := hide (KE.out.below' hC)
  replace KO := hide (KO.out.below' hC)
  replace H := hide (H.out.below hC)
  replace b0 := hide (b0.out.trans (hC.mono b0.out.size))
  clear hC
  clear P1 P2 R1 R2 T TX J1 TY J2 FC FD FE FO
  have bB := hide b0.out.size
  have K : Hid (BookAt w.heap.size (w9.alloc (.cells #[.int .i64 0, .slice none 0 0, .slice none 0 0, .slice none 0 0, .slice none 0 0, .slice none 0 0, .slice none 0 0, .slice none 0 0, .slice none 0 0, .slice none 0 0, .slice none 0 0, .slice none 0 0, .slice none 0 0] TBK)) w9.heap.size 0 (.slice none 0 0) []) := BookAt.new bB.out
  obtain ⟨hi, hhi⟩ : ∃ hi, hi = w9.heap.size := ⟨_, rfl⟩
  have H0 : HB w.heap.size w9.heap.size w9 ([] ++ [⟨X, n1, cx, none, 0, 0, 0 + 1⟩] ++ [⟨Y, n2, cy, none, 0, 0, 0 + 1 + 1⟩] ++ [⟨C, nC, cC, none, 0, 0, 0 + 1 + 1 + 1⟩] ++ [⟨C', mC, kC, none, 0, 0, 0 + 1 + 1 + 1 + 1⟩] ++ [⟨D, nD, cD, none, 0, 0, 0 + 1 + 1 + 1 + 1 + 1⟩] ++ [⟨D', mD, kD, none, 0, 0, 0 + 1 + 1 + 1 + 1 + 1 + 1⟩] ++ [⟨O, nO, cO, none, 0, 0, 0 + 1 + 1 + 1 + 1 + 1 + 1 + 1⟩] ++ [⟨O', mO, kO, none, 0, 0, 0 + 1 + 1 + 1 + 1 + 1 + 1 + 1 + 1⟩]) := H.out
  rw [← hhi] at H0
  replace hhi := hide hhi
  have dB := hide ((Below.refl w9.heap.size w9).alloc (Nat.le_refl _) (.cells #[.int .i64 0, .slice none 0 0, .slice none 0 0, .slice none 0 0, .slice none 0 0, .slice none 0 0, .slice none 0 0, .slice none 0 0, .slice none 0 0, .slice none 0 0, .slice none 0 0, .slice none 0 0, .slice none 0 0] TBK))
  replace H : Hid (HB w.heap.size hi (w9.alloc (.cells #[.int .i64 0, .slice none 0 0, .slice none 0 0, .slice none 0 0, .slice none 0 0, .slice none 0 0, .slice none 0 0, .slice none 0 0, .slice none 0 0, .slice none 0 0, .slice none 0 0, .slice none 0 0, .slice none 0 0] TBK)) ([] ++ [⟨X, n1, cx, none, 0, 0, 0 + 1⟩] ++ [⟨Y, n2, cy, none, 0, 0, 0 + 1 + 1⟩] ++ [⟨C, nC, cC, none, 0, 0, 0 + 1 + 1 + 1⟩] ++ [⟨C', mC, kC, none, 0, 0, 0 + 1 + 1 + 1 + 1⟩] ++ [⟨D, nD, cD, none, 0, 0, 0 + 1 + 1 + 1 + 1 + 1⟩] ++ [⟨D', mD, kD, none, 0, 0, 0 + 1 + 1 + 1 + 1 + 1 + 1⟩] ++ [⟨O, nO, cO, none, 0, 0, 0 + 1 + 1 + 1 + 1 + 1 + 1 + 1⟩] ++ [⟨O', mO, kO, none, 0, 0, 0 + 1 + 1 + 1 + 1 + 1 + 1 + 1 + 1⟩])) := H0.bel dB.out
  clear K1
  clear K2
  clear KE
  replace KX := hide (KX.out.below' dB.out)
  replace KY := hide (KY.out.below' dB.out)
  replace KC := hide (KC.out.below' dB.out)
  replace KD := hide (KD.out.below' dB.out)
  replace KO := hide (KO.out.below' dB.out)
  replace b0 := hide (below_tr b0.out dB.out)
  clear dB H0 bB
  have vKX0 : (w9.alloc (.cells #[.int .i64 0, .slice none 0 0, .slice none 0 0, .slice none 0 0, .slice none 0 0, .slice none 0 0, .slice none 0 0, .slice none 0 0, .slice none 0 0, .slice none 0 0, .slice none 0 0, .slice none 0 0, .slice none 0 0] TBK)).cell? ⟨gKX, 0, none⟩ = some (.bool b1) := KX.out.at_ 0 rfl
  have vKX1 : (w9.alloc (.cells #[.int .i64 0, .slice none 0 0, .slice none 0 0, .slice none 0 0, .slice none 0 0, .slice none 0 0, .slice none 0 0, .slice none 0 0, .slice none 0 0, .slice none 0 0, .slice none 0 0, .slice none 0 0, .slice none 0 0] TBK)).cell? ⟨gKX, 1, none⟩ = some (.slice X n1 cx) := KX.out.at_ 1 rfl
  go_wp2_with fail
  clear vKX0 vKX1
  obtain ⟨V_, hV⟩ : ∃ V, w9.alloc (.cells #[.int .i64 0, .slice none 0 0, .slice none 0 0, .slice none 0 0, .slice none 0 0, .slice none 0 0, .slice none 0 0, .slice none 0 0, .slice none 0 0, .slice none 0 0, .slice none 0 0, .slice none 0 0, .slice none 0 0] TBK) = V := ⟨_, rfl⟩
  obtain ⟨g_, hg⟩ : ∃ g, w9.heap.size = g := ⟨_, rfl⟩
  rw [hV, hg] at K
  rw [hV] at b0 H KX KY KC KD KO
  rw [hV, hg]
  clear hV hg hhi
  refine (bookInt_ok _ w.heap.size g_ (0) _ ([]) b0.out.size K.out b1 X n1 cx (by omega) (by simp)).mono ?_
  rintro e W0_ ⟨⟨_, rfl⟩, k1_, v0_, k2_⟩
  replace K := hide k2_
  replace H := hide (H.out.kp k1_)
  replace b0 := hide (b0.out.trans k1_.base)
  clear KX
  replace KY := hide (k1_.nums _ _ _ (by decide) (by decide) KY.out)
  replace KC := hide (k1_.nums _ _ _ (by decide) (by decide) KC.out)
  replace KD := hide (k1_.nums _ _ _ (by decide) (by decide) KD.out)
  replace KO := hide (k1_.nums _ _ _ (by decide) (by decide) KO.out)
  clear k1_ k2_
  have vKY0 : W0_.cell? ⟨gKY, 0, none⟩ = some (.bool b2) := KY.out.at_ 0 rfl
  have vKY1 : W0_.cell? ⟨gKY, 1, none⟩ = some (.slice Y n2 cy) := KY.out.at_ 1 rfl
  go_wp2_with fail
  clear vKY0 vKY1
  refine (bookInt_ok _ w.heap.size g_ (0 + 1) _ ([] ++ [⟨X, n1, cx, none, 0, 0, 0 + 1⟩]) b0.out.size K.out b2 Y n2 cy (by omega) (by simp)).mono ?_
  rintro e W1_ ⟨⟨_, rfl⟩, k1_, v1_, k2_⟩
  replace K := hide k2_
  replace H := hide (H.out.kp k1_)
  replace b0 := hide (b0.out.trans k1_.base)
  clear KY
  replace KC := hide (k1_.nums _ _ _ (by decide) (by decide) KC.out)
  replace KD := hide (k1_.nums _ _ _ (by decide) (by decide) KD.out)
  replace KO := hide (k1_.nums _ _ _ (by decide) (by decide) KO.out)
  clear k1_ k2_
  have vKC0 : W1_.cell? ⟨gKC, 0, none⟩ = some (.bool sC) := KC.out.at_ 0 rfl
  have vKC1 : W1_.cell? ⟨gKC, 1, none⟩ = some (.slice C nC cC) := KC.out.at_ 1 rfl
  have vKC2 : W1_.cell? ⟨gKC, 2, none⟩ = some (.slice C' mC kC) := KC.out.at_ 2 rfl
  go_wp2_with fail
  clear vKC0 vKC1 vKC2
  refine (bookRat_ok _ w.heap.size g_ (0 + 1 + 1) _ ([] ++ [⟨X, n1, cx, none, 0, 0, 0 + 1⟩] ++ [⟨Y, n2, cy, none, 0, 0, 0 + 1 + 1⟩]) b0.out.size K.out sC C nC cC C' mC kC (by omega) (by simp)).mono ?_
  rintro e W2_ ⟨⟨_, rfl⟩, k1_, v2_, k2_⟩
  replace K := hide k2_
  replace H := hide (H.out.kp k1_)
  replace b0 := hide (b0.out.trans k1_.base)
  clear KC
  replace KD := hide (k1_.nums _ _ _ (by decide) (by decide) KD.out)
  replace KO := hide (k1_.nums _ _ _ (by decide) (by decide) KO.out)
  clear k1_ k2_
  have vKD0 : W2_.cell? ⟨gKD, 0, none⟩ = some (.bool sD) := KD.out.at_ 0 rfl
  have vKD1 : W2_.cell? ⟨gKD, 1, none⟩ = some (.slice D nD cD) := KD.out.at_ 1 rfl
  have vKD2 : W2_.cell? ⟨gKD, 2, none⟩ = some (.slice D' mD kD) := KD.out.at_ 2 rfl
  go_wp2_with fail
  clear vKD0 vKD1 vKD2
  refine (bookRat_ok _ w.heap.size g_ (0 + 1 + 1 + 1 + 1) _ ([] ++ [⟨X, n1, cx, none, 0, 0, 0 + 1⟩] ++ [⟨Y, n2, cy, none, 0, 0, 0 + 1 + 1⟩] ++ [⟨C, nC, cC, none, 0, 0, 0 + 1 + 1 + 1⟩] ++ [⟨C', mC, kC, none, 0, 0, 0 + 1 + 1 + 1 + 1⟩]) b0.out.size K.out sD D nD cD D' mD kD (by omega) (by simp)).mono ?_
  rintro e W3_ ⟨⟨_, rfl⟩, k1_, v3_, k2_⟩
  replace K := hide k2_
  replace H := hide (H.out.kp k1_)
  replace b0 := hide (b0.out.trans k1_.base)
  clear KD
  replace KO := hide (k1_.nums _ _ _ (by decide) (by decide) KO.out)
  clear k1_ k2_
  have vKO0 : W3_.cell? ⟨gKO, 0, none⟩ = some (.bool sO) := KO.out.at_ 0 rfl
  have vKO1 : W3_.cell? ⟨gKO, 1, none⟩ = some (.slice O nO cO) := KO.out.at_ 1 rfl
  have vKO2 : W3_.cell? ⟨gKO, 2, none⟩ = some (.slice O' mO kO) := KO.out.at_ 2 rfl
  go_wp2_with fail
  clear vKO0 vKO1 vKO2
  refine (bookRat_ok _ w.heap.size g_ (0 + 1 + 1 + 1 + 1 + 1 + 1) _ ([] ++ [⟨X, n1, cx, none, 0, 0, 0 + 1⟩] ++ [⟨Y, n2, cy, none, 0, 0, 0 + 1 + 1⟩] ++ [⟨C, nC, cC, none, 0, 0, 0 + 1 + 1 + 1⟩] ++ [⟨C', mC, kC, none, 0, 0, 0 + 1 + 1 + 1 + 1⟩] ++ [⟨D, nD, cD, none, 0, 0, 0 + 1 + 1 + 1 + 1 + 1⟩] ++ [⟨D', mD, kD, none, 0, 0, 0 + 1 + 1 + 1 + 1 + 1 + 1⟩]) b0.out.size K.out sO O nO cO O' mO kO (by omega) (by simp)).mono ?_
  rintro e W4_ ⟨⟨_, rfl⟩, k1_, v4_, k2_⟩
  replace K := hide k2_
  replace H := hide (H.out.kp k1_)
  replace b0 := hide (b0.out.trans k1_.base)
  clear KO
  clear k1_ k2_
  go_wp2_with fail
  refine (Apart_ok _ w.heap.size g_ (0 + 1 + 1 + 1 + 1 + 1 + 1 + 1 + 1) hi _ ([] ++ [⟨X, n1, cx, none, 0, 0, 0 + 1⟩] ++ [⟨Y, n2, cy, none, 0, 0, 0 + 1 + 1⟩] ++ [⟨C, nC, cC, none, 0, 0, 0 + 1 + 1 + 1⟩] ++ [⟨C', mC, kC, none, 0, 0, 0 + 1 + 1 + 1 + 1⟩] ++ [⟨D, nD, cD, none, 0, 0, 0 + 1 + 1 + 1 + 1 + 1⟩] ++ [⟨D', mD, kD, none, 0, 0, 0 + 1 + 1 + 1 + 1 + 1 + 1⟩] ++ [⟨O, nO, cO, none, 0, 0, 0 + 1 + 1 + 1 + 1 + 1 + 1 + 1⟩] ++ [⟨O', mO, kO, none, 0, 0, 0 + 1 + 1 + 1 + 1 + 1 + 1 + 1 + 1⟩]) b0.out.size K.out H.out (by simp)).mono ?_
  rintro e WW ⟨rfl, k1_⟩
  replace b0 := hide (b0.out.trans k1_)
  clear k1_ K H
  go_wp2
  exact opq_end hR ⟨rfl, b0⟩
end Go.Proofs.YtfadehkagbcjaaaGreatDoor
