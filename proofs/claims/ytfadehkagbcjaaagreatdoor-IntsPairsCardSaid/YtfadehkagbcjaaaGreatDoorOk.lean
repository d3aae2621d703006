/- the laws of ints: IntsPairs. -/
import Derived.Test.YtfadehkagbcjaaaGreatDoorBj
import Derived.Test.YtfadehkagbcjaaaGreatDoorBm
set_option linter.unusedVariables false
set_option linter.unusedSimpArgs false
set_option maxRecDepth 100000
namespace Go.Proofs.YtfadehkagbcjaaaGreatDoor
open Go.RowKit

theorem fi_assayerlaw01_LeftInt (args : Array Value) (w : World) : (callFunc 28 args).run Tryz.prog w = .ok (.enter 28 args) w := callFunc_enter Tryz.func28 (by kernel_rfl) rfl args w
theorem fi_assayerlaw01_SameInt (args : Array Value) (w : World) : (callFunc 23 args).run Tryz.prog w = .ok (.enter 23 args) w := callFunc_enter Tryz.func23 (by kernel_rfl) rfl args w
theorem fi_assayerref02_Add (args : Array Value) (w : World) : (callFunc 24 args).run Tryz.prog w = .ok (.enter 24 args) w := callFunc_enter Tryz.func24 (by kernel_rfl) rfl args w
theorem fi_assayerref02_Cmp (args : Array Value) (w : World) : (callFunc 20 args).run Tryz.prog w = .ok (.enter 20 args) w := callFunc_enter Tryz.func20 (by kernel_rfl) rfl args w
theorem fi_assayerref02_Mul (args : Array Value) (w : World) : (callFunc 26 args).run Tryz.prog w = .ok (.enter 26 args) w := callFunc_enter Tryz.func26 (by kernel_rfl) rfl args w
theorem fi_assayerref02_Neg (args : Array Value) (w : World) : (callFunc 27 args).run Tryz.prog w = .ok (.enter 27 args) w := callFunc_enter Tryz.func27 (by kernel_rfl) rfl args w
theorem fi_assayerref02_Sign (args : Array Value) (w : World) : (callFunc 22 args).run Tryz.prog w = .ok (.enter 22 args) w := callFunc_enter Tryz.func22 (by kernel_rfl) rfl args w
theorem fi_assayerref02_Sub (args : Array Value) (w : World) : (callFunc 25 args).run Tryz.prog w = .ok (.enter 25 args) w := callFunc_enter Tryz.func25 (by kernel_rfl) rfl args w
theorem fi_ints_Cmp (args : Array Value) (w : World) : (callFunc 19 args).run Tryz.prog w = .ok (.enter 19 args) w := callFunc_enter Tryz.func19 (by kernel_rfl) rfl args w
theorem fi_ints_Sign (args : Array Value) (w : World) : (callFunc 21 args).run Tryz.prog w = .ok (.enter 21 args) w := callFunc_enter Tryz.func21 (by kernel_rfl) rfl args w
set_option maxHeartbeats 8000000 in
theorem IntsPairs_ok (w : World) (b1 : Bool) (A1 : Option Addr) (n1 c1 : Nat) (xs1 : List Nat) (b2 : Bool) (A2 : Option Addr) (n2 c2 : Nat) (xs2 : List Nat) (h1 : Rd w A1 n1 xs1) (i1 : Is32 xs1) (l1 : n1 ≤ c1) (h2 : Rd w A2 n2 xs2) (i2 : Is32 xs2) (l2 : n2 ≤ c2) :
    Calls Tryz.prog 3 #[.agg #[.bool b1, .slice A1 n1 c1], .agg #[.bool b2, .slice A2 n2 c2]] w fun e w' => e = .returned (.bool true) ∧ Hid (Below w.heap.size w w') := by
  refine opq fun R hR => ?_
  have m1 := h1.2.1
  have m2 := h2.2.1
  have r1 := hide h1
  have r2 := hide h2
  replace i1 := hide i1
  replace i2 := hide i2
  clear h1 h2
  obtain ⟨gg, hgg⟩ : ∃ gg, (decide (200 < n1) || decide (200 < n2)) = gg := ⟨_, rfl⟩
  have hgg := hide hgg
  go_enter Tryz.func3, Tryz.ntmps3
  go_wp2_with fail
  obtain ⟨W, hW, K1, K2, BW, ZW⟩ := alloc2 w #[.bool b1, .slice A1 n1 c1] #[.bool b2, .slice A2 n2 c2] 25 25
  rw [hW, ← ZW.out]
  clear hW
  refine (igreat2 (w := W) rfl gg hgg.out).mono ?_
  rintro e w1 ⟨_, rfl, dG, rfl⟩
  have d0 := (Below.refl W.heap.size W).alloc (Nat.le_refl _) (.cells #[.bool b1, .slice A1 n1 c1, .bool b2, .slice A2 n2 c2] 25)
  replace K1 := hide ((K1.out.below' d0).below' dG)
  replace K2 := hide ((K2.out.below' d0).below' dG)
  have dV := hide (below_tr (below_tr BW.out d0) dG)
  clear dG d0 BW ZW
  by_cases hg : 200 < n1 ∨ 200 < n2
  · rw [show gg = true by rw [← hgg.out]; simpa using hg]
    go_wp2
    exact opq_end hR ⟨rfl, (by (repeat (first | exact dV | exact Below.refl _ _ | refine Below.setCell ?_ (by first | (simp; done) | (simp; omega)) _ | refine Below.alloc ?_ (by first | (simp; done) | (simp; omega)) _)))⟩
  rw [show gg = false by rw [← hgg.out]; simpa using hg]
  have g1 : n1 ≤ 200 := by omega
  have g2 : n2 ≤ 200 := by omega
  clear hg hgg
  have b0 := hide dV.out
  clear dV
  have P1 : Hid (Prt w1 (.slice A1 n1 c1) xs1) := ⟨A1, n1, c1, rfl, l1, by omega, r1.out.below b0.out, i1.out⟩
  have P2 : Hid (Prt w1 (.slice A2 n2 c2) xs2) := ⟨A2, n2, c2, rfl, l2, by omega, r2.out.below b0.out, i2.out⟩
  have I1 : Hid (IArg w1 (.agg #[.bool b1, .slice A1 n1 c1]) (iv b1 xs1)) := ⟨b1, xs1, ⟨_, rfl, P1.out⟩, by rw [r1.out.1]; omega, rfl⟩
  have I2 : Hid (IArg w1 (.agg #[.bool b2, .slice A2 n2 c2]) (iv b2 xs2)) := ⟨b2, xs2, ⟨_, rfl, P2.out⟩, by rw [r2.out.1]; omega, rfl⟩
  have e1 : Hid (L (iv b1 xs1).natAbs ≤ 200) := Nat.le_trans (iv_L i1.out) (by rw [r1.out.1]; exact g1)
  have e2 : Hid (L (iv b2 xs2).natAbs ≤ 200) := Nat.le_trans (iv_L i2.out) (by rw [r2.out.1]; exact g2)
  have x1 : Hid (xs1.length ≤ 1000000000000) := by show _ ≤ _; rw [r1.out.1]; omega
  have x2 : Hid (xs2.length ≤ 1000000000000) := by show _ ≤ _; rw [r2.out.1]; omega
  obtain ⟨cc, hcc⟩ : ∃ cc, Hid (cmpI (iv b1 xs1) (iv b2 xs2) = cc) := ⟨_, rfl⟩
  obtain ⟨ss, hss⟩ : ∃ ss, Hid (cmpI (iv b1 xs1) 0 = ss) := ⟨_, rfl⟩
  have H : Hid (HW w.heap.size w1 []) := HW.nil _ _
  clear r1 r2 i1 i2
  have vK10 : w1.cell? ⟨w.heap.size, 0, none⟩ = some (.bool b1) := K1.out.at_ 0 rfl
  have vK11 : w1.cell? ⟨w.heap.size, 1, none⟩ = some (.slice A1 n1 c1) := K1.out.at_ 1 rfl
  go_wp2_with fail
  clear vK10 vK11
  refine (ip_twin P1.out (by omega)).mono ?_
  rintro e w2 ⟨X, cx, rfl, d1, TX⟩
  obtain ⟨_, lr⟩ := TX.lrow
  replace H : Hid (HW w.heap.size w2 ([] ++ [⟨X, n1, cx, none, 0, 0, 0 + 1⟩])) := HW.next H.out d1.out lr b0.out.size (by omega) (by omega)
  clear lr
  replace P1 := hide (P1.out.below d1.out)
  replace P2 := hide (P2.out.below d1.out)
  replace I1 := hide (I1.out.below d1.out)
  replace I2 := hide (I2.out.below d1.out)
  replace K1 := hide (K1.out.below' d1.out)
  replace K2 := hide (K2.out.below' d1.out)
  replace b0 := hide (below_tr b0.out d1.out)
  clear d1
  replace TX := hide TX
  have J1 : Hid (IArg w2 (.agg #[.bool b1, .slice X n1 cx]) (iv b1 xs1)) := ⟨b1, xs1, ⟨_, rfl, TX.out.prt⟩, x1.out, rfl⟩
  have dA := (Below.refl w2.heap.size w2).alloc (Nat.le_refl _) (.cells #[.bool b1, .slice X n1 cx] 25)
  have KX := hide (Blk.new w2 25 #[.bool b1, .slice X n1 cx])
  replace P1 := hide (P1.out.below dA)
  replace P2 := hide (P2.out.below dA)
  replace I1 := hide (I1.out.below dA)
  replace I2 := hide (I2.out.below dA)
  replace TX := hide (TX.out.below dA)
  replace J1 := hide (J1.out.below dA)
  replace K1 := hide (K1.out.below' dA)
  replace K2 := hide (K2.out.below' dA)
  replace H := hide (H.out.below dA)
  replace b0 := hide (below_tr b0.out dA)
  clear dA
  have vK20 : (w2.alloc (.cells #[.bool b1, .slice X n1 cx] 25)).cell? ⟨(w.heap.size + 1), 0, none⟩ = some (.bool b2) := K2.out.at_ 0 rfl
  have vK21 : (w2.alloc (.cells #[.bool b1, .slice X n1 cx] 25)).cell? ⟨(w.heap.size + 1), 1, none⟩ = some (.slice A2 n2 c2) := K2.out.at_ 1 rfl
  go_wp2_with fail
  clear vK20 vK21
  obtain ⟨V1, hV⟩ : ∃ V, (w2.alloc (.cells #[.bool b1, .slice X n1 cx] 25)) = V := ⟨_, rfl⟩
  obtain ⟨gKX, hg⟩ : ∃ g, w2.heap.size = g := ⟨_, rfl⟩
  rw [hV] at P1 P2 I1 I2 TX J1 K1 K2 KX b0 H
  rw [hg] at KX
  rw [hV, hg]
  clear hV hg
  refine (ip_twin P2.out (by omega)).mono ?_
  rintro e w3 ⟨Y, cy, rfl, d1, TY⟩
  obtain ⟨_, lr⟩ := TY.lrow
  replace H : Hid (HW w.heap.size w3 ([] ++ [⟨X, n1, cx, none, 0, 0, 0 + 1⟩] ++ [⟨Y, n2, cy, none, 0, 0, 0 + 1 + 1⟩])) := HW.next H.out d1.out lr b0.out.size (by omega) (by omega)
  clear lr
  replace P1 := hide (P1.out.below d1.out)
  replace P2 := hide (P2.out.below d1.out)
  replace I1 := hide (I1.out.below d1.out)
  replace I2 := hide (I2.out.below d1.out)
  replace TX := hide (TX.out.below d1.out)
  replace J1 := hide (J1.out.below d1.out)
  replace K1 := hide (K1.out.below' d1.out)
  replace K2 := hide (K2.out.below' d1.out)
  replace KX := hide (KX.out.below' d1.out)
  replace b0 := hide (below_tr b0.out d1.out)
  clear d1
  replace TY := hide TY
  have J2 : Hid (IArg w3 (.agg #[.bool b2, .slice Y n2 cy]) (iv b2 xs2)) := ⟨b2, xs2, ⟨_, rfl, TY.out.prt⟩, x2.out, rfl⟩
  have dA := (Below.refl w3.heap.size w3).alloc (Nat.le_refl _) (.cells #[.bool b2, .slice Y n2 cy] 25)
  have KY := hide (Blk.new w3 25 #[.bool b2, .slice Y n2 cy])
  replace P1 := hide (P1.out.below dA)
  replace P2 := hide (P2.out.below dA)
  replace I1 := hide (I1.out.below dA)
  replace I2 := hide (I2.out.below dA)
  replace TX := hide (TX.out.below dA)
  replace J1 := hide (J1.out.below dA)
  replace TY := hide (TY.out.below dA)
  replace J2 := hide (J2.out.below dA)
  replace K1 := hide (K1.out.below' dA)
  replace K2 := hide (K2.out.below' dA)
  replace KX := hide (KX.out.below' dA)
  replace H := hide (H.out.below dA)
  replace b0 := hide (below_tr b0.out dA)
  clear dA
  have vKX0 : (w3.alloc (.cells #[.bool b2, .slice Y n2 cy] 25)).cell? ⟨gKX, 0, none⟩ = some (.bool b1) := KX.out.at_ 0 rfl
  have vKX1 : (w3.alloc (.cells #[.bool b2, .slice Y n2 cy] 25)).cell? ⟨gKX, 1, none⟩ = some (.slice X n1 cx) := KX.out.at_ 1 rfl
  have vKY0 : (w3.alloc (.cells #[.bool b2, .slice Y n2 cy] 25)).cell? ⟨w3.heap.size, 0, none⟩ = some (.bool b2) := KY.out.at_ 0 rfl
  have vKY1 : (w3.alloc (.cells #[.bool b2, .slice Y n2 cy] 25)).cell? ⟨w3.heap.size, 1, none⟩ = some (.slice Y n2 cy) := KY.out.at_ 1 rfl
  go_wp2_with fail
  clear vKX0 vKX1 vKY0 vKY1
  obtain ⟨V2, hV⟩ : ∃ V, (w3.alloc (.cells #[.bool b2, .slice Y n2 cy] 25)) = V := ⟨_, rfl⟩
  obtain ⟨gKY, hg⟩ : ∃ g, w3.heap.size = g := ⟨_, rfl⟩
  rw [hV] at P1 P2 I1 I2 TX J1 TY J2 K1 K2 KX KY b0 H
  rw [hg] at KY
  rw [hV, hg]
  clear hV hg
  refine (ip_Add J1.out J2.out).mono ?_
  rintro e w4 ⟨sS, S, nS, cS, rfl, d1, FS⟩
  obtain ⟨_, lr⟩ := FS.lrow
  replace H : Hid (HW w.heap.size w4 ([] ++ [⟨X, n1, cx, none, 0, 0, 0 + 1⟩] ++ [⟨Y, n2, cy, none, 0, 0, 0 + 1 + 1⟩] ++ [⟨S, nS, cS, none, 0, 0, 0 + 1 + 1 + 1⟩])) := HW.next H.out d1.out lr b0.out.size (by rw [intR_len FS]; exact Nat.le_trans (Z_add (m := 201) e1.out e2.out (by omega)) (by decide)) (by omega)
  clear lr
  replace P1 := hide (P1.out.below d1.out)
  replace P2 := hide (P2.out.below d1.out)
  replace I1 := hide (I1.out.below d1.out)
  replace I2 := hide (I2.out.below d1.out)
  replace TX := hide (TX.out.below d1.out)
  replace J1 := hide (J1.out.below d1.out)
  replace TY := hide (TY.out.below d1.out)
  replace J2 := hide (J2.out.below d1.out)
  replace K1 := hide (K1.out.below' d1.out)
  replace K2 := hide (K2.out.below' d1.out)
  replace KX := hide (KX.out.below' d1.out)
  replace KY := hide (KY.out.below' d1.out)
  replace b0 := hide (below_tr b0.out d1.out)
  clear d1
  replace FS := hide FS
  have dA := (Below.refl w4.heap.size w4).alloc (Nat.le_refl _) (.cells #[.bool sS, .slice S nS cS] 25)
  have KS := hide (Blk.new w4 25 #[.bool sS, .slice S nS cS])
  replace P1 := hide (P1.out.below dA)
  replace P2 := hide (P2.out.below dA)
  replace I1 := hide (I1.out.below dA)
  replace I2 := hide (I2.out.below dA)
  replace TX := hide (TX.out.below dA)
  replace J1 := hide (J1.out.below dA)
  replace TY := hide (TY.out.below dA)
  replace J2 := hide (J2.out.below dA)
  replace FS := hide (FS.out.below dA)
  replace K1 := hide (K1.out.below' dA)
  replace K2 := hide (K2.out.below' dA)
  replace KX := hide (KX.out.below' dA)
  replace KY := hide (KY.out.below' dA)
  replace H := hide (H.out.below dA)
  replace b0 := hide (below_tr b0.out dA)
  clear dA
  have vKX0 : (w4.alloc (.cells #[.bool sS, .slice S nS cS] 25)).cell? ⟨gKX, 0, none⟩ = some (.bool b1) := KX.out.at_ 0 rfl
  have vKX1 : (w4.alloc (.cells #[.bool sS, .slice S nS cS] 25)).cell? ⟨gKX, 1, none⟩ = some (.slice X n1 cx) := KX.out.at_ 1 rfl
  have vKY0 : (w4.alloc (.cells #[.bool sS, .slice S nS cS] 25)).cell? ⟨gKY, 0, none⟩ = some (.bool b2) := KY.out.at_ 0 rfl
  have vKY1 : (w4.alloc (.cells #[.bool sS, .slice S nS cS] 25)).cell? ⟨gKY, 1, none⟩ = some (.slice Y n2 cy) := KY.out.at_ 1 rfl
  go_wp2_with fail
  clear vKX0 vKX1 vKY0 vKY1
  obtain ⟨V3, hV⟩ : ∃ V, (w4.alloc (.cells #[.bool sS, .slice S nS cS] 25)) = V := ⟨_, rfl⟩
  obtain ⟨gKS, hg⟩ : ∃ g, w4.heap.size = g := ⟨_, rfl⟩
  rw [hV] at P1 P2 I1 I2 TX J1 TY J2 FS K1 K2 KX KY KS b0 H
  rw [hg] at KS
  rw [hV, hg]
  clear hV hg
  refine (ip_Sub J1.out J2.out).mono ?_
  rintro e w5 ⟨sD, D, nD, cD, rfl, d1, FD⟩
  obtain ⟨_, lr⟩ := FD.lrow
  replace H : Hid (HW w.heap.size w5 ([] ++ [⟨X, n1, cx, none, 0, 0, 0 + 1⟩] ++ [⟨Y, n2, cy, none, 0, 0, 0 + 1 + 1⟩] ++ [⟨S, nS, cS, none, 0, 0, 0 + 1 + 1 + 1⟩] ++ [⟨D, nD, cD, none, 0, 0, 0 + 1 + 1 + 1 + 1⟩])) := HW.next H.out d1.out lr b0.out.size (by rw [intR_len FD]; exact Nat.le_trans (Z_sub (m := 201) e1.out e2.out (by omega)) (by decide)) (by omega)
  clear lr
  replace P1 := hide (P1.out.below d1.out)
  replace P2 := hide (P2.out.below d1.out)
  replace I1 := hide (I1.out.below d1.out)
  replace I2 := hide (I2.out.below d1.out)
  replace TX := hide (TX.out.below d1.out)
  replace J1 := hide (J1.out.below d1.out)
  replace TY := hide (TY.out.below d1.out)
  replace J2 := hide (J2.out.below d1.out)
  replace FS := hide (FS.out.below d1.out)
  replace K1 := hide (K1.out.below' d1.out)
  replace K2 := hide (K2.out.below' d1.out)
  replace KX := hide (KX.out.below' d1.out)
  replace KY := hide (KY.out.below' d1.out)
  replace KS := hide (KS.out.below' d1.out)
  replace b0 := hide (below_tr b0.out d1.out)
  clear d1
  replace FD := hide FD
  have dA := (Below.refl w5.heap.size w5).alloc (Nat.le_refl _) (.cells #[.bool sD, .slice D nD cD] 25)
  have KD := hide (Blk.new w5 25 #[.bool sD, .slice D nD cD])
  replace P1 := hide (P1.out.below dA)
  replace P2 := hide (P2.out.below dA)
  replace I1 := hide (I1.out.below dA)
  replace I2 := hide (I2.out.below dA)
  replace TX := hide (TX.out.below dA)
  replace J1 := hide (J1.out.below dA)
  replace TY := hide (TY.out.below dA)
  replace J2 := hide (J2.out.below dA)
  replace FS := hide (FS.out.below dA)
  replace FD := hide (FD.out.below dA)
  replace K1 := hide (K1.out.below' dA)
  replace K2 := hide (K2.out.below' dA)
  replace KX := hide (KX.out.below' dA)
  replace KY := hide (KY.out.below' dA)
  replace KS := hide (KS.out.below' dA)
  replace H := hide (H.out.below dA)
  replace b0 := hide (below_tr b0.out dA)
  clear dA
  have vKX0 : (w5.alloc (.cells #[.bool sD, .slice D nD cD] 25)).cell? ⟨gKX, 0, none⟩ = some (.bool b1) := KX.out.at_ 0 rfl
  have vKX1 : (w5.alloc (.cells #[.bool sD, .slice D nD cD] 25)).cell? ⟨gKX, 1, none⟩ = some (.slice X n1 cx) := KX.out.at_ 1 rfl
  have vKY0 : (w5.alloc (.cells #[.bool sD, .slice D nD cD] 25)).cell? ⟨gKY, 0, none⟩ = some (.bool b2) := KY.out.at_ 0 rfl
  have vKY1 : (w5.alloc (.cells #[.bool sD, .slice D nD cD] 25)).cell? ⟨gKY, 1, none⟩ = some (.slice Y n2 cy) := KY.out.at_ 1 rfl
  go_wp2_with fail
  clear vKX0 vKX1 vKY0 vKY1
  obtain ⟨V4, hV⟩ : ∃ V, (w5.alloc (.cells #[.bool sD, .slice D nD cD] 25)) = V := ⟨_, rfl⟩
  obtain ⟨gKD, hg⟩ : ∃ g, w5.heap.size = g := ⟨_, rfl⟩
  rw [hV] at P1 P2 I1 I2 TX J1 TY J2 FS FD K1 K2 KX KY KS KD b0 H
  rw [hg] at KD
  rw [hV, hg]
  clear hV hg
  refine (ip_Mul J1.out J2.out).mono ?_
  rintro e w6 ⟨sM, M, nM, cM, rfl, d1, FM⟩
  obtain ⟨_, lr⟩ := FM.lrow
  replace H : Hid (HW w.heap.size w6 ([] ++ [⟨X, n1, cx, none, 0, 0, 0 + 1⟩] ++ [⟨Y, n2, cy, none, 0, 0, 0 + 1 + 1⟩] ++ [⟨S, nS, cS, none, 0, 0, 0 + 1 + 1 + 1⟩] ++ [⟨D, nD, cD, none, 0, 0, 0 + 1 + 1 + 1 + 1⟩] ++ [⟨M, nM, cM, none, 0, 0, 0 + 1 + 1 + 1 + 1 + 1⟩])) := HW.next H.out d1.out lr b0.out.size (by rw [intR_len FM]; exact Nat.le_trans (Z_mul (m := 400) e1.out e2.out (by omega)) (by decide)) (by omega)
  clear lr
  replace P1 := hide (P1.out.below d1.out)
  replace P2 := hide (P2.out.below d1.out)
  replace I1 := hide (I1.out.below d1.out)
  replace I2 := hide (I2.out.below d1.out)
  replace TX := hide (TX.out.below d1.out)
  replace J1 := hide (J1.out.below d1.out)
  replace TY := hide (TY.out.below d1.out)
  replace J2 := hide (J2.out.below d1.out)
  replace FS := hide (FS.out.below d1.out)
  replace FD := hide (FD.out.below d1.out)
  replace K1 := hide (K1.out.below' d1.out)
  replace K2 := hide (K2.out.below' d1.out)
  replace KX := hide (KX.out.below' d1.out)
  replace KY := hide (KY.out.below' d1.out)
  replace KS := hide (KS.out.below' d1.out)
  replace KD := hide (KD.out.below' d1.out)
  replace b0 := hide (below_tr b0.out d1.out)
  clear d1
  replace FM := hide FM
  have dA := (Below.refl w6.heap.size w6).alloc (Nat.le_refl _) (.cells #[.bool sM, .slice M nM cM] 25)
  have KM := hide (Blk.new w6 25 #[.bool sM, .slice M nM cM])
  replace P1 := hide (P1.out.below dA)
  replace P2 := hide (P2.out.below dA)
  replace I1 := hide (I1.out.below dA)
  replace I2 := hide (I2.out.below dA)
  replace TX := hide (TX.out.below dA)
  replace J1 := hide (J1.out.below dA)
  replace TY := hide (TY.out.below dA)
  replace J2 := hide (J2.out.below dA)
  replace FS := hide (FS.out.below dA)
  replace FD := hide (FD.out.below dA)
  replace FM := hide (FM.out.below dA)
  replace K1 := hide (K1.out.below' dA)
  replace K2 := hide (K2.out.below' dA)
  replace KX := hide (KX.out.below' dA)
  replace KY := hide (KY.out.below' dA)
  replace KS := hide (KS.out.below' dA)
  replace KD := hide (KD.out.below' dA)
  replace H := hide (H.out.below dA)
  replace b0 := hide (below_tr b0.out dA)
  clear dA
  have vKX0 : (w6.alloc (.cells #[.bool sM, .slice M nM cM] 25)).cell? ⟨gKX, 0, none⟩ = some (.bool b1) := KX.out.at_ 0 rfl
  have vKX1 : (w6.alloc (.cells #[.bool sM, .slice M nM cM] 25)).cell? ⟨gKX, 1, none⟩ = some (.slice X n1 cx) := KX.out.at_ 1 rfl
  go_wp2_with fail
  clear vKX0 vKX1
  obtain ⟨V5, hV⟩ : ∃ V, (w6.alloc (.cells #[.bool sM, .slice M nM cM] 25)) = V := ⟨_, rfl⟩
  obtain ⟨gKM, hg⟩ : ∃ g, w6.heap.size = g := ⟨_, rfl⟩
  rw [hV] at P1 P2 I1 I2 TX J1 TY J2 FS FD FM K1 K2 KX KY KS KD KM b0 H
  rw [hg] at KM
  rw [hV, hg]
  clear hV hg
  refine (ip_Neg J1.out).mono ?_
  rintro e w7 ⟨sN, N, nN, cN, rfl, d1, FN⟩
  obtain ⟨_, lr⟩ := FN.lrow
  replace H : Hid (HW w.heap.size w7 ([] ++ [⟨X, n1, cx, none, 0, 0, 0 + 1⟩] ++ [⟨Y, n2, cy, none, 0, 0, 0 + 1 + 1⟩] ++ [⟨S, nS, cS, none, 0, 0, 0 + 1 + 1 + 1⟩] ++ [⟨D, nD, cD, none, 0, 0, 0 + 1 + 1 + 1 + 1⟩] ++ [⟨M, nM, cM, none, 0, 0, 0 + 1 + 1 + 1 + 1 + 1⟩] ++ [⟨N, nN, cN, none, 0, 0, 0 + 1 + 1 + 1 + 1 + 1 + 1⟩])) := HW.next H.out d1.out lr b0.out.size (by rw [intR_len FN]; exact Nat.le_trans (Z_neg e1.out) (by decide)) (by omega)
  clear lr
  replace P1 := hide (P1.out.below d1.out)
  replace P2 := hide (P2.out.below d1.out)
  replace I1 := hide (I1.out.below d1.out)
  replace I2 := hide (I2.out.below d1.out)
  replace TX := hide (TX.out.below d1.out)
  replace J1 := hide (J1.out.below d1.out)
  replace TY := hide (TY.out.below d1.out)
  replace J2 := hide (J2.out.below d1.out)
  replace FS := hide (FS.out.below d1.out)
  replace FD := hide (FD.out.below d1.out)
  replace FM := hide (FM.out.below d1.out)
  replace K1 := hide (K1.out.below' d1.out)
  replace K2 := hide (K2.out.below' d1.out)
  replace KX := hide (KX.out.below' d1.out)
  replace KY := hide (KY.out.below' d1.out)
  replace KS := hide (KS.out.below' d1.out)
  replace KD := hide (KD.out.below' d1.out)
  replace KM := hide (KM.out.below' d1.out)
  replace b0 := hide (below_tr b0.out d1.out)
  clear d1
  replace FN := hide FN
  have dA := (Below.refl w7.heap.size w7).alloc (Nat.le_refl _) (.cells #[.bool sN, .slice N nN cN] 25)
  have KN := hide (Blk.new w7 25 #[.bool sN, .slice N nN cN])
  replace P1 := hide (P1.out.below dA)
  replace P2 := hide (P2.out.below dA)
  replace I1 := hide (I1.out.below dA)
  replace I2 := hide (I2.out.below dA)
  replace TX := hide (TX.out.below dA)
  replace J1 := hide (J1.out.below dA)
  replace TY := hide (TY.out.below dA)
  replace J2 := hide (J2.out.below dA)
  replace FS := hide (FS.out.below dA)
  replace FD := hide (FD.out.below dA)
  replace FM := hide (FM.out.below dA)
  replace FN := hide (FN.out.below dA)
  replace K1 := hide (K1.out.below' dA)
  replace K2 := hide (K2.out.below' dA)
  replace KX := hide (KX.out.below' dA)
  replace KY := hide (KY.out.below' dA)
  replace KS := hide (KS.out.below' dA)
  replace KD := hide (KD.out.below' dA)
  replace KM := hide (KM.out.below' dA)
  replace H := hide (H.out.below dA)
  replace b0 := hide (below_tr b0.out dA)
  clear dA
  go_wp2_with fail
  obtain ⟨V6, hV⟩ : ∃ V, (w7.alloc (.cells #[.bool sN, .slice N nN cN] 25)) = V := ⟨_, rfl⟩
  obtain ⟨gKN, hg⟩ : ∃ g, w7.heap.size = g := ⟨_, rfl⟩
  rw [hV] at P1 P2 I1 I2 TX J1 TY J2 FS FD FM FN K1 K2 KX KY KS KD KM KN b0 H
  rw [hg] at KN
  rw [hV, hg]
  clear hV hg
  refine wp_region_facts 57 (fun w' => Below V6.heap.size V6 w') [(31, .eq (.agg #[.bool b1, .slice X n1 cx])), (32, .eq (.agg #[.bool b2, .slice Y n2 cy])), (33, .eq (.int .i64 cc)), (34, .eq (.agg #[.bool b1, .slice A1 n1 c1])), (35, .eq (.agg #[.bool b2, .slice A2 n2 c2])), (36, .eq (.int .i64 cc)), (37, .eq (.bool false)), (38, .eq (.bool false)), (39, .eq (.agg #[.bool b1, .slice X n1 cx])), (40, .eq (.int .i64 ss)), (41, .eq (.agg #[.bool b1, .slice A1 n1 c1])), (42, .eq (.int .i64 ss)), (43, .eq (.bool false)), (44, .eq (.bool false)), (45, .eq (.bool false)), (46, .eq (.agg #[.bool sS, .slice S nS cS])), (47, .eq (.agg #[.bool b1, .slice A1 n1 c1])), (48, .eq (.agg #[.bool b2, .slice A2 n2 c2])), (49, (.int (iv b1 xs1 + iv b2 xs2))), (50, .eq (.bool true)), (51, .eq (.bool false)), (52, .eq (.bool false)), (53, .eq (.bool false)), (54, .eq (.agg #[.bool sD, .slice D nD cD])), (55, .eq (.agg #[.bool b1, .slice A1 n1 c1])), (56, .eq (.agg #[.bool b2, .slice A2 n2 c2])), (57, (.int (iv b1 xs1 - iv b2 xs2))), (58, .eq (.bool true)), (59, .eq (.bool false)), (60, .eq (.bool false)), (61, .eq (.bool false)), (62, .eq (.agg #[.bool sM, .slice M nM cM])), (63, .eq (.agg #[.bool b1, .slice A1 n1 c1])), (64, .eq (.agg #[.bool b2, .slice A2 n2 c2])), (65, (.int (iv b1 xs1 * iv b2 xs2))), (66, .eq (.bool true)), (67, .eq (.bool false)), (68, .eq (.bool false)), (69, .eq (.bool false)), (70, .eq (.agg #[.bool sN, .slice N nN cN])), (71, .eq (.agg #[.bool b1, .slice A1 n1 c1])), (72, (.int (-iv b1 xs1))), (73, .eq (.bool true)), (74, .eq (.bool false)), (75, .eq (.bool false)), (76, .eq (.bool false)), (77, .eq (.agg #[.bool b1, .slice X n1 cx])), (78, .eq (.agg #[.bool b1, .slice A1 n1 c1])), (79, .eq (.bool true)), (80, .eq (.bool false)), (81, .eq (.bool false)), (82, .eq (.bool false)), (83, .eq (.agg #[.bool b2, .slice Y n2 cy])), (84, .eq (.agg #[.bool b2, .slice A2 n2 c2])), (85, .eq (.bool true)), (86, .eq (.bool false)), (87, .eq (.bool false))] [false, false, false, false, false, false, false, false, false, false, false, false, false, false, false, false, false, false, false, false, false, false, false, false, false, false, false, false, false, false, false, true, true, true, true, true, true, true, true, true, true, true, true, true, true, true, true, true, true, true, true, true, true, true, true, true, true, true, true, true, true, true, true, true, true, true, true, true, true, true, true, true, true, true, true, true, true, true, true, true, true, true, true, true, true, true, true, true, false, false, false, false, false, false, false, false, false, false, false, false, false, false] mixed (by kernel_rfl) (by kernel_rfl) (by kernel_rfl) (fun _ _ h hb => h.trans (hb.mono h.size)) ((Below.refl _ _).drew) ⟨?_, ?_, ?_, ?_, ?_, ?_, ?_, ?_, ?_, ?_, ?_, ?_, ?_, ?_, ?_, ?_, ?_, ?_, ?_, ?_, ?_, ?_, ?_, ?_, ?_, ?_, ?_, ?_, ?_, ?_, ?_, ?_, ?_, ?_, ?_, ?_, ?_, ?_, ?_, ?_, ?_, ?_, ?_, ?_, ?_, ?_, ?_, ?_, ?_, ?_, ?_, ?_, ?_, ?_, ?_, ?_, ?_, trivial⟩ ?_
  · exact .load (.agg #[.bool b1, .slice X n1 cx]) (.inl rfl) rfl rfl (fun a w' hC hs hl => by rw [show a.eval (.tmp 5) = (.pointer (some ⟨gKX, 0, none⟩) : Value) from (hs 5 (by kernel_rfl))]; exact ⟨ld_Int_ ((KX.out.below' hC).at_ 0 rfl) ((KX.out.below' hC).at_ 1 rfl), rfl⟩)
  · exact .load (.agg #[.bool b2, .slice Y n2 cy]) (.inl rfl) rfl rfl (fun a w' hC hs hl => by rw [show a.eval (.tmp 6) = (.pointer (some ⟨gKY, 0, none⟩) : Value) from (hs 6 (by kernel_rfl))]; exact ⟨ld_Int_ ((KY.out.below' hC).at_ 0 rfl) ((KY.out.below' hC).at_ 1 rfl), rfl⟩)
  · exact .call (.inl rfl) rfl rfl fi_ints_Cmp (fun a w' hC hs hl => by
      show Calls _ _ #[a.eval (.tmp 31), a.eval (.tmp 32)] _ _
      rw [show a.eval (.tmp 31) = (.agg #[.bool b1, .slice X n1 cx] : Value) from (hl 31 (by kernel_rfl) (by kernel_rfl)), show a.eval (.tmp 32) = (.agg #[.bool b2, .slice Y n2 cy] : Value) from (hl 32 (by kernel_rfl) (by kernel_rfl))]
      exact iCmp_eq (J1.out.below hC) (J2.out.below hC) hcc.out)
  · exact .load (.agg #[.bool b1, .slice A1 n1 c1]) (.inl rfl) rfl rfl (fun a w' hC hs hl => by rw [show a.eval (.tmp 2) = (.pointer (some ⟨w.heap.size, 0, none⟩) : Value) from (hs 2 (by kernel_rfl))]; exact ⟨ld_Int_ ((K1.out.below' hC).at_ 0 rfl) ((K1.out.below' hC).at_ 1 rfl), rfl⟩)
  · exact .load (.agg #[.bool b2, .slice A2 n2 c2]) (.inl rfl) rfl rfl (fun a w' hC hs hl => by rw [show a.eval (.tmp 3) = (.pointer (some ⟨(w.heap.size + 1), 0, none⟩) : Value) from (hs 3 (by kernel_rfl))]; exact ⟨ld_Int_ ((K2.out.below' hC).at_ 0 rfl) ((K2.out.below' hC).at_ 1 rfl), rfl⟩)
  · exact .call (.inl rfl) rfl rfl fi_assayerref02_Cmp (fun a w' hC hs hl => by
      show Calls _ _ #[a.eval (.tmp 34), a.eval (.tmp 35)] _ _
      rw [show a.eval (.tmp 34) = (.agg #[.bool b1, .slice A1 n1 c1] : Value) from (hl 34 (by kernel_rfl) (by kernel_rfl)), show a.eval (.tmp 35) = (.agg #[.bool b2, .slice A2 n2 c2] : Value) from (hl 35 (by kernel_rfl) (by kernel_rfl))]
      exact qCmp_eq (I1.out.below hC) (I2.out.below hC) (L_up e1.out (by decide)) (L_up e2.out (by decide)) hcc.out)
  · exact .value (.inl rfl) (by intro T e; cases e) rfl rfl (fun a w' hC hs hl => by
      have e0 : a.eval (.tmp 33) = (.int .i64 cc) := (hl 33 (by kernel_rfl) (by kernel_rfl))
      have e1 : a.eval (.tmp 36) = (.int .i64 cc) := (hl 36 (by kernel_rfl) (by kernel_rfl))
      simp only [execOp, e0, e1]
      skip
      simp [go_sem] <;> rfl)
  · exact .move (.inl rfl) (.inl rfl) rfl (by kernel_rfl) (by kernel_rfl) rfl
  · exact .load (.agg #[.bool b1, .slice X n1 cx]) (.inr ⟨7, false, 38, by decide, rfl, rfl, rfl⟩) rfl rfl (fun a w' hC hs hl => by rw [show a.eval (.tmp 5) = (.pointer (some ⟨gKX, 0, none⟩) : Value) from (hs 5 (by kernel_rfl))]; exact ⟨ld_Int_ ((KX.out.below' hC).at_ 0 rfl) ((KX.out.below' hC).at_ 1 rfl), rfl⟩)
  · exact .call (.inr ⟨7, false, 38, by decide, rfl, rfl, rfl⟩) rfl rfl fi_ints_Sign (fun a w' hC hs hl => by
      show Calls _ _ #[a.eval (.tmp 39)] _ _
      rw [show a.eval (.tmp 39) = (.agg #[.bool b1, .slice X n1 cx] : Value) from (hl 39 (by kernel_rfl) (by kernel_rfl))]
      exact iSign_eq (J1.out.below hC) hss.out)
  · exact .load (.agg #[.bool b1, .slice A1 n1 c1]) (.inr ⟨7, false, 38, by decide, rfl, rfl, rfl⟩) rfl rfl (fun a w' hC hs hl => by rw [show a.eval (.tmp 2) = (.pointer (some ⟨w.heap.size, 0, none⟩) : Value) from (hs 2 (by kernel_rfl))]; exact ⟨ld_Int_ ((K1.out.below' hC).at_ 0 rfl) ((K1.out.below' hC).at_ 1 rfl), rfl⟩)
  · exact .call (.inr ⟨7, false, 38, by decide, rfl, rfl, rfl⟩) rfl rfl fi_assayerref02_Sign (fun a w' hC hs hl => by
      show Calls _ _ #[a.eval (.tmp 41)] _ _
      rw [show a.eval (.tmp 41) = (.agg #[.bool b1, .slice A1 n1 c1] : Value) from (hl 41 (by kernel_rfl) (by kernel_rfl))]
      exact qSign_eq (I1.out.below hC) hss.out)
  · exact .value (.inr ⟨7, false, 38, by decide, rfl, rfl, rfl⟩) (by intro T e; cases e) rfl rfl (fun a w' hC hs hl => by
      have e0 : a.eval (.tmp 40) = (.int .i64 ss) := (hl 40 (by kernel_rfl) (by kernel_rfl))
      have e1 : a.eval (.tmp 42) = (.int .i64 ss) := (hl 42 (by kernel_rfl) (by kernel_rfl))
      simp only [execOp, e0, e1]
      skip
      simp [go_sem] <;> rfl)
  · exact .pick (b := false) (.inl rfl) rfl rfl (fun a w' hC hs hl => ⟨(hl 38 (by kernel_rfl) (by kernel_rfl)), (hl 43 (by kernel_rfl) (by kernel_rfl))⟩)
  · exact .move (.inl rfl) (.inl rfl) rfl (by kernel_rfl) (by kernel_rfl) rfl
  · exact .load (.agg #[.bool sS, .slice S nS cS]) (.inr ⟨14, false, 45, by decide, rfl, rfl, rfl⟩) rfl rfl (fun a w' hC hs hl => by rw [show a.eval (.tmp 7) = (.pointer (some ⟨gKS, 0, none⟩) : Value) from (hs 7 (by kernel_rfl))]; exact ⟨ld_Int_ ((KS.out.below' hC).at_ 0 rfl) ((KS.out.below' hC).at_ 1 rfl), rfl⟩)
  · exact .load (.agg #[.bool b1, .slice A1 n1 c1]) (.inr ⟨14, false, 45, by decide, rfl, rfl, rfl⟩) rfl rfl (fun a w' hC hs hl => by rw [show a.eval (.tmp 2) = (.pointer (some ⟨w.heap.size, 0, none⟩) : Value) from (hs 2 (by kernel_rfl))]; exact ⟨ld_Int_ ((K1.out.below' hC).at_ 0 rfl) ((K1.out.below' hC).at_ 1 rfl), rfl⟩)
  · exact .load (.agg #[.bool b2, .slice A2 n2 c2]) (.inr ⟨14, false, 45, by decide, rfl, rfl, rfl⟩) rfl rfl (fun a w' hC hs hl => by rw [show a.eval (.tmp 3) = (.pointer (some ⟨(w.heap.size + 1), 0, none⟩) : Value) from (hs 3 (by kernel_rfl))]; exact ⟨ld_Int_ ((K2.out.below' hC).at_ 0 rfl) ((K2.out.below' hC).at_ 1 rfl), rfl⟩)
  · exact .call (.inr ⟨14, false, 45, by decide, rfl, rfl, rfl⟩) rfl rfl fi_assayerref02_Add (fun a w' hC hs hl => by
      show Calls _ _ #[a.eval (.tmp 47), a.eval (.tmp 48)] _ _
      rw [show a.eval (.tmp 47) = (.agg #[.bool b1, .slice A1 n1 c1] : Value) from (hl 47 (by kernel_rfl) (by kernel_rfl)), show a.eval (.tmp 48) = (.agg #[.bool b2, .slice A2 n2 c2] : Value) from (hl 48 (by kernel_rfl) (by kernel_rfl))]
      exact qAdd_C (I1.out.below hC) (I2.out.below hC))
  · exact .call (.inr ⟨14, false, 45, by decide, rfl, rfl, rfl⟩) rfl rfl fi_assayerlaw01_SameInt (fun a w' hC hs hl => by
      show Calls _ _ #[a.eval (.tmp 46), a.eval (.tmp 49)] _ _
      rw [show a.eval (.tmp 46) = (.agg #[.bool sS, .slice S nS cS] : Value) from (hl 46 (by kernel_rfl) (by kernel_rfl))]
      exact sameInt_yes (FS.out.can.below hC) (hl 49 (by kernel_rfl) (by kernel_rfl)))
  · exact .value (.inr ⟨14, false, 45, by decide, rfl, rfl, rfl⟩) (by intro T e; cases e) rfl rfl (fun a w' hC hs hl => by
      have e0 : a.eval (.tmp 50) = (.bool true) := (hl 50 (by kernel_rfl) (by kernel_rfl))
      simp only [execOp, e0]
      skip
      simp [go_sem] <;> rfl)
  · exact .pick (b := false) (.inl rfl) rfl rfl (fun a w' hC hs hl => ⟨(hl 45 (by kernel_rfl) (by kernel_rfl)), (hl 51 (by kernel_rfl) (by kernel_rfl))⟩)
  · exact .move (.inl rfl) (.inl rfl) rfl (by kernel_rfl) (by kernel_rfl) rfl
  · exact .load (.agg #[.bool sD, .slice D nD cD]) (.inr ⟨22, false, 53, by decide, rfl, rfl, rfl⟩) rfl rfl (fun a w' hC hs hl => by rw [show a.eval (.tmp 8) = (.pointer (some ⟨gKD, 0, none⟩) : Value) from (hs 8 (by kernel_rfl))]; exact ⟨ld_Int_ ((KD.out.below' hC).at_ 0 rfl) ((KD.out.below' hC).at_ 1 rfl), rfl⟩)
  · exact .load (.agg #[.bool b1, .slice A1 n1 c1]) (.inr ⟨22, false, 53, by decide, rfl, rfl, rfl⟩) rfl rfl (fun a w' hC hs hl => by rw [show a.eval (.tmp 2) = (.pointer (some ⟨w.heap.size, 0, none⟩) : Value) from (hs 2 (by kernel_rfl))]; exact ⟨ld_Int_ ((K1.out.below' hC).at_ 0 rfl) ((K1.out.below' hC).at_ 1 rfl), rfl⟩)
  · exact .load (.agg #[.bool b2, .slice A2 n2 c2]) (.inr ⟨22, false, 53, by decide, rfl, rfl, rfl⟩) rfl rfl (fun a w' hC hs hl => by rw [show a.eval (.tmp 3) = (.pointer (some ⟨(w.heap.size + 1), 0, none⟩) : Value) from (hs 3 (by kernel_rfl))]; exact ⟨ld_Int_ ((K2.out.below' hC).at_ 0 rfl) ((K2.out.below' hC).at_ 1 rfl), rfl⟩)
  · exact .call (.inr ⟨22, false, 53, by decide, rfl, rfl, rfl⟩) rfl rfl fi_assayerref02_Sub (fun a w' hC hs hl => by
      show Calls _ _ #[a.eval (.tmp 55), a.eval (.tmp 56)] _ _
      rw [show a.eval (.tmp 55) = (.agg #[.bool b1, .slice A1 n1 c1] : Value) from (hl 55 (by kernel_rfl) (by kernel_rfl)), show a.eval (.tmp 56) = (.agg #[.bool b2, .slice A2 n2 c2] : Value) from (hl 56 (by kernel_rfl) (by kernel_rfl))]
      exact qSub_C (I1.out.below hC) (I2.out.below hC))
  · exact .call (.inr ⟨22, false, 53, by decide, rfl, rfl, rfl⟩) rfl rfl fi_assayerlaw01_SameInt (fun a w' hC hs hl => by
      show Calls _ _ #[a.eval (.tmp 54), a.eval (.tmp 57)] _ _
      rw [show a.eval (.tmp 54) = (.agg #[.bool sD, .slice D nD cD] : Value) from (hl 54 (by kernel_rfl) (by kernel_rfl))]
      exact sameInt_yes (FD.out.can.below hC) (hl 57 (by kernel_rfl) (by kernel_rfl)))
  · exact .value (.inr ⟨22, false, 53, by decide, rfl, rfl, rfl⟩) (by intro T e; cases e) rfl rfl (fun a w' hC hs hl => by
      have e0 : a.eval (.tmp 58) = (.bool true) := (hl 58 (by kernel_rfl) (by kernel_rfl))
      simp only [execOp, e0]
      skip
      simp [go_sem] <;> rfl)
  · exact .pick (b := false) (.inl rfl) rfl rfl (fun a w' hC hs hl => ⟨(hl 53 (by kernel_rfl) (by kernel_rfl)), (hl 59 (by kernel_rfl) (by kernel_rfl))⟩)
  · exact .move (.inl rfl) (.inl rfl) rfl (by kernel_rfl) (by kernel_rfl) rfl
  · exact .load (.agg #[.bool sM, .slice M nM cM]) (.inr ⟨30, false, 61, by decide, rfl, rfl, rfl⟩) rfl rfl (fun a w' hC hs hl => by rw [show a.eval (.tmp 9) = (.pointer (some ⟨gKM, 0, none⟩) : Value) from (hs 9 (by kernel_rfl))]; exact ⟨ld_Int_ ((KM.out.below' hC).at_ 0 rfl) ((KM.out.below' hC).at_ 1 rfl), rfl⟩)
  · exact .load (.agg #[.bool b1, .slice A1 n1 c1]) (.inr ⟨30, false, 61, by decide, rfl, rfl, rfl⟩) rfl rfl (fun a w' hC hs hl => by rw [show a.eval (.tmp 2) = (.pointer (some ⟨w.heap.size, 0, none⟩) : Value) from (hs 2 (by kernel_rfl))]; exact ⟨ld_Int_ ((K1.out.below' hC).at_ 0 rfl) ((K1.out.below' hC).at_ 1 rfl), rfl⟩)
  · exact .load (.agg #[.bool b2, .slice A2 n2 c2]) (.inr ⟨30, false, 61, by decide, rfl, rfl, rfl⟩) rfl rfl (fun a w' hC hs hl => by rw [show a.eval (.tmp 3) = (.pointer (some ⟨(w.heap.size + 1), 0, none⟩) : Value) from (hs 3 (by kernel_rfl))]; exact ⟨ld_Int_ ((K2.out.below' hC).at_ 0 rfl) ((K2.out.below' hC).at_ 1 rfl), rfl⟩)
  · exact .call (.inr ⟨30, false, 61, by decide, rfl, rfl, rfl⟩) rfl rfl fi_assayerref02_Mul (fun a w' hC hs hl => by
      show Calls _ _ #[a.eval (.tmp 63), a.eval (.tmp 64)] _ _
      rw [show a.eval (.tmp 63) = (.agg #[.bool b1, .slice A1 n1 c1] : Value) from (hl 63 (by kernel_rfl) (by kernel_rfl)), show a.eval (.tmp 64) = (.agg #[.bool b2, .slice A2 n2 c2] : Value) from (hl 64 (by kernel_rfl) (by kernel_rfl))]
      exact qMul_C (I1.out.below hC) (I2.out.below hC))
  · exact .call (.inr ⟨30, false, 61, by decide, rfl, rfl, rfl⟩) rfl rfl fi_assayerlaw01_SameInt (fun a w' hC hs hl => by
      show Calls _ _ #[a.eval (.tmp 62), a.eval (.tmp 65)] _ _
      rw [show a.eval (.tmp 62) = (.agg #[.bool sM, .slice M nM cM] : Value) from (hl 62 (by kernel_rfl) (by kernel_rfl))]
      exact sameInt_yes (FM.out.can.below hC) (hl 65 (by kernel_rfl) (by kernel_rfl)))
  · exact .value (.inr ⟨30, false, 61, by decide, rfl, rfl, rfl⟩) (by intro T e; cases e) rfl rfl (fun a w' hC hs hl => by
      have e0 : a.eval (.tmp 66) = (.bool true) := (hl 66 (by kernel_rfl) (by kernel_rfl))
      simp only [execOp, e0]
      skip
      simp [go_sem] <;> rfl)
  · exact .pick (b := false) (.inl rfl) rfl rfl (fun a w' hC hs hl => ⟨(hl 61 (by kernel_rfl) (by kernel_rfl)), (hl 67 (by kernel_rfl) (by kernel_rfl))⟩)
  · exact .move (.inl rfl) (.inl rfl) rfl (by kernel_rfl) (by kernel_rfl) rfl
  · exact .load (.agg #[.bool sN, .slice N nN cN]) (.inr ⟨38, false, 69, by decide, rfl, rfl, rfl⟩) rfl rfl (fun a w' hC hs hl => by rw [show a.eval (.tmp 10) = (.pointer (some ⟨gKN, 0, none⟩) : Value) from (hs 10 (by kernel_rfl))]; exact ⟨ld_Int_ ((KN.out.below' hC).at_ 0 rfl) ((KN.out.below' hC).at_ 1 rfl), rfl⟩)
  · exact .load (.agg #[.bool b1, .slice A1 n1 c1]) (.inr ⟨38, false, 69, by decide, rfl, rfl, rfl⟩) rfl rfl (fun a w' hC hs hl => by rw [show a.eval (.tmp 2) = (.pointer (some ⟨w.heap.size, 0, none⟩) : Value) from (hs 2 (by kernel_rfl))]; exact ⟨ld_Int_ ((K1.out.below' hC).at_ 0 rfl) ((K1.out.below' hC).at_ 1 rfl), rfl⟩)
  · exact .call (.inr ⟨38, false, 69, by decide, rfl, rfl, rfl⟩) rfl rfl fi_assayerref02_Neg (fun a w' hC hs hl => by
      show Calls _ _ #[a.eval (.tmp 71)] _ _
      rw [show a.eval (.tmp 71) = (.agg #[.bool b1, .slice A1 n1 c1] : Value) from (hl 71 (by kernel_rfl) (by kernel_rfl))]
      exact qNeg_C (I1.out.below hC))
  · exact .call (.inr ⟨38, false, 69, by decide, rfl, rfl, rfl⟩) rfl rfl fi_assayerlaw01_SameInt (fun a w' hC hs hl => by
      show Calls _ _ #[a.eval (.tmp 70), a.eval (.tmp 72)] _ _
      rw [show a.eval (.tmp 70) = (.agg #[.bool sN, .slice N nN cN] : Value) from (hl 70 (by kernel_rfl) (by kernel_rfl))]
      exact sameInt_yes (FN.out.can.below hC) (hl 72 (by kernel_rfl) (by kernel_rfl)))
  · exact .value (.inr ⟨38, false, 69, by decide, rfl, rfl, rfl⟩) (by intro T e; cases e) rfl rfl (fun a w' hC hs hl => by
      have e0 : a.eval (.tmp 73) = (.bool true) := (hl 73 (by kernel_rfl) (by kernel_rfl))
      simp only [execOp, e0]
      skip
      simp [go_sem] <;> rfl)
  · exact .pick (b := false) (.inl rfl) rfl rfl (fun a w' hC hs hl => ⟨(hl 69 (by kernel_rfl) (by kernel_rfl)), (hl 74 (by kernel_rfl) (by kernel_rfl))⟩)
  · exact .move (.inl rfl) (.inl rfl) rfl (by kernel_rfl) (by kernel_rfl) rfl
  · exact .load (.agg #[.bool b1, .slice X n1 cx]) (.inr ⟨45, false, 76, by decide, rfl, rfl, rfl⟩) rfl rfl (fun a w' hC hs hl => by rw [show a.eval (.tmp 5) = (.pointer (some ⟨gKX, 0, none⟩) : Value) from (hs 5 (by kernel_rfl))]; exact ⟨ld_Int_ ((KX.out.below' hC).at_ 0 rfl) ((KX.out.below' hC).at_ 1 rfl), rfl⟩)
  · exact .load (.agg #[.bool b1, .slice A1 n1 c1]) (.inr ⟨45, false, 76, by decide, rfl, rfl, rfl⟩) rfl rfl (fun a w' hC hs hl => by rw [show a.eval (.tmp 2) = (.pointer (some ⟨w.heap.size, 0, none⟩) : Value) from (hs 2 (by kernel_rfl))]; exact ⟨ld_Int_ ((K1.out.below' hC).at_ 0 rfl) ((K1.out.below' hC).at_ 1 rfl), rfl⟩)
  · exact .call (.inr ⟨45, false, 76, by decide, rfl, rfl, rfl⟩) rfl rfl fi_assayerlaw01_LeftInt (fun a w' hC hs hl => by
      show Calls _ _ #[a.eval (.tmp 77), a.eval (.tmp 78)] _ _
      rw [show a.eval (.tmp 77) = (.agg #[.bool b1, .slice X n1 cx] : Value) from (hl 77 (by kernel_rfl) (by kernel_rfl)), show a.eval (.tmp 78) = (.agg #[.bool b1, .slice A1 n1 c1] : Value) from (hl 78 (by kernel_rfl) (by kernel_rfl))]
      exact left_C (TX.out.below hC) (P1.out.below hC))
  · exact .value (.inr ⟨45, false, 76, by decide, rfl, rfl, rfl⟩) (by intro T e; cases e) rfl rfl (fun a w' hC hs hl => by
      have e0 : a.eval (.tmp 79) = (.bool true) := (hl 79 (by kernel_rfl) (by kernel_rfl))
      simp only [execOp, e0]
      skip
      simp [go_sem] <;> rfl)
  · exact .pick (b := false) (.inl rfl) rfl rfl (fun a w' hC hs hl => ⟨(hl 76 (by kernel_rfl) (by kernel_rfl)), (hl 80 (by kernel_rfl) (by kernel_rfl))⟩)
  · exact .move (.inl rfl) (.inl rfl) rfl (by kernel_rfl) (by kernel_rfl) rfl
  · exact .load (.agg #[.bool b2, .slice Y n2 cy]) (.inr ⟨51, false, 82, by decide, rfl, rfl, rfl⟩) rfl rfl (fun a w' hC hs hl => by rw [show a.eval (.tmp 6) = (.pointer (some ⟨gKY, 0, none⟩) : Value) from (hs 6 (by kernel_rfl))]; exact ⟨ld_Int_ ((KY.out.below' hC).at_ 0 rfl) ((KY.out.below' hC).at_ 1 rfl), rfl⟩)
  · exact .load (.agg #[.bool b2, .slice A2 n2 c2]) (.inr ⟨51, false, 82, by decide, rfl, rfl, rfl⟩) rfl rfl (fun a w' hC hs hl => by rw [show a.eval (.tmp 3) = (.pointer (some ⟨(w.heap.size + 1), 0, none⟩) : Value) from (hs 3 (by kernel_rfl))]; exact ⟨ld_Int_ ((K2.out.below' hC).at_ 0 rfl) ((K2.out.below' hC).at_ 1 rfl), rfl⟩)
  · exact .call (.inr ⟨51, false, 82, by decide, rfl, rfl, rfl⟩) rfl rfl fi_assayerlaw01_LeftInt (fun a w' hC hs hl => by
      show Calls _ _ #[a.eval (.tmp 83), a.eval (.tmp 84)] _ _
      rw [show a.eval (.tmp 83) = (.agg #[.bool b2, .slice Y n2 cy] : Value) from (hl 83 (by kernel_rfl) (by kernel_rfl)), show a.eval (.tmp 84) = (.agg #[.bool b2, .slice A2 n2 c2] : Value) from (hl 84 (by kernel_rfl) (by kernel_rfl))]
      exact left_C (TY.out.below hC) (P2.out.below hC))
  · exact .value (.inr ⟨51, false, 82, by decide, rfl, rfl, rfl⟩) (by intro T e; cases e) rfl rfl (fun a w' hC hs hl => by
      have e0 : a.eval (.tmp 85) = (.bool true) := (hl 85 (by kernel_rfl) (by kernel_rfl))
      simp only [execOp, e0]
      skip
      simp [go_sem] <;> rfl)
  · exact .pick (b := false) (.inl rfl) rfl rfl (fun a w' hC hs hl => ⟨(hl 82 (by kernel_rfl) (by kernel_rfl)), (hl 86 (by kernel_rfl) (by kernel_rfl))⟩)
  intro f w9 hC hF _
  have fz : f 87 = .bool false := hF 87 (by kernel_rfl)
  clear hF
  simp only [patch, List.drop]
  rw [fz]
  clear fz
  replace P1 := hide (P1.out.below hC)
  replace P2 := hide (P2.out.below hC)
  replace I1 := hide (I1.out.below hC)
  replace I2 := hide (I2.out.below hC)
  replace TX := hide (TX.out.below hC)
  replace J1 := hide (J1.out.below hC)
  replace TY := hide (TY.out.below hC)
  replace J2 := hide (J2.out.below hC)
  replace FS := hide (FS.out.below hC)
  replace FD := hide (FD.out.below hC)
  replace FM := hide (FM.out.below hC)
  replace FN := hide (FN.out.below hC)
  replace K1 := hide (K1.out.below' hC)
  replace K2 := hide (K2.out.below' hC)
  replace KX := hide (KX.out.below' hC)
  replace KY := hide (KY.out.below' hC)
  replace KS := hide (KS.out.below' hC)
  replace KD := hide (KD.out.below' hC)
  replace KM := hide (KM.out.below' hC)
  replace KN := hide (KN.out.below' hC)
  replace H := hide (H.out.below hC)
  replace b0 := hide (b0.out.trans (hC.mono b0.out.size))
  clear hC
  have bB := hide b0.out.size
  have K : Hid (BookAt w.heap.size (w9.alloc (.cells #[.int .i64 0, .slice none 0 0, .slice none 0 0, .slice none 0 0, .slice none 0 0, .slice none 0 0, .slice none 0 0, .slice none 0 0, .slice none 0 0, .slice none 0 0, .slice none 0 0, .slice none 0 0, .slice none 0 0] TBK)) w9.heap.size 0 (.slice none 0 0) []) := BookAt.new bB.out
  obtain ⟨hi, hhi⟩ : ∃ hi, hi = w9.heap.size := ⟨_, rfl⟩
  have H0 : HB w.heap.size w9.heap.size w9 ([] ++ [⟨X, n1, cx, none, 0, 0, 0 + 1⟩] ++ [⟨Y, n2, cy, none, 0, 0, 0 + 1 + 1⟩] ++ [⟨S, nS, cS, none, 0, 0, 0 + 1 + 1 + 1⟩] ++ [⟨D, nD, cD, none, 0, 0, 0 + 1 + 1 + 1 + 1⟩] ++ [⟨M, nM, cM, none, 0, 0, 0 + 1 + 1 + 1 + 1 + 1⟩] ++ [⟨N, nN, cN, none, 0, 0, 0 + 1 + 1 + 1 + 1 + 1 + 1⟩]) := H.out
  rw [← hhi] at H0
  replace hhi := hide hhi
  have dB := hide ((Below.refl w9.heap.size w9).alloc (Nat.le_refl _) (.cells #[.int .i64 0, .slice none 0 0, .slice none 0 0, .slice none 0 0, .slice none 0 0, .slice none 0 0, .slice none 0 0, .slice none 0 0, .slice none 0 0, .slice none 0 0, .slice none 0 0, .slice none 0 0, .slice none 0 0] TBK))
  replace H : Hid (HB w.heap.size hi (w9.alloc (.cells #[.int .i64 0, .slice none 0 0, .slice none 0 0, .slice none 0 0, .slice none 0 0, .slice none 0 0, .slice none 0 0, .slice none 0 0, .slice none 0 0, .slice none 0 0, .slice none 0 0, .slice none 0 0, .slice none 0 0] TBK)) ([] ++ [⟨X, n1, cx, none, 0, 0, 0 + 1⟩] ++ [⟨Y, n2, cy, none, 0, 0, 0 + 1 + 1⟩] ++ [⟨S, nS, cS, none, 0, 0, 0 + 1 + 1 + 1⟩] ++ [⟨D, nD, cD, none, 0, 0, 0 + 1 + 1 + 1 + 1⟩] ++ [⟨M, nM, cM, none, 0, 0, 0 + 1 + 1 + 1 + 1 + 1⟩] ++ [⟨N, nN, cN, none, 0, 0, 0 + 1 + 1 + 1 + 1 + 1 + 1⟩])) := H0.bel dB.out
  replace K1 := hide (K1.out.below' dB.out)
  replace K2 := hide (K2.out.below' dB.out)
  replace KX := hide (KX.out.below' dB.out)
  replace KY := hide (KY.out.below' dB.out)
  replace KS := hide (KS.out.below' dB.out)
  replace KD := hide (KD.out.below' dB.out)
  replace KM := hide (KM.out.below' dB.out)
  replace KN := hide (KN.out.below' dB.out)
  replace b0 := hide (below_tr b0.out dB.out)
  clear dB H0 bB
  clear P1 P2 I1 I2 TX J1 TY J2 FS FD FM FN
  have vKX0 : (w9.alloc (.cells #[.int .i64 0, .slice none 0 0, .slice none 0 0, .slice none 0 0, .slice none 0 0, .slice none 0 0, .slice none 0 0, .slice none 0 0, .slice none 0 0, .slice none 0 0, .slice none 0 0, .slice none 0 0, .slice none 0 0] TBK)).cell? ⟨gKX, 0, none⟩ = some (.bool b1) := KX.out.at_ 0 rfl
  have vKX1 : (w9.alloc (.cells #[.int .i64 0, .slice none 0 0, .slice none 0 0, .slice none 0 0, .slice none 0 0, .slice none 0 0, .slice none 0 0, .slice none 0 0, .slice none 0 0, .slice none 0 0, .slice none 0 0, .slice none 0 0, .slice none 0 0] TBK)).cell? ⟨gKX, 1, none⟩ = some (.slice X n1 cx) := KX.out.at_ 1 rfl
  go_wp2_with fail
  clear vKX0 vKX1
  obtain ⟨V, hV⟩ : ∃ V, w9.alloc (.cells #[.int .i64 0, .slice none 0 0, .slice none 0 0, .slice none 0 0, .slice none 0 0, .slice none 0 0, .slice none 0 0, .slice none 0 0, .slice none 0 0, .slice none 0 0, .slice none 0 0, .slice none 0 0, .slice none 0 0] TBK) = V := ⟨_, rfl⟩
  obtain ⟨g, hg⟩ : ∃ g, w9.heap.size = g := ⟨_, rfl⟩
  rw [hV, hg] at K
  rw [hV] at b0 H K1 K2 KX KY KS KD KM KN
  rw [hV, hg]
  clear hV hg hhi
  refine (bookInt_ok _ w.heap.size g (0) _ ([]) b0.out.size K.out b1 X n1 cx (by omega) (by simp)).mono ?_
  rintro e W0 ⟨⟨_, rfl⟩, k1, v0, k2⟩
  replace K := hide k2
  replace H := hide (H.out.kp k1)
  replace b0 := hide (b0.out.trans k1.base)
  replace K1 := hide (k1.nums _ _ _ (by decide) (by decide) K1.out)
  replace K2 := hide (k1.nums _ _ _ (by decide) (by decide) K2.out)
  replace KX := hide (k1.nums _ _ _ (by decide) (by decide) KX.out)
  replace KY := hide (k1.nums _ _ _ (by decide) (by decide) KY.out)
  replace KS := hide (k1.nums _ _ _ (by decide) (by decide) KS.out)
  replace KD := hide (k1.nums _ _ _ (by decide) (by decide) KD.out)
  replace KM := hide (k1.nums _ _ _ (by decide) (by decide) KM.out)
  replace KN := hide (k1.nums _ _ _ (by decide) (by decide) KN.out)
  clear k1 k2
  have vKY0 : W0.cell? ⟨gKY, 0, none⟩ = some (.bool b2) := KY.out.at_ 0 rfl
  have vKY1 : W0.cell? ⟨gKY, 1, none⟩ = some (.slice Y n2 cy) := KY.out.at_ 1 rfl
  go_wp2_with fail
  clear vKY0 vKY1
  refine (bookInt_ok _ w.heap.size g (0 + 1) _ ([] ++ [⟨X, n1, cx, none, 0, 0, 0 + 1⟩]) b0.out.size K.out b2 Y n2 cy (by omega) (by simp)).mono ?_
  rintro e W1 ⟨⟨_, rfl⟩, k1, v1, k2⟩
  replace K := hide k2
  replace H := hide (H.out.kp k1)
  replace b0 := hide (b0.out.trans k1.base)
  replace K1 := hide (k1.nums _ _ _ (by decide) (by decide) K1.out)
  replace K2 := hide (k1.nums _ _ _ (by decide) (by decide) K2.out)
  replace KX := hide (k1.nums _ _ _ (by decide) (by decide) KX.out)
  replace KY := hide (k1.nums _ _ _ (by decide) (by decide) KY.out)
  replace KS := hide (k1.nums _ _ _ (by decide) (by decide) KS.out)
  replace KD := hide (k1.nums _ _ _ (by decide) (by decide) KD.out)
  replace KM := hide (k1.nums _ _ _ (by decide) (by decide) KM.out)
  replace KN := hide (k1.nums _ _ _ (by decide) (by decide) KN.out)
  clear k1 k2
  have vKS0 : W1.cell? ⟨gKS, 0, none⟩ = some (.bool sS) := KS.out.at_ 0 rfl
  have vKS1 : W1.cell? ⟨gKS, 1, none⟩ = some (.slice S nS cS) := KS.out.at_ 1 rfl
  go_wp2_with fail
  clear vKS0 vKS1
  refine (bookInt_ok _ w.heap.size g (0 + 1 + 1) _ ([] ++ [⟨X, n1, cx, none, 0, 0, 0 + 1⟩] ++ [⟨Y, n2, cy, none, 0, 0, 0 + 1 + 1⟩]) b0.out.size K.out sS S nS cS (by omega) (by simp)).mono ?_
  rintro e W2 ⟨⟨_, rfl⟩, k1, v2, k2⟩
  replace K := hide k2
  replace H := hide (H.out.kp k1)
  replace b0 := hide (b0.out.trans k1.base)
  replace K1 := hide (k1.nums _ _ _ (by decide) (by decide) K1.out)
  replace K2 := hide (k1.nums _ _ _ (by decide) (by decide) K2.out)
  replace KX := hide (k1.nums _ _ _ (by decide) (by decide) KX.out)
  replace KY := hide (k1.nums _ _ _ (by decide) (by decide) KY.out)
  replace KS := hide (k1.nums _ _ _ (by decide) (by decide) KS.out)
  replace KD := hide (k1.nums _ _ _ (by decide) (by decide) KD.out)
  replace KM := hide (k1.nums _ _ _ (by decide) (by decide) KM.out)
  replace KN := hide (k1.nums _ _ _ (by decide) (by decide) KN.out)
  clear k1 k2
  have vKD0 : W2.cell? ⟨gKD, 0, none⟩ = some (.bool sD) := KD.out.at_ 0 rfl
  have vKD1 : W2.cell? ⟨gKD, 1, none⟩ = some (.slice D nD cD) := KD.out.at_ 1 rfl
  go_wp2_with fail
  clear vKD0 vKD1
  refine (bookInt_ok _ w.heap.size g (0 + 1 + 1 + 1) _ ([] ++ [⟨X, n1, cx, none, 0, 0, 0 + 1⟩] ++ [⟨Y, n2, cy, none, 0, 0, 0 + 1 + 1⟩] ++ [⟨S, nS, cS, none, 0, 0, 0 + 1 + 1 + 1⟩]) b0.out.size K.out sD D nD cD (by omega) (by simp)).mono ?_
  rintro e W3 ⟨⟨_, rfl⟩, k1, v3, k2⟩
  replace K := hide k2
  replace H := hide (H.out.kp k1)
  replace b0 := hide (b0.out.trans k1.base)
  replace K1 := hide (k1.nums _ _ _ (by decide) (by decide) K1.out)
  replace K2 := hide (k1.nums _ _ _ (by decide) (by decide) K2.out)
  replace KX := hide (k1.nums _ _ _ (by decide) (by decide) KX.out)
  replace KY := hide (k1.nums _ _ _ (by decide) (by decide) KY.out)
  replace KS := hide (k1.nums _ _ _ (by decide) (by decide) KS.out)
  replace KD := hide (k1.nums _ _ _ (by decide) (by decide) KD.out)
  replace KM := hide (k1.nums _ _ _ (by decide) (by decide) KM.out)
  replace KN := hide (k1.nums _ _ _ (by decide) (by decide) KN.out)
  clear k1 k2
  have vKM0 : W3.cell? ⟨gKM, 0, none⟩ = some (.bool sM) := KM.out.at_ 0 rfl
  have vKM1 : W3.cell? ⟨gKM, 1, none⟩ = some (.slice M nM cM) := KM.out.at_ 1 rfl
  go_wp2_with fail
  clear vKM0 vKM1
  refine (bookInt_ok _ w.heap.size g (0 + 1 + 1 + 1 + 1) _ ([] ++ [⟨X, n1, cx, none, 0, 0, 0 + 1⟩] ++ [⟨Y, n2, cy, none, 0, 0, 0 + 1 + 1⟩] ++ [⟨S, nS, cS, none, 0, 0, 0 + 1 + 1 + 1⟩] ++ [⟨D, nD, cD, none, 0, 0, 0 + 1 + 1 + 1 + 1⟩]) b0.out.size K.out sM M nM cM (by omega) (by simp)).mono ?_
  rintro e W4 ⟨⟨_, rfl⟩, k1, v4, k2⟩
  replace K := hide k2
  replace H := hide (H.out.kp k1)
  replace b0 := hide (b0.out.trans k1.base)
  replace K1 := hide (k1.nums _ _ _ (by decide) (by decide) K1.out)
  replace K2 := hide (k1.nums _ _ _ (by decide) (by decide) K2.out)
  replace KX := hide (k1.nums _ _ _ (by decide) (by decide) KX.out)
  replace KY := hide (k1.nums _ _ _ (by decide) (by decide) KY.out)
  replace KS := hide (k1.nums _ _ _ (by decide) (by decide) KS.out)
  replace KD := hide (k1.nums _ _ _ (by decide) (by decide) KD.out)
  replace KM := hide (k1.nums _ _ _ (by decide) (by decide) KM.out)
  replace KN := hide (k1.nums _ _ _ (by decide) (by decide) KN.out)
  clear k1 k2
  have vKN0 : W4.cell? ⟨gKN, 0, none⟩ = some (.bool sN) := KN.out.at_ 0 rfl
  have vKN1 : W4.cell? ⟨gKN, 1, none⟩ = some (.slice N nN cN) := KN.out.at_ 1 rfl
  go_wp2_with fail
  clear vKN0 vKN1
  refine (bookInt_ok _ w.heap.size g (0 + 1 + 1 + 1 + 1 + 1) _ ([] ++ [⟨X, n1, cx, none, 0, 0, 0 + 1⟩] ++ [⟨Y, n2, cy, none, 0, 0, 0 + 1 + 1⟩] ++ [⟨S, nS, cS, none, 0, 0, 0 + 1 + 1 + 1⟩] ++ [⟨D, nD, cD, none, 0, 0, 0 + 1 + 1 + 1 + 1⟩] ++ [⟨M, nM, cM, none, 0, 0, 0 + 1 + 1 + 1 + 1 + 1⟩]) b0.out.size K.out sN N nN cN (by omega) (by simp)).mono ?_
  rintro e W5 ⟨⟨_, rfl⟩, k1, v5, k2⟩
  replace K := hide k2
  replace H := hide (H.out.kp k1)
  replace b0 := hide (b0.out.trans k1.base)
  replace K1 := hide (k1.nums _ _ _ (by decide) (by decide) K1.out)
  replace K2 := hide (k1.nums _ _ _ (by decide) (by decide) K2.out)
  replace KX := hide (k1.nums _ _ _ (by decide) (by decide) KX.out)
  replace KY := hide (k1.nums _ _ _ (by decide) (by decide) KY.out)
  replace KS := hide (k1.nums _ _ _ (by decide) (by decide) KS.out)
  replace KD := hide (k1.nums _ _ _ (by decide) (by decide) KD.out)
  replace KM := hide (k1.nums _ _ _ (by decide) (by decide) KM.out)
  replace KN := hide (k1.nums _ _ _ (by decide) (by decide) KN.out)
  clear k1 k2
  clear K1 K2 KX KY KS KD KM KN
  go_wp2_with fail
  refine (Apart_ok _ w.heap.size g (0 + 1 + 1 + 1 + 1 + 1 + 1) hi _ ([] ++ [⟨X, n1, cx, none, 0, 0, 0 + 1⟩] ++ [⟨Y, n2, cy, none, 0, 0, 0 + 1 + 1⟩] ++ [⟨S, nS, cS, none, 0, 0, 0 + 1 + 1 + 1⟩] ++ [⟨D, nD, cD, none, 0, 0, 0 + 1 + 1 + 1 + 1⟩] ++ [⟨M, nM, cM, none, 0, 0, 0 + 1 + 1 + 1 + 1 + 1⟩] ++ [⟨N, nN, cN, none, 0, 0, 0 + 1 + 1 + 1 + 1 + 1 + 1⟩]) b0.out.size K.out H.out (by simp)).mono ?_
  rintro e WW ⟨rfl, k1⟩
  replace b0 := hide (b0.out.trans k1)
  clear k1 K H
  go_wp2
  exact opq_end hR ⟨rfl, b0⟩
end Go.Proofs.YtfadehkagbcjaaaGreatDoor
