/- the laws of rats: RatsPairs. -/
import Derived.Test.YtfadehkagbcjaaaGreatDoorBo
import Derived.Test.YtfadehkagbcjaaaGreatDoorKA
set_option linter.unusedVariables false
set_option linter.unusedSimpArgs false
set_option maxRecDepth 100000
namespace Go.Proofs.YtfadehkagbcjaaaGreatDoor
open Go.RowKit

theorem foL (args : Array Value) (w : World) : (callFunc 64 args).run Tryz.prog w = .ok (.enter 64 args) w := callFunc_enter Tryz.func64 (by kernel_rfl) rfl args w
theorem foS (args : Array Value) (w : World) : (callFunc 54 args).run Tryz.prog w = .ok (.enter 54 args) w := callFunc_enter Tryz.func54 (by kernel_rfl) rfl args w
theorem fo3_Add (args : Array Value) (w : World) : (callFunc 76 args).run Tryz.prog w = .ok (.enter 76 args) w := callFunc_enter Tryz.func76 (by kernel_rfl) rfl args w
theorem fo3_Cmp (args : Array Value) (w : World) : (callFunc 73 args).run Tryz.prog w = .ok (.enter 73 args) w := callFunc_enter Tryz.func73 (by kernel_rfl) rfl args w
theorem fo3_Mul (args : Array Value) (w : World) : (callFunc 78 args).run Tryz.prog w = .ok (.enter 78 args) w := callFunc_enter Tryz.func78 (by kernel_rfl) rfl args w
theorem fo3_Sign (args : Array Value) (w : World) : (callFunc 75 args).run Tryz.prog w = .ok (.enter 75 args) w := callFunc_enter Tryz.func75 (by kernel_rfl) rfl args w
theorem fo3_Sub (args : Array Value) (w : World) : (callFunc 77 args).run Tryz.prog w = .ok (.enter 77 args) w := callFunc_enter Tryz.func77 (by kernel_rfl) rfl args w
theorem foC (args : Array Value) (w : World) : (callFunc 72 args).run Tryz.prog w = .ok (.enter 72 args) w := callFunc_enter Tryz.func72 (by kernel_rfl) rfl args w
theorem foI (args : Array Value) (w : World) : (callFunc 74 args).run Tryz.prog w = .ok (.enter 74 args) w := callFunc_enter Tryz.func74 (by kernel_rfl) rfl args w
set_option maxHeartbeats 16000000 in
theorem RatsPairs_ok (w : World) (b1 : Bool) (A1 : Option Addr) (n1 c1 : Nat) (xs1 : List Nat) (D1 : Option Addr) (m1 k1 : Nat) (ys1 : List Nat) (b2 : Bool) (A2 : Option Addr) (n2 c2 : Nat) (xs2 : List Nat) (D2 : Option Addr) (m2 k2 : Nat) (ys2 : List Nat) (h1 : Rd w A1 n1 xs1) (i1 : Is32 xs1) (l1 : n1 ≤ c1) (t1 : n1 ≤ 70368744177664) (h1' : Rd w D1 m1 ys1) (i1' : Is32 ys1) (l1' : m1 ≤ k1) (t1' : m1 ≤ 70368744177664) (h2 : Rd w A2 n2 xs2) (i2 : Is32 xs2) (l2 : n2 ≤ c2) (t2 : n2 ≤ 70368744177664) (h2' : Rd w D2 m2 ys2) (i2' : Is32 ys2) (l2' : m2 ≤ k2) (t2' : m2 ≤ 70368744177664) (hT : Tab w) (hM : MaxL w) :
    Calls Tryz.prog 8 #[.agg #[.bool b1, .slice A1 n1 c1, .slice D1 m1 k1], .agg #[.bool b2, .slice A2 n2 c2, .slice D2 m2 k2]] w fun e w' => e = .returned (.bool true) ∧ Hid (Below w.heap.size w w') := by
  refine opq fun R hR => ?_
  clear hM
  replace h1 := hide h1
  replace h1' := hide h1'
  replace i1 := hide i1
  replace i1' := hide i1'
  replace h2 := hide h2
  replace h2' := hide h2'
  replace i2 := hide i2
  replace i2' := hide i2'
  have T := hide hT
  clear hT
  obtain ⟨gg, hgg⟩ : ∃ gg, (decide (60 < n1 + m1) || decide (60 < n2 + m2)) = gg := ⟨_, rfl⟩
  have hgg := hide hgg
  go_enter Tryz.func8, Tryz.ntmps8
  go_wp2_with fail
  obtain ⟨W, hW, K1, K2, BW, ZW⟩ := alloc2 w #[.bool b1, .slice A1 n1 c1, .slice D1 m1 k1] #[.bool b2, .slice A2 n2 c2, .slice D2 m2 k2] TR TR
  rw [hW, ← ZW.out]
  clear hW
  refine (rgreat2 (w := W) rfl 60 (by decide) t1 t1' t2 t2' gg hgg.out).mono ?_
  rintro e w1 ⟨_, rfl, dG, rfl⟩
  have d0 := (Below.refl W.heap.size W).alloc (Nat.le_refl _) (.cells #[.bool b1, .slice A1 n1 c1, .slice D1 m1 k1, .bool b2, .slice A2 n2 c2, .slice D2 m2 k2] TR)
  replace K1 := hide ((K1.out.below' d0).below' dG)
  replace K2 := hide ((K2.out.below' d0).below' dG)
  have dV := hide (below_tr (below_tr BW.out d0) dG)
  clear dG d0 BW ZW
  by_cases hg : 60 < n1 + m1 ∨ 60 < n2 + m2
  · rw [show gg = true by rw [← hgg.out]; simpa using hg]
    go_wp2
    exact opq_end hR ⟨rfl, (by (repeat (first | exact dV | exact Below.refl _ _ | refine Below.setCell ?_ (by first | (simp; done) | (simp; omega)) _ | refine Below.alloc ?_ (by first | (simp; done) | (simp; omega)) _)))⟩
  rw [show gg = false by rw [← hgg.out]; simpa using hg]
  have g1 : n1 ≤ 60 ∧ m1 ≤ 60 := by omega
  have g2 : n2 ≤ 60 ∧ m2 ≤ 60 := by omega
  clear hg hgg t1 t1' t2 t2'
  have b0 := hide dV.out
  clear dV
  have P1 : Hid (Prt w1 (.slice A1 n1 c1) xs1) := ⟨A1, n1, c1, rfl, l1, by omega, h1.out.below b0.out, i1.out⟩
  have P1' : Hid (Prt w1 (.slice D1 m1 k1) ys1) := ⟨D1, m1, k1, rfl, l1', by omega, h1'.out.below b0.out, i1'.out⟩
  have R1 : Hid (RPrt w1 (.agg #[.bool b1, .slice A1 n1 c1, .slice D1 m1 k1]) b1 xs1 ys1) := ⟨_, _, rfl, P1.out, P1'.out⟩
  have I1 : Hid (RArg w1 (.agg #[.bool b1, .slice A1 n1 c1, .slice D1 m1 k1]) (rv b1 xs1 ys1)) := R1.out.arg (by rw [h1.out.1]; omega) (by rw [h1'.out.1]; omega)
  have S1 : Hid (H (rv b1 xs1 ys1) 60) := H_rv i1.out i1'.out (by rw [h1.out.1]; omega) (by rw [h1'.out.1]; omega) (by decide)
  have x1 : Hid (xs1.length ≤ 60 ∧ ys1.length ≤ 60) := ⟨by rw [h1.out.1]; omega, by rw [h1'.out.1]; omega⟩
  have P2 : Hid (Prt w1 (.slice A2 n2 c2) xs2) := ⟨A2, n2, c2, rfl, l2, by omega, h2.out.below b0.out, i2.out⟩
  have P2' : Hid (Prt w1 (.slice D2 m2 k2) ys2) := ⟨D2, m2, k2, rfl, l2', by omega, h2'.out.below b0.out, i2'.out⟩
  have R2 : Hid (RPrt w1 (.agg #[.bool b2, .slice A2 n2 c2, .slice D2 m2 k2]) b2 xs2 ys2) := ⟨_, _, rfl, P2.out, P2'.out⟩
  have I2 : Hid (RArg w1 (.agg #[.bool b2, .slice A2 n2 c2, .slice D2 m2 k2]) (rv b2 xs2 ys2)) := R2.out.arg (by rw [h2.out.1]; omega) (by rw [h2'.out.1]; omega)
  have S2 : Hid (H (rv b2 xs2 ys2) 60) := H_rv i2.out i2'.out (by rw [h2.out.1]; omega) (by rw [h2'.out.1]; omega) (by decide)
  have x2 : Hid (xs2.length ≤ 60 ∧ ys2.length ≤ 60) := ⟨by rw [h2.out.1]; omega, by rw [h2'.out.1]; omega⟩
  have DL := hide (dv_L S1.out S2.out (by decide))
  obtain ⟨dk, hdk⟩ : ∃ k, Hid (dvK b1 xs1 ys1 b2 xs2 ys2 = k) := ⟨_, rfl⟩
  obtain ⟨dz, hdz⟩ : ∃ k, Hid (dvZ b1 xs1 ys1 b2 xs2 ys2 = k) := ⟨_, rfl⟩
  obtain ⟨dn, hdn⟩ : ∃ k, Hid (dvN b1 xs1 ys1 b2 xs2 ys2 = k) := ⟨_, rfl⟩
  rw [hdz.out, hdn.out] at DL
  obtain ⟨cc, hcc⟩ : ∃ cc, Hid (cmpQ (rv b1 xs1 ys1) (rv b2 xs2 ys2) = cc) := ⟨_, rfl⟩
  obtain ⟨ss, hss⟩ : ∃ ss, Hid (cmpQ (rv b1 xs1 ys1) 0 = ss) := ⟨_, rfl⟩
  have H : Hid (HW w.heap.size w1 []) := HW.nil _ _
  replace T := hide (T.out.below b0.out)
  clear h1 h1' h2 h2' i1 i1' i2 i2'
  have vK10 : w1.cell? ⟨w.heap.size, 0, none⟩ = some (.bool b1) := K1.out.at_ 0 rfl
  have vK11 : w1.cell? ⟨w.heap.size, 1, none⟩ = some (.slice A1 n1 c1) := K1.out.at_ 1 rfl
  have vK12 : w1.cell? ⟨w.heap.size, 2, none⟩ = some (.slice D1 m1 k1) := K1.out.at_ 2 rfl
  go_wp2_with fail
  clear vK10 vK11 vK12
  refine (rp_twin P1.out P1'.out (by omega) (by omega)).mono ?_
  rintro e w2 ⟨X, cX, X', cX', rfl, d1, TX, TX', sp1⟩
  replace H : Hid (HW w.heap.size w2 ([] ++ [⟨X, n1, cX, none, 0, 0, 1⟩] ++ [⟨X', m1, cX', none, 0, 0, 2⟩])) := Tw.next H.out d1.out TX TX' sp1 b0.out.size (by omega) (by omega)
  replace P1 := hide (P1.out.below d1.out)
  replace P1' := hide (P1'.out.below d1.out)
  replace P2 := hide (P2.out.below d1.out)
  replace P2' := hide (P2'.out.below d1.out)
  replace R1 := hide (R1.out.below d1.out)
  replace R2 := hide (R2.out.below d1.out)
  replace I1 := hide (I1.out.below d1.out)
  replace I2 := hide (I2.out.below d1.out)
  replace T := hide (T.out.below d1.out)
  replace K1 := hide (K1.out.below' d1.out)
  replace K2 := hide (K2.out.below' d1.out)
  replace b0 := hide (below_tr b0.out d1.out)
  clear d1
  replace TX := hide TX
  replace TX' := hide TX'
  clear sp1
  have Q1 : Hid (RPrt w2 (.agg #[.bool b1, .slice X n1 cX, .slice X' m1 cX']) b1 xs1 ys1) := ⟨_, _, rfl, TX.out.prt, TX'.out.prt⟩
  have J1 : Hid (RArg w2 (.agg #[.bool b1, .slice X n1 cX, .slice X' m1 cX']) (rv b1 xs1 ys1)) := Q1.out.arg (Nat.le_trans x1.out.1 (by decide)) (Nat.le_trans x1.out.2 (by decide))
  have dA := (Below.refl w2.heap.size w2).alloc (Nat.le_refl _) (.cells #[.bool b1, .slice X n1 cX, .slice X' m1 cX'] TR)
  have KX := hide (Blk.new w2 TR #[.bool b1, .slice X n1 cX, .slice X' m1 cX'])
  replace P1 := hide (P1.out.below dA)
  replace P1' := hide (P1'.out.below dA)
  replace P2 := hide (P2.out.below dA)
  replace P2' := hide (P2'.out.below dA)
  replace R1 := hide (R1.out.below dA)
  replace R2 := hide (R2.out.below dA)
  replace I1 := hide (I1.out.below dA)
  replace I2 := hide (I2.out.below dA)
  replace T := hide (T.out.below dA)
  replace TX := hide (TX.out.below dA)
  replace TX' := hide (TX'.out.below dA)
  replace Q1 := hide (Q1.out.below dA)
  replace J1 := hide (J1.out.below dA)
  replace K1 := hide (K1.out.below' dA)
  replace K2 := hide (K2.out.below' dA)
  replace H := hide (H.out.below dA)
  replace b0 := hide (below_tr b0.out dA)
  clear dA
  have vK20 : (w2.alloc (.cells #[.bool b1, .slice X n1 cX, .slice X' m1 cX'] TR)).cell? ⟨(w.heap.size + 1), 0, none⟩ = some (.bool b2) := K2.out.at_ 0 rfl
  have vK21 : (w2.alloc (.cells #[.bool b1, .slice X n1 cX, .slice X' m1 cX'] TR)).cell? ⟨(w.heap.size + 1), 1, none⟩ = some (.slice A2 n2 c2) := K2.out.at_ 1 rfl
  have vK22 : (w2.alloc (.cells #[.bool b1, .slice X n1 cX, .slice X' m1 cX'] TR)).cell? ⟨(w.heap.size + 1), 2, none⟩ = some (.slice D2 m2 k2) := K2.out.at_ 2 rfl
  go_wp2_with fail
  clear vK20 vK21 vK22
  obtain ⟨V1, hV⟩ : ∃ V, (w2.alloc (.cells #[.bool b1, .slice X n1 cX, .slice X' m1 cX'] TR)) = V := ⟨_, rfl⟩
  obtain ⟨gKX, hg⟩ : ∃ g, w2.heap.size = g := ⟨_, rfl⟩
  rw [hV] at P1 P1' P2 P2' R1 R2 I1 I2 T TX TX' Q1 J1 K1 K2 KX b0 H
  rw [hg] at KX
  rw [hV, hg]
  clear hV hg
  refine (rp_twin P2.out P2'.out (by omega) (by omega)).mono ?_
  rintro e w3 ⟨Y, cY, Y', cY', rfl, d1, TY, TY', sp2⟩
  replace H : Hid (HW w.heap.size w3 ([] ++ [⟨X, n1, cX, none, 0, 0, 1⟩] ++ [⟨X', m1, cX', none, 0, 0, 2⟩] ++ [⟨Y, n2, cY, none, 0, 0, 3⟩] ++ [⟨Y', m2, cY', none, 0, 0, 4⟩])) := Tw.next H.out d1.out TY TY' sp2 b0.out.size (by omega) (by omega)
  replace P1 := hide (P1.out.below d1.out)
  replace P1' := hide (P1'.out.below d1.out)
  replace P2 := hide (P2.out.below d1.out)
  replace P2' := hide (P2'.out.below d1.out)
  replace R1 := hide (R1.out.below d1.out)
  replace R2 := hide (R2.out.below d1.out)
  replace I1 := hide (I1.out.below d1.out)
  replace I2 := hide (I2.out.below d1.out)
  replace T := hide (T.out.below d1.out)
  replace TX := hide (TX.out.below d1.out)
  replace TX' := hide (TX'.out.below d1.out)
  replace Q1 := hide (Q1.out.below d1.out)
  replace J1 := hide (J1.out.below d1.out)
  replace K1 := hide (K1.out.below' d1.out)
  replace K2 := hide (K2.out.below' d1.out)
  replace KX := hide (KX.out.below' d1.out)
  replace b0 := hide (below_tr b0.out d1.out)
  clear d1
  replace TY := hide TY
  replace TY' := hide TY'
  clear sp2
  have Q2 : Hid (RPrt w3 (.agg #[.bool b2, .slice Y n2 cY, .slice Y' m2 cY']) b2 xs2 ys2) := ⟨_, _, rfl, TY.out.prt, TY'.out.prt⟩
  have J2 : Hid (RArg w3 (.agg #[.bool b2, .slice Y n2 cY, .slice Y' m2 cY']) (rv b2 xs2 ys2)) := Q2.out.arg (Nat.le_trans x2.out.1 (by decide)) (Nat.le_trans x2.out.2 (by decide))
  have dA := (Below.refl w3.heap.size w3).alloc (Nat.le_refl _) (.cells #[.bool b2, .slice Y n2 cY, .slice Y' m2 cY'] TR)
  have KY := hide (Blk.new w3 TR #[.bool b2, .slice Y n2 cY, .slice Y' m2 cY'])
  replace P1 := hide (P1.out.below dA)
  replace P1' := hide (P1'.out.below dA)
  replace P2 := hide (P2.out.below dA)
  replace P2' := hide (P2'.out.below dA)
  replace R1 := hide (R1.out.below dA)
  replace R2 := hide (R2.out.below dA)
  replace I1 := hide (I1.out.below dA)
  replace I2 := hide (I2.out.below dA)
  replace T := hide (T.out.below dA)
  replace TX := hide (TX.out.below dA)
  replace TX' := hide (TX'.out.below dA)
  replace Q1 := hide (Q1.out.below dA)
  replace J1 := hide (J1.out.below dA)
  replace TY := hide (TY.out.below dA)
  replace TY' := hide (TY'.out.below dA)
  replace Q2 := hide (Q2.out.below dA)
  replace J2 := hide (J2.out.below dA)
  replace K1 := hide (K1.out.below' dA)
  replace K2 := hide (K2.out.below' dA)
  replace KX := hide (KX.out.below' dA)
  replace H := hide (H.out.below dA)
  replace b0 := hide (below_tr b0.out dA)
  clear dA
  have vKX0 : (w3.alloc (.cells #[.bool b2, .slice Y n2 cY, .slice Y' m2 cY'] TR)).cell? ⟨gKX, 0, none⟩ = some (.bool b1) := KX.out.at_ 0 rfl
  have vKX1 : (w3.alloc (.cells #[.bool b2, .slice Y n2 cY, .slice Y' m2 cY'] TR)).cell? ⟨gKX, 1, none⟩ = some (.slice X n1 cX) := KX.out.at_ 1 rfl
  have vKX2 : (w3.alloc (.cells #[.bool b2, .slice Y n2 cY, .slice Y' m2 cY'] TR)).cell? ⟨gKX, 2, none⟩ = some (.slice X' m1 cX') := KX.out.at_ 2 rfl
  have vKY0 : (w3.alloc (.cells #[.bool b2, .slice Y n2 cY, .slice Y' m2 cY'] TR)).cell? ⟨w3.heap.size, 0, none⟩ = some (.bool b2) := KY.out.at_ 0 rfl
  have vKY1 : (w3.alloc (.cells #[.bool b2, .slice Y n2 cY, .slice Y' m2 cY'] TR)).cell? ⟨w3.heap.size, 1, none⟩ = some (.slice Y n2 cY) := KY.out.at_ 1 rfl
  have vKY2 : (w3.alloc (.cells #[.bool b2, .slice Y n2 cY, .slice Y' m2 cY'] TR)).cell? ⟨w3.heap.size, 2, none⟩ = some (.slice Y' m2 cY') := KY.out.at_ 2 rfl
  go_wp2_with fail
  clear vKX0 vKX1 vKX2 vKY0 vKY1 vKY2
  obtain ⟨V2, hV⟩ : ∃ V, (w3.alloc (.cells #[.bool b2, .slice Y n2 cY, .slice Y' m2 cY'] TR)) = V := ⟨_, rfl⟩
  obtain ⟨gKY, hg⟩ : ∃ g, w3.heap.size = g := ⟨_, rfl⟩
  rw [hV] at P1 P1' P2 P2' R1 R2 I1 I2 T TX TX' Q1 J1 TY TY' Q2 J2 K1 K2 KX KY b0 H
  rw [hg] at KY
  rw [hV, hg]
  clear hV hg
  refine ((rAdd_P J1.out J2.out T.out).mono (fun e w' h => ratR_PR (P := fun _ _ => True) h)).mono ?_
  rintro e w4 ⟨sS, S, nS, cS, S', mS, kS, rfl, d1, FS⟩
  replace H : Hid (HW w.heap.size w4 ([] ++ [⟨X, n1, cX, none, 0, 0, 1⟩] ++ [⟨X', m1, cX', none, 0, 0, 2⟩] ++ [⟨Y, n2, cY, none, 0, 0, 3⟩] ++ [⟨Y', m2, cY', none, 0, 0, 4⟩] ++ [⟨S, nS, cS, none, 0, 0, 5⟩] ++ [⟨S', mS, kS, none, 0, 0, 6⟩])) := PR.next H.out d1.out FS b0.out.size (Nat.le_trans (H_add (m := 121) S1.out S2.out (by decide)).1 (by decide)) (Nat.le_trans (H_add (m := 121) S1.out S2.out (by decide)).2 (by decide)) (by omega) (by omega)
  replace P1 := hide (P1.out.below d1.out)
  replace P1' := hide (P1'.out.below d1.out)
  replace P2 := hide (P2.out.below d1.out)
  replace P2' := hide (P2'.out.below d1.out)
  replace R1 := hide (R1.out.below d1.out)
  replace R2 := hide (R2.out.below d1.out)
  replace I1 := hide (I1.out.below d1.out)
  replace I2 := hide (I2.out.below d1.out)
  replace T := hide (T.out.below d1.out)
  replace TX := hide (TX.out.below d1.out)
  replace TX' := hide (TX'.out.below d1.out)
  replace Q1 := hide (Q1.out.below d1.out)
  replace J1 := hide (J1.out.below d1.out)
  replace TY := hide (TY.out.below d1.out)
  replace TY' := hide (TY'.out.below d1.out)
  replace Q2 := hide (Q2.out.below d1.out)
  replace J2 := hide (J2.out.below d1.out)
  replace K1 := hide (K1.out.below' d1.out)
  replace K2 := hide (K2.out.below' d1.out)
  replace KX := hide (KX.out.below' d1.out)
  replace KY := hide (KY.out.below' d1.out)
  replace b0 := hide (below_tr b0.out d1.out)
  clear d1
  replace FS := hide FS
  have dA := (Below.refl w4.heap.size w4).alloc (Nat.le_refl _) (.cells #[.bool sS, .slice S nS cS, .slice S' mS kS] TR)
  have KS := hide (Blk.new w4 TR #[.bool sS, .slice S nS cS, .slice S' mS kS])
  replace P1 := hide (P1.out.below dA)
  replace P1' := hide (P1'.out.below dA)
  replace P2 := hide (P2.out.below dA)
  replace P2' := hide (P2'.out.below dA)
  replace R1 := hide (R1.out.below dA)
  replace R2 := hide (R2.out.below dA)
  replace I1 := hide (I1.out.below dA)
  replace I2 := hide (I2.out.below dA)
  replace T := hide (T.out.below dA)
  replace TX := hide (TX.out.below dA)
  replace TX' := hide (TX'.out.below dA)
  replace Q1 := hide (Q1.out.below dA)
  replace J1 := hide (J1.out.below dA)
  replace TY := hide (TY.out.below dA)
  replace TY' := hide (TY'.out.below dA)
  replace Q2 := hide (Q2.out.below dA)
  replace J2 := hide (J2.out.below dA)
  replace FS := hide (FS.out.below dA)
  replace K1 := hide (K1.out.below' dA)
  replace K2 := hide (K2.out.below' dA)
  replace KX := hide (KX.out.below' dA)
  replace KY := hide (KY.out.below' dA)
  replace H := hide (H.out.below dA)
  replace b0 := hide (below_tr b0.out dA)
  clear dA
  have vKX0 : (w4.alloc (.cells #[.bool sS, .slice S nS cS, .slice S' mS kS] TR)).cell? ⟨gKX, 0, none⟩ = some (.bool b1) := KX.out.at_ 0 rfl
  have vKX1 : (w4.alloc (.cells #[.bool sS, .slice S nS cS, .slice S' mS kS] TR)).cell? ⟨gKX, 1, none⟩ = some (.slice X n1 cX) := KX.out.at_ 1 rfl
  have vKX2 : (w4.alloc (.cells #[.bool sS, .slice S nS cS, .slice S' mS kS] TR)).cell? ⟨gKX, 2, none⟩ = some (.slice X' m1 cX') := KX.out.at_ 2 rfl
  have vKY0 : (w4.alloc (.cells #[.bool sS, .slice S nS cS, .slice S' mS kS] TR)).cell? ⟨gKY, 0, none⟩ = some (.bool b2) := KY.out.at_ 0 rfl
  have vKY1 : (w4.alloc (.cells #[.bool sS, .slice S nS cS, .slice S' mS kS] TR)).cell? ⟨gKY, 1, none⟩ = some (.slice Y n2 cY) := KY.out.at_ 1 rfl
  have vKY2 : (w4.alloc (.cells #[.bool sS, .slice S nS cS, .slice S' mS kS] TR)).cell? ⟨gKY, 2, none⟩ = some (.slice Y' m2 cY') := KY.out.at_ 2 rfl
  go_wp2_with fail
  clear vKX0 vKX1 vKX2 vKY0 vKY1 vKY2
  obtain ⟨V3, hV⟩ : ∃ V, (w4.alloc (.cells #[.bool sS, .slice S nS cS, .slice S' mS kS] TR)) = V := ⟨_, rfl⟩
  obtain ⟨gKS, hg⟩ : ∃ g, w4.heap.size = g := ⟨_, rfl⟩
  rw [hV] at P1 P1' P2 P2' R1 R2 I1 I2 T TX TX' Q1 J1 TY TY' Q2 J2 FS K1 K2 KX KY KS b0 H
  rw [hg] at KS
  rw [hV, hg]
  clear hV hg
  refine ((rSub_P J1.out J2.out T.out).mono (fun e w' h => ratR_PR (P := fun _ _ => True) h)).mono ?_
  rintro e w5 ⟨sD, D, nD, cD, D', mD, kD, rfl, d1, FD⟩
  replace H : Hid (HW w.heap.size w5 ([] ++ [⟨X, n1, cX, none, 0, 0, 1⟩] ++ [⟨X', m1, cX', none, 0, 0, 2⟩] ++ [⟨Y, n2, cY, none, 0, 0, 3⟩] ++ [⟨Y', m2, cY', none, 0, 0, 4⟩] ++ [⟨S, nS, cS, none, 0, 0, 5⟩] ++ [⟨S', mS, kS, none, 0, 0, 6⟩] ++ [⟨D, nD, cD, none, 0, 0, 7⟩] ++ [⟨D', mD, kD, none, 0, 0, 8⟩])) := PR.next H.out d1.out FD b0.out.size (Nat.le_trans (H_sub (m := 121) S1.out S2.out (by decide)).1 (by decide)) (Nat.le_trans (H_sub (m := 121) S1.out S2.out (by decide)).2 (by decide)) (by omega) (by omega)
  replace P1 := hide (P1.out.below d1.out)
  replace P1' := hide (P1'.out.below d1.out)
  replace P2 := hide (P2.out.below d1.out)
  replace P2' := hide (P2'.out.below d1.out)
  replace R1 := hide (R1.out.below d1.out)
  replace R2 := hide (R2.out.below d1.out)
  replace I1 := hide (I1.out.below d1.out)
  replace I2 := hide (I2.out.below d1.out)
  replace T := hide (T.out.below d1.out)
  replace TX := hide (TX.out.below d1.out)
  replace TX' := hide (TX'.out.below d1.out)
  replace Q1 := hide (Q1.out.below d1.out)
  replace J1 := hide (J1.out.below d1.out)
  replace TY := hide (TY.out.below d1.out)
  replace TY' := hide (TY'.out.below d1.out)
  replace Q2 := hide (Q2.out.below d1.out)
  replace J2 := hide (J2.out.below d1.out)
  replace FS := hide (FS.out.below d1.out)
  replace K1 := hide (K1.out.below' d1.out)
  replace K2 := hide (K2.out.below' d1.out)
  replace KX := hide (KX.out.below' d1.out)
  replace KY := hide (KY.out.below' d1.out)
  replace KS := hide (KS.out.below' d1.out)
  replace b0 := hide (below_tr b0.out d1.out)
  clear d1
  replace FD := hide FD
  have dA := (Below.refl w5.heap.size w5).alloc (Nat.le_refl _) (.cells #[.bool sD, .slice D nD cD, .slice D' mD kD] TR)
  have KD := hide (Blk.new w5 TR #[.bool sD, .slice D nD cD, .slice D' mD kD])
  replace P1 := hide (P1.out.below dA)
  replace P1' := hide (P1'.out.below dA)
  replace P2 := hide (P2.out.below dA)
  replace P2' := hide (P2'.out.below dA)
  replace R1 := hide (R1.out.below dA)
  replace R2 := hide (R2.out.below dA)
  replace I1 := hide (I1.out.below dA)
  replace I2 := hide (I2.out.below dA)
  replace T := hide (T.out.below dA)
  replace TX := hide (TX.out.below dA)
  replace TX' := hide (TX'.out.below dA)
  replace Q1 := hide (Q1.out.below dA)
  replace J1 := hide (J1.out.below dA)
  replace TY := hide (TY.out.below dA)
  replace TY' := hide (TY'.out.below dA)
  replace Q2 := hide (Q2.out.below dA)
  replace J2 := hide (J2.out.below dA)
  replace FS := hide (FS.out.below dA)
  replace FD := hide (FD.out.below dA)
  replace K1 := hide (K1.out.below' dA)
  replace K2 := hide (K2.out.below' dA)
  replace KX := hide (KX.out.below' dA)
  replace KY := hide (KY.out.below' dA)
  replace KS := hide (KS.out.below' dA)
  replace H := hide (H.out.below dA)
  replace b0 := hide (below_tr b0.out dA)
  clear dA
  have vKX0 : (w5.alloc (.cells #[.bool sD, .slice D nD cD, .slice D' mD kD] TR)).cell? ⟨gKX, 0, none⟩ = some (.bool b1) := KX.out.at_ 0 rfl
  have vKX1 : (w5.alloc (.cells #[.bool sD, .slice D nD cD, .slice D' mD kD] TR)).cell? ⟨gKX, 1, none⟩ = some (.slice X n1 cX) := KX.out.at_ 1 rfl
  have vKX2 : (w5.alloc (.cells #[.bool sD, .slice D nD cD, .slice D' mD kD] TR)).cell? ⟨gKX, 2, none⟩ = some (.slice X' m1 cX') := KX.out.at_ 2 rfl
  have vKY0 : (w5.alloc (.cells #[.bool sD, .slice D nD cD, .slice D' mD kD] TR)).cell? ⟨gKY, 0, none⟩ = some (.bool b2) := KY.out.at_ 0 rfl
  have vKY1 : (w5.alloc (.cells #[.bool sD, .slice D nD cD, .slice D' mD kD] TR)).cell? ⟨gKY, 1, none⟩ = some (.slice Y n2 cY) := KY.out.at_ 1 rfl
  have vKY2 : (w5.alloc (.cells #[.bool sD, .slice D nD cD, .slice D' mD kD] TR)).cell? ⟨gKY, 2, none⟩ = some (.slice Y' m2 cY') := KY.out.at_ 2 rfl
  go_wp2_with fail
  clear vKX0 vKX1 vKX2 vKY0 vKY1 vKY2
  obtain ⟨V4, hV⟩ : ∃ V, (w5.alloc (.cells #[.bool sD, .slice D nD cD, .slice D' mD kD] TR)) = V := ⟨_, rfl⟩
  obtain ⟨gKD, hg⟩ : ∃ g, w5.heap.size = g := ⟨_, rfl⟩
  rw [hV] at P1 P1' P2 P2' R1 R2 I1 I2 T TX TX' Q1 J1 TY TY' Q2 J2 FS FD K1 K2 KX KY KS KD b0 H
  rw [hg] at KD
  rw [hV, hg]
  clear hV hg
  refine ((rMul_P J1.out J2.out T.out).mono (fun e w' h => ratR_PR (P := fun _ _ => True) h)).mono ?_
  rintro e w6 ⟨sM, M, nM, cM, M', mM, kM, rfl, d1, FM⟩
  replace H : Hid (HW w.heap.size w6 ([] ++ [⟨X, n1, cX, none, 0, 0, 1⟩] ++ [⟨X', m1, cX', none, 0, 0, 2⟩] ++ [⟨Y, n2, cY, none, 0, 0, 3⟩] ++ [⟨Y', m2, cY', none, 0, 0, 4⟩] ++ [⟨S, nS, cS, none, 0, 0, 5⟩] ++ [⟨S', mS, kS, none, 0, 0, 6⟩] ++ [⟨D, nD, cD, none, 0, 0, 7⟩] ++ [⟨D', mD, kD, none, 0, 0, 8⟩] ++ [⟨M, nM, cM, none, 0, 0, 9⟩] ++ [⟨M', mM, kM, none, 0, 0, 10⟩])) := PR.next H.out d1.out FM b0.out.size (Nat.le_trans (H_mul (m := 120) S1.out S2.out (by decide)).1 (by decide)) (Nat.le_trans (H_mul (m := 120) S1.out S2.out (by decide)).2 (by decide)) (by omega) (by omega)
  replace P1 := hide (P1.out.below d1.out)
  replace P1' := hide (P1'.out.below d1.out)
  replace P2 := hide (P2.out.below d1.out)
  replace P2' := hide (P2'.out.below d1.out)
  replace R1 := hide (R1.out.below d1.out)
  replace R2 := hide (R2.out.below d1.out)
  replace I1 := hide (I1.out.below d1.out)
  replace I2 := hide (I2.out.below d1.out)
  replace T := hide (T.out.below d1.out)
  replace TX := hide (TX.out.below d1.out)
  replace TX' := hide (TX'.out.below d1.out)
  replace Q1 := hide (Q1.out.below d1.out)
  replace J1 := hide (J1.out.below d1.out)
  replace TY := hide (TY.out.below d1.out)
  replace TY' := hide (TY'.out.below d1.out)
  replace Q2 := hide (Q2.out.below d1.out)
  replace J2 := hide (J2.out.below d1.out)
  replace FS := hide (FS.out.below d1.out)
  replace FD := hide (FD.out.below d1.out)
  replace K1 := hide (K1.out.below' d1.out)
  replace K2 := hide (K2.out.below' d1.out)
  replace KX := hide (KX.out.below' d1.out)
  replace KY := hide (KY.out.below' d1.out)
  replace KS := hide (KS.out.below' d1.out)
  replace KD := hide (KD.out.below' d1.out)
  replace b0 := hide (below_tr b0.out d1.out)
  clear d1
  replace FM := hide FM
  have dA := (Below.refl w6.heap.size w6).alloc (Nat.le_refl _) (.cells #[.bool sM, .slice M nM cM, .slice M' mM kM] TR)
  have KM := hide (Blk.new w6 TR #[.bool sM, .slice M nM cM, .slice M' mM kM])
  replace P1 := hide (P1.out.below dA)
  replace P1' := hide (P1'.out.below dA)
  replace P2 := hide (P2.out.below dA)
  replace P2' := hide (P2'.out.below dA)
  replace R1 := hide (R1.out.below dA)
  replace R2 := hide (R2.out.below dA)
  replace I1 := hide (I1.out.below dA)
  replace I2 := hide (I2.out.below dA)
  replace T := hide (T.out.below dA)
  replace TX := hide (TX.out.below dA)
  replace TX' := hide (TX'.out.below dA)
  replace Q1 := hide (Q1.out.below dA)
  replace J1 := hide (J1.out.below dA)
  replace TY := hide (TY.out.below dA)
  replace TY' := hide (TY'.out.below dA)
  replace Q2 := hide (Q2.out.below dA)
  replace J2 := hide (J2.out.below dA)
  replace FS := hide (FS.out.below dA)
  replace FD := hide (FD.out.below dA)
  replace FM := hide (FM.out.below dA)
  replace K1 := hide (K1.out.below' dA)
  replace K2 := hide (K2.out.below' dA)
  replace KX := hide (KX.out.below' dA)
  replace KY := hide (KY.out.below' dA)
  replace KS := hide (KS.out.below' dA)
  replace KD := hide (KD.out.below' dA)
  replace H := hide (H.out.below dA)
  replace b0 := hide (below_tr b0.out dA)
  clear dA
  have vKX0 : (w6.alloc (.cells #[.bool sM, .slice M nM cM, .slice M' mM kM] TR)).cell? ⟨gKX, 0, none⟩ = some (.bool b1) := KX.out.at_ 0 rfl
  have vKX1 : (w6.alloc (.cells #[.bool sM, .slice M nM cM, .slice M' mM kM] TR)).cell? ⟨gKX, 1, none⟩ = some (.slice X n1 cX) := KX.out.at_ 1 rfl
  have vKX2 : (w6.alloc (.cells #[.bool sM, .slice M nM cM, .slice M' mM kM] TR)).cell? ⟨gKX, 2, none⟩ = some (.slice X' m1 cX') := KX.out.at_ 2 rfl
  have vKY0 : (w6.alloc (.cells #[.bool sM, .slice M nM cM, .slice M' mM kM] TR)).cell? ⟨gKY, 0, none⟩ = some (.bool b2) := KY.out.at_ 0 rfl
  have vKY1 : (w6.alloc (.cells #[.bool sM, .slice M nM cM, .slice M' mM kM] TR)).cell? ⟨gKY, 1, none⟩ = some (.slice Y n2 cY) := KY.out.at_ 1 rfl
  have vKY2 : (w6.alloc (.cells #[.bool sM, .slice M nM cM, .slice M' mM kM] TR)).cell? ⟨gKY, 2, none⟩ = some (.slice Y' m2 cY') := KY.out.at_ 2 rfl
  go_wp2_with fail
  clear vKX0 vKX1 vKX2 vKY0 vKY1 vKY2
  obtain ⟨V5, hV⟩ : ∃ V, (w6.alloc (.cells #[.bool sM, .slice M nM cM, .slice M' mM kM] TR)) = V := ⟨_, rfl⟩
  obtain ⟨gKM, hg⟩ : ∃ g, w6.heap.size = g := ⟨_, rfl⟩
  rw [hV] at P1 P1' P2 P2' R1 R2 I1 I2 T TX TX' Q1 J1 TY TY' Q2 J2 FS FD FM K1 K2 KX KY KS KD KM b0 H
  rw [hg] at KM
  rw [hV, hg]
  clear hV hg
  refine (rp_Div Q1.out Q2.out (S1.out.up (by decide)) (S2.out.up (by decide)) T.out).mono ?_
  rintro e w7 ⟨sZ, Z, nZ, cZ, Z', mZ, kZ, rfl, d1, FZ⟩
  rw [hdk.out]
  rw [hdz.out, hdn.out] at FZ
  replace H : Hid (HW w.heap.size w7 ([] ++ [⟨X, n1, cX, none, 0, 0, 1⟩] ++ [⟨X', m1, cX', none, 0, 0, 2⟩] ++ [⟨Y, n2, cY, none, 0, 0, 3⟩] ++ [⟨Y', m2, cY', none, 0, 0, 4⟩] ++ [⟨S, nS, cS, none, 0, 0, 5⟩] ++ [⟨S', mS, kS, none, 0, 0, 6⟩] ++ [⟨D, nD, cD, none, 0, 0, 7⟩] ++ [⟨D', mD, kD, none, 0, 0, 8⟩] ++ [⟨M, nM, cM, none, 0, 0, 9⟩] ++ [⟨M', mM, kM, none, 0, 0, 10⟩] ++ [⟨Z, nZ, cZ, none, 0, 0, 11⟩] ++ [⟨Z', mZ, kZ, none, 0, 0, 12⟩])) := PR.next H.out d1.out FZ b0.out.size (Nat.le_trans DL.out.1 (by decide)) (Nat.le_trans DL.out.2 (by decide)) (by omega) (by omega)
  replace P1 := hide (P1.out.below d1.out)
  replace P1' := hide (P1'.out.below d1.out)
  replace P2 := hide (P2.out.below d1.out)
  replace P2' := hide (P2'.out.below d1.out)
  replace R1 := hide (R1.out.below d1.out)
  replace R2 := hide (R2.out.below d1.out)
  replace I1 := hide (I1.out.below d1.out)
  replace I2 := hide (I2.out.below d1.out)
  replace T := hide (T.out.below d1.out)
  replace TX := hide (TX.out.below d1.out)
  replace TX' := hide (TX'.out.below d1.out)
  replace Q1 := hide (Q1.out.below d1.out)
  replace J1 := hide (J1.out.below d1.out)
  replace TY := hide (TY.out.below d1.out)
  replace TY' := hide (TY'.out.below d1.out)
  replace Q2 := hide (Q2.out.below d1.out)
  replace J2 := hide (J2.out.below d1.out)
  replace FS := hide (FS.out.below d1.out)
  replace FD := hide (FD.out.below d1.out)
  replace FM := hide (FM.out.below d1.out)
  replace K1 := hide (K1.out.below' d1.out)
  replace K2 := hide (K2.out.below' d1.out)
  replace KX := hide (KX.out.below' d1.out)
  replace KY := hide (KY.out.below' d1.out)
  replace KS := hide (KS.out.below' d1.out)
  replace KD := hide (KD.out.below' d1.out)
  replace KM := hide (KM.out.below' d1.out)
  replace b0 := hide (below_tr b0.out d1.out)
  clear d1
  replace FZ := hide FZ
  have dA := (Below.refl w7.heap.size w7).alloc (Nat.le_refl _) (.cells #[.bool sZ, .slice Z nZ cZ, .slice Z' mZ kZ] TR)
  have KZ := hide (Blk.new w7 TR #[.bool sZ, .slice Z nZ cZ, .slice Z' mZ kZ])
  replace P1 := hide (P1.out.below dA)
  replace P1' := hide (P1'.out.below dA)
  replace P2 := hide (P2.out.below dA)
  replace P2' := hide (P2'.out.below dA)
  replace R1 := hide (R1.out.below dA)
  replace R2 := hide (R2.out.below dA)
  replace I1 := hide (I1.out.below dA)
  replace I2 := hide (I2.out.below dA)
  replace T := hide (T.out.below dA)
  replace TX := hide (TX.out.below dA)
  replace TX' := hide (TX'.out.below dA)
  replace Q1 := hide (Q1.out.below dA)
  replace J1 := hide (J1.out.below dA)
  replace TY := hide (TY.out.below dA)
  replace TY' := hide (TY'.out.below dA)
  replace Q2 := hide (Q2.out.below dA)
  replace J2 := hide (J2.out.below dA)
  replace FS := hide (FS.out.below dA)
  replace FD := hide (FD.out.below dA)
  replace FM := hide (FM.out.below dA)
  replace FZ := hide (FZ.out.below dA)
  replace K1 := hide (K1.out.below' dA)
  replace K2 := hide (K2.out.below' dA)
  replace KX := hide (KX.out.below' dA)
  replace KY := hide (KY.out.below' dA)
  replace KS := hide (KS.out.below' dA)
  replace KD := hide (KD.out.below' dA)
  replace KM := hide (KM.out.below' dA)
  replace H := hide (H.out.below dA)
  replace b0 := hide (below_tr b0.out dA)
  clear dA
  have vK10 : (w7.alloc (.cells #[.bool sZ, .slice Z nZ cZ, .slice Z' mZ kZ] TR)).cell? ⟨w.heap.size, 0, none⟩ = some (.bool b1) := K1.out.at_ 0 rfl
  have vK11 : (w7.alloc (.cells #[.bool sZ, .slice Z nZ cZ, .slice Z' mZ kZ] TR)).cell? ⟨w.heap.size, 1, none⟩ = some (.slice A1 n1 c1) := K1.out.at_ 1 rfl
  have vK12 : (w7.alloc (.cells #[.bool sZ, .slice Z nZ cZ, .slice Z' mZ kZ] TR)).cell? ⟨w.heap.size, 2, none⟩ = some (.slice D1 m1 k1) := K1.out.at_ 2 rfl
  have vK20 : (w7.alloc (.cells #[.bool sZ, .slice Z nZ cZ, .slice Z' mZ kZ] TR)).cell? ⟨(w.heap.size + 1), 0, none⟩ = some (.bool b2) := K2.out.at_ 0 rfl
  have vK21 : (w7.alloc (.cells #[.bool sZ, .slice Z nZ cZ, .slice Z' mZ kZ] TR)).cell? ⟨(w.heap.size + 1), 1, none⟩ = some (.slice A2 n2 c2) := K2.out.at_ 1 rfl
  have vK22 : (w7.alloc (.cells #[.bool sZ, .slice Z nZ cZ, .slice Z' mZ kZ] TR)).cell? ⟨(w.heap.size + 1), 2, none⟩ = some (.slice D2 m2 k2) := K2.out.at_ 2 rfl
  go_wp2_with fail
  clear vK10 vK11 vK12 vK20 vK21 vK22
  obtain ⟨V6, hV⟩ : ∃ V, (w7.alloc (.cells #[.bool sZ, .slice Z nZ cZ, .slice Z' mZ kZ] TR)) = V := ⟨_, rfl⟩
  obtain ⟨gKZ, hg⟩ : ∃ g, w7.heap.size = g := ⟨_, rfl⟩
  rw [hV] at P1 P1' P2 P2' R1 R2 I1 I2 T TX TX' Q1 J1 TY TY' Q2 J2 FS FD FM FZ K1 K2 KX KY KS KD KM KZ b0 H
  rw [hg] at KZ
  rw [hV, hg]
  clear hV hg
  refine (rq_Div R1.out R2.out (S1.out.up (by decide)) (S2.out.up (by decide))).mono ?_
  rintro e w8 ⟨sU, U, nU, cU, U', mU, kU, rfl, d1, FU⟩
  rw [hdk.out]
  rw [hdz.out, hdn.out] at FU
  replace H := hide (H.out.below d1.out)
  replace P1 := hide (P1.out.below d1.out)
  replace P1' := hide (P1'.out.below d1.out)
  replace P2 := hide (P2.out.below d1.out)
  replace P2' := hide (P2'.out.below d1.out)
  replace R1 := hide (R1.out.below d1.out)
  replace R2 := hide (R2.out.below d1.out)
  replace I1 := hide (I1.out.below d1.out)
  replace I2 := hide (I2.out.below d1.out)
  replace T := hide (T.out.below d1.out)
  replace TX := hide (TX.out.below d1.out)
  replace TX' := hide (TX'.out.below d1.out)
  replace Q1 := hide (Q1.out.below d1.out)
  replace J1 := hide (J1.out.below d1.out)
  replace TY := hide (TY.out.below d1.out)
  replace TY' := hide (TY'.out.below d1.out)
  replace Q2 := hide (Q2.out.below d1.out)
  replace J2 := hide (J2.out.below d1.out)
  replace FS := hide (FS.out.below d1.out)
  replace FD := hide (FD.out.below d1.out)
  replace FM := hide (FM.out.below d1.out)
  replace FZ := hide (FZ.out.below d1.out)
  replace K1 := hide (K1.out.below' d1.out)
  replace K2 := hide (K2.out.below' d1.out)
  replace KX := hide (KX.out.below' d1.out)
  replace KY := hide (KY.out.below' d1.out)
  replace KS := hide (KS.out.below' d1.out)
  replace KD := hide (KD.out.below' d1.out)
  replace KM := hide (KM.out.below' d1.out)
  replace KZ := hide (KZ.out.below' d1.out)
  replace b0 := hide (below_tr b0.out d1.out)
  clear d1
  replace FU := hide FU
  have dA := (Below.refl w8.heap.size w8).alloc (Nat.le_refl _) (.cells #[.bool sU, .slice U nU cU, .slice U' mU kU] TR)
  have KU := hide (Blk.new w8 TR #[.bool sU, .slice U nU cU, .slice U' mU kU])
  replace P1 := hide (P1.out.below dA)
  replace P1' := hide (P1'.out.below dA)
  replace P2 := hide (P2.out.below dA)
  replace P2' := hide (P2'.out.below dA)
  replace R1 := hide (R1.out.below dA)
  replace R2 := hide (R2.out.below dA)
  replace I1 := hide (I1.out.below dA)
  replace I2 := hide (I2.out.below dA)
  replace T := hide (T.out.below dA)
  replace TX := hide (TX.out.below dA)
  replace TX' := hide (TX'.out.below dA)
  replace Q1 := hide (Q1.out.below dA)
  replace J1 := hide (J1.out.below dA)
  replace TY := hide (TY.out.below dA)
  replace TY' := hide (TY'.out.below dA)
  replace Q2 := hide (Q2.out.below dA)
  replace J2 := hide (J2.out.below dA)
  replace FS := hide (FS.out.below dA)
  replace FD := hide (FD.out.below dA)
  replace FM := hide (FM.out.below dA)
  replace FZ := hide (FZ.out.below dA)
  replace FU := hide (FU.out.below dA)
  replace K1 := hide (K1.out.below' dA)
  replace K2 := hide (K2.out.below' dA)
  replace KX := hide (KX.out.below' dA)
  replace KY := hide (KY.out.below' dA)
  replace KS := hide (KS.out.below' dA)
  replace KD := hide (KD.out.below' dA)
  replace KM := hide (KM.out.below' dA)
  replace KZ := hide (KZ.out.below' dA)
  replace H := hide (H.out.below dA)
  replace b0 := hide (below_tr b0.out dA)
  clear dA
  go_wp2_with fail
  obtain ⟨V7, hV⟩ : ∃ V, (w8.alloc (.cells #[.bool sU, .slice U nU cU, .slice U' mU kU] TR)) = V := ⟨_, rfl⟩
  obtain ⟨gKU, hg⟩ : ∃ g, w8.heap.size = g := ⟨_, rfl⟩
  rw [hV] at P1 P1' P2 P2' R1 R2 I1 I2 T TX TX' Q1 J1 TY TY' Q2 J2 FS FD FM FZ FU K1 K2 KX KY KS KD KM KZ KU b0 H
  rw [hg] at KU
  rw [hV, hg]
  clear hV hg
  refine wp_region_facts 61 (fun w' => Below V7.heap.size V7 w') [(44, .eq (.agg #[.bool b1, .slice X n1 cX, .slice X' m1 cX'])), (45, .eq (.agg #[.bool b2, .slice Y n2 cY, .slice Y' m2 cY'])), (46, .eq (.int .i64 cc)), (47, .eq (.agg #[.bool b1, .slice A1 n1 c1, .slice D1 m1 k1])), (48, .eq (.agg #[.bool b2, .slice A2 n2 c2, .slice D2 m2 k2])), (49, .eq (.int .i64 cc)), (50, .eq (.bool false)), (51, .eq (.bool false)), (52, .eq (.agg #[.bool b1, .slice X n1 cX, .slice X' m1 cX'])), (53, .eq (.int .i64 ss)), (54, .eq (.agg #[.bool b1, .slice A1 n1 c1, .slice D1 m1 k1])), (55, .eq (.int .i64 ss)), (56, .eq (.bool false)), (57, .eq (.bool false)), (58, .eq (.bool false)), (59, .eq (.agg #[.bool sS, .slice S nS cS, .slice S' mS kS])), (60, .eq (.agg #[.bool b1, .slice A1 n1 c1, .slice D1 m1 k1])), (61, .eq (.agg #[.bool b2, .slice A2 n2 c2, .slice D2 m2 k2])), (62, (.rat (rv b1 xs1 ys1 + rv b2 xs2 ys2))), (63, .eq (.bool true)), (64, .eq (.bool false)), (65, .eq (.bool false)), (66, .eq (.bool false)), (67, .eq (.agg #[.bool sD, .slice D nD cD, .slice D' mD kD])), (68, .eq (.agg #[.bool b1, .slice A1 n1 c1, .slice D1 m1 k1])), (69, .eq (.agg #[.bool b2, .slice A2 n2 c2, .slice D2 m2 k2])), (70, (.rat (rv b1 xs1 ys1 - rv b2 xs2 ys2))), (71, .eq (.bool true)), (72, .eq (.bool false)), (73, .eq (.bool false)), (74, .eq (.bool false)), (75, .eq (.agg #[.bool sM, .slice M nM cM, .slice M' mM kM])), (76, .eq (.agg #[.bool b1, .slice A1 n1 c1, .slice D1 m1 k1])), (77, .eq (.agg #[.bool b2, .slice A2 n2 c2, .slice D2 m2 k2])), (78, (.rat (rv b1 xs1 ys1 * rv b2 xs2 ys2))), (79, .eq (.bool true)), (80, .eq (.bool false)), (81, .eq (.bool false)), (82, .eq (.bool false)), (83, .eq (.agg #[.bool sZ, .slice Z nZ cZ, .slice Z' mZ kZ])), (84, .eq (.agg #[.bool sU, .slice U nU cU, .slice U' mU kU])), (85, .eq (.bool true)), (86, .eq (.bool false)), (87, .eq (.bool false)), (88, .eq (.bool false)), (89, .eq (.int .i64 dk)), (90, .eq (.int .i64 dk)), (91, .eq (.bool false)), (92, .eq (.bool false)), (93, .eq (.bool false)), (94, .eq (.agg #[.bool b1, .slice X n1 cX, .slice X' m1 cX'])), (95, .eq (.agg #[.bool b1, .slice A1 n1 c1, .slice D1 m1 k1])), (96, .eq (.bool true)), (97, .eq (.bool false)), (98, .eq (.bool false)), (99, .eq (.bool false)), (100, .eq (.agg #[.bool b2, .slice Y n2 cY, .slice Y' m2 cY'])), (101, .eq (.agg #[.bool b2, .slice A2 n2 c2, .slice D2 m2 k2])), (102, .eq (.bool true)), (103, .eq (.bool false)), (104, .eq (.bool false))] [false, false, false, false, false, false, false, false, false, false, false, false, false, false, false, false, false, false, false, false, false, false, false, false, false, false, false, false, false, false, false, false, false, false, false, false, false, false, false, false, false, false, false, false, true, true, true, true, true, true, true, true, true, true, true, true, true, true, true, true, true, true, true, true, true, true, true, true, true, true, true, true, true, true, true, true, true, true, true, true, true, true, true, true, true, true, true, true, true, true, true, true, true, true, true, true, true, true, true, true, true, true, true, true, true, false, false, false, false, false, false, false, false, false, false, false, false, false, false] mixed (by kernel_rfl) (by kernel_rfl) (by kernel_rfl) (fun _ _ h hb => h.trans (hb.mono h.size)) ((Below.refl _ _).drew) ⟨?_, ?_, ?_, ?_, ?_, ?_, ?_, ?_, ?_, ?_, ?_, ?_, ?_, ?_, ?_, ?_, ?_, ?_, ?_, ?_, ?_, ?_, ?_, ?_, ?_, ?_, ?_, ?_, ?_, ?_, ?_, ?_, ?_, ?_, ?_, ?_, ?_, ?_, ?_, ?_, ?_, ?_, ?_, ?_, ?_, ?_, ?_, ?_, ?_, ?_, ?_, ?_, ?_, ?_, ?_, ?_, ?_, ?_, ?_, ?_, ?_, trivial⟩ ?_
  · exact .load (.agg #[.bool b1, .slice X n1 cX, .slice X' m1 cX']) (.inl rfl) rfl rfl (fun a w' hC hs hl => by rw [show a.eval (.tmp 5) = (.pointer (some ⟨gKX, 0, none⟩) : Value) from (hs 5 (by kernel_rfl))]; exact ⟨ld_Rat_ ((KX.out.below' hC).at_ 0 rfl) ((KX.out.below' hC).at_ 1 rfl) ((KX.out.below' hC).at_ 2 rfl), rfl⟩)
  · exact .load (.agg #[.bool b2, .slice Y n2 cY, .slice Y' m2 cY']) (.inl rfl) rfl rfl (fun a w' hC hs hl => by rw [show a.eval (.tmp 6) = (.pointer (some ⟨gKY, 0, none⟩) : Value) from (hs 6 (by kernel_rfl))]; exact ⟨ld_Rat_ ((KY.out.below' hC).at_ 0 rfl) ((KY.out.below' hC).at_ 1 rfl) ((KY.out.below' hC).at_ 2 rfl), rfl⟩)
  · exact .call (.inl rfl) rfl rfl foC (fun a w' hC hs hl => by
      show Calls _ _ #[a.eval (.tmp 44), a.eval (.tmp 45)] _ _
      rw [show a.eval (.tmp 44) = (.agg #[.bool b1, .slice X n1 cX, .slice X' m1 cX'] : Value) from (hl 44 (by kernel_rfl) (by kernel_rfl)), show a.eval (.tmp 45) = (.agg #[.bool b2, .slice Y n2 cY, .slice Y' m2 cY'] : Value) from (hl 45 (by kernel_rfl) (by kernel_rfl))]
      exact rCmp_eq (J1.out.below hC) (J2.out.below hC) (T.out.below hC) cc hcc.out)
  · exact .load (.agg #[.bool b1, .slice A1 n1 c1, .slice D1 m1 k1]) (.inl rfl) rfl rfl (fun a w' hC hs hl => by rw [show a.eval (.tmp 2) = (.pointer (some ⟨w.heap.size, 0, none⟩) : Value) from (hs 2 (by kernel_rfl))]; exact ⟨ld_Rat_ ((K1.out.below' hC).at_ 0 rfl) ((K1.out.below' hC).at_ 1 rfl) ((K1.out.below' hC).at_ 2 rfl), rfl⟩)
  · exact .load (.agg #[.bool b2, .slice A2 n2 c2, .slice D2 m2 k2]) (.inl rfl) rfl rfl (fun a w' hC hs hl => by rw [show a.eval (.tmp 3) = (.pointer (some ⟨(w.heap.size + 1), 0, none⟩) : Value) from (hs 3 (by kernel_rfl))]; exact ⟨ld_Rat_ ((K2.out.below' hC).at_ 0 rfl) ((K2.out.below' hC).at_ 1 rfl) ((K2.out.below' hC).at_ 2 rfl), rfl⟩)
  · exact .call (.inl rfl) rfl rfl fo3_Cmp (fun a w' hC hs hl => by
      show Calls _ _ #[a.eval (.tmp 47), a.eval (.tmp 48)] _ _
      rw [show a.eval (.tmp 47) = (.agg #[.bool b1, .slice A1 n1 c1, .slice D1 m1 k1] : Value) from (hl 47 (by kernel_rfl) (by kernel_rfl)), show a.eval (.tmp 48) = (.agg #[.bool b2, .slice A2 n2 c2, .slice D2 m2 k2] : Value) from (hl 48 (by kernel_rfl) (by kernel_rfl))]
      exact krCmp_eq (I1.out.below hC) (I2.out.below hC) (S1.out.up (by decide)) (S2.out.up (by decide)) hcc.out)
  · exact .value (.inl rfl) (by intro T e; cases e) rfl rfl (fun a w' hC hs hl => by
      have e0 : a.eval (.tmp 46) = (.int .i64 cc) := (hl 46 (by kernel_rfl) (by kernel_rfl))
      have e1 : a.eval (.tmp 49) = (.int .i64 cc) := (hl 49 (by kernel_rfl) (by kernel_rfl))
      simp only [execOp, e0, e1]
      skip
      simp [go_sem] <;> rfl)
  · exact .move (.inl rfl) (.inl rfl) rfl (by kernel_rfl) (by kernel_rfl) rfl
  · exact .load (.agg #[.bool b1, .slice X n1 cX, .slice X' m1 cX']) (.inr ⟨7, false, 51, by decide, rfl, rfl, rfl⟩) rfl rfl (fun a w' hC hs hl => by rw [show a.eval (.tmp 5) = (.pointer (some ⟨gKX, 0, none⟩) : Value) from (hs 5 (by kernel_rfl))]; exact ⟨ld_Rat_ ((KX.out.below' hC).at_ 0 rfl) ((KX.out.below' hC).at_ 1 rfl) ((KX.out.below' hC).at_ 2 rfl), rfl⟩)
  · exact .call (.inr ⟨7, false, 51, by decide, rfl, rfl, rfl⟩) rfl rfl foI (fun a w' hC hs hl => by
      show Calls _ _ #[a.eval (.tmp 52)] _ _
      rw [show a.eval (.tmp 52) = (.agg #[.bool b1, .slice X n1 cX, .slice X' m1 cX'] : Value) from (hl 52 (by kernel_rfl) (by kernel_rfl))]
      exact rSign_eq (J1.out.below hC) (T.out.below hC) ss hss.out)
  · exact .load (.agg #[.bool b1, .slice A1 n1 c1, .slice D1 m1 k1]) (.inr ⟨7, false, 51, by decide, rfl, rfl, rfl⟩) rfl rfl (fun a w' hC hs hl => by rw [show a.eval (.tmp 2) = (.pointer (some ⟨w.heap.size, 0, none⟩) : Value) from (hs 2 (by kernel_rfl))]; exact ⟨ld_Rat_ ((K1.out.below' hC).at_ 0 rfl) ((K1.out.below' hC).at_ 1 rfl) ((K1.out.below' hC).at_ 2 rfl), rfl⟩)
  · exact .call (.inr ⟨7, false, 51, by decide, rfl, rfl, rfl⟩) rfl rfl fo3_Sign (fun a w' hC hs hl => by
      show Calls _ _ #[a.eval (.tmp 54)] _ _
      rw [show a.eval (.tmp 54) = (.agg #[.bool b1, .slice A1 n1 c1, .slice D1 m1 k1] : Value) from (hl 54 (by kernel_rfl) (by kernel_rfl))]
      exact krSign_eq (I1.out.below hC) hss.out)
  · exact .value (.inr ⟨7, false, 51, by decide, rfl, rfl, rfl⟩) (by intro T e; cases e) rfl rfl (fun a w' hC hs hl => by
      have e0 : a.eval (.tmp 53) = (.int .i64 ss) := (hl 53 (by kernel_rfl) (by kernel_rfl))
      have e1 : a.eval (.tmp 55) = (.int .i64 ss) := (hl 55 (by kernel_rfl) (by kernel_rfl))
      simp only [execOp, e0, e1]
      skip
      simp [go_sem] <;> rfl)
  · exact .pick (b := false) (.inl rfl) rfl rfl (fun a w' hC hs hl => ⟨(hl 51 (by kernel_rfl) (by kernel_rfl)), (hl 56 (by kernel_rfl) (by kernel_rfl))⟩)
  · exact .move (.inl rfl) (.inl rfl) rfl (by kernel_rfl) (by kernel_rfl) rfl
  · exact .load (.agg #[.bool sS, .slice S nS cS, .slice S' mS kS]) (.inr ⟨14, false, 58, by decide, rfl, rfl, rfl⟩) rfl rfl (fun a w' hC hs hl => by rw [show a.eval (.tmp 7) = (.pointer (some ⟨gKS, 0, none⟩) : Value) from (hs 7 (by kernel_rfl))]; exact ⟨ld_Rat_ ((KS.out.below' hC).at_ 0 rfl) ((KS.out.below' hC).at_ 1 rfl) ((KS.out.below' hC).at_ 2 rfl), rfl⟩)
  · exact .load (.agg #[.bool b1, .slice A1 n1 c1, .slice D1 m1 k1]) (.inr ⟨14, false, 58, by decide, rfl, rfl, rfl⟩) rfl rfl (fun a w' hC hs hl => by rw [show a.eval (.tmp 2) = (.pointer (some ⟨w.heap.size, 0, none⟩) : Value) from (hs 2 (by kernel_rfl))]; exact ⟨ld_Rat_ ((K1.out.below' hC).at_ 0 rfl) ((K1.out.below' hC).at_ 1 rfl) ((K1.out.below' hC).at_ 2 rfl), rfl⟩)
  · exact .load (.agg #[.bool b2, .slice A2 n2 c2, .slice D2 m2 k2]) (.inr ⟨14, false, 58, by decide, rfl, rfl, rfl⟩) rfl rfl (fun a w' hC hs hl => by rw [show a.eval (.tmp 3) = (.pointer (some ⟨(w.heap.size + 1), 0, none⟩) : Value) from (hs 3 (by kernel_rfl))]; exact ⟨ld_Rat_ ((K2.out.below' hC).at_ 0 rfl) ((K2.out.below' hC).at_ 1 rfl) ((K2.out.below' hC).at_ 2 rfl), rfl⟩)
  · exact .call (.inr ⟨14, false, 58, by decide, rfl, rfl, rfl⟩) rfl rfl fo3_Add (fun a w' hC hs hl => by
      show Calls _ _ #[a.eval (.tmp 60), a.eval (.tmp 61)] _ _
      rw [show a.eval (.tmp 60) = (.agg #[.bool b1, .slice A1 n1 c1, .slice D1 m1 k1] : Value) from (hl 60 (by kernel_rfl) (by kernel_rfl)), show a.eval (.tmp 61) = (.agg #[.bool b2, .slice A2 n2 c2, .slice D2 m2 k2] : Value) from (hl 61 (by kernel_rfl) (by kernel_rfl))]
      exact krAdd_C (I1.out.below hC) (I2.out.below hC))
  · exact .call (.inr ⟨14, false, 58, by decide, rfl, rfl, rfl⟩) rfl rfl foS (fun a w' hC hs hl => by
      show Calls _ _ #[a.eval (.tmp 59), a.eval (.tmp 62)] _ _
      rw [show a.eval (.tmp 59) = (.agg #[.bool sS, .slice S nS cS, .slice S' mS kS] : Value) from (hl 59 (by kernel_rfl) (by kernel_rfl))]
      exact sameRat_yes (FS.out.rcan.below hC) (hl 62 (by kernel_rfl) (by kernel_rfl)))
  · exact .value (.inr ⟨14, false, 58, by decide, rfl, rfl, rfl⟩) (by intro T e; cases e) rfl rfl (fun a w' hC hs hl => by
      have e0 : a.eval (.tmp 63) = (.bool true) := (hl 63 (by kernel_rfl) (by kernel_rfl))
      simp only [execOp, e0]
      skip
      simp [go_sem] <;> rfl)
  · exact .pick (b := false) (.inl rfl) rfl rfl (fun a w' hC hs hl => ⟨(hl 58 (by kernel_rfl) (by kernel_rfl)), (hl 64 (by kernel_rfl) (by kernel_rfl))⟩)
  · exact .move (.inl rfl) (.inl rfl) rfl (by kernel_rfl) (by kernel_rfl) rfl
  · exact .load (.agg #[.bool sD, .slice D nD cD, .slice D' mD kD]) (.inr ⟨22, false, 66, by decide, rfl, rfl, rfl⟩) rfl rfl (fun a w' hC hs hl => by rw [show a.eval (.tmp 8) = (.pointer (some ⟨gKD, 0, none⟩) : Value) from (hs 8 (by kernel_rfl))]; exact ⟨ld_Rat_ ((KD.out.below' hC).at_ 0 rfl) ((KD.out.below' hC).at_ 1 rfl) ((KD.out.below' hC).at_ 2 rfl), rfl⟩)
  · exact .load (.agg #[.bool b1, .slice A1 n1 c1, .slice D1 m1 k1]) (.inr ⟨22, false, 66, by decide, rfl, rfl, rfl⟩) rfl rfl (fun a w' hC hs hl => by rw [show a.eval (.tmp 2) = (.pointer (some ⟨w.heap.size, 0, none⟩) : Value) from (hs 2 (by kernel_rfl))]; exact ⟨ld_Rat_ ((K1.out.below' hC).at_ 0 rfl) ((K1.out.below' hC).at_ 1 rfl) ((K1.out.below' hC).at_ 2 rfl), rfl⟩)
  · exact .load (.agg #[.bool b2, .slice A2 n2 c2, .slice D2 m2 k2]) (.inr ⟨22, false, 66, by decide, rfl, rfl, rfl⟩) rfl rfl (fun a w' hC hs hl => by rw [show a.eval (.tmp 3) = (.pointer (some ⟨(w.heap.size + 1), 0, none⟩) : Value) from (hs 3 (by kernel_rfl))]; exact ⟨ld_Rat_ ((K2.out.below' hC).at_ 0 rfl) ((K2.out.below' hC).at_ 1 rfl) ((K2.out.below' hC).at_ 2 rfl), rfl⟩)
  · exact .call (.inr ⟨22, false, 66, by decide, rfl, rfl, rfl⟩) rfl rfl fo3_Sub (fun a w' hC hs hl => by
      show Calls _ _ #[a.eval (.tmp 68), a.eval (.tmp 69)] _ _
      rw [show a.eval (.tmp 68) = (.agg #[.bool b1, .slice A1 n1 c1, .slice D1 m1 k1] : Value) from (hl 68 (by kernel_rfl) (by kernel_rfl)), show a.eval (.tmp 69) = (.agg #[.bool b2, .slice A2 n2 c2, .slice D2 m2 k2] : Value) from (hl 69 (by kernel_rfl) (by kernel_rfl))]
      exact krSub_D (I1.out.below hC) (I2.out.below hC))
  · exact .call (.inr ⟨22, false, 66, by decide, rfl, rfl, rfl⟩) rfl rfl foS (fun a w' hC hs hl => by
      show Calls _ _ #[a.eval (.tmp 67), a.eval (.tmp 70)] _ _
      rw [show a.eval (.tmp 67) = (.agg #[.bool sD, .slice D nD cD, .slice D' mD kD] : Value) from (hl 67 (by kernel_rfl) (by kernel_rfl))]
      exact sameRat_yes (FD.out.rcan.below hC) (hl 70 (by kernel_rfl) (by kernel_rfl)))
  · exact .value (.inr ⟨22, false, 66, by decide, rfl, rfl, rfl⟩) (by intro T e; cases e) rfl rfl (fun a w' hC hs hl => by
      have e0 : a.eval (.tmp 71) = (.bool true) := (hl 71 (by kernel_rfl) (by kernel_rfl))
      simp only [execOp, e0]
      skip
      simp [go_sem] <;> rfl)
  · exact .pick (b := false) (.inl rfl) rfl rfl (fun a w' hC hs hl => ⟨(hl 66 (by kernel_rfl) (by kernel_rfl)), (hl 72 (by kernel_rfl) (by kernel_rfl))⟩)
  · exact .move (.inl rfl) (.inl rfl) rfl (by kernel_rfl) (by kernel_rfl) rfl
  · exact .load (.agg #[.bool sM, .slice M nM cM, .slice M' mM kM]) (.inr ⟨30, false, 74, by decide, rfl, rfl, rfl⟩) rfl rfl (fun a w' hC hs hl => by rw [show a.eval (.tmp 9) = (.pointer (some ⟨gKM, 0, none⟩) : Value) from (hs 9 (by kernel_rfl))]; exact ⟨ld_Rat_ ((KM.out.below' hC).at_ 0 rfl) ((KM.out.below' hC).at_ 1 rfl) ((KM.out.below' hC).at_ 2 rfl), rfl⟩)
  · exact .load (.agg #[.bool b1, .slice A1 n1 c1, .slice D1 m1 k1]) (.inr ⟨30, false, 74, by decide, rfl, rfl, rfl⟩) rfl rfl (fun a w' hC hs hl => by rw [show a.eval (.tmp 2) = (.pointer (some ⟨w.heap.size, 0, none⟩) : Value) from (hs 2 (by kernel_rfl))]; exact ⟨ld_Rat_ ((K1.out.below' hC).at_ 0 rfl) ((K1.out.below' hC).at_ 1 rfl) ((K1.out.below' hC).at_ 2 rfl), rfl⟩)
  · exact .load (.agg #[.bool b2, .slice A2 n2 c2, .slice D2 m2 k2]) (.inr ⟨30, false, 74, by decide, rfl, rfl, rfl⟩) rfl rfl (fun a w' hC hs hl => by rw [show a.eval (.tmp 3) = (.pointer (some ⟨(w.heap.size + 1), 0, none⟩) : Value) from (hs 3 (by kernel_rfl))]; exact ⟨ld_Rat_ ((K2.out.below' hC).at_ 0 rfl) ((K2.out.below' hC).at_ 1 rfl) ((K2.out.below' hC).at_ 2 rfl), rfl⟩)
  · exact .call (.inr ⟨30, false, 74, by decide, rfl, rfl, rfl⟩) rfl rfl fo3_Mul (fun a w' hC hs hl => by
      show Calls _ _ #[a.eval (.tmp 76), a.eval (.tmp 77)] _ _
      rw [show a.eval (.tmp 76) = (.agg #[.bool b1, .slice A1 n1 c1, .slice D1 m1 k1] : Value) from (hl 76 (by kernel_rfl) (by kernel_rfl)), show a.eval (.tmp 77) = (.agg #[.bool b2, .slice A2 n2 c2, .slice D2 m2 k2] : Value) from (hl 77 (by kernel_rfl) (by kernel_rfl))]
      exact krMul_C (I1.out.below hC) (I2.out.below hC))
  · exact .call (.inr ⟨30, false, 74, by decide, rfl, rfl, rfl⟩) rfl rfl foS (fun a w' hC hs hl => by
      show Calls _ _ #[a.eval (.tmp 75), a.eval (.tmp 78)] _ _
      rw [show a.eval (.tmp 75) = (.agg #[.bool sM, .slice M nM cM, .slice M' mM kM] : Value) from (hl 75 (by kernel_rfl) (by kernel_rfl))]
      exact sameRat_yes (FM.out.rcan.below hC) (hl 78 (by kernel_rfl) (by kernel_rfl)))
  · exact .value (.inr ⟨30, false, 74, by decide, rfl, rfl, rfl⟩) (by intro T e; cases e) rfl rfl (fun a w' hC hs hl => by
      have e0 : a.eval (.tmp 79) = (.bool true) := (hl 79 (by kernel_rfl) (by kernel_rfl))
      simp only [execOp, e0]
      skip
      simp [go_sem] <;> rfl)
  · exact .pick (b := false) (.inl rfl) rfl rfl (fun a w' hC hs hl => ⟨(hl 74 (by kernel_rfl) (by kernel_rfl)), (hl 80 (by kernel_rfl) (by kernel_rfl))⟩)
  · exact .move (.inl rfl) (.inl rfl) rfl (by kernel_rfl) (by kernel_rfl) rfl
  · exact .load (.agg #[.bool sZ, .slice Z nZ cZ, .slice Z' mZ kZ]) (.inr ⟨38, false, 82, by decide, rfl, rfl, rfl⟩) rfl rfl (fun a w' hC hs hl => by rw [show a.eval (.tmp 10) = (.pointer (some ⟨gKZ, 0, none⟩) : Value) from (hs 10 (by kernel_rfl))]; exact ⟨ld_Rat_ ((KZ.out.below' hC).at_ 0 rfl) ((KZ.out.below' hC).at_ 1 rfl) ((KZ.out.below' hC).at_ 2 rfl), rfl⟩)
  · exact .load (.agg #[.bool sU, .slice U nU cU, .slice U' mU kU]) (.inr ⟨38, false, 82, by decide, rfl, rfl, rfl⟩) rfl rfl (fun a w' hC hs hl => by rw [show a.eval (.tmp 12) = (.pointer (some ⟨gKU, 0, none⟩) : Value) from (hs 12 (by kernel_rfl))]; exact ⟨ld_Rat_ ((KU.out.below' hC).at_ 0 rfl) ((KU.out.below' hC).at_ 1 rfl) ((KU.out.below' hC).at_ 2 rfl), rfl⟩)
  · exact .call (.inr ⟨38, false, 82, by decide, rfl, rfl, rfl⟩) rfl rfl foS (fun a w' hC hs hl => by
      show Calls _ _ #[a.eval (.tmp 83), a.eval (.tmp 84)] _ _
      rw [show a.eval (.tmp 83) = (.agg #[.bool sZ, .slice Z nZ cZ, .slice Z' mZ kZ] : Value) from (hl 83 (by kernel_rfl) (by kernel_rfl)), show a.eval (.tmp 84) = (.agg #[.bool sU, .slice U nU cU, .slice U' mU kU] : Value) from (hl 84 (by kernel_rfl) (by kernel_rfl))]
      exact same_PR (FZ.out.below hC) (FU.out.below hC))
  · exact .value (.inr ⟨38, false, 82, by decide, rfl, rfl, rfl⟩) (by intro T e; cases e) rfl rfl (fun a w' hC hs hl => by
      have e0 : a.eval (.tmp 85) = (.bool true) := (hl 85 (by kernel_rfl) (by kernel_rfl))
      simp only [execOp, e0]
      skip
      simp [go_sem] <;> rfl)
  · exact .pick (b := false) (.inl rfl) rfl rfl (fun a w' hC hs hl => ⟨(hl 82 (by kernel_rfl) (by kernel_rfl)), (hl 86 (by kernel_rfl) (by kernel_rfl))⟩)
  · exact .move (.inl rfl) (.inl rfl) rfl (by kernel_rfl) (by kernel_rfl) rfl
  · exact .moveC (.inr ⟨44, false, 88, by decide, rfl, rfl, rfl⟩) (.inl rfl) rfl (fun a w' hC hs => (hs 11 (by kernel_rfl)))
  · exact .moveC (.inr ⟨44, false, 88, by decide, rfl, rfl, rfl⟩) (.inl rfl) rfl (fun a w' hC hs => (hs 13 (by kernel_rfl)))
  · exact .value (.inr ⟨44, false, 88, by decide, rfl, rfl, rfl⟩) (by intro T e; cases e) rfl rfl (fun a w' hC hs hl => by
      have e0 : a.eval (.tmp 89) = (.int .i64 dk) := (hl 89 (by kernel_rfl) (by kernel_rfl))
      have e1 : a.eval (.tmp 90) = (.int .i64 dk) := (hl 90 (by kernel_rfl) (by kernel_rfl))
      simp only [execOp, e0, e1]
      skip
      simp [go_sem] <;> rfl)
  · exact .pick (b := false) (.inl rfl) rfl rfl (fun a w' hC hs hl => ⟨(hl 88 (by kernel_rfl) (by kernel_rfl)), (hl 91 (by kernel_rfl) (by kernel_rfl))⟩)
  · exact .move (.inl rfl) (.inl rfl) rfl (by kernel_rfl) (by kernel_rfl) rfl
  · exact .load (.agg #[.bool b1, .slice X n1 cX, .slice X' m1 cX']) (.inr ⟨49, false, 93, by decide, rfl, rfl, rfl⟩) rfl rfl (fun a w' hC hs hl => by rw [show a.eval (.tmp 5) = (.pointer (some ⟨gKX, 0, none⟩) : Value) from (hs 5 (by kernel_rfl))]; exact ⟨ld_Rat_ ((KX.out.below' hC).at_ 0 rfl) ((KX.out.below' hC).at_ 1 rfl) ((KX.out.below' hC).at_ 2 rfl), rfl⟩)
  · exact .load (.agg #[.bool b1, .slice A1 n1 c1, .slice D1 m1 k1]) (.inr ⟨49, false, 93, by decide, rfl, rfl, rfl⟩) rfl rfl (fun a w' hC hs hl => by rw [show a.eval (.tmp 2) = (.pointer (some ⟨w.heap.size, 0, none⟩) : Value) from (hs 2 (by kernel_rfl))]; exact ⟨ld_Rat_ ((K1.out.below' hC).at_ 0 rfl) ((K1.out.below' hC).at_ 1 rfl) ((K1.out.below' hC).at_ 2 rfl), rfl⟩)
  · exact .call (.inr ⟨49, false, 93, by decide, rfl, rfl, rfl⟩) rfl rfl foL (fun a w' hC hs hl => by
      show Calls _ _ #[a.eval (.tmp 94), a.eval (.tmp 95)] _ _
      rw [show a.eval (.tmp 94) = (.agg #[.bool b1, .slice X n1 cX, .slice X' m1 cX'] : Value) from (hl 94 (by kernel_rfl) (by kernel_rfl)), show a.eval (.tmp 95) = (.agg #[.bool b1, .slice A1 n1 c1, .slice D1 m1 k1] : Value) from (hl 95 (by kernel_rfl) (by kernel_rfl))]
      exact rp_left (TX.out.below hC) (TX'.out.below hC) (P1.out.below hC) (P1'.out.below hC))
  · exact .value (.inr ⟨49, false, 93, by decide, rfl, rfl, rfl⟩) (by intro T e; cases e) rfl rfl (fun a w' hC hs hl => by
      have e0 : a.eval (.tmp 96) = (.bool true) := (hl 96 (by kernel_rfl) (by kernel_rfl))
      simp only [execOp, e0]
      skip
      simp [go_sem] <;> rfl)
  · exact .pick (b := false) (.inl rfl) rfl rfl (fun a w' hC hs hl => ⟨(hl 93 (by kernel_rfl) (by kernel_rfl)), (hl 97 (by kernel_rfl) (by kernel_rfl))⟩)
  · exact .move (.inl rfl) (.inl rfl) rfl (by kernel_rfl) (by kernel_rfl) rfl
  · exact .load (.agg #[.bool b2, .slice Y n2 cY, .slice Y' m2 cY']) (.inr ⟨55, false, 99, by decide, rfl, rfl, rfl⟩) rfl rfl (fun a w' hC hs hl => by rw [show a.eval (.tmp 6) = (.pointer (some ⟨gKY, 0, none⟩) : Value) from (hs 6 (by kernel_rfl))]; exact ⟨ld_Rat_ ((KY.out.below' hC).at_ 0 rfl) ((KY.out.below' hC).at_ 1 rfl) ((KY.out.below' hC).at_ 2 rfl), rfl⟩)
  · exact .load (.agg #[.bool b2, .slice A2 n2 c2, .slice D2 m2 k2]) (.inr ⟨55, false, 99, by decide, rfl, rfl, rfl⟩) rfl rfl (fun a w' hC hs hl => by rw [show a.eval (.tmp 3) = (.pointer (some ⟨(w.heap.size + 1), 0, none⟩) : Value) from (hs 3 (by kernel_rfl))]; exact ⟨ld_Rat_ ((K2.out.below' hC).at_ 0 rfl) ((K2.out.below' hC).at_ 1 rfl) ((K2.out.below' hC).at_ 2 rfl), rfl⟩)
  · exact .call (.inr ⟨55, false, 99, by decide, rfl, rfl, rfl⟩) rfl rfl foL (fun a w' hC hs hl => by
      show Calls _ _ #[a.eval (.tmp 100), a.eval (.tmp 101)] _ _
      rw [show a.eval (.tmp 100) = (.agg #[.bool b2, .slice Y n2 cY, .slice Y' m2 cY'] : Value) from (hl 100 (by kernel_rfl) (by kernel_rfl)), show a.eval (.tmp 101) = (.agg #[.bool b2, .slice A2 n2 c2, .slice D2 m2 k2] : Value) from (hl 101 (by kernel_rfl) (by kernel_rfl))]
      exact rp_left (TY.out.below hC) (TY'.out.below hC) (P2.out.below hC) (P2'.out.below hC))
  · exact .value (.inr ⟨55, false, 99, by decide, rfl, rfl, rfl⟩) (by intro T e; cases e) rfl rfl (fun a w' hC hs hl => by
      have e0 : a.eval (.tmp 102) = (.bool true) := (hl 102 (by kernel_rfl) (by kernel_rfl))
      simp only [execOp, e0]
      skip
      simp [go_sem] <;> rfl)
  · exact .pick (b := false) (.inl rfl) rfl rfl (fun a w' hC hs hl => ⟨(hl 99 (by kernel_rfl) (by kernel_rfl)), (hl 103 (by kernel_rfl) (by kernel_rfl))⟩)
  intro f w9 hC hF _
  have fz : f 104 = .bool false := hF 104 (by kernel_rfl)
  clear hF
  simp only [patch, List.drop]
  rw [fz]
  clear fz
  replace K1 := hide (K1.out.below' hC)
  replace K2 := hide (K2.out.below' hC)
  replace KX := hide (KX.out.below' hC)
  replace KY := hide (KY.out.below' hC)
  replace KS := hide (KS.out.below' hC)
  replace KD := hide (KD.out.below' hC)
  replace KM := hide (KM.out.below' hC)
  replace KZ := hide (KZ.out.below' hC)
  replace KU := hide (KU.out.below' hC)
  replace H := hide (H.out.below hC)
  replace b0 := hide (b0.out.trans (hC.mono b0.out.size))
  clear hC
  clear P1 P1' P2 P2' R1 R2 I1 I2 T TX TX' Q1 J1 TY TY' Q2 J2 FS FD FM FZ FU
  have bB := hide b0.out.size
  have K : Hid (BookAt w.heap.size (w9.alloc (.cells #[.int .i64 0, .slice none 0 0, .slice none 0 0, .slice none 0 0, .slice none 0 0, .slice none 0 0, .slice none 0 0, .slice none 0 0, .slice none 0 0, .slice none 0 0, .slice none 0 0, .slice none 0 0, .slice none 0 0] TBK)) w9.heap.size 0 (.slice none 0 0) []) := BookAt.new bB.out
  obtain ⟨hi, hhi⟩ : ∃ hi, hi = w9.heap.size := ⟨_, rfl⟩
  have H0 : HB w.heap.size w9.heap.size w9 ([] ++ [⟨X, n1, cX, none, 0, 0, 1⟩] ++ [⟨X', m1, cX', none, 0, 0, 2⟩] ++ [⟨Y, n2, cY, none, 0, 0, 3⟩] ++ [⟨Y', m2, cY', none, 0, 0, 4⟩] ++ [⟨S, nS, cS, none, 0, 0, 5⟩] ++ [⟨S', mS, kS, none, 0, 0, 6⟩] ++ [⟨D, nD, cD, none, 0, 0, 7⟩] ++ [⟨D', mD, kD, none, 0, 0, 8⟩] ++ [⟨M, nM, cM, none, 0, 0, 9⟩] ++ [⟨M', mM, kM, none, 0, 0, 10⟩] ++ [⟨Z, nZ, cZ, none, 0, 0, 11⟩] ++ [⟨Z', mZ, kZ, none, 0, 0, 12⟩]) := H.out
  rw [← hhi] at H0
  replace hhi := hide hhi
  have dB := hide ((Below.refl w9.heap.size w9).alloc (Nat.le_refl _) (.cells #[.int .i64 0, .slice none 0 0, .slice none 0 0, .slice none 0 0, .slice none 0 0, .slice none 0 0, .slice none 0 0, .slice none 0 0, .slice none 0 0, .slice none 0 0, .slice none 0 0, .slice none 0 0, .slice none 0 0] TBK))
  replace H : Hid (HB w.heap.size hi (w9.alloc (.cells #[.int .i64 0, .slice none 0 0, .slice none 0 0, .slice none 0 0, .slice none 0 0, .slice none 0 0, .slice none 0 0, .slice none 0 0, .slice none 0 0, .slice none 0 0, .slice none 0 0, .slice none 0 0, .slice none 0 0] TBK)) ([] ++ [⟨X, n1, cX, none, 0, 0, 1⟩] ++ [⟨X', m1, cX', none, 0, 0, 2⟩] ++ [⟨Y, n2, cY, none, 0, 0, 3⟩] ++ [⟨Y', m2, cY', none, 0, 0, 4⟩] ++ [⟨S, nS, cS, none, 0, 0, 5⟩] ++ [⟨S', mS, kS, none, 0, 0, 6⟩] ++ [⟨D, nD, cD, none, 0, 0, 7⟩] ++ [⟨D', mD, kD, none, 0, 0, 8⟩] ++ [⟨M, nM, cM, none, 0, 0, 9⟩] ++ [⟨M', mM, kM, none, 0, 0, 10⟩] ++ [⟨Z, nZ, cZ, none, 0, 0, 11⟩] ++ [⟨Z', mZ, kZ, none, 0, 0, 12⟩])) := H0.bel dB.out
  clear K1
  clear K2
  clear KU
  replace KX := hide (KX.out.below' dB.out)
  replace KY := hide (KY.out.below' dB.out)
  replace KS := hide (KS.out.below' dB.out)
  replace KD := hide (KD.out.below' dB.out)
  replace KM := hide (KM.out.below' dB.out)
  replace KZ := hide (KZ.out.below' dB.out)
  replace b0 := hide (below_tr b0.out dB.out)
  clear dB H0 bB
  have vKX0 : (w9.alloc (.cells #[.int .i64 0, .slice none 0 0, .slice none 0 0, .slice none 0 0, .slice none 0 0, .slice none 0 0, .slice none 0 0, .slice none 0 0, .slice none 0 0, .slice none 0 0, .slice none 0 0, .slice none 0 0, .slice none 0 0] TBK)).cell? ⟨gKX, 0, none⟩ = some (.bool b1) := KX.out.at_ 0 rfl
  have vKX1 : (w9.alloc (.cells #[.int .i64 0, .slice none 0 0, .slice none 0 0, .slice none 0 0, .slice none 0 0, .slice none 0 0, .slice none 0 0, .slice none 0 0, .slice none 0 0, .slice none 0 0, .slice none 0 0, .slice none 0 0, .slice none 0 0] TBK)).cell? ⟨gKX, 1, none⟩ = some (.slice X n1 cX) := KX.out.at_ 1 rfl
  have vKX2 : (w9.alloc (.cells #[.int .i64 0, .slice none 0 0, .slice none 0 0, .slice none 0 0, .slice none 0 0, .slice none 0 0, .slice none 0 0, .slice none 0 0, .slice none 0 0, .slice none 0 0, .slice none 0 0, .slice none 0 0, .slice none 0 0] TBK)).cell? ⟨gKX, 2, none⟩ = some (.slice X' m1 cX') := KX.out.at_ 2 rfl
  go_wp2_with fail
  clear vKX0 vKX1 vKX2
  obtain ⟨V_, hV⟩ : ∃ V, w9.alloc (.cells #[.int .i64 0, .slice none 0 0, .slice none 0 0, .slice none 0 0, .slice none 0 0, .slice none 0 0, .slice none 0 0, .slice none 0 0, .slice none 0 0, .slice none 0 0, .slice none 0 0, .slice none 0 0, .slice none 0 0] TBK) = V := ⟨_, rfl⟩
  obtain ⟨g_, hg⟩ : ∃ g, w9.heap.size = g := ⟨_, rfl⟩
  rw [hV, hg] at K
  rw [hV] at b0 H KX KY KS KD KM KZ
  rw [hV, hg]
  clear hV hg hhi
  refine (bookRat_ok _ w.heap.size g_ (0) _ ([]) b0.out.size K.out b1 X n1 cX X' m1 cX' (by omega) (by simp)).mono ?_
  rintro e W0_ ⟨⟨_, rfl⟩, k1_, v0_, k2_⟩
  replace K := hide k2_
  replace H := hide (H.out.kp k1_)
  replace b0 := hide (b0.out.trans k1_.base)
  clear KX
  replace KY := hide (k1_.nums _ _ _ (by decide) (by decide) KY.out)
  replace KS := hide (k1_.nums _ _ _ (by decide) (by decide) KS.out)
  replace KD := hide (k1_.nums _ _ _ (by decide) (by decide) KD.out)
  replace KM := hide (k1_.nums _ _ _ (by decide) (by decide) KM.out)
  replace KZ := hide (k1_.nums _ _ _ (by decide) (by decide) KZ.out)
  clear k1_ k2_
  have vKY0 : W0_.cell? ⟨gKY, 0, none⟩ = some (.bool b2) := KY.out.at_ 0 rfl
  have vKY1 : W0_.cell? ⟨gKY, 1, none⟩ = some (.slice Y n2 cY) := KY.out.at_ 1 rfl
  have vKY2 : W0_.cell? ⟨gKY, 2, none⟩ = some (.slice Y' m2 cY') := KY.out.at_ 2 rfl
  go_wp2_with fail
  clear vKY0 vKY1 vKY2
  refine (bookRat_ok _ w.heap.size g_ (0 + 1 + 1) _ ([] ++ [⟨X, n1, cX, none, 0, 0, 1⟩] ++ [⟨X', m1, cX', none, 0, 0, 2⟩]) b0.out.size K.out b2 Y n2 cY Y' m2 cY' (by omega) (by simp)).mono ?_
  rintro e W1_ ⟨⟨_, rfl⟩, k1_, v1_, k2_⟩
  replace K := hide k2_
  replace H := hide (H.out.kp k1_)
  replace b0 := hide (b0.out.trans k1_.base)
  clear KY
  replace KS := hide (k1_.nums _ _ _ (by decide) (by decide) KS.out)
  replace KD := hide (k1_.nums _ _ _ (by decide) (by decide) KD.out)
  replace KM := hide (k1_.nums _ _ _ (by decide) (by decide) KM.out)
  replace KZ := hide (k1_.nums _ _ _ (by decide) (by decide) KZ.out)
  clear k1_ k2_
  have vKS0 : W1_.cell? ⟨gKS, 0, none⟩ = some (.bool sS) := KS.out.at_ 0 rfl
  have vKS1 : W1_.cell? ⟨gKS, 1, none⟩ = some (.slice S nS cS) := KS.out.at_ 1 rfl
  have vKS2 : W1_.cell? ⟨gKS, 2, none⟩ = some (.slice S' mS kS) := KS.out.at_ 2 rfl
  go_wp2_with fail
  clear vKS0 vKS1 vKS2
  refine (bookRat_ok _ w.heap.size g_ (0 + 1 + 1 + 1 + 1) _ ([] ++ [⟨X, n1, cX, none, 0, 0, 1⟩] ++ [⟨X', m1, cX', none, 0, 0, 2⟩] ++ [⟨Y, n2, cY, none, 0, 0, 3⟩] ++ [⟨Y', m2, cY', none, 0, 0, 4⟩]) b0.out.size K.out sS S nS cS S' mS kS (by omega) (by simp)).mono ?_
  rintro e W2_ ⟨⟨_, rfl⟩, k1_, v2_, k2_⟩
  replace K := hide k2_
  replace H := hide (H.out.kp k1_)
  replace b0 := hide (b0.out.trans k1_.base)
  clear KS
  replace KD := hide (k1_.nums _ _ _ (by decide) (by decide) KD.out)
  replace KM := hide (k1_.nums _ _ _ (by decide) (by decide) KM.out)
  replace KZ := hide (k1_.nums _ _ _ (by decide) (by decide) KZ.out)
  clear k1_ k2_
  have vKD0 : W2_.cell? ⟨gKD, 0, none⟩ = some (.bool sD) := KD.out.at_ 0 rfl
  have vKD1 : W2_.cell? ⟨gKD, 1, none⟩ = some (.slice D nD cD) := KD.out.at_ 1 rfl
  have vKD2 : W2_.cell? ⟨gKD, 2, none⟩ = some (.slice D' mD kD) := KD.out.at_ 2 rfl
  go_wp2_with fail
  clear vKD0 vKD1 vKD2
  refine (bookRat_ok _ w.heap.size g_ (0 + 1 + 1 + 1 + 1 + 1 + 1) _ ([] ++ [⟨X, n1, cX, none, 0, 0, 1⟩] ++ [⟨X', m1, cX', none, 0, 0, 2⟩] ++ [⟨Y, n2, cY, none, 0, 0, 3⟩] ++ [⟨Y', m2, cY', none, 0, 0, 4⟩] ++ [⟨S, nS, cS, none, 0, 0, 5⟩] ++ [⟨S', mS, kS, none, 0, 0, 6⟩]) b0.out.size K.out sD D nD cD D' mD kD (by omega) (by simp)).mono ?_
  rintro e W3_ ⟨⟨_, rfl⟩, k1_, v3_, k2_⟩
  replace K := hide k2_
  replace H := hide (H.out.kp k1_)
  replace b0 := hide (b0.out.trans k1_.base)
  clear KD
  replace KM := hide (k1_.nums _ _ _ (by decide) (by decide) KM.out)
  replace KZ := hide (k1_.nums _ _ _ (by decide) (by decide) KZ.out)
  clear k1_ k2_
  have vKM0 : W3_.cell? ⟨gKM, 0, none⟩ = some (.bool sM) := KM.out.at_ 0 rfl
  have vKM1 : W3_.cell? ⟨gKM, 1, none⟩ = some (.slice M nM cM) := KM.out.at_ 1 rfl
  have vKM2 : W3_.cell? ⟨gKM, 2, none⟩ = some (.slice M' mM kM) := KM.out.at_ 2 rfl
  go_wp2_with fail
  clear vKM0 vKM1 vKM2
  refine (bookRat_ok _ w.heap.size g_ (0 + 1 + 1 + 1 + 1 + 1 + 1 + 1 + 1) _ ([] ++ [⟨X, n1, cX, none, 0, 0, 1⟩] ++ [⟨X', m1, cX', none, 0, 0, 2⟩] ++ [⟨Y, n2, cY, none, 0, 0, 3⟩] ++ [⟨Y', m2, cY', none, 0, 0, 4⟩] ++ [⟨S, nS, cS, none, 0, 0, 5⟩] ++ [⟨S', mS, kS, none, 0, 0, 6⟩] ++ [⟨D, nD, cD, none, 0, 0, 7⟩] ++ [⟨D', mD, kD, none, 0, 0, 8⟩]) b0.out.size K.out sM M nM cM M' mM kM (by omega) (by simp)).mono ?_
  rintro e W4_ ⟨⟨_, rfl⟩, k1_, v4_, k2_⟩
  replace K := hide k2_
  replace H := hide (H.out.kp k1_)
  replace b0 := hide (b0.out.trans k1_.base)
  clear KM
  replace KZ := hide (k1_.nums _ _ _ (by decide) (by decide) KZ.out)
  clear k1_ k2_
  have vKZ0 : W4_.cell? ⟨gKZ, 0, none⟩ = some (.bool sZ) := KZ.out.at_ 0 rfl
  have vKZ1 : W4_.cell? ⟨gKZ, 1, none⟩ = some (.slice Z nZ cZ) := KZ.out.at_ 1 rfl
  have vKZ2 : W4_.cell? ⟨gKZ, 2, none⟩ = some (.slice Z' mZ kZ) := KZ.out.at_ 2 rfl
  go_wp2_with fail
  clear vKZ0 vKZ1 vKZ2
  refine (bookRat_ok _ w.heap.size g_ (0 + 1 + 1 + 1 + 1 + 1 + 1 + 1 + 1 + 1 + 1) _ ([] ++ [⟨X, n1, cX, none, 0, 0, 1⟩] ++ [⟨X', m1, cX', none, 0, 0, 2⟩] ++ [⟨Y, n2, cY, none, 0, 0, 3⟩] ++ [⟨Y', m2, cY', none, 0, 0, 4⟩] ++ [⟨S, nS, cS, none, 0, 0, 5⟩] ++ [⟨S', mS, kS, none, 0, 0, 6⟩] ++ [⟨D, nD, cD, none, 0, 0, 7⟩] ++ [⟨D', mD, kD, none, 0, 0, 8⟩] ++ [⟨M, nM, cM, none, 0, 0, 9⟩] ++ [⟨M', mM, kM, none, 0, 0, 10⟩]) b0.out.size K.out sZ Z nZ cZ Z' mZ kZ (by omega) (by simp)).mono ?_
  rintro e W5_ ⟨⟨_, rfl⟩, k1_, v5_, k2_⟩
  replace K := hide k2_
  replace H := hide (H.out.kp k1_)
  replace b0 := hide (b0.out.trans k1_.base)
  clear KZ
  clear k1_ k2_
  go_wp2_with fail
  refine (Apart_ok _ w.heap.size g_ (0 + 1 + 1 + 1 + 1 + 1 + 1 + 1 + 1 + 1 + 1 + 1 + 1) hi _ ([] ++ [⟨X, n1, cX, none, 0, 0, 1⟩] ++ [⟨X', m1, cX', none, 0, 0, 2⟩] ++ [⟨Y, n2, cY, none, 0, 0, 3⟩] ++ [⟨Y', m2, cY', none, 0, 0, 4⟩] ++ [⟨S, nS, cS, none, 0, 0, 5⟩] ++ [⟨S', mS, kS, none, 0, 0, 6⟩] ++ [⟨D, nD, cD, none, 0, 0, 7⟩] ++ [⟨D', mD, kD, none, 0, 0, 8⟩] ++ [⟨M, nM, cM, none, 0, 0, 9⟩] ++ [⟨M', mM, kM, none, 0, 0, 10⟩] ++ [⟨Z, nZ, cZ, none, 0, 0, 11⟩] ++ [⟨Z', mZ, kZ, none, 0, 0, 12⟩]) b0.out.size K.out H.out (by simp)).mono ?_
  rintro e WW ⟨rfl, k1_⟩
  replace b0 := hide (b0.out.trans k1_)
  clear k1_ K H
  go_wp2
  exact opq_end hR ⟨rfl, b0⟩
end Go.Proofs.YtfadehkagbcjaaaGreatDoor
