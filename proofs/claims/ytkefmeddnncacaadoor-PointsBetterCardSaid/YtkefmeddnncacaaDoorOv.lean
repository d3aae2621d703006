/- the laws of points: PointsBetter. -/
import Derived.Test.YtkefmeddnncacaaDoorHM
set_option linter.unusedVariables false
set_option linter.unusedSimpArgs false
set_option maxRecDepth 100000
namespace Go.Proofs.YtkefmeddnncacaaDoor
open Go.RowKit

theorem fov_assayerlaw01_LeftModel (args : Array Value) (w : World) : (callFunc 21 args).run Tryd.prog w = .ok (.enter 21 args) w := callFunc_enter Tryd.func21 (by kernel_rfl) rfl args w
theorem fov_assayerlaw01_LeftRat (args : Array Value) (w : World) : (callFunc 22 args).run Tryd.prog w = .ok (.enter 22 args) w := callFunc_enter Tryd.func22 (by kernel_rfl) rfl args w
theorem fov_assayerref08_Better (args : Array Value) (w : World) : (callFunc 20 args).run Tryd.prog w = .ok (.enter 20 args) w := callFunc_enter Tryd.func20 (by kernel_rfl) rfl args w
theorem fov_points_Better (args : Array Value) (w : World) : (callFunc 19 args).run Tryd.prog w = .ok (.enter 19 args) w := callFunc_enter Tryd.func19 (by kernel_rfl) rfl args w
set_option maxHeartbeats 8000000 in
theorem PointsBetter_ok (w : World) (mo : Bool) (AV : Option Addr) (nV cV : Nat) (AG : Option Addr) (nG cG : Nat) (AO : Option Addr) (nO cO : Nat) (M : RM) (b1 : Bool) (A1 : Option Addr) (n1 c1 : Nat) (D1 : Option Addr) (m1 k1 : Nat) (e1 : Raw) (b2 : Bool) (A2 : Option Addr) (n2 c2 : Nat) (D2 : Option Addr) (m2 k2 : Nat) (e2 : Raw)
    (h : MRw w AV nV cV AG nG cG AO nO cO M) (h1 : RRw w (.agg #[.bool b1, .slice A1 n1 c1, .slice D1 m1 k1]) e1) (h2 : RRw w (.agg #[.bool b2, .slice A2 n2 c2, .slice D2 m2 k2]) e2) (hT : Tab w) :
    Calls Tryd.prog 4 #[.agg #[.bool mo, .slice AV nV cV, .slice AG nG cG, .slice AO nO cO], .agg #[.bool b1, .slice A1 n1 c1, .slice D1 m1 k1], .agg #[.bool b2, .slice A2 n2 c2, .slice D2 m2 k2]] w fun e w' => e = .returned (.bool true) ∧ Hid (Below w.heap.size w w') := by
  refine opq fun R hR => ?_
  have T := hide hT
  clear hT
  replace h := hide h
  replace h1 := hide h1
  replace h2 := hide h2
  go_enter Tryd.func4, Tryd.ntmps4
  obtain ⟨W1, hW, K1, K2, K3, b0, ZW⟩ := alloc3 w #[.bool mo, .slice AV nV cV, .slice AG nG cG, .slice AO nO cO] #[.bool b1, .slice A1 n1 c1, .slice D1 m1 k1] #[.bool b2, .slice A2 n2 c2, .slice D2 m2 k2] 45 TR TR
  have k1c0 := K1.out.at_ 0 rfl
  have k1c1 := K1.out.at_ 1 rfl
  have k1c2 := K1.out.at_ 2 rfl
  have k1c3 := K1.out.at_ 3 rfl
  have k2c0 := K2.out.at_ 0 rfl
  have k2c1 := K2.out.at_ 1 rfl
  have k2c2 := K2.out.at_ 2 rfl
  have k3c0 := K3.out.at_ 0 rfl
  have k3c1 := K3.out.at_ 1 rfl
  have k3c2 := K3.out.at_ 2 rfl
  go_wp2_with (first | rw [hW] | fail)
  have yy : Below W1.heap.size W1 (W1.alloc (.cells #[.bool b1, .slice A1 n1 c1, .slice D1 m1 k1, .bool b2, .slice A2 n2 c2, .slice D2 m2 k2] TR)) := (Below.refl _ _).alloc (Nat.le_refl _) _
  have KL := Blk.new W1 TR #[.bool b1, .slice A1 n1 c1, .slice D1 m1 k1, .bool b2, .slice A2 n2 c2, .slice D2 m2 k2]
  have L2 : Lst RRw _ (.slice (some ⟨W1.heap.size, 0, none⟩) 2 2) [e1, e2] := lst_two tri_rw (u := .agg #[.bool b1, .slice A1 n1 c1, .slice D1 m1 k1]) (v := .agg #[.bool b2, .slice A2 n2 c2, .slice D2 m2 k2]) rfl KL (h1.out.below (b0.out.trans (yy.mono b0.out.size))) (h2.out.below (b0.out.trans (yy.mono b0.out.size)))
  refine (mgreat_ok (mo := mo) (h.out.below (b0.out.trans (yy.mono b0.out.size))) L2).mono ?_
  rintro e w2 ⟨gr, rfl, hgr, d0⟩
  replace b0 := hide (below_tr b0.out (below_tr yy d0))
  have dd := below_tr yy d0
  clear L2 KL hW
  replace K1 := hide (K1.out.below' dd)
  replace K2 := hide (K2.out.below' dd)
  replace K3 := hide (K3.out.below' dd)
  clear yy d0 dd k1c0 k1c1 k1c2 k1c3 k2c0 k2c1 k2c2 k3c0 k3c1 k3c2
  cases gr
  case true =>
    go_wp2
    exact opq_end hR ⟨rfl, b0⟩
  obtain ⟨vV, vO, sM, _, sX⟩ := hgr rfl
  clear hgr
  have sM := hide sM
  have s1 : Hid (rsz e1 ≤ 500) := Nat.le_trans (tsz_mem (by simp : e1 ∈ [e1, e2])) sX
  have s2 : Hid (rsz e2 ≤ 500) := Nat.le_trans (tsz_mem (by simp : e2 ∈ [e1, e2])) sX
  have MO := hide (h.out.ok sM.out)
  have NO := hide (MO.out.2.below raw_b b0.out)
  have r1 := h1.out.raw (Nat.le_trans s1.out (by decide))
  have r2 := h2.out.raw (Nat.le_trans s2.out (by decide))
  have aa := hide ((h1.out.arg (Nat.le_trans s1.out (by decide))).below b0.out)
  have ab := hide ((h2.out.arg (Nat.le_trans s2.out (by decide))).below b0.out)
  have ha := hide (r1.2.up (Nat.le_trans s1.out (show 500 ≤ 100000 by decide)))
  have hb := hide (r2.2.up (Nat.le_trans s2.out (show 500 ≤ 100000 by decide)))
  have ra := hide (RPrt.below r1.1 b0.out)
  have rb := hide (RPrt.below r2.1 b0.out)
  have eb1 : Hid (b1 = e1.1) := by
    obtain ⟨A', n', c', D', m', k', q, _⟩ := h1.out
    cases q
    exact rfl
  have eb2 : Hid (b2 = e2.1) := by
    obtain ⟨A', n', c', D', m', k', q, _⟩ := h2.out
    cases q
    exact rfl
  have vG : nG ≤ 100000 := by
    have := sM.out
    unfold msz at this
    have := h.out.st.g.len
    omega
  have z1 : Hid (SmE e1) := smR (Nat.le_trans s1.out (by decide))
  have z2 : Hid (SmE e2) := smR (Nat.le_trans s2.out (by decide))
  clear r1 r2 h h1 h2 s1 s2 sX
  have k1c0 := K1.out.at_ 0 rfl
  have k1c1 := K1.out.at_ 1 rfl
  have k1c2 := K1.out.at_ 2 rfl
  have k1c3 := K1.out.at_ 3 rfl
  have k2c0 := K2.out.at_ 0 rfl
  have k2c1 := K2.out.at_ 1 rfl
  have k2c2 := K2.out.at_ 2 rfl
  have k3c0 := K3.out.at_ 0 rfl
  have k3c1 := K3.out.at_ 1 rfl
  have k3c2 := K3.out.at_ 2 rfl
  go_wp2_with fail
  refine (twinModel_ok (mo := mo) NO.out MO.out.1 (by omega) vG (by omega)).mono ?_
  rintro e w3 ⟨XV, dV, XG, dG, XO, dO, rfl, d0, t0⟩
  have yy : Below w3.heap.size w3 (w3.alloc (.cells #[.bool mo, .slice XV nV dV, .slice XG nG dG, .slice XO nO dO] 45)) := (Below.refl _ _).alloc (Nat.le_refl _) _
  have dd := below_tr d0 yy
  have K7 := hide (Blk.new w3 45 #[.bool mo, .slice XV nV dV, .slice XG nG dG, .slice XO nO dO])
  have TM_ := hide (t0.below yy)
  replace b0 := hide (below_tr b0.out dd)
  replace NO := hide (NO.out.below raw_b dd)
  replace aa := hide (aa.out.below dd)
  replace ab := hide (ab.out.below dd)
  replace ra := hide (RPrt.below ra.out dd)
  replace rb := hide (RPrt.below rb.out dd)
  replace K1 := hide (K1.out.below' dd)
  replace K2 := hide (K2.out.below' dd)
  replace K3 := hide (K3.out.below' dd)
  clear yy d0 t0 dd k1c0 k1c1 k1c2 k1c3 k2c0 k2c1 k2c2 k3c0 k3c1 k3c2 MO
  have k2c0 := K2.out.at_ 0 rfl
  have k2c1 := K2.out.at_ 1 rfl
  have k2c2 := K2.out.at_ 2 rfl
  go_wp2_with fail
  obtain ⟨p7, hp_⟩ : ∃ p7, w3.heap.size = p7 := ⟨_, rfl⟩
  rw [hp_] at K7 ⊢
  clear hp_
  refine (tw_e (B := w.heap.size) ra.out z1.out b0.out.size).mono ?_
  rintro e w4 ⟨v, rfl, d0, t0⟩
  obtain ⟨X1, a1, p1, Y1, a2, p2, ev⟩ := TwE.agg t0
  rw [← eb1.out] at ev
  subst ev
  have yy : Below w4.heap.size w4 (w4.alloc (.cells #[.bool b1, .slice X1 a1 p1, .slice Y1 a2 p2] TR)) := (Below.refl _ _).alloc (Nat.le_refl _) _
  have dd := below_tr d0 yy
  have K8 := hide (Blk.new w4 TR #[.bool b1, .slice X1 a1 p1, .slice Y1 a2 p2])
  have ta := hide (TwE.below t0 yy)
  replace b0 := hide (below_tr b0.out dd)
  replace NO := hide (NO.out.below raw_b dd)
  replace aa := hide (aa.out.below dd)
  replace ab := hide (ab.out.below dd)
  replace ra := hide (RPrt.below ra.out dd)
  replace rb := hide (RPrt.below rb.out dd)
  replace TM_ := hide (TM_.out.below dd)
  replace K7 := hide (K7.out.below' dd)
  replace K1 := hide (K1.out.below' dd)
  replace K2 := hide (K2.out.below' dd)
  replace K3 := hide (K3.out.below' dd)
  clear yy d0 t0 dd k2c0 k2c1 k2c2
  have k3c0 := K3.out.at_ 0 rfl
  have k3c1 := K3.out.at_ 1 rfl
  have k3c2 := K3.out.at_ 2 rfl
  go_wp2_with fail
  obtain ⟨p8, hp_⟩ : ∃ p8, w4.heap.size = p8 := ⟨_, rfl⟩
  rw [hp_] at K8 ⊢
  clear hp_
  refine (tw_e (B := w.heap.size) rb.out z2.out b0.out.size).mono ?_
  rintro e w5 ⟨v, rfl, d0, t0⟩
  obtain ⟨X2, a3, p3, Y2, a4, p4, ev⟩ := TwE.agg t0
  rw [← eb2.out] at ev
  subst ev
  have yy : Below w5.heap.size w5 (w5.alloc (.cells #[.bool b2, .slice X2 a3 p3, .slice Y2 a4 p4] TR)) := (Below.refl _ _).alloc (Nat.le_refl _) _
  have dd := below_tr d0 yy
  have K9 := hide (Blk.new w5 TR #[.bool b2, .slice X2 a3 p3, .slice Y2 a4 p4])
  have tb := hide (TwE.below t0 yy)
  replace b0 := hide (below_tr b0.out dd)
  replace NO := hide (NO.out.below raw_b dd)
  replace aa := hide (aa.out.below dd)
  replace ab := hide (ab.out.below dd)
  replace ra := hide (RPrt.below ra.out dd)
  replace rb := hide (RPrt.below rb.out dd)
  replace TM_ := hide (TM_.out.below dd)
  replace K7 := hide (K7.out.below' dd)
  replace ta := hide (ta.out.below dd)
  replace K8 := hide (K8.out.below' dd)
  replace K1 := hide (K1.out.below' dd)
  replace K2 := hide (K2.out.below' dd)
  replace K3 := hide (K3.out.below' dd)
  clear yy d0 t0 dd k3c0 k3c1 k3c2
  obtain ⟨r1, er⟩ : ∃ r1, Hid (bet mo (rvE e1) (rvE e2) = r1) := ⟨_, rfl⟩
  go_wp2
  obtain ⟨p9, hp_⟩ : ∃ p9, w5.heap.size = p9 := ⟨_, rfl⟩
  rw [hp_] at K9 ⊢
  clear hp_
  generalize hW6 : World.alloc w5 _ = W6 at *
  clear hW6
  have Pc0 : Hid (W6.cell? ⟨w.heap.size, 0, none⟩ = some (.bool mo)) := K1.out.at_ 0 rfl
  have Pc1 : Hid (W6.cell? ⟨w.heap.size, 1, none⟩ = some (.slice AV nV cV)) := K1.out.at_ 1 rfl
  have Pc2 : Hid (W6.cell? ⟨w.heap.size, 2, none⟩ = some (.slice AG nG cG)) := K1.out.at_ 2 rfl
  have Pc3 : Hid (W6.cell? ⟨w.heap.size, 3, none⟩ = some (.slice AO nO cO)) := K1.out.at_ 3 rfl
  have Ac0 : Hid (W6.cell? ⟨w.heap.size + 1, 0, none⟩ = some (.bool b1)) := K2.out.at_ 0 rfl
  have Ac1 : Hid (W6.cell? ⟨w.heap.size + 1, 1, none⟩ = some (.slice A1 n1 c1)) := K2.out.at_ 1 rfl
  have Ac2 : Hid (W6.cell? ⟨w.heap.size + 1, 2, none⟩ = some (.slice D1 m1 k1)) := K2.out.at_ 2 rfl
  have Bc0 : Hid (W6.cell? ⟨w.heap.size + 1 + 1, 0, none⟩ = some (.bool b2)) := K3.out.at_ 0 rfl
  have Bc1 : Hid (W6.cell? ⟨w.heap.size + 1 + 1, 1, none⟩ = some (.slice A2 n2 c2)) := K3.out.at_ 1 rfl
  have Bc2 : Hid (W6.cell? ⟨w.heap.size + 1 + 1, 2, none⟩ = some (.slice D2 m2 k2)) := K3.out.at_ 2 rfl
  have Tc0 : Hid (W6.cell? ⟨p7, 0, none⟩ = some (.bool mo)) := K7.out.at_ 0 rfl
  have Tc1 : Hid (W6.cell? ⟨p7, 1, none⟩ = some (.slice XV nV dV)) := K7.out.at_ 1 rfl
  have Tc2 : Hid (W6.cell? ⟨p7, 2, none⟩ = some (.slice XG nG dG)) := K7.out.at_ 2 rfl
  have Tc3 : Hid (W6.cell? ⟨p7, 3, none⟩ = some (.slice XO nO dO)) := K7.out.at_ 3 rfl
  have Xc0 : Hid (W6.cell? ⟨p8, 0, none⟩ = some (.bool b1)) := K8.out.at_ 0 rfl
  have Xc1 : Hid (W6.cell? ⟨p8, 1, none⟩ = some (.slice X1 a1 p1)) := K8.out.at_ 1 rfl
  have Xc2 : Hid (W6.cell? ⟨p8, 2, none⟩ = some (.slice Y1 a2 p2)) := K8.out.at_ 2 rfl
  have Yc0 : Hid (W6.cell? ⟨p9, 0, none⟩ = some (.bool b2)) := K9.out.at_ 0 rfl
  have Yc1 : Hid (W6.cell? ⟨p9, 1, none⟩ = some (.slice X2 a3 p3)) := K9.out.at_ 1 rfl
  have Yc2 : Hid (W6.cell? ⟨p9, 2, none⟩ = some (.slice Y2 a4 p4)) := K9.out.at_ 2 rfl
  refine wp_region_facts 25 (fun w' => Below W6.heap.size W6 w') [(21, .eq (.agg #[.bool mo, .slice XV nV dV, .slice XG nG dG, .slice XO nO dO])), (22, .eq (.agg #[.bool b1, .slice X1 a1 p1, .slice Y1 a2 p2])), (23, .eq (.agg #[.bool b2, .slice X2 a3 p3, .slice Y2 a4 p4])), (24, .eq (.bool r1)), (25, .eq (.agg #[.bool mo, .slice AV nV cV, .slice AG nG cG, .slice AO nO cO])), (26, .eq (.agg #[.bool b1, .slice A1 n1 c1, .slice D1 m1 k1])), (27, .eq (.agg #[.bool b2, .slice A2 n2 c2, .slice D2 m2 k2])), (28, .eq (.bool r1)), (29, .eq (.bool true)), (30, .eq (.bool true)), (31, .eq (.agg #[.bool mo, .slice XV nV dV, .slice XG nG dG, .slice XO nO dO])), (32, .eq (.agg #[.bool mo, .slice AV nV cV, .slice AG nG cG, .slice AO nO cO])), (33, .eq (.bool true)), (34, .eq (.bool true)), (35, .eq (.bool true)), (36, .eq (.agg #[.bool b1, .slice X1 a1 p1, .slice Y1 a2 p2])), (37, .eq (.agg #[.bool b1, .slice A1 n1 c1, .slice D1 m1 k1])), (38, .eq (.bool true)), (39, .eq (.bool true)), (40, .eq (.bool true)), (41, .eq (.agg #[.bool b2, .slice X2 a3 p3, .slice Y2 a4 p4])), (42, .eq (.agg #[.bool b2, .slice A2 n2 c2, .slice D2 m2 k2])), (43, .eq (.bool true)), (44, .eq (.bool true)), (6, .eq (.bool true))] [false, false, false, false, false, false, true, false, false, false, false, false, false, false, false, false, false, false, false, false, false, true, true, true, true, true, true, true, true, true, true, true, true, true, true, true, true, true, true, true, true, true, true, true, true] mixed (by kernel_rfl) (by kernel_rfl) (by kernel_rfl) (fun _ _ h hb => h.trans (hb.mono h.size)) ((Below.refl _ _).drew) ⟨?_, ?_, ?_, ?_, ?_, ?_, ?_, ?_, ?_, ?_, ?_, ?_, ?_, ?_, ?_, ?_, ?_, ?_, ?_, ?_, ?_, ?_, ?_, ?_, ?_, trivial⟩ ?_
  · exact .load (.agg #[.bool mo, .slice XV nV dV, .slice XG nG dG, .slice XO nO dO]) (.inl rfl) rfl rfl (fun a w' hC hs hl => by rw [show a.eval (.tmp 7) = (.pointer (some ⟨p7, 0, none⟩) : Value) from (hs 7 (by kernel_rfl))]; exact ⟨by simp [go_sem, cell_below hC Tc0.out, cell_below hC Tc1.out, cell_below hC Tc2.out, cell_below hC Tc3.out], rfl⟩)
  · exact .load (.agg #[.bool b1, .slice X1 a1 p1, .slice Y1 a2 p2]) (.inl rfl) rfl rfl (fun a w' hC hs hl => by rw [show a.eval (.tmp 8) = (.pointer (some ⟨p8, 0, none⟩) : Value) from (hs 8 (by kernel_rfl))]; exact ⟨by simp [go_sem, cell_below hC Xc0.out, cell_below hC Xc1.out, cell_below hC Xc2.out], rfl⟩)
  · exact .load (.agg #[.bool b2, .slice X2 a3 p3, .slice Y2 a4 p4]) (.inl rfl) rfl rfl (fun a w' hC hs hl => by rw [show a.eval (.tmp 9) = (.pointer (some ⟨p9, 0, none⟩) : Value) from (hs 9 (by kernel_rfl))]; exact ⟨by simp [go_sem, cell_below hC Yc0.out, cell_below hC Yc1.out, cell_below hC Yc2.out], rfl⟩)
  · exact .call (.inl rfl) rfl rfl fov_points_Better (fun a w' hC hs hl => by
      show Calls _ _ #[a.eval (.tmp 21), a.eval (.tmp 22), a.eval (.tmp 23)] _ _
      rw [show a.eval (.tmp 21) = (.agg #[.bool mo, .slice XV nV dV, .slice XG nG dG, .slice XO nO dO] : Value) from (hl 21 (by kernel_rfl) (by kernel_rfl)), show a.eval (.tmp 22) = (.agg #[.bool b1, .slice X1 a1 p1, .slice Y1 a2 p2] : Value) from (hl 22 (by kernel_rfl) (by kernel_rfl)), show a.eval (.tmp 23) = (.agg #[.bool b2, .slice X2 a3 p3, .slice Y2 a4 p4] : Value) from (hl 23 (by kernel_rfl) (by kernel_rfl))]
      exact better_ok (ta.out.arg.below hC) (tb.out.arg.below hC) (T.out.below (below_tr b0.out hC)) r1 er.out)
  · exact .load (.agg #[.bool mo, .slice AV nV cV, .slice AG nG cG, .slice AO nO cO]) (.inl rfl) rfl rfl (fun a w' hC hs hl => by rw [show a.eval (.tmp 3) = (.pointer (some ⟨w.heap.size, 0, none⟩) : Value) from (hs 3 (by kernel_rfl))]; exact ⟨by simp [go_sem, cell_below hC Pc0.out, cell_below hC Pc1.out, cell_below hC Pc2.out, cell_below hC Pc3.out], rfl⟩)
  · exact .load (.agg #[.bool b1, .slice A1 n1 c1, .slice D1 m1 k1]) (.inl rfl) rfl rfl (fun a w' hC hs hl => by rw [show a.eval (.tmp 4) = (.pointer (some ⟨w.heap.size + 1, 0, none⟩) : Value) from (hs 4 (by kernel_rfl))]; exact ⟨by simp [go_sem, cell_below hC Ac0.out, cell_below hC Ac1.out, cell_below hC Ac2.out], rfl⟩)
  · exact .load (.agg #[.bool b2, .slice A2 n2 c2, .slice D2 m2 k2]) (.inl rfl) rfl rfl (fun a w' hC hs hl => by rw [show a.eval (.tmp 5) = (.pointer (some ⟨w.heap.size + 1 + 1, 0, none⟩) : Value) from (hs 5 (by kernel_rfl))]; exact ⟨by simp [go_sem, cell_below hC Bc0.out, cell_below hC Bc1.out, cell_below hC Bc2.out], rfl⟩)
  · exact .call (.inl rfl) rfl rfl fov_assayerref08_Better (fun a w' hC hs hl => by
      show Calls _ _ #[a.eval (.tmp 25), a.eval (.tmp 26), a.eval (.tmp 27)] _ _
      rw [show a.eval (.tmp 25) = (.agg #[.bool mo, .slice AV nV cV, .slice AG nG cG, .slice AO nO cO] : Value) from (hl 25 (by kernel_rfl) (by kernel_rfl)), show a.eval (.tmp 26) = (.agg #[.bool b1, .slice A1 n1 c1, .slice D1 m1 k1] : Value) from (hl 26 (by kernel_rfl) (by kernel_rfl)), show a.eval (.tmp 27) = (.agg #[.bool b2, .slice A2 n2 c2, .slice D2 m2 k2] : Value) from (hl 27 (by kernel_rfl) (by kernel_rfl))]
      exact qbetter_ok (aa.out.below hC) (ab.out.below hC) ha.out hb.out r1 er.out)
  · exact .value (.inl rfl) (by intro T e; cases e) rfl rfl (fun a w' hC hs hl => by
      have e0 : a.eval (.tmp 24) = (.bool r1) := (hl 24 (by kernel_rfl) (by kernel_rfl))
      have e1 : a.eval (.tmp 28) = (.bool r1) := (hl 28 (by kernel_rfl) (by kernel_rfl))
      simp only [execOp, e0, e1]
      skip
      simp [go_sem, beq_self_eq_true])
  · exact .move (.inl rfl) (.inl rfl) rfl (by kernel_rfl) (by kernel_rfl) rfl
  · exact .load (.agg #[.bool mo, .slice XV nV dV, .slice XG nG dG, .slice XO nO dO]) (.inr ⟨9, true, 30, by decide, rfl, rfl, rfl⟩) rfl rfl (fun a w' hC hs hl => by rw [show a.eval (.tmp 7) = (.pointer (some ⟨p7, 0, none⟩) : Value) from (hs 7 (by kernel_rfl))]; exact ⟨by simp [go_sem, cell_below hC Tc0.out, cell_below hC Tc1.out, cell_below hC Tc2.out, cell_below hC Tc3.out], rfl⟩)
  · exact .load (.agg #[.bool mo, .slice AV nV cV, .slice AG nG cG, .slice AO nO cO]) (.inr ⟨9, true, 30, by decide, rfl, rfl, rfl⟩) rfl rfl (fun a w' hC hs hl => by rw [show a.eval (.tmp 3) = (.pointer (some ⟨w.heap.size, 0, none⟩) : Value) from (hs 3 (by kernel_rfl))]; exact ⟨by simp [go_sem, cell_below hC Pc0.out, cell_below hC Pc1.out, cell_below hC Pc2.out, cell_below hC Pc3.out], rfl⟩)
  · exact .call (.inr ⟨9, true, 30, by decide, rfl, rfl, rfl⟩) rfl rfl fov_assayerlaw01_LeftModel (fun a w' hC hs hl => by
      show Calls _ _ #[a.eval (.tmp 31), a.eval (.tmp 32)] _ _
      rw [show a.eval (.tmp 31) = (.agg #[.bool mo, .slice XV nV dV, .slice XG nG dG, .slice XO nO dO] : Value) from (hl 31 (by kernel_rfl) (by kernel_rfl)), show a.eval (.tmp 32) = (.agg #[.bool mo, .slice AV nV cV, .slice AG nG cG, .slice AO nO cO] : Value) from (hl 32 (by kernel_rfl) (by kernel_rfl))]
      exact leftModel_ok (TM_.out.below hC) (NO.out.below raw_b hC))
  · exact .pick (b := true) (.inl rfl) rfl rfl (fun a w' hC hs hl => ⟨(hl 30 (by kernel_rfl) (by kernel_rfl)), (hl 33 (by kernel_rfl) (by kernel_rfl))⟩)
  · exact .move (.inl rfl) (.inl rfl) rfl (by kernel_rfl) (by kernel_rfl) rfl
  · exact .load (.agg #[.bool b1, .slice X1 a1 p1, .slice Y1 a2 p2]) (.inr ⟨14, true, 35, by decide, rfl, rfl, rfl⟩) rfl rfl (fun a w' hC hs hl => by rw [show a.eval (.tmp 8) = (.pointer (some ⟨p8, 0, none⟩) : Value) from (hs 8 (by kernel_rfl))]; exact ⟨by simp [go_sem, cell_below hC Xc0.out, cell_below hC Xc1.out, cell_below hC Xc2.out], rfl⟩)
  · exact .load (.agg #[.bool b1, .slice A1 n1 c1, .slice D1 m1 k1]) (.inr ⟨14, true, 35, by decide, rfl, rfl, rfl⟩) rfl rfl (fun a w' hC hs hl => by rw [show a.eval (.tmp 4) = (.pointer (some ⟨w.heap.size + 1, 0, none⟩) : Value) from (hs 4 (by kernel_rfl))]; exact ⟨by simp [go_sem, cell_below hC Ac0.out, cell_below hC Ac1.out, cell_below hC Ac2.out], rfl⟩)
  · exact .call (.inr ⟨14, true, 35, by decide, rfl, rfl, rfl⟩) rfl rfl fov_assayerlaw01_LeftRat (fun a w' hC hs hl => by
      show Calls _ _ #[a.eval (.tmp 36), a.eval (.tmp 37)] _ _
      rw [show a.eval (.tmp 36) = (.agg #[.bool b1, .slice X1 a1 p1, .slice Y1 a2 p2] : Value) from (hl 36 (by kernel_rfl) (by kernel_rfl)), show a.eval (.tmp 37) = (.agg #[.bool b1, .slice A1 n1 c1, .slice D1 m1 k1] : Value) from (hl 37 (by kernel_rfl) (by kernel_rfl))]
      exact left_e (ta.out.below hC) (RPrt.below ra.out hC))
  · exact .pick (b := true) (.inl rfl) rfl rfl (fun a w' hC hs hl => ⟨(hl 35 (by kernel_rfl) (by kernel_rfl)), (hl 38 (by kernel_rfl) (by kernel_rfl))⟩)
  · exact .move (.inl rfl) (.inl rfl) rfl (by kernel_rfl) (by kernel_rfl) rfl
  · exact .load (.agg #[.bool b2, .slice X2 a3 p3, .slice Y2 a4 p4]) (.inr ⟨19, true, 40, by decide, rfl, rfl, rfl⟩) rfl rfl (fun a w' hC hs hl => by rw [show a.eval (.tmp 9) = (.pointer (some ⟨p9, 0, none⟩) : Value) from (hs 9 (by kernel_rfl))]; exact ⟨by simp [go_sem, cell_below hC Yc0.out, cell_below hC Yc1.out, cell_below hC Yc2.out], rfl⟩)
  · exact .load (.agg #[.bool b2, .slice A2 n2 c2, .slice D2 m2 k2]) (.inr ⟨19, true, 40, by decide, rfl, rfl, rfl⟩) rfl rfl (fun a w' hC hs hl => by rw [show a.eval (.tmp 5) = (.pointer (some ⟨w.heap.size + 1 + 1, 0, none⟩) : Value) from (hs 5 (by kernel_rfl))]; exact ⟨by simp [go_sem, cell_below hC Bc0.out, cell_below hC Bc1.out, cell_below hC Bc2.out], rfl⟩)
  · exact .call (.inr ⟨19, true, 40, by decide, rfl, rfl, rfl⟩) rfl rfl fov_assayerlaw01_LeftRat (fun a w' hC hs hl => by
      show Calls _ _ #[a.eval (.tmp 41), a.eval (.tmp 42)] _ _
      rw [show a.eval (.tmp 41) = (.agg #[.bool b2, .slice X2 a3 p3, .slice Y2 a4 p4] : Value) from (hl 41 (by kernel_rfl) (by kernel_rfl)), show a.eval (.tmp 42) = (.agg #[.bool b2, .slice A2 n2 c2, .slice D2 m2 k2] : Value) from (hl 42 (by kernel_rfl) (by kernel_rfl))]
      exact left_e (tb.out.below hC) (RPrt.below rb.out hC))
  · exact .pick (b := true) (.inl rfl) rfl rfl (fun a w' hC hs hl => ⟨(hl 40 (by kernel_rfl) (by kernel_rfl)), (hl 43 (by kernel_rfl) (by kernel_rfl))⟩)
  · exact .move (.inl rfl) (.inr rfl) rfl (by kernel_rfl) (by kernel_rfl) rfl
  · intro f wz hC hF _
    have fz : f 6 = .bool true := hF 6 (by kernel_rfl)
    clear hF
    simp only [patch, List.drop]
    rw [fz]
    clear fz
    try change wpList _ _ _ [] _ _
    generalize f 21 = y21_
    generalize f 22 = y22_
    generalize f 23 = y23_
    generalize f 24 = y24_
    generalize f 25 = y25_
    generalize f 26 = y26_
    generalize f 27 = y27_
    generalize f 28 = y28_
    generalize f 29 = y29_
    generalize f 30 = y30_
    generalize f 31 = y31_
    generalize f 32 = y32_
    generalize f 33 = y33_
    generalize f 34 = y34_
    generalize f 35 = y35_
    generalize f 36 = y36_
    generalize f 37 = y37_
    generalize f 38 = y38_
    generalize f 39 = y39_
    generalize f 40 = y40_
    generalize f 41 = y41_
    generalize f 42 = y42_
    generalize f 43 = y43_
    generalize f 44 = y44_
    have b9 := hide (below_tr b0.out hC)
    clear hC b0 NO aa ab ra rb ta tb TM_ Pc0 Pc1 Pc2 Pc3 Ac0 Ac1 Ac2 Bc0 Bc1 Bc2 Tc0 Tc1 Tc2 Tc3 Xc0 Xc1 Xc2 Yc0 Yc1 Yc2
    go_wp2
    exact opq_end hR ⟨rfl, b9⟩
end Go.Proofs.YtkefmeddnncacaaDoor
