/- the laws of vecs: VecsAdds. -/
import Derived.Test.YtkefmeddnncacaaGreatDoorTW
set_option linter.unusedVariables false
set_option linter.unusedSimpArgs false
set_option maxRecDepth 100000
namespace Go.Proofs.YtkefmeddnncacaaGreatDoor
open Go.RowKit

set_option maxHeartbeats 8000000 in
theorem VecsAdds_ok (w : World) (A1 : Option Addr) (n1 c1 : Nat) (es1 : List Raw) (A2 : Option Addr) (n2 c2 : Nat) (es2 : List Raw) (b3 : Bool) (A3 : Option Addr) (n3 c3 : Nat) (D3 : Option Addr) (m3 k3 : Nat) (e3 : Raw) (h1 : Lst RRw w (.slice A1 n1 c1) es1) (h2 : Lst RRw w (.slice A2 n2 c2) es2) (h3 : RRw w (.agg #[.bool b3, .slice A3 n3 c3, .slice D3 m3 k3]) e3) (hT : Tab w) :
    Calls Tryz.prog 4 #[.slice A1 n1 c1, .slice A2 n2 c2, .agg #[.bool b3, .slice A3 n3 c3, .slice D3 m3 k3]] w fun e w' => e = .returned (.bool true) ∧ Hid (Below w.heap.size w w') := by
  refine opq fun R hR => ?_
  have T := hide hT
  clear hT
  replace h1 := hide h1
  replace h2 := hide h2
  replace h3 := hide h3
  go_enter Tryz.func4, Tryz.ntmps4
  have K3 := hide (Blk.new w TR #[.bool b3, .slice A3 n3 c3, .slice D3 m3 k3])
  have b0 := hide ((Below.refl w.heap.size w).alloc (Nat.le_refl _) (.cells #[.bool b3, .slice A3 n3 c3, .slice D3 m3 k3] TR))
  have p0 := K3.out.at_ 0 rfl
  have p1 := K3.out.at_ 1 rfl
  have p2 := K3.out.at_ 2 rfl
  obtain ⟨W1, hW1⟩ : ∃ W1, (w.alloc (.cells #[.bool b3, .slice A3 n3 c3, .slice D3 m3 k3] TR)).alloc (.cells #[.bool b3, .slice A3 n3 c3, .slice D3 m3 k3] TR) = W1 := ⟨_, rfl⟩
  have zW1 : W1.heap.size = w.heap.size + 1 + 1 := by rw [← hW1]; simp
  have y1 : Below w.heap.size w W1 := by rw [← hW1]; exact ((Below.refl _ _).alloc (Nat.le_refl _) _).alloc (by simp) _
  have G3 : Hid (Blk W1 (w.heap.size + 1) TR #[.bool b3, .slice A3 n3 c3, .slice D3 m3 k3]) := by rw [← hW1]; exact Blk.new_at _ (w.heap.size + 1) (by simp) TR _
  have GE := hide (show ∀ x ∈ ([gl A1 n1 c1 es1, gl A2 n2 c2 es2, gl (some ⟨w.heap.size + 1, 0, none⟩) 1 1 [e3]] : List GL), Lst RRw W1 (slv x) x.2 from (List.forall_mem_cons.2 ⟨(h1.out.rw_below y1), (List.forall_mem_cons.2 ⟨(h2.out.rw_below y1), (List.forall_mem_cons.2 ⟨(lst_one tri_rw (u := .agg #[.bool b3, .slice A3 n3 c3, .slice D3 m3 k3]) G3.out (h3.out.below y1)), (fun x hx => by simp at hx)⟩)⟩)⟩))
  have K3a : Hid (Blk (W1.alloc (.cells #[.slice A1 n1 c1, .slice A2 n2 c2, .slice (some ⟨w.heap.size + 1, 0, none⟩) 1 1] 56)) w.heap.size TR #[.bool b3, .slice A3 n3 c3, .slice D3 m3 k3]) := by rw [← hW1]; exact (K3.out.alloc _).alloc _
  have b1 := hide (y1.alloc y1.size (.cells #[.slice A1 n1 c1, .slice A2 n2 c2, .slice (some ⟨w.heap.size + 1, 0, none⟩) 1 1] 56))
  have zW := hide zW1
  clear y1 G3 zW1
  have GC := fun (r : Bool) (hr : ([gl A1 n1 c1 es1, gl A2 n2 c2 es2, gl (some ⟨w.heap.size + 1, 0, none⟩) 1 1 [e3]] : List GL).any gr = r) => vgreat_L (w := W1) [gl A1 n1 c1 es1, gl A2 n2 c2 es2, gl (some ⟨w.heap.size + 1, 0, none⟩) 1 1 [e3]] #[.slice A1 n1 c1, .slice A2 n2 c2, .slice (some ⟨w.heap.size + 1, 0, none⟩) 1 1] rfl (g := w.heap.size + 1 + 1) zW.out (t := 56) GE.out 3 rfl (by decide) r hr
  rw [← hW1] at GC K3a b1
  replace GC := hide GC
  clear hW1 GE zW
  by_cases gg : ([gl A1 n1 c1 es1, gl A2 n2 c2 es2, gl (some ⟨w.heap.size + 1, 0, none⟩) 1 1 [e3]] : List GL).any gr = true
  · replace gg := hide gg
    go_wp2_with fail
    refine (GC.out true gg.out).mono ?_
    rintro e w1 ⟨_, rfl, d0, rfl⟩
    replace b0 := hide (below_tr b1.out d0)
    clear d0
    go_wp2
    exact opq_end hR ⟨rfl, b0⟩
  replace gg : Hid (([gl A1 n1 c1 es1, gl A2 n2 c2 es2, gl (some ⟨w.heap.size + 1, 0, none⟩) 1 1 [e3]] : List GL).any gr = false) := (by simpa using gg : ([gl A1 n1 c1 es1, gl A2 n2 c2 es2, gl (some ⟨w.heap.size + 1, 0, none⟩) 1 1 [e3]] : List GL).any gr = false)
  go_wp2_with fail
  refine (GC.out false gg.out).mono ?_
  rintro e w1 ⟨_, rfl, d0, rfl⟩
  replace K3 := hide (K3a.out.below' d0)
  replace b0 := hide (below_tr b1.out d0)
  clear d0 GC b1 K3a p0 p1 p2
  have M1 : n1 ≤ 30 ∧ tsz es1 ≤ 300 := any_false gg.out (gl A1 n1 c1 es1) (by simp)
  have M2 : n2 ≤ 30 ∧ tsz es2 ≤ 300 := any_false gg.out (gl A2 n2 c2 es2) (by simp)
  have M3 := (any_false gg.out (gl (some ⟨w.heap.size + 1, 0, none⟩) 1 1 [e3]) (by simp)).2
  have q3 : rsz e3 ≤ 300 := Nat.le_trans (tsz_mem (by simp)) M3
  have I1 := hide (h1.out.rawW 300 M1.2 (by decide)).1
  have S1_ := hide (h1.out.rawW 300 M1.2 (by decide)).2
  have J1 := hide (h1.out.argW 300 M1.2 (by decide))
  have N1 : Hid (es1.length = n1) := h1.out.len
  have I2 := hide (h2.out.rawW 300 M2.2 (by decide)).1
  have S2_ := hide (h2.out.rawW 300 M2.2 (by decide)).2
  have J2 := hide (h2.out.argW 300 M2.2 (by decide))
  have N2 : Hid (es2.length = n2) := h2.out.len
  have I3 := hide (h3.out.raw (Nat.le_trans q3 (by decide))).1
  have J3 := hide (h3.out.arg (Nat.le_trans q3 (by decide)))
  have S3_ : Hid (H (rvE e3) 300) := (h3.out.raw (Nat.le_trans q3 (by decide))).2.up q3
  have SM1 := hide (smE M1.2)
  have SM2 := hide (smE M2.2)
  have v1 : n1 ≤ 30 := M1.1
  have v2 : n2 ≤ 30 := M2.1
  have eb : Hid (b3 = e3.1 ∧ n3 ≤ 1000 ∧ m3 ≤ 1000 ∧ Prt w (.slice A3 n3 c3) e3.2.1 ∧ Prt w (.slice D3 m3 k3) e3.2.2) := by
    obtain ⟨u, d, e, P1, P2⟩ := I3.out
    cases e
    obtain ⟨_, _, _, f1, g1⟩ := P1.slice
    obtain ⟨_, _, _, f2, g2⟩ := P2.slice
    cases f1
    cases f2
    unfold rsz at q3
    exact ⟨rfl, by omega, by omega, P1, P2⟩
  obtain ⟨kk, hkk⟩ : ∃ kk, addK es1 es2 e3 = kk := ⟨_, rfl⟩
  replace hkk := hide hkk
  clear gg M1 M2 M3 h1 h2 h3 q3
  have e3' := eb.out.1
  subst e3'
  have H : Hid (HW w.heap.size w1 []) := HW.nil _ _
  have G : Hid (HBR w.heap.size w1.heap.size w1 []) := HBR.nil _ _ _
  go_wp2_with fail
  refine (twinRats_n N1.out (I1.out.raw_below b0.out) (by omega) SM1.out).mono ?_
  rintro e w2 ⟨X1, cx1, us1, rfl, d1, TL1⟩
  have lu1 := hide TL1.lu
  have S1 := hide (fun (u : Value) hu => (TL1.elB u hu).shp)
  replace H : Hid (HW w.heap.size w2 ([] ++ entsU (0) us1)) := HW.list H.out d1 TL1.elB TL1.ap b0.out.size (by have := lu1.out; omega)
  replace G : Hid (HBR w.heap.size w2.heap.size w2 ([] ++ [⟨X1, n1, cx1, none, 0, 0, 0 + 2 * n1 + 1⟩])) := HBR.next G.out d1 TL1.rrow b0.out.size (by omega) (by omega)
  have RR1 := hide (TL1.rrow.mono b0.out.size)
  replace TL1 := hide TL1
  replace K3 := hide (K3.out.below' d1)
  replace b0 := hide (below_tr b0.out d1)
  clear d1
  go_wp2_with fail
  refine (twinRats_n N2.out (I2.out.raw_below b0.out) (by omega) SM2.out).mono ?_
  rintro e w3 ⟨X2, cx2, us2, rfl, d1, TL2⟩
  have lu2 := hide TL2.lu
  have S2 := hide (fun (u : Value) hu => (TL2.elB u hu).shp)
  replace H : Hid (HW w.heap.size w3 ([] ++ entsU (0) us1 ++ entsU (0 + 2 * n1 + 1) us2)) := HW.list H.out d1 TL2.elB TL2.ap b0.out.size (by have := lu2.out; omega)
  replace G : Hid (HBR w.heap.size w3.heap.size w3 ([] ++ [⟨X1, n1, cx1, none, 0, 0, 0 + 2 * n1 + 1⟩] ++ [⟨X2, n2, cx2, none, 0, 0, 0 + 2 * n1 + 1 + 2 * n2 + 1⟩])) := HBR.next G.out d1 TL2.rrow b0.out.size (by omega) (by omega)
  have RR2 := hide (TL2.rrow.mono b0.out.size)
  replace TL2 := hide TL2
  replace K3 := hide (K3.out.below' d1)
  replace RR1 := hide (RR1.out.below d1)
  replace TL1 := hide (TL1.out.below d1)
  replace b0 := hide (below_tr b0.out d1)
  clear d1
  have p0 := K3.out.at_ 0 rfl
  have p1 := K3.out.at_ 1 rfl
  have p2 := K3.out.at_ 2 rfl
  have SX := hide b0.out.size
  have Z1 := hide (eb.out.2.2.2.1.below b0.out)
  have Z2 := hide (eb.out.2.2.2.2.below b0.out)
  go_wp2_with fail
  refine (rp_twin Z1.out Z2.out eb.out.2.1 eb.out.2.2.1).mono ?_
  rintro e w4 ⟨Z3, cz, Y3, cy, rfl, d1, t1, t2, sp⟩
  replace H : Hid (HW w.heap.size w4 ([] ++ entsU (0) us1 ++ entsU (0 + 2 * n1 + 1) us2 ++ [⟨Z3, n3, cz, none, 0, 0, 0 + 2 * n1 + 1 + 2 * n2 + 1 + 1⟩] ++ [⟨Y3, m3, cy, none, 0, 0, 0 + 2 * n1 + 1 + 2 * n2 + 1 + 1 + 1⟩])) := Tw.next H.out d1.out t1 t2 sp b0.out.size (by omega) (by omega)
  replace G := hide (HBR.below G.out d1.out)
  replace K3 := hide (K3.out.below' d1.out)
  replace RR1 := hide (RR1.out.below d1.out)
  replace TL1 := hide (TL1.out.below d1.out)
  replace RR2 := hide (RR2.out.below d1.out)
  replace TL2 := hide (TL2.out.below d1.out)
  replace b0 := hide (below_tr b0.out d1.out)
  clear d1
  clear SX Z1 Z2 p0 p1 p2 sp
  have TA := hide t1
  have TB := hide t2
  clear t1 t2
  have yy : Below w4.heap.size w4 (w4.alloc (.cells #[.bool e3.1, .slice Z3 n3 cz, .slice Y3 m3 cy] TR)) := (Below.refl _ _).alloc (Nat.le_refl _) _
  have K9' := hide (Blk.new w4 TR #[.bool e3.1, .slice Z3 n3 cz, .slice Y3 m3 cy])
  replace K3 := hide (K3.out.below' yy)
  replace RR1 := hide (RR1.out.below yy)
  replace TL1 := hide (TL1.out.below yy)
  replace RR2 := hide (RR2.out.below yy)
  replace TL2 := hide (TL2.out.below yy)
  replace TA := hide (TA.out.below yy)
  replace TB := hide (TB.out.below yy)
  replace H := hide (HW.below H.out yy)
  replace G := hide (HBR.below G.out yy)
  replace b0 := hide (below_tr b0.out yy)
  clear yy
  have K9 := K9'
  clear K9'
  obtain ⟨la, hla⟩ : ∃ la, (addL es1 es2 e3).length = la := ⟨_, rfl⟩
  have vla : la ≤ 30 := by rw [← hla]; exact addL_len (by rw [N1.out]; exact v1)
  replace hla := hide hla
  have hS4 : Hid (Hs ((es1.map rvE).map (· * rvE e3)) 500000) := Hs_scale S1_.out S3_.out _ (by decide)
  have hS5 : Hid (Hs (addL es1 es2 e3) 500000) := addL_Hs S1_.out S2_.out S3_.out (by decide)
  have hl4 : Hid (((es1.map rvE).map (· * rvE e3)).length = n1) := (by rw [List.length_map, List.length_map]; exact N1.out : _ = _)
  have ZR := hide (show RRaw (w4.alloc (.cells #[.bool e3.1, .slice Z3 n3 cz, .slice Y3 m3 cy] TR)) (.agg #[.bool e3.1, .slice Z3 n3 cz, .slice Y3 m3 cy]) e3 from ⟨_, _, rfl, TA.out.prt, TB.out.prt⟩)
  have ZA := hide (show RArg (w4.alloc (.cells #[.bool e3.1, .slice Z3 n3 cz, .slice Y3 m3 cy] TR)) (.agg #[.bool e3.1, .slice Z3 n3 cz, .slice Y3 m3 cy]) (rvE e3) from ⟨e3.1, e3.2.1, e3.2.2, ⟨_, _, rfl, TA.out.prt, TB.out.prt⟩, by have := TA.out.xs; have := TA.out.len; omega, by have := TB.out.xs; have := TB.out.len; omega, rfl⟩)
  have z0 := K9.out.at_ 0 rfl
  have z1 := K9.out.at_ 1 rfl
  have z2 := K9.out.at_ 2 rfl
  go_wp2_with fail
  refine (Scale_ok _ X1 n1 cx1 (es1.map rvE) e3.1 Z3 n3 cz Y3 m3 cy (rvE e3) TL1.out.argl ZA.out (by omega) (T.out.below b0.out)).mono ?_
  rintro e w5 ⟨u, rfl, d1, O⟩
  obtain ⟨A4, c4, us4, rfl, lu4, r4, el4, ap4⟩ := O.out.parts hS4.out (by rw [hl4.out]; omega)
  have L4 := O.out.lst (by rw [hl4.out]; omega)
  rw [hl4.out] at r4 lu4 L4
  rw [hl4.out]
  have S4 := hide (fun (u : Value) hu => (el4 u hu).shp)
  replace lu4 := hide lu4
  clear z0 z1 z2
  replace H : Hid (HW w.heap.size w5 ([] ++ entsU (0) us1 ++ entsU (0 + 2 * n1 + 1) us2 ++ [⟨Z3, n3, cz, none, 0, 0, 0 + 2 * n1 + 1 + 2 * n2 + 1 + 1⟩] ++ [⟨Y3, m3, cy, none, 0, 0, 0 + 2 * n1 + 1 + 2 * n2 + 1 + 1 + 1⟩] ++ entsU (0 + 2 * n1 + 1 + 2 * n2 + 1 + 1 + 1) us4)) := HW.list H.out d1.out el4 ap4 b0.out.size (by have := lu4.out; omega)
  replace G : Hid (HBR w.heap.size w5.heap.size w5 ([] ++ [⟨X1, n1, cx1, none, 0, 0, 0 + 2 * n1 + 1⟩] ++ [⟨X2, n2, cx2, none, 0, 0, 0 + 2 * n1 + 1 + 2 * n2 + 1⟩] ++ [⟨A4, n1, c4, none, 0, 0, 0 + 2 * n1 + 1 + 2 * n2 + 1 + 1 + 1 + 2 * n1 + 1⟩])) := HBR.next G.out d1.out r4 b0.out.size (by omega) (by omega)
  have RR4 := hide (r4.mono b0.out.size)
  replace L4 := hide L4
  replace K3 := hide (K3.out.below' d1.out)
  replace RR1 := hide (RR1.out.below d1.out)
  replace TL1 := hide (TL1.out.below d1.out)
  replace RR2 := hide (RR2.out.below d1.out)
  replace TL2 := hide (TL2.out.below d1.out)
  replace TA := hide (TA.out.below d1.out)
  replace TB := hide (TB.out.below d1.out)
  replace K9 := hide (K9.out.below' d1.out)
  replace ZR := hide (ZR.out.below d1.out)
  replace ZA := hide (ZA.out.below d1.out)
  replace b0 := hide (below_tr b0.out d1.out)
  clear d1 O r4 el4 ap4
  have z0 := K9.out.at_ 0 rfl
  have z1 := K9.out.at_ 1 rfl
  have z2 := K9.out.at_ 2 rfl
  go_wp2_with fail
  refine (vp_Add (k := 300) TL1.out.lst TL2.out.lst ZR.out S1_.out S2_.out S3_.out (by rw [N1.out]; omega) (by decide) (T.out.below b0.out)).mono ?_
  rintro e w6 ⟨u, rfl, d1, O⟩
  obtain ⟨A5, c5, us5, rfl, lu5, r5, el5, ap5⟩ := O.parts hS5.out (by rw [hla.out]; omega)
  have L5 := O.lst (by rw [hla.out]; omega)
  rw [hla.out] at r5 lu5 L5
  rw [hla.out]
  have S5 := hide (fun (u : Value) hu => (el5 u hu).shp)
  replace lu5 := hide lu5
  rw [hkk.out]
  clear z0 z1 z2
  replace H : Hid (HW w.heap.size w6 ([] ++ entsU (0) us1 ++ entsU (0 + 2 * n1 + 1) us2 ++ [⟨Z3, n3, cz, none, 0, 0, 0 + 2 * n1 + 1 + 2 * n2 + 1 + 1⟩] ++ [⟨Y3, m3, cy, none, 0, 0, 0 + 2 * n1 + 1 + 2 * n2 + 1 + 1 + 1⟩] ++ entsU (0 + 2 * n1 + 1 + 2 * n2 + 1 + 1 + 1) us4 ++ entsU (0 + 2 * n1 + 1 + 2 * n2 + 1 + 1 + 1 + 2 * n1 + 1) us5)) := HW.list H.out d1 el5 ap5 b0.out.size (by have := lu5.out; omega)
  replace G : Hid (HBR w.heap.size w6.heap.size w6 ([] ++ [⟨X1, n1, cx1, none, 0, 0, 0 + 2 * n1 + 1⟩] ++ [⟨X2, n2, cx2, none, 0, 0, 0 + 2 * n1 + 1 + 2 * n2 + 1⟩] ++ [⟨A4, n1, c4, none, 0, 0, 0 + 2 * n1 + 1 + 2 * n2 + 1 + 1 + 1 + 2 * n1 + 1⟩] ++ [⟨A5, la, c5, none, 0, 0, 0 + 2 * n1 + 1 + 2 * n2 + 1 + 1 + 1 + 2 * n1 + 1 + 2 * la + 1⟩])) := HBR.next G.out d1 r5 b0.out.size (by omega) (by omega)
  have RR5 := hide (r5.mono b0.out.size)
  replace L5 := hide L5
  replace K3 := hide (K3.out.below' d1)
  replace RR1 := hide (RR1.out.below d1)
  replace TL1 := hide (TL1.out.below d1)
  replace RR2 := hide (RR2.out.below d1)
  replace TL2 := hide (TL2.out.below d1)
  replace TA := hide (TA.out.below d1)
  replace TB := hide (TB.out.below d1)
  replace K9 := hide (K9.out.below' d1)
  replace ZR := hide (ZR.out.below d1)
  replace ZA := hide (ZA.out.below d1)
  replace RR4 := hide (RR4.out.below d1)
  replace L4 := hide (L4.out.can_below d1)
  replace b0 := hide (below_tr b0.out d1)
  clear d1 O r5 el5 ap5
  have p0 := K3.out.at_ 0 rfl
  have p1 := K3.out.at_ 1 rfl
  have p2 := K3.out.at_ 2 rfl
  go_wp2_with fail
  refine (vq_Add (k := 300) (I1.out.raw_below b0.out) (J1.out.arg_below b0.out) (I2.out.raw_below b0.out) (J2.out.arg_below b0.out) (I3.out.below b0.out) (J3.out.below b0.out) S2_.out S3_.out (by rw [N1.out]; omega) (by decide)).mono ?_
  rintro e w7 ⟨u6, rfl, d1, L6⟩
  obtain ⟨A6, c6, rfl⟩ := L6.sl
  rw [hla.out] at L6
  rw [hla.out, hkk.out]
  clear p0 p1 p2
  replace H := hide (HW.below H.out d1)
  replace G := hide (HBR.below G.out d1)
  replace K3 := hide (K3.out.below' d1)
  replace RR1 := hide (RR1.out.below d1)
  replace TL1 := hide (TL1.out.below d1)
  replace RR2 := hide (RR2.out.below d1)
  replace TL2 := hide (TL2.out.below d1)
  replace TA := hide (TA.out.below d1)
  replace TB := hide (TB.out.below d1)
  replace K9 := hide (K9.out.below' d1)
  replace ZR := hide (ZR.out.below d1)
  replace ZA := hide (ZA.out.below d1)
  replace RR4 := hide (RR4.out.below d1)
  replace L4 := hide (L4.out.can_below d1)
  replace RR5 := hide (RR5.out.below d1)
  replace L5 := hide (L5.out.can_below d1)
  replace b0 := hide (below_tr b0.out d1)
  clear d1
  replace L6 := hide L6
  have p0 := K3.out.at_ 0 rfl
  have p1 := K3.out.at_ 1 rfl
  have p2 := K3.out.at_ 2 rfl
  go_wp2_with fail
  refine (vkScale_P (J1.out.arg_below b0.out) (J3.out.below b0.out) (by rw [List.length_map, N1.out]; omega)).mono ?_
  rintro e w8 ⟨u7, rfl, d1, L7⟩
  obtain ⟨A7, c7, rfl⟩ := L7.sl
  rw [hl4.out] at L7
  rw [hl4.out]
  clear p0 p1 p2
  replace H := hide (HW.below H.out d1)
  replace G := hide (HBR.below G.out d1)
  replace K3 := hide (K3.out.below' d1)
  replace RR1 := hide (RR1.out.below d1)
  replace TL1 := hide (TL1.out.below d1)
  replace RR2 := hide (RR2.out.below d1)
  replace TL2 := hide (TL2.out.below d1)
  replace TA := hide (TA.out.below d1)
  replace TB := hide (TB.out.below d1)
  replace K9 := hide (K9.out.below' d1)
  replace ZR := hide (ZR.out.below d1)
  replace ZA := hide (ZA.out.below d1)
  replace RR4 := hide (RR4.out.below d1)
  replace L4 := hide (L4.out.can_below d1)
  replace RR5 := hide (RR5.out.below d1)
  replace L5 := hide (L5.out.can_below d1)
  replace L6 := hide (L6.out.can_below d1)
  replace b0 := hide (below_tr b0.out d1)
  clear d1
  replace L7 := hide L7
  go_wp2_with fail
  refine (sameRats_yes L4.out L7.out).mono ?_
  rintro e w9 ⟨_, rfl, d1, rfl⟩
  replace H := hide (HW.below H.out d1)
  replace G := hide (HBR.below G.out d1)
  replace K3 := hide (K3.out.below' d1)
  replace RR1 := hide (RR1.out.below d1)
  replace TL1 := hide (TL1.out.below d1)
  replace RR2 := hide (RR2.out.below d1)
  replace TL2 := hide (TL2.out.below d1)
  replace TA := hide (TA.out.below d1)
  replace TB := hide (TB.out.below d1)
  replace K9 := hide (K9.out.below' d1)
  replace ZR := hide (ZR.out.below d1)
  replace ZA := hide (ZA.out.below d1)
  replace RR4 := hide (RR4.out.below d1)
  replace L4 := hide (L4.out.can_below d1)
  replace RR5 := hide (RR5.out.below d1)
  replace L5 := hide (L5.out.can_below d1)
  replace L6 := hide (L6.out.can_below d1)
  replace L7 := hide (L7.out.can_below d1)
  replace b0 := hide (below_tr b0.out d1)
  clear d1
  go_wp2_with fail
  refine (sameRats_yes L5.out L6.out).mono ?_
  rintro e w10 ⟨_, rfl, d1, rfl⟩
  replace H := hide (HW.below H.out d1)
  replace G := hide (HBR.below G.out d1)
  replace K3 := hide (K3.out.below' d1)
  replace RR1 := hide (RR1.out.below d1)
  replace TL1 := hide (TL1.out.below d1)
  replace RR2 := hide (RR2.out.below d1)
  replace TL2 := hide (TL2.out.below d1)
  replace TA := hide (TA.out.below d1)
  replace TB := hide (TB.out.below d1)
  replace K9 := hide (K9.out.below' d1)
  replace ZR := hide (ZR.out.below d1)
  replace ZA := hide (ZA.out.below d1)
  replace RR4 := hide (RR4.out.below d1)
  replace L4 := hide (L4.out.can_below d1)
  replace RR5 := hide (RR5.out.below d1)
  replace L5 := hide (L5.out.can_below d1)
  replace L6 := hide (L6.out.can_below d1)
  replace L7 := hide (L7.out.can_below d1)
  replace b0 := hide (below_tr b0.out d1)
  clear d1
  go_wp2_with fail
  refine (leftRats_ok TL1.out (I1.out.raw_below b0.out)).mono ?_
  rintro e w11 ⟨_, rfl, d1, rfl⟩
  replace H := hide (HW.below H.out d1)
  replace G := hide (HBR.below G.out d1)
  replace K3 := hide (K3.out.below' d1)
  replace RR1 := hide (RR1.out.below d1)
  replace TL1 := hide (TL1.out.below d1)
  replace RR2 := hide (RR2.out.below d1)
  replace TL2 := hide (TL2.out.below d1)
  replace TA := hide (TA.out.below d1)
  replace TB := hide (TB.out.below d1)
  replace K9 := hide (K9.out.below' d1)
  replace ZR := hide (ZR.out.below d1)
  replace ZA := hide (ZA.out.below d1)
  replace RR4 := hide (RR4.out.below d1)
  replace L4 := hide (L4.out.can_below d1)
  replace RR5 := hide (RR5.out.below d1)
  replace L5 := hide (L5.out.can_below d1)
  replace L6 := hide (L6.out.can_below d1)
  replace L7 := hide (L7.out.can_below d1)
  replace b0 := hide (below_tr b0.out d1)
  clear d1
  go_wp2_with fail
  refine (leftRats_ok TL2.out (I2.out.raw_below b0.out)).mono ?_
  rintro e w12 ⟨_, rfl, d1, rfl⟩
  replace H := hide (HW.below H.out d1)
  replace G := hide (HBR.below G.out d1)
  replace K3 := hide (K3.out.below' d1)
  replace RR1 := hide (RR1.out.below d1)
  replace TL1 := hide (TL1.out.below d1)
  replace RR2 := hide (RR2.out.below d1)
  replace TL2 := hide (TL2.out.below d1)
  replace TA := hide (TA.out.below d1)
  replace TB := hide (TB.out.below d1)
  replace K9 := hide (K9.out.below' d1)
  replace ZR := hide (ZR.out.below d1)
  replace ZA := hide (ZA.out.below d1)
  replace RR4 := hide (RR4.out.below d1)
  replace L4 := hide (L4.out.can_below d1)
  replace RR5 := hide (RR5.out.below d1)
  replace L5 := hide (L5.out.can_below d1)
  replace L6 := hide (L6.out.can_below d1)
  replace L7 := hide (L7.out.can_below d1)
  replace b0 := hide (below_tr b0.out d1)
  clear d1
  have p0 := K3.out.at_ 0 rfl
  have p1 := K3.out.at_ 1 rfl
  have p2 := K3.out.at_ 2 rfl
  have z0 := K9.out.at_ 0 rfl
  have z1 := K9.out.at_ 1 rfl
  have z2 := K9.out.at_ 2 rfl
  go_wp2_with fail
  refine (rp_left TA.out TB.out (eb.out.2.2.2.1.below b0.out) (eb.out.2.2.2.2.below b0.out)).mono ?_
  rintro e w13 ⟨_, rfl, d1, rfl⟩
  clear p0 p1 p2 z0 z1 z2
  replace H := hide (HW.below H.out d1)
  replace G := hide (HBR.below G.out d1)
  replace K3 := hide (K3.out.below' d1)
  replace RR1 := hide (RR1.out.below d1)
  replace TL1 := hide (TL1.out.below d1)
  replace RR2 := hide (RR2.out.below d1)
  replace TL2 := hide (TL2.out.below d1)
  replace TA := hide (TA.out.below d1)
  replace TB := hide (TB.out.below d1)
  replace K9 := hide (K9.out.below' d1)
  replace ZR := hide (ZR.out.below d1)
  replace ZA := hide (ZA.out.below d1)
  replace RR4 := hide (RR4.out.below d1)
  replace L4 := hide (L4.out.can_below d1)
  replace RR5 := hide (RR5.out.below d1)
  replace L5 := hide (L5.out.can_below d1)
  replace L6 := hide (L6.out.can_below d1)
  replace L7 := hide (L7.out.can_below d1)
  replace b0 := hide (below_tr b0.out d1)
  clear d1
  clear I1 I2 I3 J1 J2 J3 S1_ S2_ S3_ SM1 SM2 N1 N2 hkk hla hS4 hS5 hl4 eb T
  clear K3
  clear TL1
  clear TL2
  clear TA
  clear TB
  clear ZR
  clear ZA
  clear L4
  clear L5
  clear L6
  clear L7
  have bB := hide b0.out.size
  have K : Hid (BookF w.heap.size (w13.alloc (.cells #[.int .i64 0, .slice none 0 0, .slice none 0 0, .slice none 0 0, .slice none 0 0, .slice none 0 0, .slice none 0 0, .slice none 0 0, .slice none 0 0, .slice none 0 0, .slice none 0 0, .slice none 0 0, .slice none 0 0] TBK)) w13.heap.size 0 (.slice none 0 0) (.slice none 0 0) [] []) := BookF.new bB.out
  obtain ⟨hi, hhi⟩ : ∃ hi, hi = w13.heap.size := ⟨_, rfl⟩
  have H0 : HB w.heap.size w13.heap.size w13 ([] ++ entsU (0) us1 ++ entsU (0 + 2 * n1 + 1) us2 ++ [⟨Z3, n3, cz, none, 0, 0, 0 + 2 * n1 + 1 + 2 * n2 + 1 + 1⟩] ++ [⟨Y3, m3, cy, none, 0, 0, 0 + 2 * n1 + 1 + 2 * n2 + 1 + 1 + 1⟩] ++ entsU (0 + 2 * n1 + 1 + 2 * n2 + 1 + 1 + 1) us4 ++ entsU (0 + 2 * n1 + 1 + 2 * n2 + 1 + 1 + 1 + 2 * n1 + 1) us5) := H.out
  have G0 : HBR w.heap.size w13.heap.size w13 ([] ++ [⟨X1, n1, cx1, none, 0, 0, 0 + 2 * n1 + 1⟩] ++ [⟨X2, n2, cx2, none, 0, 0, 0 + 2 * n1 + 1 + 2 * n2 + 1⟩] ++ [⟨A4, n1, c4, none, 0, 0, 0 + 2 * n1 + 1 + 2 * n2 + 1 + 1 + 1 + 2 * n1 + 1⟩] ++ [⟨A5, la, c5, none, 0, 0, 0 + 2 * n1 + 1 + 2 * n2 + 1 + 1 + 1 + 2 * n1 + 1 + 2 * la + 1⟩]) := G.out
  rw [← hhi] at H0 G0
  replace hhi := hide hhi
  have dB := hide ((Below.refl w13.heap.size w13).alloc (Nat.le_refl _) (.cells #[.int .i64 0, .slice none 0 0, .slice none 0 0, .slice none 0 0, .slice none 0 0, .slice none 0 0, .slice none 0 0, .slice none 0 0, .slice none 0 0, .slice none 0 0, .slice none 0 0, .slice none 0 0, .slice none 0 0] TBK))
  replace H : Hid (HB w.heap.size hi (w13.alloc (.cells #[.int .i64 0, .slice none 0 0, .slice none 0 0, .slice none 0 0, .slice none 0 0, .slice none 0 0, .slice none 0 0, .slice none 0 0, .slice none 0 0, .slice none 0 0, .slice none 0 0, .slice none 0 0, .slice none 0 0] TBK)) ([] ++ entsU (0) us1 ++ entsU (0 + 2 * n1 + 1) us2 ++ [⟨Z3, n3, cz, none, 0, 0, 0 + 2 * n1 + 1 + 2 * n2 + 1 + 1⟩] ++ [⟨Y3, m3, cy, none, 0, 0, 0 + 2 * n1 + 1 + 2 * n2 + 1 + 1 + 1⟩] ++ entsU (0 + 2 * n1 + 1 + 2 * n2 + 1 + 1 + 1) us4 ++ entsU (0 + 2 * n1 + 1 + 2 * n2 + 1 + 1 + 1 + 2 * n1 + 1) us5)) := H0.bel dB.out
  replace G : Hid (HBR w.heap.size hi (w13.alloc (.cells #[.int .i64 0, .slice none 0 0, .slice none 0 0, .slice none 0 0, .slice none 0 0, .slice none 0 0, .slice none 0 0, .slice none 0 0, .slice none 0 0, .slice none 0 0, .slice none 0 0, .slice none 0 0, .slice none 0 0] TBK)) ([] ++ [⟨X1, n1, cx1, none, 0, 0, 0 + 2 * n1 + 1⟩] ++ [⟨X2, n2, cx2, none, 0, 0, 0 + 2 * n1 + 1 + 2 * n2 + 1⟩] ++ [⟨A4, n1, c4, none, 0, 0, 0 + 2 * n1 + 1 + 2 * n2 + 1 + 1 + 1 + 2 * n1 + 1⟩] ++ [⟨A5, la, c5, none, 0, 0, 0 + 2 * n1 + 1 + 2 * n2 + 1 + 1 + 1 + 2 * n1 + 1 + 2 * la + 1⟩])) := G0.bel dB.out
  replace RR1 := hide (RR1.out.below dB.out)
  replace RR2 := hide (RR2.out.below dB.out)
  replace K9 := hide (K9.out.below' dB.out)
  replace RR4 := hide (RR4.out.below dB.out)
  replace RR5 := hide (RR5.out.below dB.out)
  replace b0 := hide (below_tr b0.out dB.out)
  clear dB H0 G0 bB
  go_wp2_with fail
  obtain ⟨V, hV⟩ : ∃ V, w13.alloc (.cells #[.int .i64 0, .slice none 0 0, .slice none 0 0, .slice none 0 0, .slice none 0 0, .slice none 0 0, .slice none 0 0, .slice none 0 0, .slice none 0 0, .slice none 0 0, .slice none 0 0, .slice none 0 0, .slice none 0 0] TBK) = V := ⟨_, rfl⟩
  obtain ⟨g, hg⟩ : ∃ g, w13.heap.size = g := ⟨_, rfl⟩
  rw [hV, hg] at K
  rw [hV] at b0 H G RR1 RR2 RR4 RR5 K9
  rw [hV, hg]
  clear hV hg hhi
  refine (bookRats_F _ w.heap.size g (0) _ _ ([]) ([]) b0.out.size K.out X1 n1 cx1 us1 RR1.out lu1.out S1.out (by omega) (by simp only [List.length_append, List.length_cons, List.length_nil, entsU_len _ _ S1.out, lu1.out, entsU_len _ _ S2.out, lu2.out, entsU_len _ _ S4.out, lu4.out, entsU_len _ _ S5.out, lu5.out]; omega) (by simp)).mono ?_
  rintro e W0 ⟨⟨_, rfl⟩, k1, v0, u0_, k2⟩
  replace K := hide k2
  replace H := hide (H.out.kpF k1)
  replace G := hide (G.out.kp k1)
  replace b0 := hide (b0.out.trans k1.base)
  replace K9 := hide (k1.nums _ _ _ (by decide) (by decide) (by decide) K9.out)
  replace RR1 := hide (RR1.out.keep fun g cs _ hk => k1.nums g _ cs (by decide) (by decide) (by decide) hk)
  replace RR2 := hide (RR2.out.keep fun g cs _ hk => k1.nums g _ cs (by decide) (by decide) (by decide) hk)
  replace RR4 := hide (RR4.out.keep fun g cs _ hk => k1.nums g _ cs (by decide) (by decide) (by decide) hk)
  replace RR5 := hide (RR5.out.keep fun g cs _ hk => k1.nums g _ cs (by decide) (by decide) (by decide) hk)
  clear k1 k2
  go_wp2_with fail
  refine (bookRats_F _ w.heap.size g (0 + 2 * n1 + 1) _ _ ([] ++ entsU (0) us1) ([] ++ [⟨X1, n1, cx1, none, 0, 0, 0 + 2 * n1 + 1⟩]) b0.out.size K.out X2 n2 cx2 us2 RR2.out lu2.out S2.out (by omega) (by simp only [List.length_append, List.length_cons, List.length_nil, entsU_len _ _ S1.out, lu1.out, entsU_len _ _ S2.out, lu2.out, entsU_len _ _ S4.out, lu4.out, entsU_len _ _ S5.out, lu5.out]; omega) (by simp)).mono ?_
  rintro e W1 ⟨⟨_, rfl⟩, k1, v1, u1_, k2⟩
  replace K := hide k2
  replace H := hide (H.out.kpF k1)
  replace G := hide (G.out.kp k1)
  replace b0 := hide (b0.out.trans k1.base)
  replace K9 := hide (k1.nums _ _ _ (by decide) (by decide) (by decide) K9.out)
  replace RR1 := hide (RR1.out.keep fun g cs _ hk => k1.nums g _ cs (by decide) (by decide) (by decide) hk)
  replace RR2 := hide (RR2.out.keep fun g cs _ hk => k1.nums g _ cs (by decide) (by decide) (by decide) hk)
  replace RR4 := hide (RR4.out.keep fun g cs _ hk => k1.nums g _ cs (by decide) (by decide) (by decide) hk)
  replace RR5 := hide (RR5.out.keep fun g cs _ hk => k1.nums g _ cs (by decide) (by decide) (by decide) hk)
  clear k1 k2
  have z0 := K9.out.at_ 0 rfl
  have z1 := K9.out.at_ 1 rfl
  have z2 := K9.out.at_ 2 rfl
  go_wp2_with fail
  refine (bookRat_F _ w.heap.size g (0 + 2 * n1 + 1 + 2 * n2 + 1) _ _ ([] ++ entsU (0) us1 ++ entsU (0 + 2 * n1 + 1) us2) ([] ++ [⟨X1, n1, cx1, none, 0, 0, 0 + 2 * n1 + 1⟩] ++ [⟨X2, n2, cx2, none, 0, 0, 0 + 2 * n1 + 1 + 2 * n2 + 1⟩]) b0.out.size K.out e3.1 Z3 n3 cz Y3 m3 cy (by omega) (by simp only [List.length_append, List.length_cons, List.length_nil, entsU_len _ _ S1.out, lu1.out, entsU_len _ _ S2.out, lu2.out, entsU_len _ _ S4.out, lu4.out, entsU_len _ _ S5.out, lu5.out]; omega)).mono ?_
  rintro e W2 ⟨⟨_, rfl⟩, k1, v2, k2⟩
  replace K := hide k2
  replace H := hide (H.out.kpF k1)
  replace G := hide (G.out.kp k1)
  replace b0 := hide (b0.out.trans k1.base)
  clear z0 z1 z2
  replace K9 := hide (k1.nums _ _ _ (by decide) (by decide) (by decide) K9.out)
  replace RR1 := hide (RR1.out.keep fun g cs _ hk => k1.nums g _ cs (by decide) (by decide) (by decide) hk)
  replace RR2 := hide (RR2.out.keep fun g cs _ hk => k1.nums g _ cs (by decide) (by decide) (by decide) hk)
  replace RR4 := hide (RR4.out.keep fun g cs _ hk => k1.nums g _ cs (by decide) (by decide) (by decide) hk)
  replace RR5 := hide (RR5.out.keep fun g cs _ hk => k1.nums g _ cs (by decide) (by decide) (by decide) hk)
  clear k1 k2
  go_wp2_with fail
  refine (bookRats_F _ w.heap.size g (0 + 2 * n1 + 1 + 2 * n2 + 1 + 1 + 1) _ _ ([] ++ entsU (0) us1 ++ entsU (0 + 2 * n1 + 1) us2 ++ [⟨Z3, n3, cz, none, 0, 0, 0 + 2 * n1 + 1 + 2 * n2 + 1 + 1⟩] ++ [⟨Y3, m3, cy, none, 0, 0, 0 + 2 * n1 + 1 + 2 * n2 + 1 + 1 + 1⟩]) ([] ++ [⟨X1, n1, cx1, none, 0, 0, 0 + 2 * n1 + 1⟩] ++ [⟨X2, n2, cx2, none, 0, 0, 0 + 2 * n1 + 1 + 2 * n2 + 1⟩]) b0.out.size K.out A4 n1 c4 us4 RR4.out lu4.out S4.out (by omega) (by simp only [List.length_append, List.length_cons, List.length_nil, entsU_len _ _ S1.out, lu1.out, entsU_len _ _ S2.out, lu2.out, entsU_len _ _ S4.out, lu4.out, entsU_len _ _ S5.out, lu5.out]; omega) (by simp)).mono ?_
  rintro e W3 ⟨⟨_, rfl⟩, k1, v3, u3_, k2⟩
  replace K := hide k2
  replace H := hide (H.out.kpF k1)
  replace G := hide (G.out.kp k1)
  replace b0 := hide (b0.out.trans k1.base)
  replace K9 := hide (k1.nums _ _ _ (by decide) (by decide) (by decide) K9.out)
  replace RR1 := hide (RR1.out.keep fun g cs _ hk => k1.nums g _ cs (by decide) (by decide) (by decide) hk)
  replace RR2 := hide (RR2.out.keep fun g cs _ hk => k1.nums g _ cs (by decide) (by decide) (by decide) hk)
  replace RR4 := hide (RR4.out.keep fun g cs _ hk => k1.nums g _ cs (by decide) (by decide) (by decide) hk)
  replace RR5 := hide (RR5.out.keep fun g cs _ hk => k1.nums g _ cs (by decide) (by decide) (by decide) hk)
  clear k1 k2
  go_wp2_with fail
  refine (bookRats_F _ w.heap.size g (0 + 2 * n1 + 1 + 2 * n2 + 1 + 1 + 1 + 2 * n1 + 1) _ _ ([] ++ entsU (0) us1 ++ entsU (0 + 2 * n1 + 1) us2 ++ [⟨Z3, n3, cz, none, 0, 0, 0 + 2 * n1 + 1 + 2 * n2 + 1 + 1⟩] ++ [⟨Y3, m3, cy, none, 0, 0, 0 + 2 * n1 + 1 + 2 * n2 + 1 + 1 + 1⟩] ++ entsU (0 + 2 * n1 + 1 + 2 * n2 + 1 + 1 + 1) us4) ([] ++ [⟨X1, n1, cx1, none, 0, 0, 0 + 2 * n1 + 1⟩] ++ [⟨X2, n2, cx2, none, 0, 0, 0 + 2 * n1 + 1 + 2 * n2 + 1⟩] ++ [⟨A4, n1, c4, none, 0, 0, 0 + 2 * n1 + 1 + 2 * n2 + 1 + 1 + 1 + 2 * n1 + 1⟩]) b0.out.size K.out A5 la c5 us5 RR5.out lu5.out S5.out (by omega) (by simp only [List.length_append, List.length_cons, List.length_nil, entsU_len _ _ S1.out, lu1.out, entsU_len _ _ S2.out, lu2.out, entsU_len _ _ S4.out, lu4.out, entsU_len _ _ S5.out, lu5.out]; omega) (by simp)).mono ?_
  rintro e W4 ⟨⟨_, rfl⟩, k1, v4, u4_, k2⟩
  replace K := hide k2
  replace H := hide (H.out.kpF k1)
  replace G := hide (G.out.kp k1)
  replace b0 := hide (b0.out.trans k1.base)
  replace K9 := hide (k1.nums _ _ _ (by decide) (by decide) (by decide) K9.out)
  replace RR1 := hide (RR1.out.keep fun g cs _ hk => k1.nums g _ cs (by decide) (by decide) (by decide) hk)
  replace RR2 := hide (RR2.out.keep fun g cs _ hk => k1.nums g _ cs (by decide) (by decide) (by decide) hk)
  replace RR4 := hide (RR4.out.keep fun g cs _ hk => k1.nums g _ cs (by decide) (by decide) (by decide) hk)
  replace RR5 := hide (RR5.out.keep fun g cs _ hk => k1.nums g _ cs (by decide) (by decide) (by decide) hk)
  clear k1 k2
  go_wp2_with fail
  refine (Apart_F _ w.heap.size g (0 + 2 * n1 + 1 + 2 * n2 + 1 + 1 + 1 + 2 * n1 + 1 + 2 * la + 1) hi hi _ _ ([] ++ entsU (0) us1 ++ entsU (0 + 2 * n1 + 1) us2 ++ [⟨Z3, n3, cz, none, 0, 0, 0 + 2 * n1 + 1 + 2 * n2 + 1 + 1⟩] ++ [⟨Y3, m3, cy, none, 0, 0, 0 + 2 * n1 + 1 + 2 * n2 + 1 + 1 + 1⟩] ++ entsU (0 + 2 * n1 + 1 + 2 * n2 + 1 + 1 + 1) us4 ++ entsU (0 + 2 * n1 + 1 + 2 * n2 + 1 + 1 + 1 + 2 * n1 + 1) us5) ([] ++ [⟨X1, n1, cx1, none, 0, 0, 0 + 2 * n1 + 1⟩] ++ [⟨X2, n2, cx2, none, 0, 0, 0 + 2 * n1 + 1 + 2 * n2 + 1⟩] ++ [⟨A4, n1, c4, none, 0, 0, 0 + 2 * n1 + 1 + 2 * n2 + 1 + 1 + 1 + 2 * n1 + 1⟩] ++ [⟨A5, la, c5, none, 0, 0, 0 + 2 * n1 + 1 + 2 * n2 + 1 + 1 + 1 + 2 * n1 + 1 + 2 * la + 1⟩]) b0.out.size K.out H.out G.out (by simp only [List.length_append, List.length_cons, List.length_nil, entsU_len _ _ S1.out, lu1.out, entsU_len _ _ S2.out, lu2.out, entsU_len _ _ S4.out, lu4.out, entsU_len _ _ S5.out, lu5.out]; omega) (by simp)).mono ?_
  rintro e WW ⟨rfl, k1⟩
  replace b0 := hide (b0.out.trans k1)
  clear k1 K H G
  go_wp2
  exact opq_end hR ⟨rfl, b0⟩
end Go.Proofs.YtkefmeddnncacaaGreatDoor
