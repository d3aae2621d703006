/- the laws of vecs: VecsDots. -/
import Derived.Test.YtkefmeddnncacaaGreatDoorTW
set_option linter.unusedVariables false
set_option linter.unusedSimpArgs false
set_option maxRecDepth 100000
namespace Go.Proofs.YtkefmeddnncacaaGreatDoor
open Go.RowKit

set_option maxHeartbeats 8000000 in
theorem VecsDots_ok (w : World) (A1 : Option Addr) (n1 c1 : Nat) (es1 : List Raw) (A2 : Option Addr) (n2 c2 : Nat) (es2 : List Raw) (h1 : Lst RRw w (.slice A1 n1 c1) es1) (h2 : Lst RRw w (.slice A2 n2 c2) es2) (hT : Tab w) :
    Calls Tryz.prog 5 #[.slice A1 n1 c1, .slice A2 n2 c2] w fun e w' => e = .returned (.bool true) ∧ Hid (Below w.heap.size w w') := by
  refine opq fun R hR => ?_
  have T := hide hT
  clear hT
  replace h1 := hide h1
  replace h2 := hide h2
  go_enter Tryz.func5, Tryz.ntmps5
  have GE := hide (show ∀ x ∈ ([gl A1 n1 c1 es1, gl A2 n2 c2 es2] : List GL), Lst RRw w (slv x) x.2 from (List.forall_mem_cons.2 ⟨h1.out, (List.forall_mem_cons.2 ⟨h2.out, (fun x hx => by simp at hx)⟩)⟩))
  have b1 := hide ((Below.refl w.heap.size w).alloc (Nat.le_refl _) (.cells #[.slice A1 n1 c1, .slice A2 n2 c2] 56))
  have GC := hide (fun (r : Bool) (hr : ([gl A1 n1 c1 es1, gl A2 n2 c2 es2] : List GL).any gr = r) => vgreat_L (w := w) [gl A1 n1 c1 es1, gl A2 n2 c2 es2] #[.slice A1 n1 c1, .slice A2 n2 c2] rfl (g := w.heap.size) rfl (t := 56) GE.out 2 rfl (by decide) r hr)
  clear GE
  by_cases gg : ([gl A1 n1 c1 es1, gl A2 n2 c2 es2] : List GL).any gr = true
  · replace gg := hide gg
    go_wp2_with fail
    refine (GC.out true gg.out).mono ?_
    rintro e w1 ⟨_, rfl, d0, rfl⟩
    have b0 := hide (below_tr b1.out d0)
    clear d0
    go_wp2
    exact opq_end hR ⟨rfl, b0⟩
  replace gg : Hid (([gl A1 n1 c1 es1, gl A2 n2 c2 es2] : List GL).any gr = false) := (by simpa using gg : ([gl A1 n1 c1 es1, gl A2 n2 c2 es2] : List GL).any gr = false)
  go_wp2_with fail
  refine (GC.out false gg.out).mono ?_
  rintro e w1 ⟨_, rfl, d0, rfl⟩
  have b0 := hide (below_tr b1.out d0)
  clear d0 GC b1
  have M1 : n1 ≤ 30 ∧ tsz es1 ≤ 300 := any_false gg.out (gl A1 n1 c1 es1) (by simp)
  have M2 : n2 ≤ 30 ∧ tsz es2 ≤ 300 := any_false gg.out (gl A2 n2 c2 es2) (by simp)
  have I1 := hide (h1.out.rawW 300 M1.2 (by decide)).1
  have S1_ := hide (h1.out.rawW 300 M1.2 (by decide)).2
  have J1 := hide (h1.out.argW 300 M1.2 (by decide))
  have N1 : Hid (es1.length = n1) := h1.out.len
  have I2 := hide (h2.out.rawW 300 M2.2 (by decide)).1
  have S2_ := hide (h2.out.rawW 300 M2.2 (by decide)).2
  have J2 := hide (h2.out.argW 300 M2.2 (by decide))
  have N2 : Hid (es2.length = n2) := h2.out.len
  have SM1 := hide (smE M1.2)
  have SM2 := hide (smE M2.2)
  have v1 : n1 ≤ 30 := M1.1
  have v2 : n2 ≤ 30 := M2.1
  obtain ⟨kk, hkk⟩ : ∃ kk, dotK es1 es2 = kk := ⟨_, rfl⟩
  replace hkk := hide hkk
  obtain ⟨rc, hrc⟩ : ∃ rc, es1.all rk = rc := ⟨_, rfl⟩
  replace hrc := hide hrc
  obtain ⟨rs, hrs⟩ : ∃ rs, sameB es1 es2 = rs := ⟨_, rfl⟩
  replace hrs := hide hrs
  have LD : Hid (L (dotZ es1 es2).natAbs ≤ 500000 ∧ L (dotN es1 es2) ≤ 500000) := dot_L (k := 300) (n := 30) S1_.out S2_.out (by rw [N1.out]; exact v1) (by decide)
  have HK : Hid (1 + es1.length * (2 * 300 + 1) ≤ 100000000000) := (by rw [N1.out]; omega : _ ≤ _)
  clear gg M1 M2 h1 h2
  have H : Hid (HW w.heap.size w1 []) := HW.nil _ _
  have G : Hid (HBR w.heap.size w1.heap.size w1 []) := HBR.nil _ _ _
  go_wp2_with fail
  refine (twinRats_n N1.out (I1.out.raw_below b0.out) (by omega) SM1.out).mono ?_
  rintro e w2 ⟨X1, cx1, us1, rfl, d1, TL1⟩
  have lu1 := hide TL1.lu
  have S1 := hide (fun (u : Value) hu => (TL1.elB u hu).shp)
  replace H : Hid (HW w.heap.size w2 ([] ++ entsU (0) us1)) := HW.list H.out d1 TL1.elB TL1.ap b0.out.size (by have := lu1.out; omega)
  replace G : Hid (HBR w.heap.size w2.heap.size w2 ([] ++ [⟨X1, n1, cx1, none, 0, 0, 0 + 2 * n1 + 1⟩])) := HBR.next G.out d1 TL1.rrow b0.out.size (by omega) (by omega)
  have RR1 := hide (TL1.rrow.mono b0.out.size)
  replace TL1 := hide TL1
  replace b0 := hide (below_tr b0.out d1)
  clear d1
  go_wp2_with fail
  refine (twinRats_n N2.out (I2.out.raw_below b0.out) (by omega) SM2.out).mono ?_
  rintro e w3 ⟨X2, cx2, us2, rfl, d1, TL2⟩
  have lu2 := hide TL2.lu
  have S2 := hide (fun (u : Value) hu => (TL2.elB u hu).shp)
  replace H : Hid (HW w.heap.size w3 ([] ++ entsU (0) us1 ++ entsU (0 + 2 * n1 + 1) us2)) := HW.list H.out d1 TL2.elB TL2.ap b0.out.size (by have := lu2.out; omega)
  replace G : Hid (HBR w.heap.size w3.heap.size w3 ([] ++ [⟨X1, n1, cx1, none, 0, 0, 0 + 2 * n1 + 1⟩] ++ [⟨X2, n2, cx2, none, 0, 0, 0 + 2 * n1 + 1 + 2 * n2 + 1⟩])) := HBR.next G.out d1 TL2.rrow b0.out.size (by omega) (by omega)
  have RR2 := hide (TL2.rrow.mono b0.out.size)
  replace TL2 := hide TL2
  replace RR1 := hide (RR1.out.below d1)
  replace TL1 := hide (TL1.out.below d1)
  replace b0 := hide (below_tr b0.out d1)
  clear d1
  go_wp2_with fail
  refine (vp_Dot (k := 300) TL1.out.lst TL2.out.lst S1_.out S2_.out HK.out (T.out.below b0.out)).mono ?_
  rintro e w4 ⟨s4, A4, n4, c4, D4, m4, k4, rfl, d1, r4⟩
  rw [hkk.out]
  replace H : Hid (HW w.heap.size w4 ([] ++ entsU (0) us1 ++ entsU (0 + 2 * n1 + 1) us2 ++ [⟨A4, n4, c4, none, 0, 0, 0 + 2 * n1 + 1 + 2 * n2 + 1 + 1⟩] ++ [⟨D4, m4, k4, none, 0, 0, 0 + 2 * n1 + 1 + 2 * n2 + 1 + 1 + 1⟩])) := PR.next H.out d1 r4 b0.out.size LD.out.1 LD.out.2 (by omega) (by omega)
  replace G := hide (HBR.below G.out d1)
  replace RR1 := hide (RR1.out.below d1)
  replace TL1 := hide (TL1.out.below d1)
  replace RR2 := hide (RR2.out.below d1)
  replace TL2 := hide (TL2.out.below d1)
  replace b0 := hide (below_tr b0.out d1)
  clear d1
  replace r4 := hide r4
  have yy : Below w4.heap.size w4 (w4.alloc (.cells #[.bool s4, .slice A4 n4 c4, .slice D4 m4 k4] TR)) := (Below.refl _ _).alloc (Nat.le_refl _) _
  have K4' := hide (Blk.new w4 TR #[.bool s4, .slice A4 n4 c4, .slice D4 m4 k4])
  replace RR1 := hide (RR1.out.below yy)
  replace TL1 := hide (TL1.out.below yy)
  replace RR2 := hide (RR2.out.below yy)
  replace TL2 := hide (TL2.out.below yy)
  replace r4 := hide (r4.out.below yy)
  replace H := hide (HW.below H.out yy)
  replace G := hide (HBR.below G.out yy)
  replace b0 := hide (below_tr b0.out yy)
  clear yy
  have K4 := K4'
  clear K4'
  go_wp2_with fail
  refine (vp_Dot (k := 300) TL1.out.lst TL2.out.lst S1_.out S2_.out HK.out (T.out.below b0.out)).mono ?_
  rintro e w5 ⟨s5, A5, n5, c5, D5, m5, k5, rfl, d1, r5⟩
  rw [hkk.out]
  replace H : Hid (HW w.heap.size w5 ([] ++ entsU (0) us1 ++ entsU (0 + 2 * n1 + 1) us2 ++ [⟨A4, n4, c4, none, 0, 0, 0 + 2 * n1 + 1 + 2 * n2 + 1 + 1⟩] ++ [⟨D4, m4, k4, none, 0, 0, 0 + 2 * n1 + 1 + 2 * n2 + 1 + 1 + 1⟩] ++ [⟨A5, n5, c5, none, 0, 0, 0 + 2 * n1 + 1 + 2 * n2 + 1 + 1 + 1 + 1⟩] ++ [⟨D5, m5, k5, none, 0, 0, 0 + 2 * n1 + 1 + 2 * n2 + 1 + 1 + 1 + 1 + 1⟩])) := PR.next H.out d1 r5 b0.out.size LD.out.1 LD.out.2 (by omega) (by omega)
  replace G := hide (HBR.below G.out d1)
  replace RR1 := hide (RR1.out.below d1)
  replace TL1 := hide (TL1.out.below d1)
  replace RR2 := hide (RR2.out.below d1)
  replace TL2 := hide (TL2.out.below d1)
  replace r4 := hide (r4.out.below d1)
  replace K4 := hide (K4.out.below' d1)
  replace b0 := hide (below_tr b0.out d1)
  clear d1
  replace r5 := hide r5
  have yy : Below w5.heap.size w5 (w5.alloc (.cells #[.bool s5, .slice A5 n5 c5, .slice D5 m5 k5] TR)) := (Below.refl _ _).alloc (Nat.le_refl _) _
  have K5' := hide (Blk.new w5 TR #[.bool s5, .slice A5 n5 c5, .slice D5 m5 k5])
  replace RR1 := hide (RR1.out.below yy)
  replace TL1 := hide (TL1.out.below yy)
  replace RR2 := hide (RR2.out.below yy)
  replace TL2 := hide (TL2.out.below yy)
  replace r4 := hide (r4.out.below yy)
  replace K4 := hide (K4.out.below' yy)
  replace r5 := hide (r5.out.below yy)
  replace H := hide (HW.below H.out yy)
  replace G := hide (HBR.below G.out yy)
  replace b0 := hide (below_tr b0.out yy)
  clear yy
  have K5 := K5'
  clear K5'
  go_wp2_with fail
  refine (vq_Dot (k := 300) (I1.out.raw_below b0.out) (J1.out.arg_below b0.out) (I2.out.raw_below b0.out) (J2.out.arg_below b0.out) S1_.out S2_.out HK.out).mono ?_
  rintro e w6 ⟨s6, A6, n6, c6, D6, m6, k6, rfl, d1, r6⟩
  rw [hkk.out]
  replace H := hide (HW.below H.out d1)
  replace G := hide (HBR.below G.out d1)
  replace RR1 := hide (RR1.out.below d1)
  replace TL1 := hide (TL1.out.below d1)
  replace RR2 := hide (RR2.out.below d1)
  replace TL2 := hide (TL2.out.below d1)
  replace r4 := hide (r4.out.below d1)
  replace K4 := hide (K4.out.below' d1)
  replace r5 := hide (r5.out.below d1)
  replace K5 := hide (K5.out.below' d1)
  replace b0 := hide (below_tr b0.out d1)
  clear d1
  replace r6 := hide r6
  have yy : Below w6.heap.size w6 (w6.alloc (.cells #[.bool s6, .slice A6 n6 c6, .slice D6 m6 k6] TR)) := (Below.refl _ _).alloc (Nat.le_refl _) _
  have K6' := hide (Blk.new w6 TR #[.bool s6, .slice A6 n6 c6, .slice D6 m6 k6])
  replace RR1 := hide (RR1.out.below yy)
  replace TL1 := hide (TL1.out.below yy)
  replace RR2 := hide (RR2.out.below yy)
  replace TL2 := hide (TL2.out.below yy)
  replace r4 := hide (r4.out.below yy)
  replace K4 := hide (K4.out.below' yy)
  replace r5 := hide (r5.out.below yy)
  replace K5 := hide (K5.out.below' yy)
  replace r6 := hide (r6.out.below yy)
  replace H := hide (HW.below H.out yy)
  replace G := hide (HBR.below G.out yy)
  replace b0 := hide (below_tr b0.out yy)
  clear yy
  have K6 := K6'
  clear K6'
  have x40 := K4.out.at_ 0 rfl
  have x41 := K4.out.at_ 1 rfl
  have x42 := K4.out.at_ 2 rfl
  have x60 := K6.out.at_ 0 rfl
  have x61 := K6.out.at_ 1 rfl
  have x62 := K6.out.at_ 2 rfl
  go_wp2_with fail
  refine (same_PR r4.out r6.out).mono ?_
  rintro e w7 ⟨_, rfl, d1, rfl⟩
  clear x40 x41 x42 x60 x61 x62
  replace H := hide (HW.below H.out d1)
  replace G := hide (HBR.below G.out d1)
  replace RR1 := hide (RR1.out.below d1)
  replace TL1 := hide (TL1.out.below d1)
  replace RR2 := hide (RR2.out.below d1)
  replace TL2 := hide (TL2.out.below d1)
  replace r4 := hide (r4.out.below d1)
  replace K4 := hide (K4.out.below' d1)
  replace r5 := hide (r5.out.below d1)
  replace K5 := hide (K5.out.below' d1)
  replace r6 := hide (r6.out.below d1)
  replace K6 := hide (K6.out.below' d1)
  replace b0 := hide (below_tr b0.out d1)
  clear d1
  have x50 := K5.out.at_ 0 rfl
  have x51 := K5.out.at_ 1 rfl
  have x52 := K5.out.at_ 2 rfl
  have x60 := K6.out.at_ 0 rfl
  have x61 := K6.out.at_ 1 rfl
  have x62 := K6.out.at_ 2 rfl
  go_wp2_with fail
  refine (same_PR r5.out r6.out).mono ?_
  rintro e w8 ⟨_, rfl, d1, rfl⟩
  clear x50 x51 x52 x60 x61 x62
  replace H := hide (HW.below H.out d1)
  replace G := hide (HBR.below G.out d1)
  replace RR1 := hide (RR1.out.below d1)
  replace TL1 := hide (TL1.out.below d1)
  replace RR2 := hide (RR2.out.below d1)
  replace TL2 := hide (TL2.out.below d1)
  replace r4 := hide (r4.out.below d1)
  replace K4 := hide (K4.out.below' d1)
  replace r5 := hide (r5.out.below d1)
  replace K5 := hide (K5.out.below' d1)
  replace r6 := hide (r6.out.below d1)
  replace K6 := hide (K6.out.below' d1)
  replace b0 := hide (below_tr b0.out d1)
  clear d1
  go_wp2_with fail
  refine (vCheck_L TL1.out.lst (T.out.below b0.out) rc hrc.out).mono ?_
  rintro e w9 ⟨_, rfl, d1, rfl⟩
  replace H := hide (HW.below H.out d1)
  replace G := hide (HBR.below G.out d1)
  replace RR1 := hide (RR1.out.below d1)
  replace TL1 := hide (TL1.out.below d1)
  replace RR2 := hide (RR2.out.below d1)
  replace TL2 := hide (TL2.out.below d1)
  replace r4 := hide (r4.out.below d1)
  replace K4 := hide (K4.out.below' d1)
  replace r5 := hide (r5.out.below d1)
  replace K5 := hide (K5.out.below' d1)
  replace r6 := hide (r6.out.below d1)
  replace K6 := hide (K6.out.below' d1)
  replace b0 := hide (below_tr b0.out d1)
  clear d1
  go_wp2_with fail
  refine (vkCheck_P (I1.out.raw_below b0.out) rc hrc.out).mono ?_
  rintro e w10 ⟨_, rfl, d1, rfl⟩
  replace H := hide (HW.below H.out d1)
  replace G := hide (HBR.below G.out d1)
  replace RR1 := hide (RR1.out.below d1)
  replace TL1 := hide (TL1.out.below d1)
  replace RR2 := hide (RR2.out.below d1)
  replace TL2 := hide (TL2.out.below d1)
  replace r4 := hide (r4.out.below d1)
  replace K4 := hide (K4.out.below' d1)
  replace r5 := hide (r5.out.below d1)
  replace K5 := hide (K5.out.below' d1)
  replace r6 := hide (r6.out.below d1)
  replace K6 := hide (K6.out.below' d1)
  replace b0 := hide (below_tr b0.out d1)
  clear d1
  have hrr : (rc != rc) = false := by simp
  have hss : (rs != rs) = false := by simp
  go_wp2_with fail
  refine (vp_Same (k := 300) TL1.out.lst TL2.out.lst S1_.out S2_.out (by decide) (T.out.below b0.out) hrs.out).mono ?_
  rintro e w11 ⟨_, rfl, d1, rfl⟩
  replace H := hide (HW.below H.out d1)
  replace G := hide (HBR.below G.out d1)
  replace RR1 := hide (RR1.out.below d1)
  replace TL1 := hide (TL1.out.below d1)
  replace RR2 := hide (RR2.out.below d1)
  replace TL2 := hide (TL2.out.below d1)
  replace r4 := hide (r4.out.below d1)
  replace K4 := hide (K4.out.below' d1)
  replace r5 := hide (r5.out.below d1)
  replace K5 := hide (K5.out.below' d1)
  replace r6 := hide (r6.out.below d1)
  replace K6 := hide (K6.out.below' d1)
  replace b0 := hide (below_tr b0.out d1)
  clear d1
  go_wp2_with fail
  refine (vq_Same (I1.out.raw_below b0.out) (J1.out.arg_below b0.out) (I2.out.raw_below b0.out) (J2.out.arg_below b0.out) (S1_.out.up (by decide)) (S2_.out.up (by decide)) hrs.out).mono ?_
  rintro e w12 ⟨_, rfl, d1, rfl⟩
  replace H := hide (HW.below H.out d1)
  replace G := hide (HBR.below G.out d1)
  replace RR1 := hide (RR1.out.below d1)
  replace TL1 := hide (TL1.out.below d1)
  replace RR2 := hide (RR2.out.below d1)
  replace TL2 := hide (TL2.out.below d1)
  replace r4 := hide (r4.out.below d1)
  replace K4 := hide (K4.out.below' d1)
  replace r5 := hide (r5.out.below d1)
  replace K5 := hide (K5.out.below' d1)
  replace r6 := hide (r6.out.below d1)
  replace K6 := hide (K6.out.below' d1)
  replace b0 := hide (below_tr b0.out d1)
  clear d1
  go_wp2_with fail
  refine (leftRats_ok TL1.out (I1.out.raw_below b0.out)).mono ?_
  rintro e w13 ⟨_, rfl, d1, rfl⟩
  replace H := hide (HW.below H.out d1)
  replace G := hide (HBR.below G.out d1)
  replace RR1 := hide (RR1.out.below d1)
  replace TL1 := hide (TL1.out.below d1)
  replace RR2 := hide (RR2.out.below d1)
  replace TL2 := hide (TL2.out.below d1)
  replace r4 := hide (r4.out.below d1)
  replace K4 := hide (K4.out.below' d1)
  replace r5 := hide (r5.out.below d1)
  replace K5 := hide (K5.out.below' d1)
  replace r6 := hide (r6.out.below d1)
  replace K6 := hide (K6.out.below' d1)
  replace b0 := hide (below_tr b0.out d1)
  clear d1
  go_wp2_with fail
  refine (leftRats_ok TL2.out (I2.out.raw_below b0.out)).mono ?_
  rintro e w14 ⟨_, rfl, d1, rfl⟩
  replace H := hide (HW.below H.out d1)
  replace G := hide (HBR.below G.out d1)
  replace RR1 := hide (RR1.out.below d1)
  replace TL1 := hide (TL1.out.below d1)
  replace RR2 := hide (RR2.out.below d1)
  replace TL2 := hide (TL2.out.below d1)
  replace r4 := hide (r4.out.below d1)
  replace K4 := hide (K4.out.below' d1)
  replace r5 := hide (r5.out.below d1)
  replace K5 := hide (K5.out.below' d1)
  replace r6 := hide (r6.out.below d1)
  replace K6 := hide (K6.out.below' d1)
  replace b0 := hide (below_tr b0.out d1)
  clear d1
  clear I1 I2 J1 J2 S1_ S2_ SM1 SM2 N1 N2 hkk hrc hrs LD HK T hrr hss
  clear TL1
  clear TL2
  clear r4
  clear r5
  clear r6
  clear K6
  have bB := hide b0.out.size
  have K : Hid (BookF w.heap.size (w14.alloc (.cells #[.int .i64 0, .slice none 0 0, .slice none 0 0, .slice none 0 0, .slice none 0 0, .slice none 0 0, .slice none 0 0, .slice none 0 0, .slice none 0 0, .slice none 0 0, .slice none 0 0, .slice none 0 0, .slice none 0 0] TBK)) w14.heap.size 0 (.slice none 0 0) (.slice none 0 0) [] []) := BookF.new bB.out
  obtain ⟨hi, hhi⟩ : ∃ hi, hi = w14.heap.size := ⟨_, rfl⟩
  have H0 : HB w.heap.size w14.heap.size w14 ([] ++ entsU (0) us1 ++ entsU (0 + 2 * n1 + 1) us2 ++ [⟨A4, n4, c4, none, 0, 0, 0 + 2 * n1 + 1 + 2 * n2 + 1 + 1⟩] ++ [⟨D4, m4, k4, none, 0, 0, 0 + 2 * n1 + 1 + 2 * n2 + 1 + 1 + 1⟩] ++ [⟨A5, n5, c5, none, 0, 0, 0 + 2 * n1 + 1 + 2 * n2 + 1 + 1 + 1 + 1⟩] ++ [⟨D5, m5, k5, none, 0, 0, 0 + 2 * n1 + 1 + 2 * n2 + 1 + 1 + 1 + 1 + 1⟩]) := H.out
  have G0 : HBR w.heap.size w14.heap.size w14 ([] ++ [⟨X1, n1, cx1, none, 0, 0, 0 + 2 * n1 + 1⟩] ++ [⟨X2, n2, cx2, none, 0, 0, 0 + 2 * n1 + 1 + 2 * n2 + 1⟩]) := G.out
  rw [← hhi] at H0 G0
  replace hhi := hide hhi
  have dB := hide ((Below.refl w14.heap.size w14).alloc (Nat.le_refl _) (.cells #[.int .i64 0, .slice none 0 0, .slice none 0 0, .slice none 0 0, .slice none 0 0, .slice none 0 0, .slice none 0 0, .slice none 0 0, .slice none 0 0, .slice none 0 0, .slice none 0 0, .slice none 0 0, .slice none 0 0] TBK))
  replace H : Hid (HB w.heap.size hi (w14.alloc (.cells #[.int .i64 0, .slice none 0 0, .slice none 0 0, .slice none 0 0, .slice none 0 0, .slice none 0 0, .slice none 0 0, .slice none 0 0, .slice none 0 0, .slice none 0 0, .slice none 0 0, .slice none 0 0, .slice none 0 0] TBK)) ([] ++ entsU (0) us1 ++ entsU (0 + 2 * n1 + 1) us2 ++ [⟨A4, n4, c4, none, 0, 0, 0 + 2 * n1 + 1 + 2 * n2 + 1 + 1⟩] ++ [⟨D4, m4, k4, none, 0, 0, 0 + 2 * n1 + 1 + 2 * n2 + 1 + 1 + 1⟩] ++ [⟨A5, n5, c5, none, 0, 0, 0 + 2 * n1 + 1 + 2 * n2 + 1 + 1 + 1 + 1⟩] ++ [⟨D5, m5, k5, none, 0, 0, 0 + 2 * n1 + 1 + 2 * n2 + 1 + 1 + 1 + 1 + 1⟩])) := H0.bel dB.out
  replace G : Hid (HBR w.heap.size hi (w14.alloc (.cells #[.int .i64 0, .slice none 0 0, .slice none 0 0, .slice none 0 0, .slice none 0 0, .slice none 0 0, .slice none 0 0, .slice none 0 0, .slice none 0 0, .slice none 0 0, .slice none 0 0, .slice none 0 0, .slice none 0 0] TBK)) ([] ++ [⟨X1, n1, cx1, none, 0, 0, 0 + 2 * n1 + 1⟩] ++ [⟨X2, n2, cx2, none, 0, 0, 0 + 2 * n1 + 1 + 2 * n2 + 1⟩])) := G0.bel dB.out
  replace RR1 := hide (RR1.out.below dB.out)
  replace RR2 := hide (RR2.out.below dB.out)
  replace K4 := hide (K4.out.below' dB.out)
  replace K5 := hide (K5.out.below' dB.out)
  replace b0 := hide (below_tr b0.out dB.out)
  clear dB H0 G0 bB
  go_wp2_with fail
  obtain ⟨V, hV⟩ : ∃ V, w14.alloc (.cells #[.int .i64 0, .slice none 0 0, .slice none 0 0, .slice none 0 0, .slice none 0 0, .slice none 0 0, .slice none 0 0, .slice none 0 0, .slice none 0 0, .slice none 0 0, .slice none 0 0, .slice none 0 0, .slice none 0 0] TBK) = V := ⟨_, rfl⟩
  obtain ⟨g, hg⟩ : ∃ g, w14.heap.size = g := ⟨_, rfl⟩
  rw [hV, hg] at K
  rw [hV] at b0 H G RR1 RR2 K4 K5
  rw [hV, hg]
  clear hV hg hhi
  refine (bookRats_F _ w.heap.size g (0) _ _ ([]) ([]) b0.out.size K.out X1 n1 cx1 us1 RR1.out lu1.out S1.out (by omega) (by simp only [List.length_append, List.length_cons, List.length_nil, entsU_len _ _ S1.out, lu1.out, entsU_len _ _ S2.out, lu2.out]; omega) (by simp)).mono ?_
  rintro e W0 ⟨⟨_, rfl⟩, k1, v0, u0_, k2⟩
  replace K := hide k2
  replace H := hide (H.out.kpF k1)
  replace G := hide (G.out.kp k1)
  replace b0 := hide (b0.out.trans k1.base)
  replace K4 := hide (k1.nums _ _ _ (by decide) (by decide) (by decide) K4.out)
  replace K5 := hide (k1.nums _ _ _ (by decide) (by decide) (by decide) K5.out)
  replace RR1 := hide (RR1.out.keep fun g cs _ hk => k1.nums g _ cs (by decide) (by decide) (by decide) hk)
  replace RR2 := hide (RR2.out.keep fun g cs _ hk => k1.nums g _ cs (by decide) (by decide) (by decide) hk)
  clear k1 k2
  go_wp2_with fail
  refine (bookRats_F _ w.heap.size g (0 + 2 * n1 + 1) _ _ ([] ++ entsU (0) us1) ([] ++ [⟨X1, n1, cx1, none, 0, 0, 0 + 2 * n1 + 1⟩]) b0.out.size K.out X2 n2 cx2 us2 RR2.out lu2.out S2.out (by omega) (by simp only [List.length_append, List.length_cons, List.length_nil, entsU_len _ _ S1.out, lu1.out, entsU_len _ _ S2.out, lu2.out]; omega) (by simp)).mono ?_
  rintro e W1 ⟨⟨_, rfl⟩, k1, v1, u1_, k2⟩
  replace K := hide k2
  replace H := hide (H.out.kpF k1)
  replace G := hide (G.out.kp k1)
  replace b0 := hide (b0.out.trans k1.base)
  replace K4 := hide (k1.nums _ _ _ (by decide) (by decide) (by decide) K4.out)
  replace K5 := hide (k1.nums _ _ _ (by decide) (by decide) (by decide) K5.out)
  replace RR1 := hide (RR1.out.keep fun g cs _ hk => k1.nums g _ cs (by decide) (by decide) (by decide) hk)
  replace RR2 := hide (RR2.out.keep fun g cs _ hk => k1.nums g _ cs (by decide) (by decide) (by decide) hk)
  clear k1 k2
  have x40 := K4.out.at_ 0 rfl
  have x41 := K4.out.at_ 1 rfl
  have x42 := K4.out.at_ 2 rfl
  go_wp2_with fail
  refine (bookRat_F _ w.heap.size g (0 + 2 * n1 + 1 + 2 * n2 + 1) _ _ ([] ++ entsU (0) us1 ++ entsU (0 + 2 * n1 + 1) us2) ([] ++ [⟨X1, n1, cx1, none, 0, 0, 0 + 2 * n1 + 1⟩] ++ [⟨X2, n2, cx2, none, 0, 0, 0 + 2 * n1 + 1 + 2 * n2 + 1⟩]) b0.out.size K.out s4 A4 n4 c4 D4 m4 k4 (by omega) (by simp only [List.length_append, List.length_cons, List.length_nil, entsU_len _ _ S1.out, lu1.out, entsU_len _ _ S2.out, lu2.out]; omega)).mono ?_
  rintro e W2 ⟨⟨_, rfl⟩, k1, v2, k2⟩
  replace K := hide k2
  replace H := hide (H.out.kpF k1)
  replace G := hide (G.out.kp k1)
  replace b0 := hide (b0.out.trans k1.base)
  clear x40 x41 x42
  replace K4 := hide (k1.nums _ _ _ (by decide) (by decide) (by decide) K4.out)
  replace K5 := hide (k1.nums _ _ _ (by decide) (by decide) (by decide) K5.out)
  replace RR1 := hide (RR1.out.keep fun g cs _ hk => k1.nums g _ cs (by decide) (by decide) (by decide) hk)
  replace RR2 := hide (RR2.out.keep fun g cs _ hk => k1.nums g _ cs (by decide) (by decide) (by decide) hk)
  clear k1 k2
  have x50 := K5.out.at_ 0 rfl
  have x51 := K5.out.at_ 1 rfl
  have x52 := K5.out.at_ 2 rfl
  go_wp2_with fail
  refine (bookRat_F _ w.heap.size g (0 + 2 * n1 + 1 + 2 * n2 + 1 + 1 + 1) _ _ ([] ++ entsU (0) us1 ++ entsU (0 + 2 * n1 + 1) us2 ++ [⟨A4, n4, c4, none, 0, 0, 0 + 2 * n1 + 1 + 2 * n2 + 1 + 1⟩] ++ [⟨D4, m4, k4, none, 0, 0, 0 + 2 * n1 + 1 + 2 * n2 + 1 + 1 + 1⟩]) ([] ++ [⟨X1, n1, cx1, none, 0, 0, 0 + 2 * n1 + 1⟩] ++ [⟨X2, n2, cx2, none, 0, 0, 0 + 2 * n1 + 1 + 2 * n2 + 1⟩]) b0.out.size K.out s5 A5 n5 c5 D5 m5 k5 (by omega) (by simp only [List.length_append, List.length_cons, List.length_nil, entsU_len _ _ S1.out, lu1.out, entsU_len _ _ S2.out, lu2.out]; omega)).mono ?_
  rintro e W3 ⟨⟨_, rfl⟩, k1, v3, k2⟩
  replace K := hide k2
  replace H := hide (H.out.kpF k1)
  replace G := hide (G.out.kp k1)
  replace b0 := hide (b0.out.trans k1.base)
  clear x50 x51 x52
  replace K4 := hide (k1.nums _ _ _ (by decide) (by decide) (by decide) K4.out)
  replace K5 := hide (k1.nums _ _ _ (by decide) (by decide) (by decide) K5.out)
  replace RR1 := hide (RR1.out.keep fun g cs _ hk => k1.nums g _ cs (by decide) (by decide) (by decide) hk)
  replace RR2 := hide (RR2.out.keep fun g cs _ hk => k1.nums g _ cs (by decide) (by decide) (by decide) hk)
  clear k1 k2
  go_wp2_with fail
  refine (Apart_F _ w.heap.size g (0 + 2 * n1 + 1 + 2 * n2 + 1 + 1 + 1 + 1 + 1) hi hi _ _ ([] ++ entsU (0) us1 ++ entsU (0 + 2 * n1 + 1) us2 ++ [⟨A4, n4, c4, none, 0, 0, 0 + 2 * n1 + 1 + 2 * n2 + 1 + 1⟩] ++ [⟨D4, m4, k4, none, 0, 0, 0 + 2 * n1 + 1 + 2 * n2 + 1 + 1 + 1⟩] ++ [⟨A5, n5, c5, none, 0, 0, 0 + 2 * n1 + 1 + 2 * n2 + 1 + 1 + 1 + 1⟩] ++ [⟨D5, m5, k5, none, 0, 0, 0 + 2 * n1 + 1 + 2 * n2 + 1 + 1 + 1 + 1 + 1⟩]) ([] ++ [⟨X1, n1, cx1, none, 0, 0, 0 + 2 * n1 + 1⟩] ++ [⟨X2, n2, cx2, none, 0, 0, 0 + 2 * n1 + 1 + 2 * n2 + 1⟩]) b0.out.size K.out H.out G.out (by simp only [List.length_append, List.length_cons, List.length_nil, entsU_len _ _ S1.out, lu1.out, entsU_len _ _ S2.out, lu2.out]; omega) (by simp)).mono ?_
  rintro e WW ⟨rfl, k1⟩
  replace b0 := hide (b0.out.trans k1)
  clear k1 K H G
  go_wp2
  exact opq_end hR ⟨rfl, b0⟩
end Go.Proofs.YtkefmeddnncacaaGreatDoor
