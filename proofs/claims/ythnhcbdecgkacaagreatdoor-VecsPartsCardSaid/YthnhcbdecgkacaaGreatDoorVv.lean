/- the laws of vecs: VecsParts. -/
import Derived.Test.YthnhcbdecgkacaaGreatDoorVu
set_option linter.unusedVariables false
set_option linter.unusedSimpArgs false
set_option maxRecDepth 100000
namespace Go.Proofs.YthnhcbdecgkacaaGreatDoor
open Go.RowKit

set_option maxHeartbeats 8000000 in
theorem VecsParts_ok (w : World) (A1 : Option Addr) (n1 c1 : Nat) (es1 : List Raw) (A2 : Option Addr) (n2 c2 : Nat) (es2 : List Raw) (z : Nat) (h1 : Lst RRw w (.slice A1 n1 c1) es1) (h2 : Lst RRw w (.slice A2 n2 c2) es2) (hz : z < 256) (hT : Tab w) :
    Calls Tryz.prog 6 #[.slice A1 n1 c1, .slice A2 n2 c2, .int .u8 (z : Nat)] w fun e w' => e = .returned (.bool true) ∧ Hid (Below w.heap.size w w') := by
  refine opq fun R hR => ?_
  have T := hide hT
  clear hT
  replace h1 := hide h1
  replace h2 := hide h2
  go_enter Tryz.func6, Tryz.ntmps6
  have b0 := hide (Below.refl w.heap.size w)
  go_wp2_with fail
  refine (valive_P _ (T.out.below b0.out)).mono ?_
  rintro e w1 ⟨_, rfl, d0, rfl⟩
  replace b0 := hide (below_tr b0.out d0)
  clear d0
  have GE := hide (show ∀ x ∈ ([gl A1 n1 c1 es1, gl A2 n2 c2 es2] : List GL), Lst RRw w1 (slv x) x.2 from (List.forall_mem_cons.2 ⟨(h1.out.rw_below b0.out), (List.forall_mem_cons.2 ⟨(h2.out.rw_below b0.out), (fun x hx => by simp at hx)⟩)⟩))
  by_cases gg : ([gl A1 n1 c1 es1, gl A2 n2 c2 es2] : List GL).any gr = true
  case pos =>
    replace gg := hide gg
    have y := (Below.refl w1.heap.size w1).alloc (Nat.le_refl _) (.cells #[.slice A1 n1 c1, .slice A2 n2 c2] 58)
    replace b0 := hide (below_tr b0.out y)
    clear y
    go_wp2_with fail
    refine (vgreat_L (w := w1) [gl A1 n1 c1 es1, gl A2 n2 c2 es2] #[.slice A1 n1 c1, .slice A2 n2 c2] rfl (g := w1.heap.size) (by simp) GE.out 2 rfl (by decide) true gg.out).mono ?_
    rintro e w2 ⟨_, rfl, d0, rfl⟩
    replace b0 := hide (below_tr b0.out d0)
    clear d0
    go_wp2_with fail
    refine (valive_P _ (T.out.below b0.out)).mono ?_
    rintro e w3 ⟨_, rfl, d0, rfl⟩
    replace b0 := hide (below_tr b0.out d0)
    clear d0
    go_wp2
    exact opq_end hR ⟨rfl, b0⟩
  replace gg : Hid (([gl A1 n1 c1 es1, gl A2 n2 c2 es2] : List GL).any gr = false) := (by simpa using gg : ([gl A1 n1 c1 es1, gl A2 n2 c2 es2] : List GL).any gr = false)
  have y := (Below.refl w1.heap.size w1).alloc (Nat.le_refl _) (.cells #[.slice A1 n1 c1, .slice A2 n2 c2] 58)
  replace b0 := hide (below_tr b0.out y)
  clear y
  go_wp2_with fail
  refine (vgreat_L (w := w1) [gl A1 n1 c1 es1, gl A2 n2 c2 es2] #[.slice A1 n1 c1, .slice A2 n2 c2] rfl (g := w1.heap.size) (by simp) GE.out 2 rfl (by decide) false gg.out).mono ?_
  rintro e w2 ⟨_, rfl, d0, rfl⟩
  replace b0 := hide (below_tr b0.out d0)
  clear d0
  clear GE
  have M1 : Hid (n1 ≤ 30 ∧ tsz es1 ≤ 300) := any_false gg.out (gl A1 n1 c1 es1) (by simp)
  have P1 := hide (h1.out.rawW 300 M1.out.2 (by decide)).1
  have S1 := hide (h1.out.rawW 300 M1.out.2 (by decide)).2
  have N1 : Hid (es1.length = n1) := h1.out.len
  have M2 : Hid (n2 ≤ 30 ∧ tsz es2 ≤ 300) := any_false gg.out (gl A2 n2 c2 es2) (by simp)
  have P2 := hide (h2.out.rawW 300 M2.out.2 (by decide)).1
  have S2 := hide (h2.out.rawW 300 M2.out.2 (by decide)).2
  have N2 : Hid (es2.length = n2) := h2.out.len
  clear gg h1 h2 
  by_cases ll : n1 = n2
  case neg =>
    have ne : ((n1 : Int) != (n2 : Int)) = true := by simp; omega
    go_wp2_with fail
    refine (valive_P _ (T.out.below b0.out)).mono ?_
    rintro e w3 ⟨_, rfl, d0, rfl⟩
    replace b0 := hide (below_tr b0.out d0)
    clear d0
    go_wp2
    exact opq_end hR ⟨rfl, b0⟩
  subst ll
  by_cases r1 : es1.all rk = false
  case pos =>
    replace r1 := hide r1
    go_wp2_with fail
    refine (vCheck_L (P1.out.raw_below b0.out) (T.out.below b0.out) false r1.out).mono ?_
    rintro e w3 ⟨_, rfl, d0, rfl⟩
    replace b0 := hide (below_tr b0.out d0)
    clear d0
    go_wp2_with fail
    refine (valive_P _ (T.out.below b0.out)).mono ?_
    rintro e w4 ⟨_, rfl, d0, rfl⟩
    replace b0 := hide (below_tr b0.out d0)
    clear d0
    go_wp2
    exact opq_end hR ⟨rfl, b0⟩
  replace r1 : Hid (es1.all rk = true) := (by simpa using r1 : es1.all rk = true)
  go_wp2_with fail
  refine (vCheck_L (P1.out.raw_below b0.out) (T.out.below b0.out) true r1.out).mono ?_
  rintro e w3 ⟨_, rfl, d0, rfl⟩
  replace b0 := hide (below_tr b0.out d0)
  clear d0
  have L1 := hide (P1.out.canW r1.out)
  have E1 : Hid ((es1.map rvE).length = n1) := by show _ = _; rw [List.length_map]; exact N1.out
  clear P1 r1 N1
  generalize es1.map rvE = ps at *
  by_cases r2 : es2.all rk = false
  case pos =>
    replace r2 := hide r2
    go_wp2_with fail
    refine (vCheck_L (P2.out.raw_below b0.out) (T.out.below b0.out) false r2.out).mono ?_
    rintro e w4 ⟨_, rfl, d0, rfl⟩
    replace b0 := hide (below_tr b0.out d0)
    clear d0
    go_wp2_with fail
    refine (valive_P _ (T.out.below b0.out)).mono ?_
    rintro e w5 ⟨_, rfl, d0, rfl⟩
    replace b0 := hide (below_tr b0.out d0)
    clear d0
    go_wp2
    exact opq_end hR ⟨rfl, b0⟩
  replace r2 : Hid (es2.all rk = true) := (by simpa using r2 : es2.all rk = true)
  go_wp2_with fail
  refine (vCheck_L (P2.out.raw_below b0.out) (T.out.below b0.out) true r2.out).mono ?_
  rintro e w4 ⟨_, rfl, d0, rfl⟩
  replace b0 := hide (below_tr b0.out d0)
  clear d0
  have L2 := hide (P2.out.canW r2.out)
  have E2 : Hid ((es2.map rvE).length = n1) := by show _ = _; rw [List.length_map]; exact N2.out
  clear P2 r2 N2
  generalize es2.map rvE = qs at *
  obtain ⟨k, hk1, hkd⟩ : ∃ k : Nat, Hid (k ≤ n1) ∧ Hid (z % (n1 + 1) = k) := ⟨_, (by have := Nat.mod_lt z (show 0 < n1 + 1 by omega); omega : z % (n1 + 1) ≤ n1), rfl⟩
  have hk2 : Int.tmod (z : Int) ((n1 : Int) + 1) = (k : Int) := by rw [← hkd.out]; norm_cast
  have hn1 : n1 ≤ 30 := M1.out.1
  have hcc : Hid (n1 ≤ c1 ∧ n1 ≤ c2) := ⟨L1.out.cap, L2.out.cap⟩
  have Q1_ : Hid (H ((dot ps qs)) 18031) := H_dot (S1.out.up (by decide)) (S2.out.up (by decide)) (k := 300) 30 18031 (by rw [E1.out]; exact M1.out.1) (by decide) (by decide)
  go_wp2_with fail
  refine (vDot_T (k := 300) (L1.out.can_below b0.out) (L2.out.can_below b0.out) (by rw [E1.out, E2.out]) (S1.out) (S2.out) (by have : ps.length ≤ 30 := (by rw [E1.out]; exact M1.out.1); omega) (T.out.below b0.out)).mono ?_
  rintro e w5 ⟨v5, rfl, d0, x5⟩
  replace b0 := hide (below_tr b0.out d0)
  have X5 := hide (x5)
  clear d0
  clear x5
  obtain ⟨b5, A5, n5, c5, D5, m5, k5, rfl⟩ := X5.out.slice
  have K5 := hide (Blk.new_at w5 (w5.heap.size) (by simp) 60 #[.bool b5, .slice A5 n5 c5, .slice D5 m5 k5])
  have y := (Below.refl w5.heap.size w5).alloc (Nat.le_refl _) (.cells #[.bool b5, .slice A5 n5 c5, .slice D5 m5 k5] 60)
  replace X5 := hide (X5.out.below y)
  replace b0 := hide (below_tr b0.out y)
  clear y
  go_wp2
  replace hk2 := hide hk2
  obtain ⟨V1_5, hV⟩ : ∃ V, (w5.alloc (.cells #[.bool b5, .slice A5 n5 c5, .slice D5 m5 k5] 60)) = V := ⟨_, rfl⟩
  rw [hV] at X5 K5 b0
  rw [hV]
  clear hV
  have L1V := hide (L1.out.can_below b0.out)
  have L2V := hide (L2.out.can_below b0.out)
  have Q2_ : Hid (Hs (((ps.take (k)).drop (0))) 300) := (S1.out.take _).drop _
  have Q3_ : Hid (Hs (((qs.take (k)).drop (0))) 300) := (S2.out.take _).drop _
  have Q4_ : Hid (H ((dot ((ps.take (k)).drop (0)) ((qs.take (k)).drop (0)))) 18031) := H_dot (Q2_.out.up (by decide)) (Q3_.out.up (by decide)) (k := 300) 30 18031 (by rw [List.length_drop, List.length_take, E1.out]; omega) (by decide) (by decide)
  refine RR.wp_region_R 12 V1_5 10 63 [(56, .eq (.slice A1 n1 c1)), (57, .eq (.int .i64 (k : Nat))), (58, (.lst0 V1_5 ((ps.take (k)).drop (0)))), (59, .eq (.slice A2 n1 c2)), (60, .eq (.int .i64 (k : Nat))), (61, (.lst0 V1_5 ((qs.take (k)).drop (0)))), (62, (.tupE (.ratR (dot ((ps.take (k)).drop (0)) ((qs.take (k)).drop (0))) V1_5.heap.size) (.int .i64 0))), (55, (.tupE (.ratR (dot ((ps.take (k)).drop (0)) ((qs.take (k)).drop (0))) V1_5.heap.size) (.int .i64 0))), (63, (.ratR (dot ((ps.take (k)).drop (0)) ((qs.take (k)).drop (0))) V1_5.heap.size)), (64, .eq ((.int .i64 0))), (10, (.var TR 3))] [false, false, false, false, false, false, false, false, false, false, true, false, false, false, false, false, false, false, false, false, false, false, false, false, false, false, false, false, false, false, false, false, false, false, false, false, false, false, false, false, false, false, false, false, false, false, false, false, false, false, false, false, false, false, false, true, true, true, true, true, true, true, true, true, true, false, false, false, false, false, false, false, false, false, false, false, false, false, false, false, false, false, false, false, false, false, false, false, false, false, false, false, false, false, false, false, false, false, false, false, false, false, false, false, false, false, false, false, false, false, false, false, false, false, false, false, false, false, false, false, false, false, false, false, false, false, false, false, false] mixed (by kernel_rfl) (by kernel_rfl) (by kernel_rfl) (Below.refl _ _).drew (by kernel_rfl) (by kernel_rfl) (by kernel_rfl) ⟨?_, ?_, ?_, ?_, ?_, ?_, ?_, ?_, ?_, ?_, ?_, ?_, trivial⟩ ?_
  · exact (.inl ⟨rfl, .moveC (.inl rfl) (.inl rfl) rfl (fun a w' hC hs => (hs 0 (by kernel_rfl)))⟩)
  · exact (.inl ⟨rfl, .moveC (.inl rfl) (.inl rfl) rfl (fun a w' hC hs => (hs 7 (by kernel_rfl)))⟩)
  · exact (.inl ⟨rfl, .make (.inl rfl) (by intro T e; cases e) rfl (fun a w' hC hs hl => by
      have e0 : a.eval (.tmp 56) = (.slice A1 n1 c1) := (hl 56 (by kernel_rfl) (by kernel_rfl))
      have e2 : a.eval (.tmp 57) = (.int .i64 (k : Nat)) := (hl 57 (by kernel_rfl) (by kernel_rfl))
      have hr := run_cut (w := w') (A := A1) (n := n1) (c := c1) (l := 0) (h := k) none (some _) (.inr ⟨rfl, rfl⟩) (.inl rfl) (by have := hk1.out; omega) (by have := hk1.out; have := hcc.out; omega)
      exact ⟨_, by simp [execOp, Option.map, e0, e2, hr], Lst.cut tri_can L1V.out (0) (k) (by have := hk1.out; omega) (by have := hk1.out; omega)⟩)⟩)
  · exact (.inl ⟨rfl, .moveC (.inl rfl) (.inl rfl) rfl (fun a w' hC hs => (hs 1 (by kernel_rfl)))⟩)
  · exact (.inl ⟨rfl, .moveC (.inl rfl) (.inl rfl) rfl (fun a w' hC hs => (hs 7 (by kernel_rfl)))⟩)
  · exact (.inl ⟨rfl, .make (.inl rfl) (by intro T e; cases e) rfl (fun a w' hC hs hl => by
      have e0 : a.eval (.tmp 59) = (.slice A2 n1 c2) := (hl 59 (by kernel_rfl) (by kernel_rfl))
      have e2 : a.eval (.tmp 60) = (.int .i64 (k : Nat)) := (hl 60 (by kernel_rfl) (by kernel_rfl))
      have hr := run_cut (w := w') (A := A2) (n := n1) (c := c2) (l := 0) (h := k) none (some _) (.inr ⟨rfl, rfl⟩) (.inl rfl) (by have := hk1.out; omega) (by have := hk1.out; have := hcc.out; omega)
      exact ⟨_, by simp [execOp, Option.map, e0, e2, hr], Lst.cut tri_can L2V.out (0) (k) (by have := hk1.out; omega) (by have := hk1.out; omega)⟩)⟩)
  · exact (.inl ⟨rfl, .call (.inl rfl) rfl rfl fn_vDot (fun a w' hC hs hl => RR.vDot_R (k := 300) _ hC.size (Lst.can_below (hl 58 (by kernel_rfl) (by kernel_rfl)) hC) (Lst.can_below (hl 61 (by kernel_rfl) (by kernel_rfl)) hC) (by rw [List.length_drop, List.length_drop, List.length_take, List.length_take, E1.out, E2.out]) Q2_.out Q3_.out (by have : ((ps.take (k)).drop (0)).length ≤ 30 := (by rw [List.length_drop, List.length_take, E1.out]; omega); omega) (T.out.below (b0.out.trans (hC.mono b0.out.size))))⟩)
  · exact (.inl ⟨rfl, .move (.inl rfl) (.inl rfl) rfl (by kernel_rfl) (by kernel_rfl) rfl⟩)
  · exact (.inl ⟨rfl, .make (.inl rfl) (by intro T e; cases e) rfl (fun a w' hC hs hl => by
      obtain ⟨u, e, h⟩ := (hl 55 (by kernel_rfl) (by kernel_rfl))
      have e' : a.tmps[55]?.getD undef = _ := (by simp [Act.eval] : _ = a.eval (.tmp 55)).trans e
      exact ⟨u, by simp [execOp, go_sem, e'], h⟩)⟩)
  · exact (.inl ⟨rfl, .make (.inl rfl) (by intro T e; cases e) rfl (fun a w' hC hs hl => by
      obtain ⟨u, e, h⟩ := (hl 55 (by kernel_rfl) (by kernel_rfl))
      have e' : a.tmps[55]?.getD undef = _ := (by simp [Act.eval] : _ = a.eval (.tmp 55)).trans e
      exact ⟨_, by simp [execOp, go_sem, e'], rfl⟩)⟩)
  · exact (.inl ⟨rfl, .alloc (.agg #[.bool false, .slice none 0 0, .slice none 0 0]) (.inl rfl) rfl rfl (fun a w' hC => ⟨run_alloc_Rat _ _ _ _ _ _ _, _, _, rfl, hC.size, Blk.new _ _ _, rfl⟩)⟩)
  · exact (.storeR (fun v w h => RatR.slice h) rfl rfl rfl (by kernel_rfl) (by kernel_rfl) (by kernel_rfl) (by kernel_rfl) rfl)
  intro f w6 hC hF _ hE
  obtain ⟨g6, b6, A6, n6, c6, D6, m6, k6, ep, lp, er, K6⟩ := hE
  have f64 : f 64 = (.int .i64 0) := hF 64 (by kernel_rfl)
  have fr : RatR (dot ((ps.take (k)).drop (0)) ((qs.take (k)).drop (0))) V1_5.heap.size w6 (f 63) := hF 63 (by kernel_rfl)
  rw [er] at fr
  have X6 := hide fr.can
  clear fr
  replace K6 := hide K6
  clear hF lp
  simp only [patch, List.drop]
  rw [f64]
  clear f64
  generalize f 56 = y56_ at *
  generalize f 57 = y57_ at *
  generalize f 58 = y58_ at *
  generalize f 59 = y59_ at *
  generalize f 60 = y60_ at *
  generalize f 61 = y61_ at *
  generalize f 62 = y62_ at *
  generalize f 55 = y55_ at *
  generalize f 63 = y63_ at *
  generalize f 10 = y10_ at *
  subst er ep
  replace X5 := hide (X5.out.below hC)
  replace K5 := hide (K5.out.below' hC)
  replace L1V := hide (L1V.out.can_below hC)
  replace L2V := hide (L2V.out.can_below hC)
  replace b0 := hide (b0.out.trans (hC.mono b0.out.size))
  clear hC
  go_wp2
  obtain ⟨V2_6, hV⟩ : ∃ V, w6 = V := ⟨_, rfl⟩
  rw [hV] at X5 K5 L1V L2V K6 X6 b0
  rw [hV]
  clear hV
  have Q5_ : Hid (Hs (((ps.take (n1)).drop (k))) 300) := (S1.out.take _).drop _
  have Q6_ : Hid (Hs (((qs.take (n1)).drop (k))) 300) := (S2.out.take _).drop _
  have Q7_ : Hid (H ((dot ((ps.take (n1)).drop (k)) ((qs.take (n1)).drop (k)))) 18031) := H_dot (Q5_.out.up (by decide)) (Q6_.out.up (by decide)) (k := 300) 30 18031 (by rw [List.length_drop, List.length_take, E1.out]; omega) (by decide) (by decide)
  refine RR.wp_region_R 12 V2_6 12 73 [(66, .eq (.slice A1 n1 c1)), (67, .eq (.int .i64 (k : Nat))), (68, (.lst0 V2_6 ((ps.take (n1)).drop (k)))), (69, .eq (.slice A2 n1 c2)), (70, .eq (.int .i64 (k : Nat))), (71, (.lst0 V2_6 ((qs.take (n1)).drop (k)))), (72, (.tupE (.ratR (dot ((ps.take (n1)).drop (k)) ((qs.take (n1)).drop (k))) V2_6.heap.size) (.int .i64 0))), (65, (.tupE (.ratR (dot ((ps.take (n1)).drop (k)) ((qs.take (n1)).drop (k))) V2_6.heap.size) (.int .i64 0))), (73, (.ratR (dot ((ps.take (n1)).drop (k)) ((qs.take (n1)).drop (k))) V2_6.heap.size)), (74, .eq ((.int .i64 0))), (12, (.var TR 3))] [false, false, false, false, false, false, false, false, false, false, false, false, true, false, false, false, false, false, false, false, false, false, false, false, false, false, false, false, false, false, false, false, false, false, false, false, false, false, false, false, false, false, false, false, false, false, false, false, false, false, false, false, false, false, false, false, false, false, false, false, false, false, false, false, false, true, true, true, true, true, true, true, true, true, true, false, false, false, false, false, false, false, false, false, false, false, false, false, false, false, false, false, false, false, false, false, false, false, false, false, false, false, false, false, false, false, false, false, false, false, false, false, false, false, false, false, false, false, false, false, false, false, false, false, false, false, false, false, false] mixed (by kernel_rfl) (by kernel_rfl) (by kernel_rfl) (Below.refl _ _).drew (by kernel_rfl) (by kernel_rfl) (by kernel_rfl) ⟨?_, ?_, ?_, ?_, ?_, ?_, ?_, ?_, ?_, ?_, ?_, ?_, trivial⟩ ?_
  · exact (.inl ⟨rfl, .moveC (.inl rfl) (.inl rfl) rfl (fun a w' hC hs => (hs 0 (by kernel_rfl)))⟩)
  · exact (.inl ⟨rfl, .moveC (.inl rfl) (.inl rfl) rfl (fun a w' hC hs => (hs 7 (by kernel_rfl)))⟩)
  · exact (.inl ⟨rfl, .make (.inl rfl) (by intro T e; cases e) rfl (fun a w' hC hs hl => by
      have e0 : a.eval (.tmp 66) = (.slice A1 n1 c1) := (hl 66 (by kernel_rfl) (by kernel_rfl))
      have e1 : a.eval (.tmp 67) = (.int .i64 (k : Nat)) := (hl 67 (by kernel_rfl) (by kernel_rfl))
      have hr := run_cut (w := w') (A := A1) (n := n1) (c := c1) (l := k) (h := n1) (some _) none (.inl rfl) (.inr ⟨rfl, rfl⟩) (by have := hk1.out; omega) (by have := hk1.out; have := hcc.out; omega)
      exact ⟨_, by simp [execOp, Option.map, e0, e1, hr], Lst.cut tri_can L1V.out (k) (n1) (by have := hk1.out; omega) (by have := hk1.out; omega)⟩)⟩)
  · exact (.inl ⟨rfl, .moveC (.inl rfl) (.inl rfl) rfl (fun a w' hC hs => (hs 1 (by kernel_rfl)))⟩)
  · exact (.inl ⟨rfl, .moveC (.inl rfl) (.inl rfl) rfl (fun a w' hC hs => (hs 7 (by kernel_rfl)))⟩)
  · exact (.inl ⟨rfl, .make (.inl rfl) (by intro T e; cases e) rfl (fun a w' hC hs hl => by
      have e0 : a.eval (.tmp 69) = (.slice A2 n1 c2) := (hl 69 (by kernel_rfl) (by kernel_rfl))
      have e1 : a.eval (.tmp 70) = (.int .i64 (k : Nat)) := (hl 70 (by kernel_rfl) (by kernel_rfl))
      have hr := run_cut (w := w') (A := A2) (n := n1) (c := c2) (l := k) (h := n1) (some _) none (.inl rfl) (.inr ⟨rfl, rfl⟩) (by have := hk1.out; omega) (by have := hk1.out; have := hcc.out; omega)
      exact ⟨_, by simp [execOp, Option.map, e0, e1, hr], Lst.cut tri_can L2V.out (k) (n1) (by have := hk1.out; omega) (by have := hk1.out; omega)⟩)⟩)
  · exact (.inl ⟨rfl, .call (.inl rfl) rfl rfl fn_vDot (fun a w' hC hs hl => RR.vDot_R (k := 300) _ hC.size (Lst.can_below (hl 68 (by kernel_rfl) (by kernel_rfl)) hC) (Lst.can_below (hl 71 (by kernel_rfl) (by kernel_rfl)) hC) (by rw [List.length_drop, List.length_drop, List.length_take, List.length_take, E1.out, E2.out]) Q5_.out Q6_.out (by have : ((ps.take (n1)).drop (k)).length ≤ 30 := (by rw [List.length_drop, List.length_take, E1.out]; omega); omega) (T.out.below (b0.out.trans (hC.mono b0.out.size))))⟩)
  · exact (.inl ⟨rfl, .move (.inl rfl) (.inl rfl) rfl (by kernel_rfl) (by kernel_rfl) rfl⟩)
  · exact (.inl ⟨rfl, .make (.inl rfl) (by intro T e; cases e) rfl (fun a w' hC hs hl => by
      obtain ⟨u, e, h⟩ := (hl 65 (by kernel_rfl) (by kernel_rfl))
      have e' : a.tmps[65]?.getD undef = _ := (by simp [Act.eval] : _ = a.eval (.tmp 65)).trans e
      exact ⟨u, by simp [execOp, go_sem, e'], h⟩)⟩)
  · exact (.inl ⟨rfl, .make (.inl rfl) (by intro T e; cases e) rfl (fun a w' hC hs hl => by
      obtain ⟨u, e, h⟩ := (hl 65 (by kernel_rfl) (by kernel_rfl))
      have e' : a.tmps[65]?.getD undef = _ := (by simp [Act.eval] : _ = a.eval (.tmp 65)).trans e
      exact ⟨_, by simp [execOp, go_sem, e'], rfl⟩)⟩)
  · exact (.inl ⟨rfl, .alloc (.agg #[.bool false, .slice none 0 0, .slice none 0 0]) (.inl rfl) rfl rfl (fun a w' hC => ⟨run_alloc_Rat _ _ _ _ _ _ _, _, _, rfl, hC.size, Blk.new _ _ _, rfl⟩)⟩)
  · exact (.storeR (fun v w h => RatR.slice h) rfl rfl rfl (by kernel_rfl) (by kernel_rfl) (by kernel_rfl) (by kernel_rfl) rfl)
  intro f w7 hC hF _ hE
  obtain ⟨g7, b7, A7, n7, c7, D7, m7, k7, ep, lp, er, K7⟩ := hE
  have f74 : f 74 = (.int .i64 0) := hF 74 (by kernel_rfl)
  have fr : RatR (dot ((ps.take (n1)).drop (k)) ((qs.take (n1)).drop (k))) V2_6.heap.size w7 (f 73) := hF 73 (by kernel_rfl)
  rw [er] at fr
  have X7 := hide fr.can
  clear fr
  replace K7 := hide K7
  clear hF lp
  simp only [patch, List.drop]
  rw [f74]
  clear f74
  generalize f 66 = y66_ at *
  generalize f 67 = y67_ at *
  generalize f 68 = y68_ at *
  generalize f 69 = y69_ at *
  generalize f 70 = y70_ at *
  generalize f 71 = y71_ at *
  generalize f 72 = y72_ at *
  generalize f 65 = y65_ at *
  generalize f 73 = y73_ at *
  generalize f 12 = y12_ at *
  subst er ep
  replace X5 := hide (X5.out.below hC)
  replace K5 := hide (K5.out.below' hC)
  replace L1V := hide (L1V.out.can_below hC)
  replace L2V := hide (L2V.out.can_below hC)
  replace K6 := hide (K6.out.below' hC)
  replace X6 := hide (X6.out.below hC)
  replace b0 := hide (b0.out.trans (hC.mono b0.out.size))
  clear hC
  go_wp2
  obtain ⟨V3_7, hV⟩ : ∃ V, w7 = V := ⟨_, rfl⟩
  rw [hV] at X5 K5 L1V L2V K6 X6 K7 X7 b0
  rw [hV]
  clear hV
  have Q8_ : Hid (H (((dot ((ps.take (k)).drop (0)) ((qs.take (k)).drop (0))) + (dot ((ps.take (n1)).drop (k)) ((qs.take (n1)).drop (k))))) 36063) := H_add Q4_.out Q7_.out (by decide)
  refine wp_region_facts 18 (fun w' => Below V3_7.heap.size V3_7 w') [(75, .eq (.int .i64 0)), (76, .eq (.bool false)), (77, .eq (.bool false)), (78, .eq (.int .i64 0)), (79, .eq (.bool false)), (80, .eq (.bool false)), (81, .eq (.bool false)), (82, .eq (.int .i64 0)), (83, .eq (.bool false)), (84, .eq (.bool false)), (85, .eq (.bool false)), (86, (.rat0 V3_7 (dot ps qs))), (87, (.rat0 V3_7 (dot ((ps.take (k)).drop (0)) ((qs.take (k)).drop (0))))), (88, (.rat0 V3_7 (dot ((ps.take (n1)).drop (k)) ((qs.take (n1)).drop (k))))), (89, (.rat ((dot ((ps.take (k)).drop (0)) ((qs.take (k)).drop (0))) + (dot ((ps.take (n1)).drop (k)) ((qs.take (n1)).drop (k)))))), (90, .eq (.bool true)), (91, .eq (.bool false)), (92, .eq (.bool false))] [false, false, false, false, false, false, false, false, false, false, false, false, false, false, false, false, false, false, false, false, false, false, false, false, false, false, false, false, false, false, false, false, false, false, false, false, false, false, false, false, false, false, false, false, false, false, false, false, false, false, false, false, false, false, false, false, false, false, false, false, false, false, false, false, false, false, false, false, false, false, false, false, false, false, false, true, true, true, true, true, true, true, true, true, true, true, true, true, true, true, true, true, true, false, false, false, false, false, false, false, false, false, false, false, false, false, false, false, false, false, false, false, false, false, false, false, false, false, false, false, false, false, false, false, false, false, false, false, false] mixed (by kernel_rfl) (by kernel_rfl) (by kernel_rfl) (fun _ _ h hb => h.trans (hb.mono h.size)) ((Below.refl _ _).drew) ⟨?_, ?_, ?_, ?_, ?_, ?_, ?_, ?_, ?_, ?_, ?_, ?_, ?_, ?_, ?_, ?_, ?_, ?_, trivial⟩ ?_
  · exact .moveC (.inl rfl) (.inl rfl) rfl (fun a w' hC hs => (hs 9 (by kernel_rfl)))
  · exact .value (.inl rfl) (by intro T e; cases e) rfl rfl (fun a w' hC hs hl => by
      have e0 : a.eval (.tmp 75) = (.int .i64 0) := (hl 75 (by kernel_rfl) (by kernel_rfl))
      simp only [execOp, e0]
      simp only [Act.eval]
      simp [go_sem] <;> rfl)
  · exact .move (.inl rfl) (.inl rfl) rfl (by kernel_rfl) (by kernel_rfl) rfl
  · exact .moveC (.inr ⟨2, false, 77, by decide, rfl, rfl, rfl⟩) (.inl rfl) rfl (fun a w' hC hs => (hs 11 (by kernel_rfl)))
  · exact .value (.inr ⟨2, false, 77, by decide, rfl, rfl, rfl⟩) (by intro T e; cases e) rfl rfl (fun a w' hC hs hl => by
      have e0 : a.eval (.tmp 78) = (.int .i64 0) := (hl 78 (by kernel_rfl) (by kernel_rfl))
      simp only [execOp, e0]
      simp only [Act.eval]
      simp [go_sem] <;> rfl)
  · exact .pick (b := false) (.inl rfl) rfl rfl (fun a w' hC hs hl => ⟨(hl 77 (by kernel_rfl) (by kernel_rfl)), (hl 79 (by kernel_rfl) (by kernel_rfl))⟩)
  · exact .move (.inl rfl) (.inl rfl) rfl (by kernel_rfl) (by kernel_rfl) rfl
  · exact .moveC (.inr ⟨6, false, 81, by decide, rfl, rfl, rfl⟩) (.inl rfl) rfl (fun a w' hC hs => (hs 13 (by kernel_rfl)))
  · exact .value (.inr ⟨6, false, 81, by decide, rfl, rfl, rfl⟩) (by intro T e; cases e) rfl rfl (fun a w' hC hs hl => by
      have e0 : a.eval (.tmp 82) = (.int .i64 0) := (hl 82 (by kernel_rfl) (by kernel_rfl))
      simp only [execOp, e0]
      simp only [Act.eval]
      simp [go_sem] <;> rfl)
  · exact .pick (b := false) (.inl rfl) rfl rfl (fun a w' hC hs hl => ⟨(hl 81 (by kernel_rfl) (by kernel_rfl)), (hl 83 (by kernel_rfl) (by kernel_rfl))⟩)
  · exact .move (.inl rfl) (.inl rfl) rfl (by kernel_rfl) (by kernel_rfl) rfl
  · exact .load (.agg #[.bool b5, .slice A5 n5 c5, .slice D5 m5 k5]) (.inr ⟨10, false, 85, by decide, rfl, rfl, rfl⟩) rfl rfl (fun a w' hC hs hl => by rw [show a.eval (.tmp 8) = (.pointer (some ⟨w5.heap.size, 0, none⟩) : Value) from (hs 8 (by kernel_rfl))]; exact ⟨ld_Rat_ ((K5.out.below' hC).at_ 0 rfl) ((K5.out.below' hC).at_ 1 rfl) ((K5.out.below' hC).at_ 2 rfl), X5.out⟩)
  · exact .load (.agg #[.bool b6, .slice A6 n6 c6, .slice D6 m6 k6]) (.inr ⟨10, false, 85, by decide, rfl, rfl, rfl⟩) rfl rfl (fun a w' hC hs hl => by rw [show a.eval (.tmp 10) = (.pointer (some ⟨g6, 0, none⟩) : Value) from (hs 10 (by kernel_rfl))]; exact ⟨ld_Rat_ ((K6.out.below' hC).at_ 0 rfl) ((K6.out.below' hC).at_ 1 rfl) ((K6.out.below' hC).at_ 2 rfl), X6.out⟩)
  · exact .load (.agg #[.bool b7, .slice A7 n7 c7, .slice D7 m7 k7]) (.inr ⟨10, false, 85, by decide, rfl, rfl, rfl⟩) rfl rfl (fun a w' hC hs hl => by rw [show a.eval (.tmp 12) = (.pointer (some ⟨g7, 0, none⟩) : Value) from (hs 12 (by kernel_rfl))]; exact ⟨ld_Rat_ ((K7.out.below' hC).at_ 0 rfl) ((K7.out.below' hC).at_ 1 rfl) ((K7.out.below' hC).at_ 2 rfl), X7.out⟩)
  · exact .call (.inr ⟨10, false, 85, by decide, rfl, rfl, rfl⟩) rfl rfl fn_rAdd (fun a w' hC hs hl => rAdd_C (RCan.arg (RCan.below (hl 87 (by kernel_rfl) (by kernel_rfl)) hC) (Q4_.out.up (by decide))) (RCan.arg (RCan.below (hl 88 (by kernel_rfl) (by kernel_rfl)) hC) (Q7_.out.up (by decide))) (T.out.below (b0.out.trans (hC.mono b0.out.size))))
  · exact .call (.inr ⟨10, false, 85, by decide, rfl, rfl, rfl⟩) rfl rfl fn_rSameRat (fun a w' hC hs hl => rSame_yes (RCan.below (hl 86 (by kernel_rfl) (by kernel_rfl)) hC) (hl 89 (by kernel_rfl) (by kernel_rfl)) true (decide_eq_true (by rw [List.drop_zero, show ps.take n1 = ps from List.take_of_length_le (by rw [E1.out]; exact Nat.le_refl _), show qs.take n1 = qs from List.take_of_length_le (by rw [E2.out]; exact Nat.le_refl _), List.drop_zero]; exact dot_parts _ _ _ (by rw [E1.out, E2.out]))))
  · exact .value (.inr ⟨10, false, 85, by decide, rfl, rfl, rfl⟩) (by intro T e; cases e) rfl rfl (fun a w' hC hs hl => by
      have e0 : a.eval (.tmp 90) = (.bool true) := (hl 90 (by kernel_rfl) (by kernel_rfl))
      simp only [execOp, e0]
      skip
      simp [go_sem] <;> rfl)
  · exact .pick (b := false) (.inl rfl) rfl rfl (fun a w' hC hs hl => ⟨(hl 85 (by kernel_rfl) (by kernel_rfl)), (hl 91 (by kernel_rfl) (by kernel_rfl))⟩)
  intro f u8 hC hF _
  have f92 : f 92 = .bool false := hF 92 (by kernel_rfl)
  clear hF
  simp only [patch, List.drop]
  rw [f92]
  clear f92
  try change wpList _ _ _ [] _ _
  generalize f 75 = y75_ at *
  generalize f 76 = y76_ at *
  generalize f 77 = y77_ at *
  generalize f 78 = y78_ at *
  generalize f 79 = y79_ at *
  generalize f 80 = y80_ at *
  generalize f 81 = y81_ at *
  generalize f 82 = y82_ at *
  generalize f 83 = y83_ at *
  generalize f 84 = y84_ at *
  generalize f 85 = y85_ at *
  generalize f 86 = y86_ at *
  generalize f 87 = y87_ at *
  generalize f 88 = y88_ at *
  generalize f 89 = y89_ at *
  generalize f 90 = y90_ at *
  generalize f 91 = y91_ at *
  replace X5 := hide (X5.out.below hC)
  replace K5 := hide (K5.out.below' hC)
  replace L1V := hide (L1V.out.can_below hC)
  replace L2V := hide (L2V.out.can_below hC)
  replace K6 := hide (K6.out.below' hC)
  replace X6 := hide (X6.out.below hC)
  replace K7 := hide (K7.out.below' hC)
  replace X7 := hide (X7.out.below hC)
  replace b0 := hide (b0.out.trans (hC.mono b0.out.size))
  clear hC
  go_wp2
  clear X5
  clear K5
  clear L1V
  clear L2V
  clear K6
  clear X6
  clear K7
  clear X7
  go_loopw [14] (fun iv wr => ∃ i : Nat, i ≤ n1 ∧ iv = .int .i64 (i : Nat) ∧ Hid (Below w.heap.size w wr)) (fun iv _ => n1 - (intOf iv).toNat)
  case atStart => exact ⟨0, by omega, rfl, b0⟩
  case round =>
    obtain ⟨i, hi, rfl, b0⟩ := hrel
    by_cases hlt : i < n1
    · obtain ⟨x, hx⟩ : ∃ x, ps[i]? = some x := ⟨_, List.getElem?_eq_getElem (by rw [E1.out]; exact hlt)⟩
      obtain ⟨y, hy⟩ : ∃ y, qs[i]? = some y := ⟨_, List.getElem?_eq_getElem (by rw [E2.out]; exact hlt)⟩
      have hX := hide hx
      have hY := hide hy
      clear hx hy
      have hSx : Hid (H x 300) := S1.out x (List.mem_of_getElem? hX.out)
      have hSy : Hid (H y 300) := S2.out y (List.mem_of_getElem? hY.out)
      obtain ⟨j, hj⟩ : ∃ j, Hid (j = i + 1) := ⟨_, rfl⟩
      have hw1 : Hid (IntKind.i64.wrap ((i : Int) + 1) = (j : Nat)) := by
        show _ = _
        rw [hj.out, IntKind.wrap_i64]
        omega
      go_wp2
      obtain ⟨V1_8, hV⟩ : ∃ V, wr = V := ⟨_, rfl⟩
      rw [hV] at  b0
      rw [hV]
      clear hV
      have L1W := hide (L1.out.can_below b0.out)
      have L2W := hide (L2.out.can_below b0.out)
      have Q9_ : Hid (Hs (((ps.take (j)).drop (i))) 300) := (S1.out.take _).drop _
      have Q10_ : Hid (Hs (((qs.take (j)).drop (i))) 300) := (S2.out.take _).drop _
      have Q11_ : Hid (H ((dot ((ps.take (j)).drop (i)) ((qs.take (j)).drop (i)))) 18031) := H_dot (Q9_.out.up (by decide)) (Q10_.out.up (by decide)) (k := 300) 30 18031 (by rw [List.length_drop, List.length_take, E1.out]; omega) (by decide) (by decide)
      refine RR.wp_region_R 16 V1_8 15 111 [(100, .eq (.slice A1 n1 c1)), (101, .eq (.int .i64 (i : Nat))), (102, .eq (.int .i64 (i : Nat))), (103, .eq (.int .i64 (j : Nat))), (104, (.lst0 V1_8 ((ps.take (j)).drop (i)))), (105, .eq (.slice A2 n1 c2)), (106, .eq (.int .i64 (i : Nat))), (107, .eq (.int .i64 (i : Nat))), (108, .eq (.int .i64 (j : Nat))), (109, (.lst0 V1_8 ((qs.take (j)).drop (i)))), (110, (.tupE (.ratR (dot ((ps.take (j)).drop (i)) ((qs.take (j)).drop (i))) V1_8.heap.size) (.int .i64 0))), (99, (.tupE (.ratR (dot ((ps.take (j)).drop (i)) ((qs.take (j)).drop (i))) V1_8.heap.size) (.int .i64 0))), (111, (.ratR (dot ((ps.take (j)).drop (i)) ((qs.take (j)).drop (i))) V1_8.heap.size)), (112, .eq ((.int .i64 0))), (15, (.var TR 3))] [false, false, false, false, false, false, false, false, false, false, false, false, false, false, false, true, false, false, false, false, false, false, false, false, false, false, false, false, false, false, false, false, false, false, false, false, false, false, false, false, false, false, false, false, false, false, false, false, false, false, false, false, false, false, false, false, false, false, false, false, false, false, false, false, false, false, false, false, false, false, false, false, false, false, false, false, false, false, false, false, false, false, false, false, false, false, false, false, false, false, false, false, false, false, false, false, false, false, false, true, true, true, true, true, true, true, true, true, true, true, true, true, true, false, false, false, false, false, false, false, false, false, false, false, false, false, false, false, false] mixed (by kernel_rfl) (by kernel_rfl) (by kernel_rfl) (Below.refl _ _).drew (by kernel_rfl) (by kernel_rfl) (by kernel_rfl) ⟨?_, ?_, ?_, ?_, ?_, ?_, ?_, ?_, ?_, ?_, ?_, ?_, ?_, ?_, ?_, ?_, trivial⟩ ?_
      · exact (.inl ⟨rfl, .moveC (.inl rfl) (.inl rfl) rfl (fun a w' hC hs => (hs 0 (by kernel_rfl)))⟩)
      · exact (.inl ⟨rfl, .moveC (.inl rfl) (.inl rfl) rfl (fun a w' hC hs => (hs 14 (by kernel_rfl)))⟩)
      · exact (.inl ⟨rfl, .moveC (.inl rfl) (.inl rfl) rfl (fun a w' hC hs => (hs 14 (by kernel_rfl)))⟩)
      · exact (.inl ⟨rfl, .value (.inl rfl) (by intro T e; cases e) rfl rfl (fun a w' hC hs hl => by
          have e0 : a.eval (.tmp 102) = (.int .i64 (i : Nat)) := (hl 102 (by kernel_rfl) (by kernel_rfl))
          simp only [execOp, e0]
          simp only [Act.eval]
          simp [go_sem, hw1.out])⟩)
      · exact (.inl ⟨rfl, .make (.inl rfl) (by intro T e; cases e) rfl (fun a w' hC hs hl => by
          have e0 : a.eval (.tmp 100) = (.slice A1 n1 c1) := (hl 100 (by kernel_rfl) (by kernel_rfl))
          have e1 : a.eval (.tmp 101) = (.int .i64 (i : Nat)) := (hl 101 (by kernel_rfl) (by kernel_rfl))
          have e2 : a.eval (.tmp 103) = (.int .i64 (j : Nat)) := (hl 103 (by kernel_rfl) (by kernel_rfl))
          have hr := run_cut (w := w') (A := A1) (n := n1) (c := c1) (l := i) (h := j) (some _) (some _) (.inl rfl) (.inl rfl) (by have := hj.out; omega) (by have := hcc.out; have := hj.out; omega)
          exact ⟨_, by simp [execOp, Option.map, e0, e1, e2, hr], Lst.cut tri_can L1W.out (i) (j) (by have := hj.out; omega) (by have := hj.out; omega)⟩)⟩)
      · exact (.inl ⟨rfl, .moveC (.inl rfl) (.inl rfl) rfl (fun a w' hC hs => (hs 1 (by kernel_rfl)))⟩)
      · exact (.inl ⟨rfl, .moveC (.inl rfl) (.inl rfl) rfl (fun a w' hC hs => (hs 14 (by kernel_rfl)))⟩)
      · exact (.inl ⟨rfl, .moveC (.inl rfl) (.inl rfl) rfl (fun a w' hC hs => (hs 14 (by kernel_rfl)))⟩)
      · exact (.inl ⟨rfl, .value (.inl rfl) (by intro T e; cases e) rfl rfl (fun a w' hC hs hl => by
          have e0 : a.eval (.tmp 107) = (.int .i64 (i : Nat)) := (hl 107 (by kernel_rfl) (by kernel_rfl))
          simp only [execOp, e0]
          simp only [Act.eval]
          simp [go_sem, hw1.out])⟩)
      · exact (.inl ⟨rfl, .make (.inl rfl) (by intro T e; cases e) rfl (fun a w' hC hs hl => by
          have e0 : a.eval (.tmp 105) = (.slice A2 n1 c2) := (hl 105 (by kernel_rfl) (by kernel_rfl))
          have e1 : a.eval (.tmp 106) = (.int .i64 (i : Nat)) := (hl 106 (by kernel_rfl) (by kernel_rfl))
          have e2 : a.eval (.tmp 108) = (.int .i64 (j : Nat)) := (hl 108 (by kernel_rfl) (by kernel_rfl))
          have hr := run_cut (w := w') (A := A2) (n := n1) (c := c2) (l := i) (h := j) (some _) (some _) (.inl rfl) (.inl rfl) (by have := hj.out; omega) (by have := hcc.out; have := hj.out; omega)
          exact ⟨_, by simp [execOp, Option.map, e0, e1, e2, hr], Lst.cut tri_can L2W.out (i) (j) (by have := hj.out; omega) (by have := hj.out; omega)⟩)⟩)
      · exact (.inl ⟨rfl, .call (.inl rfl) rfl rfl fn_vDot (fun a w' hC hs hl => RR.vDot_R (k := 300) _ hC.size (Lst.can_below (hl 104 (by kernel_rfl) (by kernel_rfl)) hC) (Lst.can_below (hl 109 (by kernel_rfl) (by kernel_rfl)) hC) (by rw [List.length_drop, List.length_drop, List.length_take, List.length_take, E1.out, E2.out]) Q9_.out Q10_.out (by have : ((ps.take (j)).drop (i)).length ≤ 30 := (by rw [List.length_drop, List.length_take, E1.out]; omega); omega) (T.out.below (b0.out.trans (hC.mono b0.out.size))))⟩)
      · exact (.inl ⟨rfl, .move (.inl rfl) (.inl rfl) rfl (by kernel_rfl) (by kernel_rfl) rfl⟩)
      · exact (.inl ⟨rfl, .make (.inl rfl) (by intro T e; cases e) rfl (fun a w' hC hs hl => by
      obtain ⟨u, e, h⟩ := (hl 99 (by kernel_rfl) (by kernel_rfl))
      have e' : a.tmps[99]?.getD undef = _ := (by simp [Act.eval] : _ = a.eval (.tmp 99)).trans e
      exact ⟨u, by simp [execOp, go_sem, e'], h⟩)⟩)
      · exact (.inl ⟨rfl, .make (.inl rfl) (by intro T e; cases e) rfl (fun a w' hC hs hl => by
      obtain ⟨u, e, h⟩ := (hl 99 (by kernel_rfl) (by kernel_rfl))
      have e' : a.tmps[99]?.getD undef = _ := (by simp [Act.eval] : _ = a.eval (.tmp 99)).trans e
      exact ⟨_, by simp [execOp, go_sem, e'], rfl⟩)⟩)
      · exact (.inl ⟨rfl, .alloc (.agg #[.bool false, .slice none 0 0, .slice none 0 0]) (.inl rfl) rfl rfl (fun a w' hC => ⟨run_alloc_Rat _ _ _ _ _ _ _, _, _, rfl, hC.size, Blk.new _ _ _, rfl⟩)⟩)
      · exact (.storeR (fun v w h => RatR.slice h) rfl rfl rfl (by kernel_rfl) (by kernel_rfl) (by kernel_rfl) (by kernel_rfl) rfl)
      intro f w9 hC hF _ hE
      obtain ⟨g8, b8, A8, n8, c8, D8, m8, k8, ep, lp, er, K8⟩ := hE
      have f112 : f 112 = (.int .i64 0) := hF 112 (by kernel_rfl)
      have fr : RatR (dot ((ps.take (j)).drop (i)) ((qs.take (j)).drop (i))) V1_8.heap.size w9 (f 111) := hF 111 (by kernel_rfl)
      rw [er] at fr
      have X8 := hide fr.can
      clear fr
      replace K8 := hide K8
      clear hF lp
      simp only [patch, List.drop]
      rw [f112]
      clear f112
      generalize f 100 = y100_ at *
      generalize f 101 = y101_ at *
      generalize f 102 = y102_ at *
      generalize f 103 = y103_ at *
      generalize f 104 = y104_ at *
      generalize f 105 = y105_ at *
      generalize f 106 = y106_ at *
      generalize f 107 = y107_ at *
      generalize f 108 = y108_ at *
      generalize f 109 = y109_ at *
      generalize f 110 = y110_ at *
      generalize f 99 = y99_ at *
      generalize f 111 = y111_ at *
      generalize f 15 = y15_ at *
      subst er ep
      replace L1W := hide (L1W.out.can_below hC)
      replace L2W := hide (L2W.out.can_below hC)
      replace b0 := hide (b0.out.trans (hC.mono b0.out.size))
      clear hC
      go_wp2
      obtain ⟨V2_9, hV⟩ : ∃ V, w9 = V := ⟨_, rfl⟩
      rw [hV] at L1W L2W K8 X8 b0
      rw [hV]
      clear hV
      obtain ⟨ad, bx_, Ax, nx, cx, Dx, mx_, kx, ea, _, x0, x1, x2, XX⟩ := L1W.out.at_ tri_can hX.out
      obtain ⟨ad2, by__, Ay, ny, cy, Dy, my_, ky, ea2, _, y0, y1, y2, YY⟩ := L2W.out.at_ tri_can hY.out
      replace XX := hide XX
      replace YY := hide YY
      replace x0 := hide x0
      replace x1 := hide x1
      replace x2 := hide x2
      replace y0 := hide y0
      replace y1 := hide y1
      replace y2 := hide y2
      replace ea := hide ea
      replace ea2 := hide ea2
      have Q12_ : Hid (H ((x * y)) 600) := H_mul hSx.out hSy.out (by decide)
      refine wp_region_facts 16 (fun w' => Below V2_9.heap.size V2_9 w') [(113, .eq (.int .i64 0)), (114, .eq (.bool false)), (115, .eq (.bool false)), (116, (.rat0 V2_9 (dot ((ps.take (j)).drop (i)) ((qs.take (j)).drop (i))))), (117, .eq (.slice A1 n1 c1)), (118, .eq (.int .i64 (i : Nat))), (119, .eq ((.pointer (some (ad.add (i * 3))) : Value))), (120, (.rat0 V2_9 x)), (121, .eq (.slice A2 n1 c2)), (122, .eq (.int .i64 (i : Nat))), (123, .eq ((.pointer (some (ad2.add (i * 3))) : Value))), (124, (.rat0 V2_9 y)), (125, (.rat (x * y))), (126, .eq (.bool true)), (127, .eq (.bool false)), (128, .eq (.bool false))] [false, false, false, false, false, false, false, false, false, false, false, false, false, false, false, false, false, false, false, false, false, false, false, false, false, false, false, false, false, false, false, false, false, false, false, false, false, false, false, false, false, false, false, false, false, false, false, false, false, false, false, false, false, false, false, false, false, false, false, false, false, false, false, false, false, false, false, false, false, false, false, false, false, false, false, false, false, false, false, false, false, false, false, false, false, false, false, false, false, false, false, false, false, false, false, false, false, false, false, false, false, false, false, false, false, false, false, false, false, false, false, false, false, true, true, true, true, true, true, true, true, true, true, true, true, true, true, true, true] mixed (by kernel_rfl) (by kernel_rfl) (by kernel_rfl) (fun _ _ h hb => h.trans (hb.mono h.size)) ((Below.refl _ _).drew) ⟨?_, ?_, ?_, ?_, ?_, ?_, ?_, ?_, ?_, ?_, ?_, ?_, ?_, ?_, ?_, ?_, trivial⟩ ?_
      · exact .moveC (.inl rfl) (.inl rfl) rfl (fun a w' hC hs => (hs 16 (by kernel_rfl)))
      · exact .value (.inl rfl) (by intro T e; cases e) rfl rfl (fun a w' hC hs hl => by
          have e0 : a.eval (.tmp 113) = (.int .i64 0) := (hl 113 (by kernel_rfl) (by kernel_rfl))
          simp only [execOp, e0]
          simp only [Act.eval]
          simp [go_sem] <;> rfl)
      · exact .move (.inl rfl) (.inl rfl) rfl (by kernel_rfl) (by kernel_rfl) rfl
      · exact .load (.agg #[.bool b8, .slice A8 n8 c8, .slice D8 m8 k8]) (.inr ⟨2, false, 115, by decide, rfl, rfl, rfl⟩) rfl rfl (fun a w' hC hs hl => by rw [show a.eval (.tmp 15) = (.pointer (some ⟨g8, 0, none⟩) : Value) from (hs 15 (by kernel_rfl))]; exact ⟨ld_Rat_ ((K8.out.below' hC).at_ 0 rfl) ((K8.out.below' hC).at_ 1 rfl) ((K8.out.below' hC).at_ 2 rfl), X8.out⟩)
      · exact .moveC (.inr ⟨2, false, 115, by decide, rfl, rfl, rfl⟩) (.inl rfl) rfl (fun a w' hC hs => (hs 0 (by kernel_rfl)))
      · exact .moveC (.inr ⟨2, false, 115, by decide, rfl, rfl, rfl⟩) (.inl rfl) rfl (fun a w' hC hs => (hs 14 (by kernel_rfl)))
      · exact .value (.inr ⟨2, false, 115, by decide, rfl, rfl, rfl⟩) (by intro T e; cases e) rfl rfl (fun a w' hC hs hl => by
          have e0 : a.eval (.tmp 117) = (.slice A1 n1 c1) := (hl 117 (by kernel_rfl) (by kernel_rfl))
          have e1 : a.eval (.tmp 118) = (.int .i64 (i : Nat)) := (hl 118 (by kernel_rfl) (by kernel_rfl))
          simp only [execOp, e0, e1, ea.out]
          simp [go_sem, hlt])
      · exact .load (.agg #[.bool bx_, .slice Ax nx cx, .slice Dx mx_ kx]) (.inr ⟨2, false, 115, by decide, rfl, rfl, rfl⟩) rfl rfl (fun a w' hC hs hl => by rw [show a.eval (.tmp 119) = (.pointer (some (ad.add (i * 3))) : Value) from (hl 119 (by kernel_rfl) (by kernel_rfl))]; exact ⟨ld_RatAt (cell_below hC x0.out) (cell_below hC x1.out) (cell_below hC x2.out), XX.out⟩)
      · exact .moveC (.inr ⟨2, false, 115, by decide, rfl, rfl, rfl⟩) (.inl rfl) rfl (fun a w' hC hs => (hs 1 (by kernel_rfl)))
      · exact .moveC (.inr ⟨2, false, 115, by decide, rfl, rfl, rfl⟩) (.inl rfl) rfl (fun a w' hC hs => (hs 14 (by kernel_rfl)))
      · exact .value (.inr ⟨2, false, 115, by decide, rfl, rfl, rfl⟩) (by intro T e; cases e) rfl rfl (fun a w' hC hs hl => by
          have e0 : a.eval (.tmp 121) = (.slice A2 n1 c2) := (hl 121 (by kernel_rfl) (by kernel_rfl))
          have e1 : a.eval (.tmp 122) = (.int .i64 (i : Nat)) := (hl 122 (by kernel_rfl) (by kernel_rfl))
          simp only [execOp, e0, e1, ea2.out]
          simp [go_sem, hlt])
      · exact .load (.agg #[.bool by__, .slice Ay ny cy, .slice Dy my_ ky]) (.inr ⟨2, false, 115, by decide, rfl, rfl, rfl⟩) rfl rfl (fun a w' hC hs hl => by rw [show a.eval (.tmp 123) = (.pointer (some (ad2.add (i * 3))) : Value) from (hl 123 (by kernel_rfl) (by kernel_rfl))]; exact ⟨ld_RatAt (cell_below hC y0.out) (cell_below hC y1.out) (cell_below hC y2.out), YY.out⟩)
      · exact .call (.inr ⟨2, false, 115, by decide, rfl, rfl, rfl⟩) rfl rfl fn_rMul (fun a w' hC hs hl => rMul_C (RCan.arg (RCan.below (hl 120 (by kernel_rfl) (by kernel_rfl)) hC) (hSx.out.up (by decide))) (RCan.arg (RCan.below (hl 124 (by kernel_rfl) (by kernel_rfl)) hC) (hSy.out.up (by decide))) (T.out.below (b0.out.trans (hC.mono b0.out.size))))
      · exact .call (.inr ⟨2, false, 115, by decide, rfl, rfl, rfl⟩) rfl rfl fn_rSameRat (fun a w' hC hs hl => rSame_yes (RCan.below (hl 116 (by kernel_rfl) (by kernel_rfl)) hC) (hl 125 (by kernel_rfl) (by kernel_rfl)) true (decide_eq_true (by rw [hj.out, take1_drop hX.out, take1_drop hY.out]; exact dot_one _ _)))
      · exact .value (.inr ⟨2, false, 115, by decide, rfl, rfl, rfl⟩) (by intro T e; cases e) rfl rfl (fun a w' hC hs hl => by
          have e0 : a.eval (.tmp 126) = (.bool true) := (hl 126 (by kernel_rfl) (by kernel_rfl))
          simp only [execOp, e0]
          skip
          simp [go_sem] <;> rfl)
      · exact .pick (b := false) (.inl rfl) rfl rfl (fun a w' hC hs hl => ⟨(hl 115 (by kernel_rfl) (by kernel_rfl)), (hl 127 (by kernel_rfl) (by kernel_rfl))⟩)
      intro f u10 hC hF _
      have f128 : f 128 = .bool false := hF 128 (by kernel_rfl)
      clear hF
      simp only [patch, List.drop]
      rw [f128]
      clear f128
      generalize f 113 = y113_ at *
      generalize f 114 = y114_ at *
      generalize f 115 = y115_ at *
      generalize f 116 = y116_ at *
      generalize f 117 = y117_ at *
      generalize f 118 = y118_ at *
      generalize f 119 = y119_ at *
      generalize f 120 = y120_ at *
      generalize f 121 = y121_ at *
      generalize f 122 = y122_ at *
      generalize f 123 = y123_ at *
      generalize f 124 = y124_ at *
      generalize f 125 = y125_ at *
      generalize f 126 = y126_ at *
      generalize f 127 = y127_ at *
      replace L1W := hide (L1W.out.can_below hC)
      replace L2W := hide (L2W.out.can_below hC)
      replace K8 := hide (K8.out.below' hC)
      replace X8 := hide (X8.out.below hC)
      replace b0 := hide (b0.out.trans (hC.mono b0.out.size))
      clear hC
      have hi1 : i + 1 ≤ n1 := hlt
      go_wp2
      go_roundw
      case rel => exact ⟨i + 1, hi1, by go_num, b0⟩
      case measure => simp [intOf]; omega
    · obtain rfl : i = n1 := by omega
      go_wp2
      exact opq_end hR ⟨rfl, b0⟩
end Go.Proofs.YthnhcbdecgkacaaGreatDoor
