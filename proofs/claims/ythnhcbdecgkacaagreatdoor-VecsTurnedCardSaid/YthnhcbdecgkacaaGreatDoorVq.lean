/- the laws of vecs: VecsTurned. -/
import Derived.Test.YthnhcbdecgkacaaGreatDoorVo
set_option linter.unusedVariables false
set_option linter.unusedSimpArgs false
set_option maxRecDepth 100000
namespace Go.Proofs.YthnhcbdecgkacaaGreatDoor
open Go.RowKit

set_option maxHeartbeats 8000000 in
theorem VecsTurned_ok (w : World) (A1 : Option Addr) (n1 c1 : Nat) (es1 : List Raw) (A2 : Option Addr) (n2 c2 : Nat) (es2 : List Raw) (h1 : Lst RRw w (.slice A1 n1 c1) es1) (h2 : Lst RRw w (.slice A2 n2 c2) es2) (hT : Tab w) :
    Calls Tryz.prog 7 #[.slice A1 n1 c1, .slice A2 n2 c2] w fun e w' => e = .returned (.bool true) ∧ Hid (Below w.heap.size w w') := by
  refine opq fun R hR => ?_
  have T := hide hT
  clear hT
  replace h1 := hide h1
  replace h2 := hide h2
  go_enter Tryz.func7, Tryz.ntmps7
  have b0 := hide (Below.refl w.heap.size w)
  go_wp2_with fail
  refine (valive_P _ (T.out.below b0.out)).mono ?_
  rintro e w1 ⟨_, rfl, d0, rfl⟩
  replace b0 := hide (below_tr b0.out d0)
  clear d0
  have GE := hide (show ∀ x ∈ ([gl A1 n1 c1 es1, gl A2 n2 c2 es2] : List GL), Lst RRw w1 (slv x) x.2 from (List.forall_mem_cons.2 ⟨(h1.out.rw_below b0.out), (List.forall_mem_cons.2 ⟨(h2.out.rw_below b0.out), (fun x hx => by simp at hx)⟩)⟩))
  by_cases gg : ([gl A1 n1 c1 es1, gl A2 n2 c2 es2] : List GL).any gr = true
  case pos =>
    replace gg := hide gg
    have y := (Below.refl w1.heap.size w1).alloc (Nat.le_refl _) (.cells #[.slice A1 n1 c1, .slice A2 n2 c2] 58)
    replace b0 := hide (below_tr b0.out y)
    clear y
    go_wp2_with fail
    refine (vgreat_L (w := w1) [gl A1 n1 c1 es1, gl A2 n2 c2 es2] #[.slice A1 n1 c1, .slice A2 n2 c2] rfl (g := w1.heap.size) (by simp) GE.out 2 rfl (by decide) true gg.out).mono ?_
    rintro e w2 ⟨_, rfl, d0, rfl⟩
    replace b0 := hide (below_tr b0.out d0)
    clear d0
    go_wp2_with fail
    refine (valive_P _ (T.out.below b0.out)).mono ?_
    rintro e w3 ⟨_, rfl, d0, rfl⟩
    replace b0 := hide (below_tr b0.out d0)
    clear d0
    go_wp2
    exact opq_end hR ⟨rfl, b0⟩
  replace gg : Hid (([gl A1 n1 c1 es1, gl A2 n2 c2 es2] : List GL).any gr = false) := (by simpa using gg : ([gl A1 n1 c1 es1, gl A2 n2 c2 es2] : List GL).any gr = false)
  have y := (Below.refl w1.heap.size w1).alloc (Nat.le_refl _) (.cells #[.slice A1 n1 c1, .slice A2 n2 c2] 58)
  replace b0 := hide (below_tr b0.out y)
  clear y
  go_wp2_with fail
  refine (vgreat_L (w := w1) [gl A1 n1 c1 es1, gl A2 n2 c2 es2] #[.slice A1 n1 c1, .slice A2 n2 c2] rfl (g := w1.heap.size) (by simp) GE.out 2 rfl (by decide) false gg.out).mono ?_
  rintro e w2 ⟨_, rfl, d0, rfl⟩
  replace b0 := hide (below_tr b0.out d0)
  clear d0
  clear GE
  have M1 : Hid (n1 ≤ 30 ∧ tsz es1 ≤ 300) := any_false gg.out (gl A1 n1 c1 es1) (by simp)
  have P1 := hide (h1.out.rawW 300 M1.out.2 (by decide)).1
  have S1 := hide (h1.out.rawW 300 M1.out.2 (by decide)).2
  have N1 : Hid (es1.length = n1) := h1.out.len
  have M2 : Hid (n2 ≤ 30 ∧ tsz es2 ≤ 300) := any_false gg.out (gl A2 n2 c2 es2) (by simp)
  have P2 := hide (h2.out.rawW 300 M2.out.2 (by decide)).1
  have S2 := hide (h2.out.rawW 300 M2.out.2 (by decide)).2
  have N2 : Hid (es2.length = n2) := h2.out.len
  clear gg h1 h2 
  by_cases ll : n1 = n2
  case neg =>
    have ne : ((n1 : Int) != (n2 : Int)) = true := by simp; omega
    go_wp2_with fail
    refine (valive_P _ (T.out.below b0.out)).mono ?_
    rintro e w3 ⟨_, rfl, d0, rfl⟩
    replace b0 := hide (below_tr b0.out d0)
    clear d0
    go_wp2
    exact opq_end hR ⟨rfl, b0⟩
  subst ll
  by_cases r1 : es1.all rk = false
  case pos =>
    replace r1 := hide r1
    go_wp2_with fail
    refine (vCheck_L (P1.out.raw_below b0.out) (T.out.below b0.out) false r1.out).mono ?_
    rintro e w3 ⟨_, rfl, d0, rfl⟩
    replace b0 := hide (below_tr b0.out d0)
    clear d0
    go_wp2_with fail
    refine (valive_P _ (T.out.below b0.out)).mono ?_
    rintro e w4 ⟨_, rfl, d0, rfl⟩
    replace b0 := hide (below_tr b0.out d0)
    clear d0
    go_wp2
    exact opq_end hR ⟨rfl, b0⟩
  replace r1 : Hid (es1.all rk = true) := (by simpa using r1 : es1.all rk = true)
  go_wp2_with fail
  refine (vCheck_L (P1.out.raw_below b0.out) (T.out.below b0.out) true r1.out).mono ?_
  rintro e w3 ⟨_, rfl, d0, rfl⟩
  replace b0 := hide (below_tr b0.out d0)
  clear d0
  have L1 := hide (P1.out.canW r1.out)
  have E1 : Hid ((es1.map rvE).length = n1) := by show _ = _; rw [List.length_map]; exact N1.out
  clear P1 r1 N1
  generalize es1.map rvE = ps at *
  by_cases r2 : es2.all rk = false
  case pos =>
    replace r2 := hide r2
    go_wp2_with fail
    refine (vCheck_L (P2.out.raw_below b0.out) (T.out.below b0.out) false r2.out).mono ?_
    rintro e w4 ⟨_, rfl, d0, rfl⟩
    replace b0 := hide (below_tr b0.out d0)
    clear d0
    go_wp2_with fail
    refine (valive_P _ (T.out.below b0.out)).mono ?_
    rintro e w5 ⟨_, rfl, d0, rfl⟩
    replace b0 := hide (below_tr b0.out d0)
    clear d0
    go_wp2
    exact opq_end hR ⟨rfl, b0⟩
  replace r2 : Hid (es2.all rk = true) := (by simpa using r2 : es2.all rk = true)
  go_wp2_with fail
  refine (vCheck_L (P2.out.raw_below b0.out) (T.out.below b0.out) true r2.out).mono ?_
  rintro e w4 ⟨_, rfl, d0, rfl⟩
  replace b0 := hide (below_tr b0.out d0)
  clear d0
  have L2 := hide (P2.out.canW r2.out)
  have E2 : Hid ((es2.map rvE).length = n1) := by show _ = _; rw [List.length_map]; exact N2.out
  clear P2 r2 N2
  generalize es2.map rvE = qs at *
  have Q1_ : Hid (H ((dot ps qs)) 18031) := H_dot (S1.out.up (by decide)) (S2.out.up (by decide)) (k := 300) 30 18031 (by rw [E1.out]; exact M1.out.1) (by decide) (by decide)
  go_wp2_with fail
  refine (vDot_T (k := 300) (L1.out.can_below b0.out) (L2.out.can_below b0.out) (by rw [E1.out, E2.out]) (S1.out) (S2.out) (by have : ps.length ≤ 30 := (by rw [E1.out]; exact M1.out.1); omega) (T.out.below b0.out)).mono ?_
  rintro e w5 ⟨v5, rfl, d0, x5⟩
  replace b0 := hide (below_tr b0.out d0)
  have X5 := hide (x5)
  clear d0
  clear x5
  obtain ⟨b5, A5, n5, c5, D5, m5, k5, rfl⟩ := X5.out.slice
  have K5 := hide (Blk.new_at w5 (w5.heap.size) (by simp) 60 #[.bool b5, .slice A5 n5 c5, .slice D5 m5 k5])
  have y := (Below.refl w5.heap.size w5).alloc (Nat.le_refl _) (.cells #[.bool b5, .slice A5 n5 c5, .slice D5 m5 k5] 60)
  replace X5 := hide (X5.out.below y)
  replace b0 := hide (below_tr b0.out y)
  clear y
  have Q2_ : Hid (H ((dot qs ps)) 18031) := H_dot (S2.out.up (by decide)) (S1.out.up (by decide)) (k := 300) 30 18031 (by rw [E2.out]; exact M1.out.1) (by decide) (by decide)
  go_wp2_with fail
  refine (vDot_T (k := 300) (L2.out.can_below b0.out) (L1.out.can_below b0.out) (by rw [E1.out, E2.out]) (S2.out) (S1.out) (by have : qs.length ≤ 30 := (by rw [E2.out]; exact M1.out.1); omega) (T.out.below b0.out)).mono ?_
  rintro e w6 ⟨v6, rfl, d0, x6⟩
  replace X5 := hide (X5.out.below d0)
  replace K5 := hide (K5.out.below' d0)
  replace b0 := hide (below_tr b0.out d0)
  have X6 := hide (x6)
  clear d0
  clear x6
  obtain ⟨b6, A6, n6, c6, D6, m6, k6, rfl⟩ := X6.out.slice
  have K6 := hide (Blk.new_at w6 (w6.heap.size) (by simp) 60 #[.bool b6, .slice A6 n6 c6, .slice D6 m6 k6])
  have y := (Below.refl w6.heap.size w6).alloc (Nat.le_refl _) (.cells #[.bool b6, .slice A6 n6 c6, .slice D6 m6 k6] 60)
  replace X5 := hide (X5.out.below y)
  replace K5 := hide (K5.out.below' y)
  replace X6 := hide (X6.out.below y)
  replace b0 := hide (below_tr b0.out y)
  clear y
  go_wp2_with fail
  refine (vZero_L _ n1 (by have := M1.out.1; omega)).mono ?_
  rintro e w7 ⟨z0, rfl, d0, hz⟩
  replace X5 := hide (X5.out.below d0)
  replace K5 := hide (K5.out.below' d0)
  replace X6 := hide (X6.out.below d0)
  replace K6 := hide (K6.out.below' d0)
  replace b0 := hide (below_tr b0.out d0)
  have LZ := hide (hz)
  clear d0
  clear hz
  obtain ⟨AZ, cZ, rfl⟩ := LZ.out.sl
  rw [List.length_replicate] at LZ ⊢
  have Q3_ : Hid (Hs ((List.replicate n1 (0 : Rat))) 1) := Hs_zero n1
  have Q4_ : Hid (H ((dot ps (List.replicate n1 (0 : Rat)))) 18031) := H_dot (S1.out.up (by decide)) (Q3_.out.up (by decide)) (k := 300) 30 18031 (by rw [E1.out]; exact M1.out.1) (by decide) (by decide)
  go_wp2_with fail
  refine (vDot_T (k := 300) (L1.out.can_below b0.out) LZ.out (by rw [E1.out, List.length_replicate]) (S1.out) ((Q3_.out.up (by decide))) (by have : ps.length ≤ 30 := (by rw [E1.out]; exact M1.out.1); omega) (T.out.below b0.out)).mono ?_
  rintro e w8 ⟨v7, rfl, d0, x7⟩
  replace X5 := hide (X5.out.below d0)
  replace K5 := hide (K5.out.below' d0)
  replace X6 := hide (X6.out.below d0)
  replace K6 := hide (K6.out.below' d0)
  replace LZ := hide (LZ.out.can_below d0)
  replace b0 := hide (below_tr b0.out d0)
  have X7 := hide (x7)
  clear d0
  clear x7
  obtain ⟨b7, A7, n7, c7, D7, m7, k7, rfl⟩ := X7.out.slice
  have K7 := hide (Blk.new_at w8 (w8.heap.size) (by simp) 60 #[.bool b7, .slice A7 n7 c7, .slice D7 m7 k7])
  have y := (Below.refl w8.heap.size w8).alloc (Nat.le_refl _) (.cells #[.bool b7, .slice A7 n7 c7, .slice D7 m7 k7] 60)
  replace X5 := hide (X5.out.below y)
  replace K5 := hide (K5.out.below' y)
  replace X6 := hide (X6.out.below y)
  replace K6 := hide (K6.out.below' y)
  replace LZ := hide (LZ.out.can_below y)
  replace X7 := hide (X7.out.below y)
  replace b0 := hide (below_tr b0.out y)
  clear y
  clear LZ
  have Q5_ : Hid (H ((dot ps ps)) 18031) := H_dot (S1.out.up (by decide)) (S1.out.up (by decide)) (k := 300) 30 18031 (by rw [E1.out]; exact M1.out.1) (by decide) (by decide)
  go_wp2_with fail
  refine (vDot_T (k := 300) (L1.out.can_below b0.out) (L1.out.can_below b0.out) (rfl) (S1.out) (S1.out) (by have : ps.length ≤ 30 := (by rw [E1.out]; exact M1.out.1); omega) (T.out.below b0.out)).mono ?_
  rintro e w9 ⟨v8, rfl, d0, x8⟩
  replace X5 := hide (X5.out.below d0)
  replace K5 := hide (K5.out.below' d0)
  replace X6 := hide (X6.out.below d0)
  replace K6 := hide (K6.out.below' d0)
  replace X7 := hide (X7.out.below d0)
  replace K7 := hide (K7.out.below' d0)
  replace b0 := hide (below_tr b0.out d0)
  have X8 := hide (x8)
  clear d0
  clear x8
  obtain ⟨b8, A8, n8, c8, D8, m8, k8, rfl⟩ := X8.out.slice
  have K8 := hide (Blk.new_at w9 (w9.heap.size) (by simp) 60 #[.bool b8, .slice A8 n8 c8, .slice D8 m8 k8])
  have y := (Below.refl w9.heap.size w9).alloc (Nat.le_refl _) (.cells #[.bool b8, .slice A8 n8 c8, .slice D8 m8 k8] 60)
  replace X5 := hide (X5.out.below y)
  replace K5 := hide (K5.out.below' y)
  replace X6 := hide (X6.out.below y)
  replace K6 := hide (K6.out.below' y)
  replace X7 := hide (X7.out.below y)
  replace K7 := hide (K7.out.below' y)
  replace X8 := hide (X8.out.below y)
  replace b0 := hide (below_tr b0.out y)
  clear y
  repeat (first | with_reducible refine hold_reg (id := 7) ?_ | go_values | go_skip | go_guarded | go_step | go_upon | go_back | (simp only [Int.not_lt, Int.not_le] at *; go_simp))
  obtain ⟨V1_9, hV⟩ : ∃ V, (w9.alloc (.cells #[.bool b8, .slice A8 n8 c8, .slice D8 m8 k8] 60)) = V := ⟨_, rfl⟩
  rw [hV] at X5 K5 X6 K6 X7 K7 X8 K8 b0
  rw [hV]
  clear hV
  unfold Hid
  refine wp_seq ?_
  have L1V := hide (L1.out.can_below b0.out)
  obtain ⟨sg, hs0, hsr⟩ : ∃ sg : Int, cmpQ (dot ps ps) 0 = sg ∧ (sg = 0 ∨ sg = 1) := by
    have := dot_self_nonneg ps
    rcases rat_tri (dot ps ps) 0 with h | h | h
    · grind
    · exact ⟨0, cmpQ_e h, .inl rfl⟩
    · exact ⟨1, cmpQ_gt h, .inr rfl⟩
  have hsz : Hid (decide (ps = (List.replicate n1 (0 : Rat))) = decide (sg = 0)) := by
    show _ = _
    rw [← hs0, decide_eq_decide, ← E1.out, ← dot_self_zero]
    constructor
    · intro e; exact cmpQ_e e
    · intro e
      rcases rat_tri (dot ps ps) 0 with h | h | h
      · rw [cmpQ_lt h] at e; cases e
      · exact h
      · rw [cmpQ_gt h] at e; cases e
  replace hs0 := hide hs0
  rcases hsr with rfl | rfl
  · refine wp_region_seq 41 (fun w' => Below V1_9.heap.size V1_9 w') [(65, .eq (.int .i64 0)), (66, .eq (.bool true)), (67, .eq (.bool true)), (68, .eq (.int .i64 0)), (69, .eq (.bool true)), (70, .eq (.bool true)), (71, .eq (.bool true)), (72, .eq (.int .i64 0)), (73, .eq (.bool true)), (74, .eq (.bool true)), (75, .eq (.bool true)), (76, .eq (.int .i64 0)), (77, .eq (.bool true)), (78, .eq (.bool true)), (79, .eq (.bool true)), (80, (.rat0 V1_9 (dot ps qs))), (81, (.rat0 V1_9 (dot qs ps))), (82, .eq (.bool true)), (83, .eq (.bool true)), (84, .eq (.bool true)), (85, (.rat0 V1_9 (dot ps (List.replicate n1 (0 : Rat))))), (86, .eq (.int .i64 (0))), (87, .eq (.bool true)), (88, .eq (.bool true)), (89, .eq (.bool true)), (90, (.rat0 V1_9 (dot ps ps))), (91, .eq (.int .i64 (0))), (92, .eq (.bool true)), (93, .eq (.bool true)), (94, .eq (.bool true)), (95, (.rat0 V1_9 (dot ps ps))), (96, .eq (.int .i64 (0))), (97, .eq (.bool true)), (98, (.lst0 V1_9 ps)), (99, .eq (.slice A1 n1 c1)), (100, .eq (.int .i64 (n1))), (101, (.lst (List.replicate n1 (0 : Rat)))), (102, .eq (.bool true)), (103, .eq (.bool true)), (104, .eq (.bool true)), (4, .eq (.bool true))] [false, false, false, false, true, false, false, false, false, false, false, false, false, false, false, false, false, false, false, false, false, false, false, false, false, false, false, false, false, false, false, false, false, false, false, false, false, false, false, false, false, false, false, false, false, false, false, false, false, false, false, false, false, false, false, false, false, false, false, false, false, false, false, false, false, true, true, true, true, true, true, true, true, true, true, true, true, true, true, true, true, true, true, true, true, true, true, true, true, true, true, true, true, true, true, true, true, true, true, true, true, true, true, true, true] (by kernel_rfl) (by kernel_rfl) (by kernel_rfl) (fun _ _ h hb => h.trans (hb.mono h.size)) (Below.refl _ _) ⟨?_, ?_, ?_, ?_, ?_, ?_, ?_, ?_, ?_, ?_, ?_, ?_, ?_, ?_, ?_, ?_, ?_, ?_, ?_, ?_, ?_, ?_, ?_, ?_, ?_, ?_, ?_, ?_, ?_, ?_, ?_, ?_, ?_, ?_, ?_, ?_, ?_, ?_, ?_, ?_, ?_, trivial⟩ ?_
    · exact .moveC (.inl rfl) (.inl rfl) rfl (fun a w' hC hs => (hs 6 (by kernel_rfl)))
    · exact .value (.inl rfl) (by intro T e; cases e) rfl rfl (fun a w' hC hs hl => by
        have e0 : a.eval (.tmp 65) = (.int .i64 0) := (hl 65 (by kernel_rfl) (by kernel_rfl))
        simp only [execOp, e0]
        simp only [Act.eval]
        simp [go_sem] <;> rfl)
    · exact .move (.inl rfl) (.inl rfl) rfl (by kernel_rfl) (by kernel_rfl) rfl
    · exact .moveC (.inr ⟨2, true, 67, by decide, rfl, rfl, rfl⟩) (.inl rfl) rfl (fun a w' hC hs => (hs 8 (by kernel_rfl)))
    · exact .value (.inr ⟨2, true, 67, by decide, rfl, rfl, rfl⟩) (by intro T e; cases e) rfl rfl (fun a w' hC hs hl => by
        have e0 : a.eval (.tmp 68) = (.int .i64 0) := (hl 68 (by kernel_rfl) (by kernel_rfl))
        simp only [execOp, e0]
        simp only [Act.eval]
        simp [go_sem] <;> rfl)
    · exact .pick (b := true) (.inl rfl) rfl rfl (fun a w' hC hs hl => ⟨(hl 67 (by kernel_rfl) (by kernel_rfl)), (hl 69 (by kernel_rfl) (by kernel_rfl))⟩)
    · exact .move (.inl rfl) (.inl rfl) rfl (by kernel_rfl) (by kernel_rfl) rfl
    · exact .moveC (.inr ⟨6, true, 71, by decide, rfl, rfl, rfl⟩) (.inl rfl) rfl (fun a w' hC hs => (hs 10 (by kernel_rfl)))
    · exact .value (.inr ⟨6, true, 71, by decide, rfl, rfl, rfl⟩) (by intro T e; cases e) rfl rfl (fun a w' hC hs hl => by
        have e0 : a.eval (.tmp 72) = (.int .i64 0) := (hl 72 (by kernel_rfl) (by kernel_rfl))
        simp only [execOp, e0]
        simp only [Act.eval]
        simp [go_sem] <;> rfl)
    · exact .pick (b := true) (.inl rfl) rfl rfl (fun a w' hC hs hl => ⟨(hl 71 (by kernel_rfl) (by kernel_rfl)), (hl 73 (by kernel_rfl) (by kernel_rfl))⟩)
    · exact .move (.inl rfl) (.inl rfl) rfl (by kernel_rfl) (by kernel_rfl) rfl
    · exact .moveC (.inr ⟨10, true, 75, by decide, rfl, rfl, rfl⟩) (.inl rfl) rfl (fun a w' hC hs => (hs 12 (by kernel_rfl)))
    · exact .value (.inr ⟨10, true, 75, by decide, rfl, rfl, rfl⟩) (by intro T e; cases e) rfl rfl (fun a w' hC hs hl => by
        have e0 : a.eval (.tmp 76) = (.int .i64 0) := (hl 76 (by kernel_rfl) (by kernel_rfl))
        simp only [execOp, e0]
        simp only [Act.eval]
        simp [go_sem] <;> rfl)
    · exact .pick (b := true) (.inl rfl) rfl rfl (fun a w' hC hs hl => ⟨(hl 75 (by kernel_rfl) (by kernel_rfl)), (hl 77 (by kernel_rfl) (by kernel_rfl))⟩)
    · exact .move (.inl rfl) (.inl rfl) rfl (by kernel_rfl) (by kernel_rfl) rfl
    · exact .load (.agg #[.bool b5, .slice A5 n5 c5, .slice D5 m5 k5]) (.inr ⟨14, true, 79, by decide, rfl, rfl, rfl⟩) rfl rfl (fun a w' hC hs hl => by rw [show a.eval (.tmp 5) = (.pointer (some ⟨w5.heap.size, 0, none⟩) : Value) from (hs 5 (by kernel_rfl))]; exact ⟨ld_Rat_ ((K5.out.below' hC).at_ 0 rfl) ((K5.out.below' hC).at_ 1 rfl) ((K5.out.below' hC).at_ 2 rfl), X5.out⟩)
    · exact .load (.agg #[.bool b6, .slice A6 n6 c6, .slice D6 m6 k6]) (.inr ⟨14, true, 79, by decide, rfl, rfl, rfl⟩) rfl rfl (fun a w' hC hs hl => by rw [show a.eval (.tmp 7) = (.pointer (some ⟨w6.heap.size, 0, none⟩) : Value) from (hs 7 (by kernel_rfl))]; exact ⟨ld_Rat_ ((K6.out.below' hC).at_ 0 rfl) ((K6.out.below' hC).at_ 1 rfl) ((K6.out.below' hC).at_ 2 rfl), X6.out⟩)
    · exact .call (.inr ⟨14, true, 79, by decide, rfl, rfl, rfl⟩) rfl rfl fn_rSameRat (fun a w' hC hs hl => rSame_yes (RCan.below (hl 80 (by kernel_rfl) (by kernel_rfl)) hC) (RCan.below (hl 81 (by kernel_rfl) (by kernel_rfl)) hC) true (decide_eq_true (dot_comm _ _)))
    · exact .pick (b := true) (.inl rfl) rfl rfl (fun a w' hC hs hl => ⟨(hl 79 (by kernel_rfl) (by kernel_rfl)), (hl 82 (by kernel_rfl) (by kernel_rfl))⟩)
    · exact .move (.inl rfl) (.inl rfl) rfl (by kernel_rfl) (by kernel_rfl) rfl
    · exact .load (.agg #[.bool b7, .slice A7 n7 c7, .slice D7 m7 k7]) (.inr ⟨19, true, 84, by decide, rfl, rfl, rfl⟩) rfl rfl (fun a w' hC hs hl => by rw [show a.eval (.tmp 9) = (.pointer (some ⟨w8.heap.size, 0, none⟩) : Value) from (hs 9 (by kernel_rfl))]; exact ⟨ld_Rat_ ((K7.out.below' hC).at_ 0 rfl) ((K7.out.below' hC).at_ 1 rfl) ((K7.out.below' hC).at_ 2 rfl), X7.out⟩)
    · exact .call (.inr ⟨19, true, 84, by decide, rfl, rfl, rfl⟩) rfl rfl fn_rSign (fun a w' hC hs hl => rSign_eq (RCan.arg (RCan.below (hl 85 (by kernel_rfl) (by kernel_rfl)) hC) (Q4_.out.up (by decide))) (T.out.below (b0.out.trans (hC.mono b0.out.size))) (0) (cmpQ_e (dot_zero _ _)))
    · exact .value (.inr ⟨19, true, 84, by decide, rfl, rfl, rfl⟩) (by intro T e; cases e) rfl rfl (fun a w' hC hs hl => by
        have e0 : a.eval (.tmp 86) = (.int .i64 (0)) := (hl 86 (by kernel_rfl) (by kernel_rfl))
        simp only [execOp, e0]
        simp only [Act.eval]
        simp [go_sem] <;> rfl)
    · exact .pick (b := true) (.inl rfl) rfl rfl (fun a w' hC hs hl => ⟨(hl 84 (by kernel_rfl) (by kernel_rfl)), (hl 87 (by kernel_rfl) (by kernel_rfl))⟩)
    · exact .move (.inl rfl) (.inl rfl) rfl (by kernel_rfl) (by kernel_rfl) rfl
    · exact .load (.agg #[.bool b8, .slice A8 n8 c8, .slice D8 m8 k8]) (.inr ⟨24, true, 89, by decide, rfl, rfl, rfl⟩) rfl rfl (fun a w' hC hs hl => by rw [show a.eval (.tmp 11) = (.pointer (some ⟨w9.heap.size, 0, none⟩) : Value) from (hs 11 (by kernel_rfl))]; exact ⟨ld_Rat_ ((K8.out.below' hC).at_ 0 rfl) ((K8.out.below' hC).at_ 1 rfl) ((K8.out.below' hC).at_ 2 rfl), X8.out⟩)
    · exact .call (.inr ⟨24, true, 89, by decide, rfl, rfl, rfl⟩) rfl rfl fn_rSign (fun a w' hC hs hl => rSign_eq (RCan.arg (RCan.below (hl 90 (by kernel_rfl) (by kernel_rfl)) hC) (Q5_.out.up (by decide))) (T.out.below (b0.out.trans (hC.mono b0.out.size))) (0) (hs0.out))
    · exact .value (.inr ⟨24, true, 89, by decide, rfl, rfl, rfl⟩) (by intro T e; cases e) rfl rfl (fun a w' hC hs hl => by
        have e0 : a.eval (.tmp 91) = (.int .i64 (0)) := (hl 91 (by kernel_rfl) (by kernel_rfl))
        simp only [execOp, e0]
        simp only [Act.eval]
        simp [go_sem] <;> rfl)
    · exact .pick (b := true) (.inl rfl) rfl rfl (fun a w' hC hs hl => ⟨(hl 89 (by kernel_rfl) (by kernel_rfl)), (hl 92 (by kernel_rfl) (by kernel_rfl))⟩)
    · exact .move (.inl rfl) (.inl rfl) rfl (by kernel_rfl) (by kernel_rfl) rfl
    · exact .load (.agg #[.bool b8, .slice A8 n8 c8, .slice D8 m8 k8]) (.inr ⟨29, true, 94, by decide, rfl, rfl, rfl⟩) rfl rfl (fun a w' hC hs hl => by rw [show a.eval (.tmp 11) = (.pointer (some ⟨w9.heap.size, 0, none⟩) : Value) from (hs 11 (by kernel_rfl))]; exact ⟨ld_Rat_ ((K8.out.below' hC).at_ 0 rfl) ((K8.out.below' hC).at_ 1 rfl) ((K8.out.below' hC).at_ 2 rfl), X8.out⟩)
    · exact .call (.inr ⟨29, true, 94, by decide, rfl, rfl, rfl⟩) rfl rfl fn_rSign (fun a w' hC hs hl => rSign_eq (RCan.arg (RCan.below (hl 95 (by kernel_rfl) (by kernel_rfl)) hC) (Q5_.out.up (by decide))) (T.out.below (b0.out.trans (hC.mono b0.out.size))) (0) (hs0.out))
    · exact .value (.inr ⟨29, true, 94, by decide, rfl, rfl, rfl⟩) (by intro T e; cases e) rfl rfl (fun a w' hC hs hl => by
        have e0 : a.eval (.tmp 96) = (.int .i64 (0)) := (hl 96 (by kernel_rfl) (by kernel_rfl))
        simp only [execOp, e0]
        simp only [Act.eval]
        simp [go_sem] <;> rfl)
    · exact .moveC (.inr ⟨29, true, 94, by decide, rfl, rfl, rfl⟩) (.inl rfl) rfl (fun a w' hC hs => (show Lst RCan V1_9 (a.eval (.tmp 0)) ps from by rw [show a.eval (.tmp 0) = (.slice A1 n1 c1 : Value) from (hs 0 (by kernel_rfl))]; exact L1V.out))
    · exact .moveC (.inr ⟨29, true, 94, by decide, rfl, rfl, rfl⟩) (.inl rfl) rfl (fun a w' hC hs => (hs 0 (by kernel_rfl)))
    · exact .value (.inr ⟨29, true, 94, by decide, rfl, rfl, rfl⟩) (by intro T e; cases e) rfl rfl (fun a w' hC hs hl => by
        have e0 : a.eval (.tmp 99) = (.slice A1 n1 c1) := (hl 99 (by kernel_rfl) (by kernel_rfl))
        have e0' : a.tmps[99]?.getD undef = _ := (by simp [Act.eval] : _ = a.eval (.tmp 99)).trans e0
        simp [execOp, resolve, invoke, builtin, go_sem, e0, e0'])
    · exact .call (.inr ⟨29, true, 94, by decide, rfl, rfl, rfl⟩) rfl rfl fn_vZero (fun a w' hC hs hl => by
      show Calls _ _ #[a.eval (.tmp 100)] _ _
      rw [show a.eval (.tmp 100) = (.int .i64 (n1) : Value) from (hl 100 (by kernel_rfl) (by kernel_rfl))]
      exact vZero_L w' n1 (by have := M1.out.1; omega))
    · exact .call (.inr ⟨29, true, 94, by decide, rfl, rfl, rfl⟩) rfl rfl fn_vSame (fun a w' hC hs hl => vSame_L (k := 300) (Lst.can_below (hl 98 (by kernel_rfl) (by kernel_rfl)) hC) (hl 101 (by kernel_rfl) (by kernel_rfl)) S1.out (Q3_.out.up (by decide)) (by decide) (T.out.below (b0.out.trans (hC.mono b0.out.size))) true (hsz.out.trans (by decide)))
    · exact .value (.inr ⟨29, true, 94, by decide, rfl, rfl, rfl⟩) (by intro T e; cases e) rfl rfl (fun a w' hC hs hl => by
        have e0 : a.eval (.tmp 97) = (.bool true) := (hl 97 (by kernel_rfl) (by kernel_rfl))
        have e1 : a.eval (.tmp 102) = (.bool true) := (hl 102 (by kernel_rfl) (by kernel_rfl))
        simp only [execOp, e0, e1]
        skip
        simp [go_sem] <;> rfl)
    · exact .pick (b := true) (.inl rfl) rfl rfl (fun a w' hC hs hl => ⟨(hl 94 (by kernel_rfl) (by kernel_rfl)), (hl 103 (by kernel_rfl) (by kernel_rfl))⟩)
    · exact .move (.inl rfl) (.inr rfl) rfl (by kernel_rfl) (by kernel_rfl) rfl
    intro f w99 hC hF _
    have f0 : f 4 = .bool true := hF 4 (by kernel_rfl)
    clear hF
    simp only [patch, List.drop]
    have B9 := hide (b0.out.trans (hC.mono b0.out.size))
    clear hC
    rw [f0]
    try change wpList _ _ _ [] _ _
    go_wp2
    exact opq_end hR ⟨rfl, B9⟩
  · refine wp_region_seq 41 (fun w' => Below V1_9.heap.size V1_9 w') [(65, .eq (.int .i64 0)), (66, .eq (.bool true)), (67, .eq (.bool true)), (68, .eq (.int .i64 0)), (69, .eq (.bool true)), (70, .eq (.bool true)), (71, .eq (.bool true)), (72, .eq (.int .i64 0)), (73, .eq (.bool true)), (74, .eq (.bool true)), (75, .eq (.bool true)), (76, .eq (.int .i64 0)), (77, .eq (.bool true)), (78, .eq (.bool true)), (79, .eq (.bool true)), (80, (.rat0 V1_9 (dot ps qs))), (81, (.rat0 V1_9 (dot qs ps))), (82, .eq (.bool true)), (83, .eq (.bool true)), (84, .eq (.bool true)), (85, (.rat0 V1_9 (dot ps (List.replicate n1 (0 : Rat))))), (86, .eq (.int .i64 (0))), (87, .eq (.bool true)), (88, .eq (.bool true)), (89, .eq (.bool true)), (90, (.rat0 V1_9 (dot ps ps))), (91, .eq (.int .i64 (1))), (92, .eq (.bool true)), (93, .eq (.bool true)), (94, .eq (.bool true)), (95, (.rat0 V1_9 (dot ps ps))), (96, .eq (.int .i64 (1))), (97, .eq (.bool false)), (98, (.lst0 V1_9 ps)), (99, .eq (.slice A1 n1 c1)), (100, .eq (.int .i64 (n1))), (101, (.lst (List.replicate n1 (0 : Rat)))), (102, .eq (.bool false)), (103, .eq (.bool true)), (104, .eq (.bool true)), (4, .eq (.bool true))] [false, false, false, false, true, false, false, false, false, false, false, false, false, false, false, false, false, false, false, false, false, false, false, false, false, false, false, false, false, false, false, false, false, false, false, false, false, false, false, false, false, false, false, false, false, false, false, false, false, false, false, false, false, false, false, false, false, false, false, false, false, false, false, false, false, true, true, true, true, true, true, true, true, true, true, true, true, true, true, true, true, true, true, true, true, true, true, true, true, true, true, true, true, true, true, true, true, true, true, true, true, true, true, true, true] (by kernel_rfl) (by kernel_rfl) (by kernel_rfl) (fun _ _ h hb => h.trans (hb.mono h.size)) (Below.refl _ _) ⟨?_, ?_, ?_, ?_, ?_, ?_, ?_, ?_, ?_, ?_, ?_, ?_, ?_, ?_, ?_, ?_, ?_, ?_, ?_, ?_, ?_, ?_, ?_, ?_, ?_, ?_, ?_, ?_, ?_, ?_, ?_, ?_, ?_, ?_, ?_, ?_, ?_, ?_, ?_, ?_, ?_, trivial⟩ ?_
    · exact .moveC (.inl rfl) (.inl rfl) rfl (fun a w' hC hs => (hs 6 (by kernel_rfl)))
    · exact .value (.inl rfl) (by intro T e; cases e) rfl rfl (fun a w' hC hs hl => by
        have e0 : a.eval (.tmp 65) = (.int .i64 0) := (hl 65 (by kernel_rfl) (by kernel_rfl))
        simp only [execOp, e0]
        simp only [Act.eval]
        simp [go_sem] <;> rfl)
    · exact .move (.inl rfl) (.inl rfl) rfl (by kernel_rfl) (by kernel_rfl) rfl
    · exact .moveC (.inr ⟨2, true, 67, by decide, rfl, rfl, rfl⟩) (.inl rfl) rfl (fun a w' hC hs => (hs 8 (by kernel_rfl)))
    · exact .value (.inr ⟨2, true, 67, by decide, rfl, rfl, rfl⟩) (by intro T e; cases e) rfl rfl (fun a w' hC hs hl => by
        have e0 : a.eval (.tmp 68) = (.int .i64 0) := (hl 68 (by kernel_rfl) (by kernel_rfl))
        simp only [execOp, e0]
        simp only [Act.eval]
        simp [go_sem] <;> rfl)
    · exact .pick (b := true) (.inl rfl) rfl rfl (fun a w' hC hs hl => ⟨(hl 67 (by kernel_rfl) (by kernel_rfl)), (hl 69 (by kernel_rfl) (by kernel_rfl))⟩)
    · exact .move (.inl rfl) (.inl rfl) rfl (by kernel_rfl) (by kernel_rfl) rfl
    · exact .moveC (.inr ⟨6, true, 71, by decide, rfl, rfl, rfl⟩) (.inl rfl) rfl (fun a w' hC hs => (hs 10 (by kernel_rfl)))
    · exact .value (.inr ⟨6, true, 71, by decide, rfl, rfl, rfl⟩) (by intro T e; cases e) rfl rfl (fun a w' hC hs hl => by
        have e0 : a.eval (.tmp 72) = (.int .i64 0) := (hl 72 (by kernel_rfl) (by kernel_rfl))
        simp only [execOp, e0]
        simp only [Act.eval]
        simp [go_sem] <;> rfl)
    · exact .pick (b := true) (.inl rfl) rfl rfl (fun a w' hC hs hl => ⟨(hl 71 (by kernel_rfl) (by kernel_rfl)), (hl 73 (by kernel_rfl) (by kernel_rfl))⟩)
    · exact .move (.inl rfl) (.inl rfl) rfl (by kernel_rfl) (by kernel_rfl) rfl
    · exact .moveC (.inr ⟨10, true, 75, by decide, rfl, rfl, rfl⟩) (.inl rfl) rfl (fun a w' hC hs => (hs 12 (by kernel_rfl)))
    · exact .value (.inr ⟨10, true, 75, by decide, rfl, rfl, rfl⟩) (by intro T e; cases e) rfl rfl (fun a w' hC hs hl => by
        have e0 : a.eval (.tmp 76) = (.int .i64 0) := (hl 76 (by kernel_rfl) (by kernel_rfl))
        simp only [execOp, e0]
        simp only [Act.eval]
        simp [go_sem] <;> rfl)
    · exact .pick (b := true) (.inl rfl) rfl rfl (fun a w' hC hs hl => ⟨(hl 75 (by kernel_rfl) (by kernel_rfl)), (hl 77 (by kernel_rfl) (by kernel_rfl))⟩)
    · exact .move (.inl rfl) (.inl rfl) rfl (by kernel_rfl) (by kernel_rfl) rfl
    · exact .load (.agg #[.bool b5, .slice A5 n5 c5, .slice D5 m5 k5]) (.inr ⟨14, true, 79, by decide, rfl, rfl, rfl⟩) rfl rfl (fun a w' hC hs hl => by rw [show a.eval (.tmp 5) = (.pointer (some ⟨w5.heap.size, 0, none⟩) : Value) from (hs 5 (by kernel_rfl))]; exact ⟨ld_Rat_ ((K5.out.below' hC).at_ 0 rfl) ((K5.out.below' hC).at_ 1 rfl) ((K5.out.below' hC).at_ 2 rfl), X5.out⟩)
    · exact .load (.agg #[.bool b6, .slice A6 n6 c6, .slice D6 m6 k6]) (.inr ⟨14, true, 79, by decide, rfl, rfl, rfl⟩) rfl rfl (fun a w' hC hs hl => by rw [show a.eval (.tmp 7) = (.pointer (some ⟨w6.heap.size, 0, none⟩) : Value) from (hs 7 (by kernel_rfl))]; exact ⟨ld_Rat_ ((K6.out.below' hC).at_ 0 rfl) ((K6.out.below' hC).at_ 1 rfl) ((K6.out.below' hC).at_ 2 rfl), X6.out⟩)
    · exact .call (.inr ⟨14, true, 79, by decide, rfl, rfl, rfl⟩) rfl rfl fn_rSameRat (fun a w' hC hs hl => rSame_yes (RCan.below (hl 80 (by kernel_rfl) (by kernel_rfl)) hC) (RCan.below (hl 81 (by kernel_rfl) (by kernel_rfl)) hC) true (decide_eq_true (dot_comm _ _)))
    · exact .pick (b := true) (.inl rfl) rfl rfl (fun a w' hC hs hl => ⟨(hl 79 (by kernel_rfl) (by kernel_rfl)), (hl 82 (by kernel_rfl) (by kernel_rfl))⟩)
    · exact .move (.inl rfl) (.inl rfl) rfl (by kernel_rfl) (by kernel_rfl) rfl
    · exact .load (.agg #[.bool b7, .slice A7 n7 c7, .slice D7 m7 k7]) (.inr ⟨19, true, 84, by decide, rfl, rfl, rfl⟩) rfl rfl (fun a w' hC hs hl => by rw [show a.eval (.tmp 9) = (.pointer (some ⟨w8.heap.size, 0, none⟩) : Value) from (hs 9 (by kernel_rfl))]; exact ⟨ld_Rat_ ((K7.out.below' hC).at_ 0 rfl) ((K7.out.below' hC).at_ 1 rfl) ((K7.out.below' hC).at_ 2 rfl), X7.out⟩)
    · exact .call (.inr ⟨19, true, 84, by decide, rfl, rfl, rfl⟩) rfl rfl fn_rSign (fun a w' hC hs hl => rSign_eq (RCan.arg (RCan.below (hl 85 (by kernel_rfl) (by kernel_rfl)) hC) (Q4_.out.up (by decide))) (T.out.below (b0.out.trans (hC.mono b0.out.size))) (0) (cmpQ_e (dot_zero _ _)))
    · exact .value (.inr ⟨19, true, 84, by decide, rfl, rfl, rfl⟩) (by intro T e; cases e) rfl rfl (fun a w' hC hs hl => by
        have e0 : a.eval (.tmp 86) = (.int .i64 (0)) := (hl 86 (by kernel_rfl) (by kernel_rfl))
        simp only [execOp, e0]
        simp only [Act.eval]
        simp [go_sem] <;> rfl)
    · exact .pick (b := true) (.inl rfl) rfl rfl (fun a w' hC hs hl => ⟨(hl 84 (by kernel_rfl) (by kernel_rfl)), (hl 87 (by kernel_rfl) (by kernel_rfl))⟩)
    · exact .move (.inl rfl) (.inl rfl) rfl (by kernel_rfl) (by kernel_rfl) rfl
    · exact .load (.agg #[.bool b8, .slice A8 n8 c8, .slice D8 m8 k8]) (.inr ⟨24, true, 89, by decide, rfl, rfl, rfl⟩) rfl rfl (fun a w' hC hs hl => by rw [show a.eval (.tmp 11) = (.pointer (some ⟨w9.heap.size, 0, none⟩) : Value) from (hs 11 (by kernel_rfl))]; exact ⟨ld_Rat_ ((K8.out.below' hC).at_ 0 rfl) ((K8.out.below' hC).at_ 1 rfl) ((K8.out.below' hC).at_ 2 rfl), X8.out⟩)
    · exact .call (.inr ⟨24, true, 89, by decide, rfl, rfl, rfl⟩) rfl rfl fn_rSign (fun a w' hC hs hl => rSign_eq (RCan.arg (RCan.below (hl 90 (by kernel_rfl) (by kernel_rfl)) hC) (Q5_.out.up (by decide))) (T.out.below (b0.out.trans (hC.mono b0.out.size))) (1) (hs0.out))
    · exact .value (.inr ⟨24, true, 89, by decide, rfl, rfl, rfl⟩) (by intro T e; cases e) rfl rfl (fun a w' hC hs hl => by
        have e0 : a.eval (.tmp 91) = (.int .i64 (1)) := (hl 91 (by kernel_rfl) (by kernel_rfl))
        simp only [execOp, e0]
        simp only [Act.eval]
        simp [go_sem] <;> rfl)
    · exact .pick (b := true) (.inl rfl) rfl rfl (fun a w' hC hs hl => ⟨(hl 89 (by kernel_rfl) (by kernel_rfl)), (hl 92 (by kernel_rfl) (by kernel_rfl))⟩)
    · exact .move (.inl rfl) (.inl rfl) rfl (by kernel_rfl) (by kernel_rfl) rfl
    · exact .load (.agg #[.bool b8, .slice A8 n8 c8, .slice D8 m8 k8]) (.inr ⟨29, true, 94, by decide, rfl, rfl, rfl⟩) rfl rfl (fun a w' hC hs hl => by rw [show a.eval (.tmp 11) = (.pointer (some ⟨w9.heap.size, 0, none⟩) : Value) from (hs 11 (by kernel_rfl))]; exact ⟨ld_Rat_ ((K8.out.below' hC).at_ 0 rfl) ((K8.out.below' hC).at_ 1 rfl) ((K8.out.below' hC).at_ 2 rfl), X8.out⟩)
    · exact .call (.inr ⟨29, true, 94, by decide, rfl, rfl, rfl⟩) rfl rfl fn_rSign (fun a w' hC hs hl => rSign_eq (RCan.arg (RCan.below (hl 95 (by kernel_rfl) (by kernel_rfl)) hC) (Q5_.out.up (by decide))) (T.out.below (b0.out.trans (hC.mono b0.out.size))) (1) (hs0.out))
    · exact .value (.inr ⟨29, true, 94, by decide, rfl, rfl, rfl⟩) (by intro T e; cases e) rfl rfl (fun a w' hC hs hl => by
        have e0 : a.eval (.tmp 96) = (.int .i64 (1)) := (hl 96 (by kernel_rfl) (by kernel_rfl))
        simp only [execOp, e0]
        simp only [Act.eval]
        simp [go_sem] <;> rfl)
    · exact .moveC (.inr ⟨29, true, 94, by decide, rfl, rfl, rfl⟩) (.inl rfl) rfl (fun a w' hC hs => (show Lst RCan V1_9 (a.eval (.tmp 0)) ps from by rw [show a.eval (.tmp 0) = (.slice A1 n1 c1 : Value) from (hs 0 (by kernel_rfl))]; exact L1V.out))
    · exact .moveC (.inr ⟨29, true, 94, by decide, rfl, rfl, rfl⟩) (.inl rfl) rfl (fun a w' hC hs => (hs 0 (by kernel_rfl)))
    · exact .value (.inr ⟨29, true, 94, by decide, rfl, rfl, rfl⟩) (by intro T e; cases e) rfl rfl (fun a w' hC hs hl => by
        have e0 : a.eval (.tmp 99) = (.slice A1 n1 c1) := (hl 99 (by kernel_rfl) (by kernel_rfl))
        have e0' : a.tmps[99]?.getD undef = _ := (by simp [Act.eval] : _ = a.eval (.tmp 99)).trans e0
        simp [execOp, resolve, invoke, builtin, go_sem, e0, e0'])
    · exact .call (.inr ⟨29, true, 94, by decide, rfl, rfl, rfl⟩) rfl rfl fn_vZero (fun a w' hC hs hl => by
      show Calls _ _ #[a.eval (.tmp 100)] _ _
      rw [show a.eval (.tmp 100) = (.int .i64 (n1) : Value) from (hl 100 (by kernel_rfl) (by kernel_rfl))]
      exact vZero_L w' n1 (by have := M1.out.1; omega))
    · exact .call (.inr ⟨29, true, 94, by decide, rfl, rfl, rfl⟩) rfl rfl fn_vSame (fun a w' hC hs hl => vSame_L (k := 300) (Lst.can_below (hl 98 (by kernel_rfl) (by kernel_rfl)) hC) (hl 101 (by kernel_rfl) (by kernel_rfl)) S1.out (Q3_.out.up (by decide)) (by decide) (T.out.below (b0.out.trans (hC.mono b0.out.size))) false (hsz.out.trans (by decide)))
    · exact .value (.inr ⟨29, true, 94, by decide, rfl, rfl, rfl⟩) (by intro T e; cases e) rfl rfl (fun a w' hC hs hl => by
        have e0 : a.eval (.tmp 97) = (.bool false) := (hl 97 (by kernel_rfl) (by kernel_rfl))
        have e1 : a.eval (.tmp 102) = (.bool false) := (hl 102 (by kernel_rfl) (by kernel_rfl))
        simp only [execOp, e0, e1]
        skip
        simp [go_sem] <;> rfl)
    · exact .pick (b := true) (.inl rfl) rfl rfl (fun a w' hC hs hl => ⟨(hl 94 (by kernel_rfl) (by kernel_rfl)), (hl 103 (by kernel_rfl) (by kernel_rfl))⟩)
    · exact .move (.inl rfl) (.inr rfl) rfl (by kernel_rfl) (by kernel_rfl) rfl
    intro f w99 hC hF _
    have f0 : f 4 = .bool true := hF 4 (by kernel_rfl)
    clear hF
    simp only [patch, List.drop]
    have B9 := hide (b0.out.trans (hC.mono b0.out.size))
    clear hC
    rw [f0]
    try change wpList _ _ _ [] _ _
    go_wp2
    exact opq_end hR ⟨rfl, B9⟩
end Go.Proofs.YthnhcbdecgkacaaGreatDoor
