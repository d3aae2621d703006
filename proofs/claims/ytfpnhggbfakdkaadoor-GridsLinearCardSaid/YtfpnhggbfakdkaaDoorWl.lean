/- grids: some answers that the document fixes. -/
import Derived.Test.YtfpnhggbfakdkaaDoorWB
import Derived.Test.YtfpnhggbfakdkaaDoorVo
set_option linter.unusedVariables false
set_option linter.unusedSimpArgs false
set_option maxRecDepth 100000
namespace Go.Proofs.YtfpnhggbfakdkaaDoor
open Go.RowKit

theorem sol_a : SolR 2 2 (mat fun j => ([rats [(1), (1)], rats [(1), (-1)]] : List (List Rat)).getD j []) (fun i => (rats [(3), (1)]).getD i 0) 0 [2, 1] := by
  refine .inl ⟨rfl, rfl, fun x => ?_⟩
  constructor
  · intro h j hj
    have h0 := h 0 (by decide)
    have h1 := h 1 (by decide)
    simp [Sgm, mat, rats] at h0 h1
    match j, hj with
    | 0, _ => show x 0 = 2; grind
    | 1, _ => show x 1 = 1; grind
  · intro h i hi
    have h0 := h 0 (by decide)
    have h1 := h 1 (by decide)
    simp at h0 h1
    match i, hi with
    | 0, _ => simp [Sgm, mat, rats]; grind
    | 1, _ => simp [Sgm, mat, rats]; grind
theorem sol_b : SolR 1 2 (mat fun j => ([rats [(1), (1)]] : List (List Rat)).getD j []) (fun i => (rats [(2)]).getD i 0) 8 [] := by
  refine .inr (.inr ⟨rfl, rfl, ⟨fun j => if j = 0 then 2 else 0, fun i hi => ?_⟩, Nat.lt_succ_of_le (rnk_rows 1 2 _)⟩)
  match i, hi with
  | 0, _ => simp [Sgm, mat, rats]; grind
theorem sol_c : SolR 2 1 (mat fun j => ([rats [(1)], rats [(1)]] : List (List Rat)).getD j []) (fun i => (rats [(1), (2)]).getD i 0) 6 [] := by
  refine .inr (.inl ⟨rfl, rfl, fun x h => ?_⟩)
  have h0 := h 0 (by decide)
  have h1 := h 1 (by decide)
  simp [Sgm, mat, rats] at h0 h1
  grind
theorem rank_a : rnk 3 2 (mat fun j => ([rats [(1), (2)], rats [(2), (4)], rats [(0), (1)]] : List (List Rat)).getD j []) = 2 := by
  refine rnk_full.2 fun x h j hj => ?_
  have h0 := h 0 (by decide)
  have h2 := h 2 (by decide)
  simp [Sgm, mat, rats] at h0 h2
  match j, hj with
  | 0, _ => grind
  | 1, _ => grind
theorem hs_lit2 : ∀ qs ∈ ([rats [(1), (2)], rats [(3)]] : List (List Rat)), Hs qs 4398046511104 := List.forall_mem_cons.2 ⟨(Hs_rats (by decide)).up (by decide), List.forall_mem_cons.2 ⟨(Hs_rats (by decide)).up (by decide), fun _ h => by cases h⟩⟩
theorem rows_nil {w : World} : ∀ (j : Nat) (qs : List Rat), ([] : List (List Rat))[j]? = some qs → ∃ u, ([] : List Value)[j]? = some u ∧ Lst RCan w u qs := fun j qs h => by simp at h
theorem rows_cons {w : World} {u : Value} {us : List Value} {qs : List Rat} {qss : List (List Rat)} (h : Lst RCan w u qs) (t : ∀ (j : Nat) ps, qss[j]? = some ps → ∃ u, us[j]? = some u ∧ Lst RCan w u ps) : ∀ (j : Nat) ps, (qs :: qss)[j]? = some ps → ∃ u', (u :: us)[j]? = some u' ∧ Lst RCan w u' ps := fun j ps hj => by
  rcases j with _ | j
  · cases hj
    exact ⟨u, rfl, h⟩
  · exact t j ps hj
set_option maxHeartbeats 8000000 in
theorem galive_P (w : World) (hT : Tab w) :
    Calls Tryd.prog 9 #[] w fun e w' => ∃ u, e = .returned u ∧ Below w.heap.size w w' ∧ u = .bool true := by
  refine opq fun R hR => ?_
  have T := hide hT
  clear hT
  go_enter Tryd.func9, Tryd.ntmps9
  have b0 := hide (Below.refl w.heap.size w)
  have y := (Below.refl w.heap.size w).alloc (Nat.le_refl _) (.cells #[.int .i64 (1), .int .i64 (2)] 2)
  replace b0 := hide (below_tr b0.out y)
  clear y
  go_wp2_with fail
  refine (gof_A (w := w) (g := w.heap.size) (by simp) [(1), (2)] #[.int .i64 (1), .int .i64 (2)] rfl 2 2 rfl (by decide) (by decide)).mono ?_
  rintro e w1 ⟨v1, rfl, d0, h1⟩
  replace b0 := hide (below_tr b0.out d0)
  have L1 := hide (h1)
  clear d0
  clear h1
  obtain ⟨A1, c1, e1⟩ := L1.out.sl
  replace e1 : v1 = .slice A1 2 c1 := e1
  subst e1
  have Q1_ : Hid (Hs ((rats [(1), (2)])) 1000) := Hs_rats (by decide)
  have y := (Below.refl w1.heap.size w1).alloc (Nat.le_refl _) (.cells #[.int .i64 (3), .int .i64 (4)] 2)
  replace L1 := hide (L1.out.can_below y)
  replace b0 := hide (below_tr b0.out y)
  clear y
  go_wp2_with fail
  refine (gof_A (w := w1) (g := w1.heap.size) (by simp) [(3), (4)] #[.int .i64 (3), .int .i64 (4)] rfl 2 2 rfl (by decide) (by decide)).mono ?_
  rintro e w2 ⟨v2, rfl, d0, h2⟩
  replace L1 := hide (L1.out.can_below d0)
  replace b0 := hide (below_tr b0.out d0)
  have L2 := hide (h2)
  clear d0
  clear h2
  obtain ⟨A2, c2, e2⟩ := L2.out.sl
  replace e2 : v2 = .slice A2 2 c2 := e2
  subst e2
  have Q2_ : Hid (Hs ((rats [(3), (4)])) 1000) := Hs_rats (by decide)
  have y := (Below.refl w2.heap.size w2).alloc (Nat.le_refl _) (.cells #[.int .i64 (5), .int .i64 (6)] 2)
  replace L1 := hide (L1.out.can_below y)
  replace L2 := hide (L2.out.can_below y)
  replace b0 := hide (below_tr b0.out y)
  clear y
  go_wp2_with fail
  refine (gof_A (w := w2) (g := w2.heap.size) (by simp) [(5), (6)] #[.int .i64 (5), .int .i64 (6)] rfl 2 2 rfl (by decide) (by decide)).mono ?_
  rintro e w3 ⟨v3, rfl, d0, h3⟩
  replace L1 := hide (L1.out.can_below d0)
  replace L2 := hide (L2.out.can_below d0)
  replace b0 := hide (below_tr b0.out d0)
  have L3 := hide (h3)
  clear d0
  clear h3
  obtain ⟨A3, c3, e3⟩ := L3.out.sl
  replace e3 : v3 = .slice A3 2 c3 := e3
  subst e3
  have Q3_ : Hid (Hs ((rats [(5), (6)])) 1000) := Hs_rats (by decide)
  have y := (Below.refl w3.heap.size w3).alloc (Nat.le_refl _) (.cells #[.slice A1 2 c1, .slice A2 2 c2, .slice A3 2 c3] TRs)
  replace L1 := hide (L1.out.can_below y)
  replace L2 := hide (L2.out.can_below y)
  replace L3 := hide (L3.out.can_below y)
  replace b0 := hide (below_tr b0.out y)
  clear y
  have G1 : Hid (Gst RCan (w3.alloc (.cells #[.slice A1 2 c1, .slice A2 2 c2, .slice A3 2 c3] TRs)) (.slice (some ⟨w3.heap.size, 0, none⟩) 3 3) [rats [(1), (2)], rats [(3), (4)], rats [(5), (6)]]) := gst_lit (us := [.slice A1 2 c1, .slice A2 2 c2, .slice A3 2 c3]) (Blk.new_at w3 (w3.heap.size) (by simp) TRs _) rfl rfl (by decide) (rows_cons L1.out (rows_cons L2.out (rows_cons L3.out rows_nil)))
  go_wp2_with fail
  refine (turnG_ok (N := 2) (s := 1000) G1.out (gq_lit (N := 2) (s := 1000) (by decide) (List.forall_mem_cons.2 ⟨Q1_.out, (List.forall_mem_cons.2 ⟨Q2_.out, (List.forall_mem_cons.2 ⟨Q3_.out, (fun _ h => by cases h)⟩)⟩)⟩) (by decide)) (by decide) (by decide) (by decide) (T.out.below b0.out)).mono ?_
  rintro e w4 ⟨va, usa, Wa, Bsa, rfl, d0, ha⟩
  replace L1 := hide (L1.out.can_below d0)
  replace L2 := hide (L2.out.can_below d0)
  replace L3 := hide (L3.out.can_below d0)
  replace G1 := hide (G1.out.can_below d0)
  replace b0 := hide (below_tr b0.out d0)
  have GA := hide ((ha.gst (by decide) (by decide +kernel)))
  clear d0
  clear ha
  clear G1 L1 L2 L3
  have EA : turnQ [rats [(1), (2)], rats [(3), (4)], rats [(5), (6)]] 2 = [rats [(1), (3), (5)], rats [(2), (4), (6)]] := by decide +kernel
  rw [EA] at GA
  clear EA
  obtain ⟨AA, cA, eA⟩ := GA.out.sl
  replace eA : va = .slice AA 2 cA := eA
  subst eA
  have y := (Below.refl w4.heap.size w4).alloc (Nat.le_refl _) (.cells #[.int .i64 (1), .int .i64 (2)] 2)
  replace GA := hide (GA.out.can_below y)
  replace b0 := hide (below_tr b0.out y)
  clear y
  go_wp2_with fail
  refine (gof_A (w := w4) (g := w4.heap.size) (by simp) [(1), (2)] #[.int .i64 (1), .int .i64 (2)] rfl 2 2 rfl (by decide) (by decide)).mono ?_
  rintro e w5 ⟨v4, rfl, d0, h4⟩
  replace GA := hide (GA.out.can_below d0)
  replace b0 := hide (below_tr b0.out d0)
  have L4 := hide (h4)
  clear d0
  clear h4
  obtain ⟨A4, c4, e4⟩ := L4.out.sl
  replace e4 : v4 = .slice A4 2 c4 := e4
  subst e4
  have y := (Below.refl w5.heap.size w5).alloc (Nat.le_refl _) (.cells #[.int .i64 (3)] 2)
  replace GA := hide (GA.out.can_below y)
  replace L4 := hide (L4.out.can_below y)
  replace b0 := hide (below_tr b0.out y)
  clear y
  go_wp2_with fail
  refine (gof_A (w := w5) (g := w5.heap.size) (by simp) [(3)] #[.int .i64 (3)] rfl 2 1 rfl (by decide) (by decide)).mono ?_
  rintro e w6 ⟨v5, rfl, d0, h5⟩
  replace GA := hide (GA.out.can_below d0)
  replace L4 := hide (L4.out.can_below d0)
  replace b0 := hide (below_tr b0.out d0)
  have L5 := hide (h5)
  clear d0
  clear h5
  obtain ⟨A5, c5, e5⟩ := L5.out.sl
  replace e5 : v5 = .slice A5 1 c5 := e5
  subst e5
  have Q4_ : Hid (Hs ((rats [(3)])) 1000) := Hs_rats (by decide)
  have y := (Below.refl w6.heap.size w6).alloc (Nat.le_refl _) (.cells #[.slice A4 2 c4, .slice A5 1 c5] TRs)
  replace GA := hide (GA.out.can_below y)
  replace L4 := hide (L4.out.can_below y)
  replace L5 := hide (L5.out.can_below y)
  replace b0 := hide (below_tr b0.out y)
  clear y
  have G2 : Hid (Gst RCan (w6.alloc (.cells #[.slice A4 2 c4, .slice A5 1 c5] TRs)) (.slice (some ⟨w6.heap.size, 0, none⟩) 2 2) [rats [(1), (2)], rats [(3)]]) := gst_lit (us := [.slice A4 2 c4, .slice A5 1 c5]) (Blk.new_at w6 (w6.heap.size) (by simp) TRs _) rfl rfl (by decide) (rows_cons L4.out (rows_cons L5.out rows_nil))
  go_wp2_with fail
  refine (turnG_bad (ess := [rats [(1), (2)], rats [(3)]].map fun qs => qs.map rawOf) (G2.out.imp rawOf fun qs hq u q hm hu => hu.prt (hs_lit2 qs hq q hm)) (T.out.below b0.out) (by decide +kernel)).mono ?_
  rintro e w7 ⟨rfl, d0⟩
  replace GA := hide (GA.out.can_below d0)
  replace L4 := hide (L4.out.can_below d0)
  replace L5 := hide (L5.out.can_below d0)
  replace G2 := hide (G2.out.can_below d0)
  replace b0 := hide (below_tr b0.out d0)
  clear d0
  clear G2 L4 L5
  have y := (Below.refl w7.heap.size w7).alloc (Nat.le_refl _) (.cells #[.int .i64 (1), .int .i64 (2)] 2)
  replace GA := hide (GA.out.can_below y)
  replace b0 := hide (below_tr b0.out y)
  clear y
  go_wp2_with fail
  refine (gof_A (w := w7) (g := w7.heap.size) (by simp) [(1), (2)] #[.int .i64 (1), .int .i64 (2)] rfl 2 2 rfl (by decide) (by decide)).mono ?_
  rintro e w8 ⟨v6, rfl, d0, h6⟩
  replace GA := hide (GA.out.can_below d0)
  replace b0 := hide (below_tr b0.out d0)
  have L6 := hide (h6)
  clear d0
  clear h6
  obtain ⟨A6, c6, e6⟩ := L6.out.sl
  replace e6 : v6 = .slice A6 2 c6 := e6
  subst e6
  have y := (Below.refl w8.heap.size w8).alloc (Nat.le_refl _) (.cells #[.int .i64 (3), .int .i64 (4)] 2)
  replace GA := hide (GA.out.can_below y)
  replace L6 := hide (L6.out.can_below y)
  replace b0 := hide (below_tr b0.out y)
  clear y
  go_wp2_with fail
  refine (gof_A (w := w8) (g := w8.heap.size) (by simp) [(3), (4)] #[.int .i64 (3), .int .i64 (4)] rfl 2 2 rfl (by decide) (by decide)).mono ?_
  rintro e w9 ⟨v7, rfl, d0, h7⟩
  replace GA := hide (GA.out.can_below d0)
  replace L6 := hide (L6.out.can_below d0)
  replace b0 := hide (below_tr b0.out d0)
  have L7 := hide (h7)
  clear d0
  clear h7
  obtain ⟨A7, c7, e7⟩ := L7.out.sl
  replace e7 : v7 = .slice A7 2 c7 := e7
  subst e7
  have y := (Below.refl w9.heap.size w9).alloc (Nat.le_refl _) (.cells #[.slice A6 2 c6, .slice A7 2 c7] TRs)
  replace GA := hide (GA.out.can_below y)
  replace L6 := hide (L6.out.can_below y)
  replace L7 := hide (L7.out.can_below y)
  replace b0 := hide (below_tr b0.out y)
  clear y
  have G3 : Hid (Gst RCan (w9.alloc (.cells #[.slice A6 2 c6, .slice A7 2 c7] TRs)) (.slice (some ⟨w9.heap.size, 0, none⟩) 2 2) [rats [(1), (2)], rats [(3), (4)]]) := gst_lit (us := [.slice A6 2 c6, .slice A7 2 c7]) (Blk.new_at w9 (w9.heap.size) (by simp) TRs _) rfl rfl (by decide) (rows_cons L6.out (rows_cons L7.out rows_nil))
  have y := (Below.refl (w9.alloc (.cells #[.slice A6 2 c6, .slice A7 2 c7] TRs)).heap.size (w9.alloc (.cells #[.slice A6 2 c6, .slice A7 2 c7] TRs))).alloc (Nat.le_refl _) (.cells #[.int .i64 (1), .int .i64 (-1)] 2)
  replace GA := hide (GA.out.can_below y)
  replace L6 := hide (L6.out.can_below y)
  replace L7 := hide (L7.out.can_below y)
  replace G3 := hide (G3.out.can_below y)
  replace b0 := hide (below_tr b0.out y)
  clear y
  go_wp2_with fail
  refine (gof_A (w := (w9.alloc (.cells #[.slice A6 2 c6, .slice A7 2 c7] TRs))) (g := w9.heap.size + 1) (by simp) [(1), (-1)] #[.int .i64 (1), .int .i64 (-1)] rfl 2 2 rfl (by decide) (by decide)).mono ?_
  rintro e w10 ⟨v8, rfl, d0, h8⟩
  replace GA := hide (GA.out.can_below d0)
  replace L6 := hide (L6.out.can_below d0)
  replace L7 := hide (L7.out.can_below d0)
  replace G3 := hide (G3.out.can_below d0)
  replace b0 := hide (below_tr b0.out d0)
  have L8 := hide (h8)
  clear d0
  clear h8
  obtain ⟨A8, c8, e8⟩ := L8.out.sl
  replace e8 : v8 = .slice A8 2 c8 := e8
  subst e8
  have Q5_ : Hid (Hs ((rats [(1), (-1)])) 1000) := Hs_rats (by decide)
  go_wp2_with fail
  refine (times_ok (N := 2) (s := 1000) G3.out L8.out (gq_lit (N := 2) (s := 1000) (by decide) (List.forall_mem_cons.2 ⟨Q1_.out, (List.forall_mem_cons.2 ⟨Q2_.out, (fun _ h => by cases h)⟩)⟩) (by decide)) Q5_.out (fun _ => rfl) (by decide) (by decide) (by decide) (T.out.below b0.out)).mono ?_
  rintro e w11 ⟨vb, rfl, d0, hb⟩
  replace GA := hide (GA.out.can_below d0)
  replace L6 := hide (L6.out.can_below d0)
  replace L7 := hide (L7.out.can_below d0)
  replace G3 := hide (G3.out.can_below d0)
  replace L8 := hide (L8.out.can_below d0)
  replace b0 := hide (below_tr b0.out d0)
  have OB := hide (hb)
  clear d0
  clear hb
  clear G3 L6 L7 L8
  obtain ⟨AB, cB, rfl⟩ := OLst.slN (N := 2) OB.out rfl
  have y := (Below.refl w11.heap.size w11).alloc (Nat.le_refl _) (.cells #[.int .i64 (1), .int .i64 (2)] 2)
  replace GA := hide (GA.out.can_below y)
  replace OB := hide (OB.out.below y)
  replace b0 := hide (below_tr b0.out y)
  clear y
  go_wp2_with fail
  refine (gof_A (w := w11) (g := w11.heap.size) (by simp) [(1), (2)] #[.int .i64 (1), .int .i64 (2)] rfl 2 2 rfl (by decide) (by decide)).mono ?_
  rintro e w12 ⟨v9, rfl, d0, h9⟩
  replace GA := hide (GA.out.can_below d0)
  replace OB := hide (OB.out.below d0)
  replace b0 := hide (below_tr b0.out d0)
  have L9 := hide (h9)
  clear d0
  clear h9
  obtain ⟨A9, c9, e9⟩ := L9.out.sl
  replace e9 : v9 = .slice A9 2 c9 := e9
  subst e9
  have y := (Below.refl w12.heap.size w12).alloc (Nat.le_refl _) (.cells #[.int .i64 (2), .int .i64 (4)] 2)
  replace GA := hide (GA.out.can_below y)
  replace OB := hide (OB.out.below y)
  replace L9 := hide (L9.out.can_below y)
  replace b0 := hide (below_tr b0.out y)
  clear y
  go_wp2_with fail
  refine (gof_A (w := w12) (g := w12.heap.size) (by simp) [(2), (4)] #[.int .i64 (2), .int .i64 (4)] rfl 2 2 rfl (by decide) (by decide)).mono ?_
  rintro e w13 ⟨v10, rfl, d0, h10⟩
  replace GA := hide (GA.out.can_below d0)
  replace OB := hide (OB.out.below d0)
  replace L9 := hide (L9.out.can_below d0)
  replace b0 := hide (below_tr b0.out d0)
  have L10 := hide (h10)
  clear d0
  clear h10
  obtain ⟨A10, c10, e10⟩ := L10.out.sl
  replace e10 : v10 = .slice A10 2 c10 := e10
  subst e10
  have Q6_ : Hid (Hs ((rats [(2), (4)])) 1000) := Hs_rats (by decide)
  have y := (Below.refl w13.heap.size w13).alloc (Nat.le_refl _) (.cells #[.int .i64 (0), .int .i64 (1)] 2)
  replace GA := hide (GA.out.can_below y)
  replace OB := hide (OB.out.below y)
  replace L9 := hide (L9.out.can_below y)
  replace L10 := hide (L10.out.can_below y)
  replace b0 := hide (below_tr b0.out y)
  clear y
  go_wp2_with fail
  refine (gof_A (w := w13) (g := w13.heap.size) (by simp) [(0), (1)] #[.int .i64 (0), .int .i64 (1)] rfl 2 2 rfl (by decide) (by decide)).mono ?_
  rintro e w14 ⟨v11, rfl, d0, h11⟩
  replace GA := hide (GA.out.can_below d0)
  replace OB := hide (OB.out.below d0)
  replace L9 := hide (L9.out.can_below d0)
  replace L10 := hide (L10.out.can_below d0)
  replace b0 := hide (below_tr b0.out d0)
  have L11 := hide (h11)
  clear d0
  clear h11
  obtain ⟨A11, c11, e11⟩ := L11.out.sl
  replace e11 : v11 = .slice A11 2 c11 := e11
  subst e11
  have Q7_ : Hid (Hs ((rats [(0), (1)])) 1000) := Hs_rats (by decide)
  have y := (Below.refl w14.heap.size w14).alloc (Nat.le_refl _) (.cells #[.slice A9 2 c9, .slice A10 2 c10, .slice A11 2 c11] TRs)
  replace GA := hide (GA.out.can_below y)
  replace OB := hide (OB.out.below y)
  replace L9 := hide (L9.out.can_below y)
  replace L10 := hide (L10.out.can_below y)
  replace L11 := hide (L11.out.can_below y)
  replace b0 := hide (below_tr b0.out y)
  clear y
  have G4 : Hid (Gst RCan (w14.alloc (.cells #[.slice A9 2 c9, .slice A10 2 c10, .slice A11 2 c11] TRs)) (.slice (some ⟨w14.heap.size, 0, none⟩) 3 3) [rats [(1), (2)], rats [(2), (4)], rats [(0), (1)]]) := gst_lit (us := [.slice A9 2 c9, .slice A10 2 c10, .slice A11 2 c11]) (Blk.new_at w14 (w14.heap.size) (by simp) TRs _) rfl rfl (by decide) (rows_cons L9.out (rows_cons L10.out (rows_cons L11.out rows_nil)))
  go_wp2_with fail
  refine (rank_ok (N := 2) (s := 1000) G4.out (gq_lit (N := 2) (s := 1000) (by decide) (List.forall_mem_cons.2 ⟨Q1_.out, (List.forall_mem_cons.2 ⟨Q6_.out, (List.forall_mem_cons.2 ⟨Q7_.out, (fun _ h => by cases h)⟩)⟩)⟩) (by decide)) (by decide) (by decide) (by decide) (by decide) (T.out.below b0.out)).mono ?_
  rintro e w15 ⟨rfl, d0⟩
  replace GA := hide (GA.out.can_below d0)
  replace OB := hide (OB.out.below d0)
  replace L9 := hide (L9.out.can_below d0)
  replace L10 := hide (L10.out.can_below d0)
  replace L11 := hide (L11.out.can_below d0)
  replace G4 := hide (G4.out.can_below d0)
  replace b0 := hide (below_tr b0.out d0)
  clear d0
  rw [rank_a]
  clear G4 L9 L10 L11
  have y := (Below.refl w15.heap.size w15).alloc (Nat.le_refl _) (.cells #[.int .i64 (1), .int .i64 (1)] 2)
  replace GA := hide (GA.out.can_below y)
  replace OB := hide (OB.out.below y)
  replace b0 := hide (below_tr b0.out y)
  clear y
  go_wp2_with fail
  refine (gof_A (w := w15) (g := w15.heap.size) (by simp) [(1), (1)] #[.int .i64 (1), .int .i64 (1)] rfl 2 2 rfl (by decide) (by decide)).mono ?_
  rintro e w16 ⟨v12, rfl, d0, h12⟩
  replace GA := hide (GA.out.can_below d0)
  replace OB := hide (OB.out.below d0)
  replace b0 := hide (below_tr b0.out d0)
  have L12 := hide (h12)
  clear d0
  clear h12
  obtain ⟨A12, c12, e12⟩ := L12.out.sl
  replace e12 : v12 = .slice A12 2 c12 := e12
  subst e12
  have Q8_ : Hid (Hs ((rats [(1), (1)])) 1000) := Hs_rats (by decide)
  have y := (Below.refl w16.heap.size w16).alloc (Nat.le_refl _) (.cells #[.int .i64 (1), .int .i64 (-1)] 2)
  replace GA := hide (GA.out.can_below y)
  replace OB := hide (OB.out.below y)
  replace L12 := hide (L12.out.can_below y)
  replace b0 := hide (below_tr b0.out y)
  clear y
  go_wp2_with fail
  refine (gof_A (w := w16) (g := w16.heap.size) (by simp) [(1), (-1)] #[.int .i64 (1), .int .i64 (-1)] rfl 2 2 rfl (by decide) (by decide)).mono ?_
  rintro e w17 ⟨v13, rfl, d0, h13⟩
  replace GA := hide (GA.out.can_below d0)
  replace OB := hide (OB.out.below d0)
  replace L12 := hide (L12.out.can_below d0)
  replace b0 := hide (below_tr b0.out d0)
  have L13 := hide (h13)
  clear d0
  clear h13
  obtain ⟨A13, c13, e13⟩ := L13.out.sl
  replace e13 : v13 = .slice A13 2 c13 := e13
  subst e13
  have y := (Below.refl w17.heap.size w17).alloc (Nat.le_refl _) (.cells #[.slice A12 2 c12, .slice A13 2 c13] TRs)
  replace GA := hide (GA.out.can_below y)
  replace OB := hide (OB.out.below y)
  replace L12 := hide (L12.out.can_below y)
  replace L13 := hide (L13.out.can_below y)
  replace b0 := hide (below_tr b0.out y)
  clear y
  have GC : Hid (Gst RCan (w17.alloc (.cells #[.slice A12 2 c12, .slice A13 2 c13] TRs)) (.slice (some ⟨w17.heap.size, 0, none⟩) 2 2) [rats [(1), (1)], rats [(1), (-1)]]) := gst_lit (us := [.slice A12 2 c12, .slice A13 2 c13]) (Blk.new_at w17 (w17.heap.size) (by simp) TRs _) rfl rfl (by decide) (rows_cons L12.out (rows_cons L13.out rows_nil))
  have y := (Below.refl (w17.alloc (.cells #[.slice A12 2 c12, .slice A13 2 c13] TRs)).heap.size (w17.alloc (.cells #[.slice A12 2 c12, .slice A13 2 c13] TRs))).alloc (Nat.le_refl _) (.cells #[.int .i64 (3), .int .i64 (1)] 2)
  replace GA := hide (GA.out.can_below y)
  replace OB := hide (OB.out.below y)
  replace L12 := hide (L12.out.can_below y)
  replace L13 := hide (L13.out.can_below y)
  replace GC := hide (GC.out.can_below y)
  replace b0 := hide (below_tr b0.out y)
  clear y
  go_wp2_with fail
  refine (gof_A (w := (w17.alloc (.cells #[.slice A12 2 c12, .slice A13 2 c13] TRs))) (g := w17.heap.size + 1) (by simp) [(3), (1)] #[.int .i64 (3), .int .i64 (1)] rfl 2 2 rfl (by decide) (by decide)).mono ?_
  rintro e w18 ⟨v14, rfl, d0, h14⟩
  replace GA := hide (GA.out.can_below d0)
  replace OB := hide (OB.out.below d0)
  replace L12 := hide (L12.out.can_below d0)
  replace L13 := hide (L13.out.can_below d0)
  replace GC := hide (GC.out.can_below d0)
  replace b0 := hide (below_tr b0.out d0)
  have L14 := hide (h14)
  clear d0
  clear h14
  obtain ⟨A14, c14, e14⟩ := L14.out.sl
  replace e14 : v14 = .slice A14 2 c14 := e14
  subst e14
  have Q9_ : Hid (Hs ((rats [(3), (1)])) 1000) := Hs_rats (by decide)
  go_wp2_with fail
  refine (solve_ok (N := 2) (s := 1000) GC.out L14.out (gq_lit (N := 2) (s := 1000) (by decide) (List.forall_mem_cons.2 ⟨Q8_.out, (List.forall_mem_cons.2 ⟨Q5_.out, (fun _ h => by cases h)⟩)⟩) (by decide)) Q9_.out (by decide) (by decide) (by decide) (by decide) (T.out.below b0.out)).mono ?_
  rintro e w19 ⟨vC, erC, xsC, rfl, d0, hC, sC, zC⟩
  replace GA := hide (GA.out.can_below d0)
  replace OB := hide (OB.out.below d0)
  replace L12 := hide (L12.out.can_below d0)
  replace L13 := hide (L13.out.can_below d0)
  replace GC := hide (GC.out.can_below d0)
  replace L14 := hide (L14.out.can_below d0)
  replace b0 := hide (below_tr b0.out d0)
  have OC := hide (hC)
  clear d0
  obtain ⟨rfl, rfl⟩ := sC.unique sol_a
  clear hC sC
  obtain ⟨AC, cC, rfl⟩ := OLst.slN (N := 2) OC.out rfl
  clear GC L14 L12 L13
  have ZC := hide zC
  clear zC
  have y := (Below.refl w19.heap.size w19).alloc (Nat.le_refl _) (.cells #[.int .i64 (1), .int .i64 (1)] 2)
  replace GA := hide (GA.out.can_below y)
  replace OB := hide (OB.out.below y)
  replace OC := hide (OC.out.below y)
  replace b0 := hide (below_tr b0.out y)
  clear y
  go_wp2_with fail
  refine (gof_A (w := w19) (g := w19.heap.size) (by simp) [(1), (1)] #[.int .i64 (1), .int .i64 (1)] rfl 2 2 rfl (by decide) (by decide)).mono ?_
  rintro e w20 ⟨v15, rfl, d0, h15⟩
  replace GA := hide (GA.out.can_below d0)
  replace OB := hide (OB.out.below d0)
  replace OC := hide (OC.out.below d0)
  replace b0 := hide (below_tr b0.out d0)
  have L15 := hide (h15)
  clear d0
  clear h15
  obtain ⟨A15, c15, e15⟩ := L15.out.sl
  replace e15 : v15 = .slice A15 2 c15 := e15
  subst e15
  have y := (Below.refl w20.heap.size w20).alloc (Nat.le_refl _) (.cells #[.slice A15 2 c15] TRs)
  replace GA := hide (GA.out.can_below y)
  replace OB := hide (OB.out.below y)
  replace OC := hide (OC.out.below y)
  replace L15 := hide (L15.out.can_below y)
  replace b0 := hide (below_tr b0.out y)
  clear y
  have GD : Hid (Gst RCan (w20.alloc (.cells #[.slice A15 2 c15] TRs)) (.slice (some ⟨w20.heap.size, 0, none⟩) 1 1) [rats [(1), (1)]]) := gst_lit (us := [.slice A15 2 c15]) (Blk.new_at w20 (w20.heap.size) (by simp) TRs _) rfl rfl (by decide) (rows_cons L15.out rows_nil)
  have y := (Below.refl (w20.alloc (.cells #[.slice A15 2 c15] TRs)).heap.size (w20.alloc (.cells #[.slice A15 2 c15] TRs))).alloc (Nat.le_refl _) (.cells #[.int .i64 (2)] 2)
  replace GA := hide (GA.out.can_below y)
  replace OB := hide (OB.out.below y)
  replace OC := hide (OC.out.below y)
  replace L15 := hide (L15.out.can_below y)
  replace GD := hide (GD.out.can_below y)
  replace b0 := hide (below_tr b0.out y)
  clear y
  go_wp2_with fail
  refine (gof_A (w := (w20.alloc (.cells #[.slice A15 2 c15] TRs))) (g := w20.heap.size + 1) (by simp) [(2)] #[.int .i64 (2)] rfl 2 1 rfl (by decide) (by decide)).mono ?_
  rintro e w21 ⟨v16, rfl, d0, h16⟩
  replace GA := hide (GA.out.can_below d0)
  replace OB := hide (OB.out.below d0)
  replace OC := hide (OC.out.below d0)
  replace L15 := hide (L15.out.can_below d0)
  replace GD := hide (GD.out.can_below d0)
  replace b0 := hide (below_tr b0.out d0)
  have L16 := hide (h16)
  clear d0
  clear h16
  obtain ⟨A16, c16, e16⟩ := L16.out.sl
  replace e16 : v16 = .slice A16 1 c16 := e16
  subst e16
  have Q10_ : Hid (Hs ((rats [(2)])) 1000) := Hs_rats (by decide)
  go_wp2_with fail
  refine (solve_ok (N := 2) (s := 1000) GD.out L16.out (gq_lit (N := 2) (s := 1000) (by decide) (List.forall_mem_cons.2 ⟨Q8_.out, (fun _ h => by cases h)⟩) (by decide)) Q10_.out (by decide) (by decide) (by decide) (by decide) (T.out.below b0.out)).mono ?_
  rintro e w22 ⟨vD, erD, xsD, rfl, d0, hD, sD, zD⟩
  replace GA := hide (GA.out.can_below d0)
  replace OB := hide (OB.out.below d0)
  replace OC := hide (OC.out.below d0)
  replace L15 := hide (L15.out.can_below d0)
  replace GD := hide (GD.out.can_below d0)
  replace L16 := hide (L16.out.can_below d0)
  replace b0 := hide (below_tr b0.out d0)
  have OD := hide (hD)
  clear d0
  obtain ⟨rfl, rfl⟩ := sD.unique sol_b
  clear hD sD
  obtain ⟨AD, cD, rfl⟩ := OLst.slN (N := 0) OD.out rfl
  clear GD L16 L15
  clear zD
  have y := (Below.refl w22.heap.size w22).alloc (Nat.le_refl _) (.cells #[.int .i64 (1)] 2)
  replace GA := hide (GA.out.can_below y)
  replace OB := hide (OB.out.below y)
  replace OC := hide (OC.out.below y)
  replace OD := hide (OD.out.below y)
  replace b0 := hide (below_tr b0.out y)
  clear y
  go_wp2_with fail
  refine (gof_A (w := w22) (g := w22.heap.size) (by simp) [(1)] #[.int .i64 (1)] rfl 2 1 rfl (by decide) (by decide)).mono ?_
  rintro e w23 ⟨v17, rfl, d0, h17⟩
  replace GA := hide (GA.out.can_below d0)
  replace OB := hide (OB.out.below d0)
  replace OC := hide (OC.out.below d0)
  replace OD := hide (OD.out.below d0)
  replace b0 := hide (below_tr b0.out d0)
  have L17 := hide (h17)
  clear d0
  clear h17
  obtain ⟨A17, c17, e17⟩ := L17.out.sl
  replace e17 : v17 = .slice A17 1 c17 := e17
  subst e17
  have Q11_ : Hid (Hs ((rats [(1)])) 1000) := Hs_rats (by decide)
  have y := (Below.refl w23.heap.size w23).alloc (Nat.le_refl _) (.cells #[.int .i64 (1)] 2)
  replace GA := hide (GA.out.can_below y)
  replace OB := hide (OB.out.below y)
  replace OC := hide (OC.out.below y)
  replace OD := hide (OD.out.below y)
  replace L17 := hide (L17.out.can_below y)
  replace b0 := hide (below_tr b0.out y)
  clear y
  go_wp2_with fail
  refine (gof_A (w := w23) (g := w23.heap.size) (by simp) [(1)] #[.int .i64 (1)] rfl 2 1 rfl (by decide) (by decide)).mono ?_
  rintro e w24 ⟨v18, rfl, d0, h18⟩
  replace GA := hide (GA.out.can_below d0)
  replace OB := hide (OB.out.below d0)
  replace OC := hide (OC.out.below d0)
  replace OD := hide (OD.out.below d0)
  replace L17 := hide (L17.out.can_below d0)
  replace b0 := hide (below_tr b0.out d0)
  have L18 := hide (h18)
  clear d0
  clear h18
  obtain ⟨A18, c18, e18⟩ := L18.out.sl
  replace e18 : v18 = .slice A18 1 c18 := e18
  subst e18
  have y := (Below.refl w24.heap.size w24).alloc (Nat.le_refl _) (.cells #[.slice A17 1 c17, .slice A18 1 c18] TRs)
  replace GA := hide (GA.out.can_below y)
  replace OB := hide (OB.out.below y)
  replace OC := hide (OC.out.below y)
  replace OD := hide (OD.out.below y)
  replace L17 := hide (L17.out.can_below y)
  replace L18 := hide (L18.out.can_below y)
  replace b0 := hide (below_tr b0.out y)
  clear y
  have GE : Hid (Gst RCan (w24.alloc (.cells #[.slice A17 1 c17, .slice A18 1 c18] TRs)) (.slice (some ⟨w24.heap.size, 0, none⟩) 2 2) [rats [(1)], rats [(1)]]) := gst_lit (us := [.slice A17 1 c17, .slice A18 1 c18]) (Blk.new_at w24 (w24.heap.size) (by simp) TRs _) rfl rfl (by decide) (rows_cons L17.out (rows_cons L18.out rows_nil))
  have y := (Below.refl (w24.alloc (.cells #[.slice A17 1 c17, .slice A18 1 c18] TRs)).heap.size (w24.alloc (.cells #[.slice A17 1 c17, .slice A18 1 c18] TRs))).alloc (Nat.le_refl _) (.cells #[.int .i64 (1), .int .i64 (2)] 2)
  replace GA := hide (GA.out.can_below y)
  replace OB := hide (OB.out.below y)
  replace OC := hide (OC.out.below y)
  replace OD := hide (OD.out.below y)
  replace L17 := hide (L17.out.can_below y)
  replace L18 := hide (L18.out.can_below y)
  replace GE := hide (GE.out.can_below y)
  replace b0 := hide (below_tr b0.out y)
  clear y
  go_wp2_with fail
  refine (gof_A (w := (w24.alloc (.cells #[.slice A17 1 c17, .slice A18 1 c18] TRs))) (g := w24.heap.size + 1) (by simp) [(1), (2)] #[.int .i64 (1), .int .i64 (2)] rfl 2 2 rfl (by decide) (by decide)).mono ?_
  rintro e w25 ⟨v19, rfl, d0, h19⟩
  replace GA := hide (GA.out.can_below d0)
  replace OB := hide (OB.out.below d0)
  replace OC := hide (OC.out.below d0)
  replace OD := hide (OD.out.below d0)
  replace L17 := hide (L17.out.can_below d0)
  replace L18 := hide (L18.out.can_below d0)
  replace GE := hide (GE.out.can_below d0)
  replace b0 := hide (below_tr b0.out d0)
  have L19 := hide (h19)
  clear d0
  clear h19
  obtain ⟨A19, c19, e19⟩ := L19.out.sl
  replace e19 : v19 = .slice A19 2 c19 := e19
  subst e19
  go_wp2_with fail
  refine (solve_ok (N := 1) (s := 1000) GE.out L19.out (gq_lit (N := 1) (s := 1000) (by decide) (List.forall_mem_cons.2 ⟨Q11_.out, (List.forall_mem_cons.2 ⟨Q11_.out, (fun _ h => by cases h)⟩)⟩) (by decide)) Q1_.out (by decide) (by decide) (by decide) (by decide) (T.out.below b0.out)).mono ?_
  rintro e w26 ⟨vE, erE, xsE, rfl, d0, hE, sE, zE⟩
  replace GA := hide (GA.out.can_below d0)
  replace OB := hide (OB.out.below d0)
  replace OC := hide (OC.out.below d0)
  replace OD := hide (OD.out.below d0)
  replace L17 := hide (L17.out.can_below d0)
  replace L18 := hide (L18.out.can_below d0)
  replace GE := hide (GE.out.can_below d0)
  replace L19 := hide (L19.out.can_below d0)
  replace b0 := hide (below_tr b0.out d0)
  have OE := hide (hE)
  clear d0
  obtain ⟨rfl, rfl⟩ := sE.unique sol_c
  clear hE sE
  obtain ⟨AE, cE, rfl⟩ := OLst.slN (N := 0) OE.out rfl
  clear GE L19 L17 L18
  clear zE
  have LB := hide (OB.out.lst (by decide))
  have EB : ([rats [(1), (2)], rats [(3), (4)]].map fun q => dot q (rats [(1), (-1)])) = rats [(-1), (-1)] := by decide +kernel
  rw [EB] at LB
  clear EB OB
  have LC := hide (OC.out.lst (by decide))
  have EC : ([2, 1] : List Rat) = rats [(2), (1)] := by decide +kernel
  rw [EC] at LC
  clear EC OC OD OE
  repeat (first | with_reducible refine hold_reg (id := 8) ?_ | go_values | go_skip | go_guarded | go_step | go_upon | go_back | (simp only [Int.not_lt, Int.not_le] at *; go_simp))
  obtain ⟨V1_26, hV⟩ : ∃ V, w26 = V := ⟨_, rfl⟩
  rw [hV] at GA LB LC b0
  rw [hV]
  clear hV
  unfold Hid
  refine wp_seq ?_
  obtain ⟨ad0, AR, cR, e0, _, x0, XR⟩ := GA.out.at_ (j := 0) rfl
  subst e0
  rw [addr_zero] at x0
  replace x0 : Hid (V1_26.cell? ad0 = some (.slice AR 3 cR)) := x0
  replace XR : Hid (Lst RCan V1_26 (.slice AR 3 cR) (rats [(1), (3), (5)])) := XR
  have Q12_ : Hid (Hs ((rats [(-1), (-1)])) 1000) := Hs_rats (by decide)
  have Q13_ : Hid (Hs ((rats [(2), (1)])) 1000) := Hs_rats (by decide)
  have Q14_ : Hid (Hs ((rats [(1), (3), (5)])) 1000) := Hs_rats (by decide)
  refine wp_region_facts 56 (fun w' => Below V1_26.heap.size V1_26 w') [(88, .eq (.int .i64 0)), (89, .eq (.bool true)), (90, .eq (.bool true)), (91, .eq (.int .i64 1)), (92, .eq (.bool true)), (93, .eq (.bool true)), (94, .eq (.bool true)), (95, .eq (.int .i64 0)), (96, .eq (.bool true)), (97, .eq (.bool true)), (98, .eq (.bool true)), (99, .eq (.int .i64 0)), (100, .eq (.bool true)), (101, .eq (.bool true)), (102, .eq (.bool true)), (103, .eq (.int .i64 0)), (104, .eq (.bool true)), (105, .eq (.bool true)), (106, .eq (.bool true)), (107, .eq (.int .i64 8)), (108, .eq (.bool true)), (109, .eq (.bool true)), (110, .eq (.bool true)), (111, .eq (.int .i64 6)), (112, .eq (.bool true)), (113, .eq (.bool true)), (114, .eq (.bool true)), (115, .eq (.int .i64 2)), (116, .eq (.bool true)), (117, .eq (.bool true)), (118, .eq (.bool true)), (119, .eq (.slice (some ad0) 2 cA)), (120, .eq (.int .i64 2)), (121, .eq (.bool true)), (122, .eq (.bool true)), (123, .eq (.bool true)), (124, .eq (.slice (some ad0) 2 cA)), (125, .eq ((.pointer (some ad0) : Value))), (126, (.lst0 V1_26 (rats [(1), (3), (5)]))), (127, (.nums [(1), (3), (5)] 3)), (128, (.lst (rats [(1), (3), (5)]))), (129, .eq (.bool true)), (130, .eq (.bool true)), (131, .eq (.bool true)), (132, (.lst0 V1_26 (rats [(-1), (-1)]))), (133, (.nums [(-1), (-1)] 2)), (134, (.lst (rats [(-1), (-1)]))), (135, .eq (.bool true)), (136, .eq (.bool true)), (137, .eq (.bool true)), (138, (.lst0 V1_26 (rats [(2), (1)]))), (139, (.nums [(2), (1)] 2)), (140, (.lst (rats [(2), (1)]))), (141, .eq (.bool true)), (142, .eq (.bool true)), (0, .eq (.bool true))] [true, false, false, false, false, false, false, false, false, false, false, false, false, false, false, false, false, false, false, false, false, false, false, false, false, false, false, false, false, false, false, false, false, false, false, false, false, false, false, false, false, false, false, false, false, false, false, false, false, false, false, false, false, false, false, false, false, false, false, false, false, false, false, false, false, false, false, false, false, false, false, false, false, false, false, false, false, false, false, false, false, false, false, false, false, false, false, false, true, true, true, true, true, true, true, true, true, true, true, true, true, true, true, true, true, true, true, true, true, true, true, true, true, true, true, true, true, true, true, true, true, true, true, true, true, true, true, true, true, true, true, true, true, true, true, true, true, true, true, true, true, true, true] mixed (by kernel_rfl) (by kernel_rfl) (by kernel_rfl) (fun _ _ h hb => h.trans (hb.mono h.size)) ((Below.refl _ _).drew) ⟨?_, ?_, ?_, ?_, ?_, ?_, ?_, ?_, ?_, ?_, ?_, ?_, ?_, ?_, ?_, ?_, ?_, ?_, ?_, ?_, ?_, ?_, ?_, ?_, ?_, ?_, ?_, ?_, ?_, ?_, ?_, ?_, ?_, ?_, ?_, ?_, ?_, ?_, ?_, ?_, ?_, ?_, ?_, ?_, ?_, ?_, ?_, ?_, ?_, ?_, ?_, ?_, ?_, ?_, ?_, ?_, trivial⟩ ?_
  · exact .moveC (.inl rfl) (.inl rfl) rfl (fun a w' hC hs => (hs 2 (by kernel_rfl)))
  · exact .value (.inl rfl) (by intro T e; cases e) rfl rfl (fun a w' hC hs hl => by
      have e0 : a.eval (.tmp 88) = (.int .i64 0) := (hl 88 (by kernel_rfl) (by kernel_rfl))
      simp only [execOp, e0]
      simp only [Act.eval]
      simp [go_sem] <;> rfl)
  · exact .move (.inl rfl) (.inl rfl) rfl (by kernel_rfl) (by kernel_rfl) rfl
  · exact .moveC (.inr ⟨2, true, 90, by decide, rfl, rfl, rfl⟩) (.inl rfl) rfl (fun a w' hC hs => (hs 4 (by kernel_rfl)))
  · exact .value (.inr ⟨2, true, 90, by decide, rfl, rfl, rfl⟩) (by intro T e; cases e) rfl rfl (fun a w' hC hs hl => by
      have e0 : a.eval (.tmp 91) = (.int .i64 1) := (hl 91 (by kernel_rfl) (by kernel_rfl))
      simp only [execOp, e0]
      simp only [Act.eval]
      simp [go_sem] <;> rfl)
  · exact .pick (b := true) (.inl rfl) rfl rfl (fun a w' hC hs hl => ⟨(hl 90 (by kernel_rfl) (by kernel_rfl)), (hl 92 (by kernel_rfl) (by kernel_rfl))⟩)
  · exact .move (.inl rfl) (.inl rfl) rfl (by kernel_rfl) (by kernel_rfl) rfl
  · exact .moveC (.inr ⟨6, true, 94, by decide, rfl, rfl, rfl⟩) (.inl rfl) rfl (fun a w' hC hs => (hs 6 (by kernel_rfl)))
  · exact .value (.inr ⟨6, true, 94, by decide, rfl, rfl, rfl⟩) (by intro T e; cases e) rfl rfl (fun a w' hC hs hl => by
      have e0 : a.eval (.tmp 95) = (.int .i64 0) := (hl 95 (by kernel_rfl) (by kernel_rfl))
      simp only [execOp, e0]
      simp only [Act.eval]
      simp [go_sem] <;> rfl)
  · exact .pick (b := true) (.inl rfl) rfl rfl (fun a w' hC hs hl => ⟨(hl 94 (by kernel_rfl) (by kernel_rfl)), (hl 96 (by kernel_rfl) (by kernel_rfl))⟩)
  · exact .move (.inl rfl) (.inl rfl) rfl (by kernel_rfl) (by kernel_rfl) rfl
  · exact .moveC (.inr ⟨10, true, 98, by decide, rfl, rfl, rfl⟩) (.inl rfl) rfl (fun a w' hC hs => (hs 8 (by kernel_rfl)))
  · exact .value (.inr ⟨10, true, 98, by decide, rfl, rfl, rfl⟩) (by intro T e; cases e) rfl rfl (fun a w' hC hs hl => by
      have e0 : a.eval (.tmp 99) = (.int .i64 0) := (hl 99 (by kernel_rfl) (by kernel_rfl))
      simp only [execOp, e0]
      simp only [Act.eval]
      simp [go_sem] <;> rfl)
  · exact .pick (b := true) (.inl rfl) rfl rfl (fun a w' hC hs hl => ⟨(hl 98 (by kernel_rfl) (by kernel_rfl)), (hl 100 (by kernel_rfl) (by kernel_rfl))⟩)
  · exact .move (.inl rfl) (.inl rfl) rfl (by kernel_rfl) (by kernel_rfl) rfl
  · exact .moveC (.inr ⟨14, true, 102, by decide, rfl, rfl, rfl⟩) (.inl rfl) rfl (fun a w' hC hs => (hs 10 (by kernel_rfl)))
  · exact .value (.inr ⟨14, true, 102, by decide, rfl, rfl, rfl⟩) (by intro T e; cases e) rfl rfl (fun a w' hC hs hl => by
      have e0 : a.eval (.tmp 103) = (.int .i64 0) := (hl 103 (by kernel_rfl) (by kernel_rfl))
      simp only [execOp, e0]
      simp only [Act.eval]
      simp [go_sem] <;> rfl)
  · exact .pick (b := true) (.inl rfl) rfl rfl (fun a w' hC hs hl => ⟨(hl 102 (by kernel_rfl) (by kernel_rfl)), (hl 104 (by kernel_rfl) (by kernel_rfl))⟩)
  · exact .move (.inl rfl) (.inl rfl) rfl (by kernel_rfl) (by kernel_rfl) rfl
  · exact .moveC (.inr ⟨18, true, 106, by decide, rfl, rfl, rfl⟩) (.inl rfl) rfl (fun a w' hC hs => (hs 12 (by kernel_rfl)))
  · exact .value (.inr ⟨18, true, 106, by decide, rfl, rfl, rfl⟩) (by intro T e; cases e) rfl rfl (fun a w' hC hs hl => by
      have e0 : a.eval (.tmp 107) = (.int .i64 8) := (hl 107 (by kernel_rfl) (by kernel_rfl))
      simp only [execOp, e0]
      simp only [Act.eval]
      simp [go_sem] <;> rfl)
  · exact .pick (b := true) (.inl rfl) rfl rfl (fun a w' hC hs hl => ⟨(hl 106 (by kernel_rfl) (by kernel_rfl)), (hl 108 (by kernel_rfl) (by kernel_rfl))⟩)
  · exact .move (.inl rfl) (.inl rfl) rfl (by kernel_rfl) (by kernel_rfl) rfl
  · exact .moveC (.inr ⟨22, true, 110, by decide, rfl, rfl, rfl⟩) (.inl rfl) rfl (fun a w' hC hs => (hs 14 (by kernel_rfl)))
  · exact .value (.inr ⟨22, true, 110, by decide, rfl, rfl, rfl⟩) (by intro T e; cases e) rfl rfl (fun a w' hC hs hl => by
      have e0 : a.eval (.tmp 111) = (.int .i64 6) := (hl 111 (by kernel_rfl) (by kernel_rfl))
      simp only [execOp, e0]
      simp only [Act.eval]
      simp [go_sem] <;> rfl)
  · exact .pick (b := true) (.inl rfl) rfl rfl (fun a w' hC hs hl => ⟨(hl 110 (by kernel_rfl) (by kernel_rfl)), (hl 112 (by kernel_rfl) (by kernel_rfl))⟩)
  · exact .move (.inl rfl) (.inl rfl) rfl (by kernel_rfl) (by kernel_rfl) rfl
  · exact .moveC (.inr ⟨26, true, 114, by decide, rfl, rfl, rfl⟩) (.inl rfl) rfl (fun a w' hC hs => (hs 7 (by kernel_rfl)))
  · exact .value (.inr ⟨26, true, 114, by decide, rfl, rfl, rfl⟩) (by intro T e; cases e) rfl rfl (fun a w' hC hs hl => by
      have e0 : a.eval (.tmp 115) = (.int .i64 2) := (hl 115 (by kernel_rfl) (by kernel_rfl))
      simp only [execOp, e0]
      simp only [Act.eval]
      simp [go_sem] <;> rfl)
  · exact .pick (b := true) (.inl rfl) rfl rfl (fun a w' hC hs hl => ⟨(hl 114 (by kernel_rfl) (by kernel_rfl)), (hl 116 (by kernel_rfl) (by kernel_rfl))⟩)
  · exact .move (.inl rfl) (.inl rfl) rfl (by kernel_rfl) (by kernel_rfl) rfl
  · exact .moveC (.inr ⟨30, true, 118, by decide, rfl, rfl, rfl⟩) (.inl rfl) rfl (fun a w' hC hs => (hs 1 (by kernel_rfl)))
  · exact .value (.inr ⟨30, true, 118, by decide, rfl, rfl, rfl⟩) (by intro T e; cases e) rfl rfl (fun a w' hC hs hl => by
      have e0 : a.eval (.tmp 119) = (.slice (some ad0) 2 cA) := (hl 119 (by kernel_rfl) (by kernel_rfl))
      have e0' : a.tmps[119]?.getD undef = _ := (by simp [Act.eval] : _ = a.eval (.tmp 119)).trans e0
      simp [execOp, resolve, invoke, builtin, go_sem, e0, e0'])
  · exact .value (.inr ⟨30, true, 118, by decide, rfl, rfl, rfl⟩) (by intro T e; cases e) rfl rfl (fun a w' hC hs hl => by
      have e0 : a.eval (.tmp 120) = (.int .i64 2) := (hl 120 (by kernel_rfl) (by kernel_rfl))
      simp only [execOp, e0]
      simp only [Act.eval]
      simp [go_sem] <;> rfl)
  · exact .pick (b := true) (.inl rfl) rfl rfl (fun a w' hC hs hl => ⟨(hl 118 (by kernel_rfl) (by kernel_rfl)), (hl 121 (by kernel_rfl) (by kernel_rfl))⟩)
  · exact .move (.inl rfl) (.inl rfl) rfl (by kernel_rfl) (by kernel_rfl) rfl
  · exact .moveC (.inr ⟨35, true, 123, by decide, rfl, rfl, rfl⟩) (.inl rfl) rfl (fun a w' hC hs => (hs 1 (by kernel_rfl)))
  · exact .value (.inr ⟨35, true, 123, by decide, rfl, rfl, rfl⟩) (by intro T e; cases e) rfl rfl (fun a w' hC hs hl => by
      have e0 : a.eval (.tmp 124) = (.slice (some ad0) 2 cA) := (hl 124 (by kernel_rfl) (by kernel_rfl))
      simp only [execOp, e0]
      simp [go_sem, Act.eval, addr_zero])
  · exact .load (.slice AR 3 cR) (.inr ⟨35, true, 123, by decide, rfl, rfl, rfl⟩) rfl rfl (fun a w' hC hs hl => by rw [show a.eval (.tmp 125) = (.pointer (some ad0) : Value) from (hl 125 (by kernel_rfl) (by kernel_rfl))]; exact ⟨by simp [go_sem, cell_below hC x0.out], XR.out⟩)
  · exact .makeW (.inr ⟨35, true, 123, by decide, rfl, rfl, rfl⟩) (by intro T e; cases e) rfl (fun a w' hC hs hl => ⟨_, w'.alloc (.cells #[.int .i64 (1), .int .i64 (3), .int .i64 (5)] 2), by simp [execOp, Act.eval, go_sem], (Below.refl _ _).alloc (Nat.le_refl _) _, w'.heap.size, rfl, by simp, nums_new w' _ rfl [(1), (3), (5)] _ rfl _⟩)
  · exact .call (.inr ⟨35, true, 123, by decide, rfl, rfl, rfl⟩) rfl rfl fn_gof (fun a w' hC hs hl => gof_F (hl 127 (by kernel_rfl) (by kernel_rfl)) rfl (by decide) (by decide))
  · exact .call (.inr ⟨35, true, 123, by decide, rfl, rfl, rfl⟩) rfl rfl fn_vSame (fun a w' hC hs hl => vSame_L (k := 1000) (Lst.can_below (hl 126 (by kernel_rfl) (by kernel_rfl)) hC) (hl 128 (by kernel_rfl) (by kernel_rfl)) Q14_.out Q14_.out (by decide) (T.out.below (b0.out.trans (hC.mono b0.out.size))) true (by decide +kernel))
  · exact .pick (b := true) (.inl rfl) rfl rfl (fun a w' hC hs hl => ⟨(hl 123 (by kernel_rfl) (by kernel_rfl)), (hl 129 (by kernel_rfl) (by kernel_rfl))⟩)
  · exact .move (.inl rfl) (.inl rfl) rfl (by kernel_rfl) (by kernel_rfl) rfl
  · exact .moveC (.inr ⟨43, true, 131, by decide, rfl, rfl, rfl⟩) (.inl rfl) rfl (fun a w' hC hs => (show Lst RCan V1_26 (a.eval (.tmp 5)) (rats [(-1), (-1)]) from by rw [show a.eval (.tmp 5) = (.slice AB 2 cB : Value) from (hs 5 (by kernel_rfl))]; exact LB.out))
  · exact .makeW (.inr ⟨43, true, 131, by decide, rfl, rfl, rfl⟩) (by intro T e; cases e) rfl (fun a w' hC hs hl => ⟨_, w'.alloc (.cells #[.int .i64 (-1), .int .i64 (-1)] 2), by simp [execOp, Act.eval, go_sem], (Below.refl _ _).alloc (Nat.le_refl _) _, w'.heap.size, rfl, by simp, nums_new w' _ rfl [(-1), (-1)] _ rfl _⟩)
  · exact .call (.inr ⟨43, true, 131, by decide, rfl, rfl, rfl⟩) rfl rfl fn_gof (fun a w' hC hs hl => gof_F (hl 133 (by kernel_rfl) (by kernel_rfl)) rfl (by decide) (by decide))
  · exact .call (.inr ⟨43, true, 131, by decide, rfl, rfl, rfl⟩) rfl rfl fn_vSame (fun a w' hC hs hl => vSame_L (k := 1000) (Lst.can_below (hl 132 (by kernel_rfl) (by kernel_rfl)) hC) (hl 134 (by kernel_rfl) (by kernel_rfl)) Q12_.out Q12_.out (by decide) (T.out.below (b0.out.trans (hC.mono b0.out.size))) true (by decide +kernel))
  · exact .pick (b := true) (.inl rfl) rfl rfl (fun a w' hC hs hl => ⟨(hl 131 (by kernel_rfl) (by kernel_rfl)), (hl 135 (by kernel_rfl) (by kernel_rfl))⟩)
  · exact .move (.inl rfl) (.inl rfl) rfl (by kernel_rfl) (by kernel_rfl) rfl
  · exact .moveC (.inr ⟨49, true, 137, by decide, rfl, rfl, rfl⟩) (.inl rfl) rfl (fun a w' hC hs => (show Lst RCan V1_26 (a.eval (.tmp 9)) (rats [(2), (1)]) from by rw [show a.eval (.tmp 9) = (.slice AC 2 cC : Value) from (hs 9 (by kernel_rfl))]; exact LC.out))
  · exact .makeW (.inr ⟨49, true, 137, by decide, rfl, rfl, rfl⟩) (by intro T e; cases e) rfl (fun a w' hC hs hl => ⟨_, w'.alloc (.cells #[.int .i64 (2), .int .i64 (1)] 2), by simp [execOp, Act.eval, go_sem], (Below.refl _ _).alloc (Nat.le_refl _) _, w'.heap.size, rfl, by simp, nums_new w' _ rfl [(2), (1)] _ rfl _⟩)
  · exact .call (.inr ⟨49, true, 137, by decide, rfl, rfl, rfl⟩) rfl rfl fn_gof (fun a w' hC hs hl => gof_F (hl 139 (by kernel_rfl) (by kernel_rfl)) rfl (by decide) (by decide))
  · exact .call (.inr ⟨49, true, 137, by decide, rfl, rfl, rfl⟩) rfl rfl fn_vSame (fun a w' hC hs hl => vSame_L (k := 1000) (Lst.can_below (hl 138 (by kernel_rfl) (by kernel_rfl)) hC) (hl 140 (by kernel_rfl) (by kernel_rfl)) Q13_.out Q13_.out (by decide) (T.out.below (b0.out.trans (hC.mono b0.out.size))) true (by decide +kernel))
  · exact .pick (b := true) (.inl rfl) rfl rfl (fun a w' hC hs hl => ⟨(hl 137 (by kernel_rfl) (by kernel_rfl)), (hl 141 (by kernel_rfl) (by kernel_rfl))⟩)
  · exact .move (.inl rfl) (.inr rfl) rfl (by kernel_rfl) (by kernel_rfl) rfl
  intro f w99 hC hF _
  have f0 : f 0 = .bool true := hF 0 (by kernel_rfl)
  clear hF
  simp only [patch, List.drop]
  have B9 := hide (b0.out.trans (hC.mono b0.out.size))
  clear hC
  rw [f0]
  try change wpList _ _ _ [] _ _
  go_wp2
  exact opq_end hR ⟨_, rfl, B9.out, rfl⟩
end Go.Proofs.YtfpnhggbfakdkaaDoor
