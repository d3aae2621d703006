/- The law: what is solved makes what was asked; what a grid makes is solved by what it was made of, just if that is the only one. -/
import Derived.Test.YtfpnhggbfakdkaaDoorWo
set_option linter.unusedVariables false
set_option linter.unusedSimpArgs false
set_option maxRecDepth 100000
namespace Go.Proofs.YtfpnhggbfakdkaaDoor
open Go.RowKit

set_option maxHeartbeats 8000000 in
theorem GridsSolved_ok (w : World) (A1 : Option Addr) (n1 c1 : Nat) (ess1 : List (List Raw)) (A2 : Option Addr) (n2 c2 : Nat) (es2 : List Raw) (h1 : Gst RRw w (.slice A1 n1 c1) ess1) (h2 : Lst RRw w (.slice A2 n2 c2) es2) (hT : Tab w) :
    Calls Tryd.prog 4 #[.slice A1 n1 c1, .slice A2 n2 c2] w fun e w' => e = .returned (.bool true) ∧ Hid (Below w.heap.size w w') := by
  refine opq fun R hR => ?_
  have T := hide hT
  clear hT
  replace h1 := hide h1
  replace h2 := hide h2
  go_enter Tryd.func4, Tryd.ntmps4
  go_wp2_with fail
  refine (galive_P w T.out).mono ?_
  rintro e w1 ⟨_, rfl, d0, rfl⟩
  have b0 := hide d0
  clear d0
  replace h2 := hide (h2.out.rw_below b0.out)
  replace h1 := hide (h1.out.rw_below b0.out)
  go_wp2_with fail
  refine (ggreat_ok w1 A1 n1 c1 ess1 h1.out).mono ?_
  rintro e w2 ⟨r, rfl, hr, d0⟩
  replace b0 := hide (below_tr b0.out d0)
  replace h2 := hide (h2.out.rw_below d0)
  replace h1 := hide (h1.out.rw_below d0)
  clear d0
  rcases r with _ | _
  rotate_left
  · clear hr
    go_wp2_with fail
    refine (galive_P w2 (T.out.below b0.out)).mono ?_
    rintro e w99 ⟨_, rfl, d0, rfl⟩
    replace b0 := hide (below_tr b0.out d0)
    clear d0
    go_wp2
    exact opq_end hR ⟨rfl, b0⟩
  have hg := hide (hr.out rfl)
  clear hr
  have G0 := hide (gopen_raw h1.out hg.out)
  by_cases h10_n2 : (n2 : Int) > 10
  · go_wp2_with fail
    refine (galive_P w2 (T.out.below b0.out)).mono ?_
    rintro e w99 ⟨_, rfl, d0, rfl⟩
    replace b0 := hide (below_tr b0.out d0)
    clear d0
    go_wp2
    exact opq_end hR ⟨rfl, b0⟩
  have hn10_n2 : n2 ≤ 10 := by omega
  go_wp2_with fail
  refine (RatsSize_any _ A2 n2 c2 es2 h2.out).mono ?_
  rintro e w3 ⟨r, rfl, cn, _, d0⟩
  replace b0 := hide (below_tr b0.out d0)
  replace h2 := hide (h2.out.rw_below d0)
  replace h1 := hide (h1.out.rw_below d0)
  replace G0 := hide (G0.out.raw_below d0)
  clear d0
  by_cases hr : (r : Int) > 100
  · clear cn
    go_wp2_with fail
    refine (galive_P w3 (T.out.below b0.out)).mono ?_
    rintro e w99 ⟨_, rfl, d0, rfl⟩
    replace b0 := hide (below_tr b0.out d0)
    clear d0
    go_wp2
    exact opq_end hR ⟨rfl, b0⟩
  have hx2 : n2 + tsz es2 ≤ 100 := by
    rcases cn.2 with e | e <;> omega
  clear cn
  have LR := hide (h2.out.rawW 100 (by omega) (by decide)).1
  have HX := hide (h2.out.rawW 100 (by omega) (by decide)).2
  clear h2
  by_cases hk : gok ess1 = true
  rotate_left
  · have hk2 : gok ess1 = false := Bool.eq_false_iff.2 hk
    go_wp2_with fail
    refine (gridCheck_ok G0.out (T.out.below b0.out) false hk2).mono ?_
    rintro e w4 ⟨_, rfl, d0, rfl⟩
    replace b0 := hide (below_tr b0.out d0)
    clear d0 hk2
    go_wp2_with fail
    refine (galive_P w4 (T.out.below b0.out)).mono ?_
    rintro e w99 ⟨_, rfl, d0, rfl⟩
    replace b0 := hide (below_tr b0.out d0)
    clear d0
    go_wp2
    exact opq_end hR ⟨rfl, b0⟩
  have GO := hide (gopen G0.out hg.out hk)
  go_wp2_with fail
  refine (gridCheck_ok G0.out (T.out.below b0.out) true hk).mono ?_
  rintro e w4 ⟨_, rfl, d0, rfl⟩
  replace b0 := hide (below_tr b0.out d0)
  replace h1 := hide (h1.out.rw_below d0)
  replace G0 := hide (G0.out.raw_below d0)
  replace LR := hide (LR.out.raw_below d0)
  replace GO := hide (GO.out.below d0)
  clear d0
  by_cases hx_es2 : es2.all rk = true
  rotate_left
  · have hk2 : es2.all rk = false := Bool.eq_false_iff.2 hx_es2
    go_wp2_with fail
    refine (vCheck_L LR.out (T.out.below b0.out) false hk2).mono ?_
    rintro e w5 ⟨_, rfl, d0, rfl⟩
    replace b0 := hide (below_tr b0.out d0)
    clear d0 hk2
    go_wp2_with fail
    refine (galive_P w5 (T.out.below b0.out)).mono ?_
    rintro e w99 ⟨_, rfl, d0, rfl⟩
    replace b0 := hide (below_tr b0.out d0)
    clear d0
    go_wp2
    exact opq_end hR ⟨rfl, b0⟩
  go_wp2_with fail
  refine (vCheck_L LR.out (T.out.below b0.out) true hx_es2).mono ?_
  rintro e w5 ⟨_, rfl, d0, rfl⟩
  replace b0 := hide (below_tr b0.out d0)
  replace h1 := hide (h1.out.rw_below d0)
  replace G0 := hide (G0.out.raw_below d0)
  replace LR := hide (LR.out.raw_below d0)
  replace GO := hide (GO.out.below d0)
  clear d0
  obtain ⟨N, hN⟩ : ∃ N, cols ess1 = N := ⟨_, rfl⟩
  rw [hN] at GO
  obtain ⟨qss, hq⟩ : ∃ qss, (ess1.map fun es => es.map rvE) = qss := ⟨_, rfl⟩
  have GC := hide (hq ▸ GO.out.can : Gst RCan _ _ qss)
  have GG : Hid (GQ qss N 300) := hq ▸ GO.out.gq
  have hn8 := GO.out.n8
  have hN8 := GO.out.N8
  clear GO hN hq G0 hg h1 hk
  have hl := hide GC.out.len
  have LX := hide (LR.out.canW hx_es2)
  obtain ⟨xs, hxs⟩ : ∃ xs, es2.map rvE = xs := ⟨_, rfl⟩
  rw [hxs] at LX HX
  have hlx := hide LX.out.len
  clear LR hx_es2 hxs hx2
  have HX3 : Hid (Hs xs 300) := HX.out.up (by decide)
  have hz := hide (szt300 hN8)
  have hz5 : 2 * szt 300 N ≤ 100000000 := by
    have h1 := szt_le 300 N 8 hN8
    have h2 : szt 300 8 ≤ 20000000 := by decide
    omega
  have FIRST : Hid (Calls Tryd.prog 17 #[.slice A1 n1 c1, .slice A2 n2 c2] w5 fun e w' => ∃ u m c er ys, e = .returned (.tuple #[.slice u m c, .int .i64 (er : Nat)]) ∧ Below w5.heap.size w5 w' ∧ Hid ((er = 0 ∧ n2 = n1 ∧ ys.length = m ∧ Lst RCan w' (.slice u m c) ys ∧ m = N ∧ Hs ys 100000000 ∧ (qss.map fun q => dot q ys) = xs) ∨ (er ≠ 0 ∧ m = 0))) := by
    by_cases hk : n2 = n1
    · subst hk
      refine (solve_ok GC.out LX.out GG.out HX3.out (by decide) hz.out (by omega) (by omega) (T.out.below b0.out)).mono fun e w' ⟨u, er, ys, h1, h2, h3, h4, h5⟩ => ?_
      obtain ⟨B, d, rfl⟩ := h3.slice
      refine ⟨B, _, d, er, ys, h1, h2, ?_⟩
      rcases h4 with ⟨rfl, hly, hu⟩ | ⟨rfl, rfl, _⟩ | ⟨rfl, rfl, _⟩
      · refine .inl ⟨rfl, rfl, rfl, h3.lst (by omega), hly, h5.up hz5, ?_⟩
        have := (sol_times GG.out hly (by rw [hlx.out, hl.out])).1
        rw [hl.out] at this
        exact this ((hu _).2 fun _ _ => rfl)
      · exact .inr ⟨by decide, rfl⟩
      · exact .inr ⟨by decide, rfl⟩
    · exact (solve_bad GC.out LX.out GG.out HX3.out hk (by decide) (T.out.below b0.out)).mono fun e w' ⟨h1, h2⟩ => ⟨none, 0, 0, 1, [], h1, h2, .inr ⟨by decide, rfl⟩⟩
  go_wp2_with fail
  refine (FIRST.out).mono ?_
  rintro e w6 ⟨ua, ma, ca, er, ys, rfl, d0, ha⟩
  replace b0 := hide (below_tr b0.out d0)
  replace GC := hide (GC.out.can_below d0)
  replace LX := hide (LX.out.can_below d0)
  clear d0
  clear FIRST
  have hk63 : n2 ≤ 10 := hn10_n2
  rcases ha with ⟨rfl, hnn, hlm, hla, hmN, hsy, hdot⟩ | ⟨hne, rfl⟩
  rotate_left
  · have hne2 : ((er : Int) == 0) = false := by simpa using hne
    clear hne
    by_cases hm0 : n1 = 0
    · have e0 : qss = [] := List.eq_nil_of_length_eq_zero (by rw [hl.out]; exact hm0)
      obtain rfl := GG.out.n0 e0
      subst hm0
      clear e0
      go_wp2_with fail
      refine (times_ok GC.out LX.out GG.out HX3.out (fun h => absurd h (by decide)) (by decide) (by decide) (by omega) (T.out.below b0.out)).mono ?_
      rintro e w20 ⟨uy, rfl, d0, oy⟩
      replace b0 := hide (below_tr b0.out d0)
      obtain ⟨B, d, rfl⟩ := OLst.slN (N := 0) oy (by rw [List.length_map, hl.out])
      clear d0 oy
      go_wp2
      exact opq_end hR ⟨rfl, b0⟩
    · have hmp : 0 < n1 := by omega
      by_cases hk : n2 = N
      · subst hk
        go_wp2_with fail
        refine (times_ok GC.out LX.out GG.out HX3.out (fun _ => rfl) (Nat.le_trans (Nat.add_le_add_left (Nat.mul_le_mul_right 601 hN8) 1) (by decide)) (by decide) (by omega) (T.out.below b0.out)).mono ?_
        rintro e w20 ⟨uy, rfl, d0, oy⟩
        replace b0 := hide (below_tr b0.out d0)
        replace GC := hide (GC.out.can_below d0)
        replace LX := hide (LX.out.can_below d0)
        obtain ⟨B, d, rfl⟩ := OLst.slN (N := n1) oy (by rw [List.length_map, hl.out])
        have LY := hide (oy.lst (by rw [List.length_map, hl.out]; omega))
        have HY : Hid (Hs (qss.map fun q => dot q xs) 5000) := Hs_times GG.out HX3.out hN8 (by decide) (by decide)
        have hm1 : ((n1 : Int) == 0) = false := by simpa using hm0
        have GG5 : Hid (GQ qss n2 5000) := ⟨GG.out.rect, fun qs hq => (GG.out.hs qs hq).up (by decide), GG.out.n0⟩
        clear d0 oy
        go_wp2_with fail
        refine (solve_ok GC.out LY.out GG5.out HY.out (by decide) (Nat.le_trans (szt_le 5000 n2 8 hN8) (by decide)) (by omega) (by omega) (T.out.below b0.out)).mono ?_
        rintro e w21 ⟨uz, er2, zs, rfl, d0, oz, hz2, _⟩
        replace b0 := hide (below_tr b0.out d0)
        replace GC := hide (GC.out.can_below d0)
        replace LX := hide (LX.out.can_below d0)
        have hs : Sol n1 n2 (mat fun j => qss.getD j []) (fun i => (qss.map fun q => dot q xs).getD i 0) (fun j => xs.getD j 0) := by
          have := (sol_times GG.out hlx.out (bs := qss.map fun q => dot q xs) (List.length_map ..)).2 rfl
          rw [hl.out] at this
          exact this
        have hb := hide (SolR.back hz2 hlx.out hs)
        have OZ := hide oz
        clear d0 LY HY oz hz2 hs
        go_wp2_with fail
        refine (rank_ok GC.out GG.out (by decide) hz.out (by omega) (by omega) (T.out.below b0.out)).mono ?_
        rintro e w22 ⟨rfl, d0⟩
        replace b0 := hide (below_tr b0.out d0)
        replace LX := hide (LX.out.can_below d0)
        replace OZ := hide (OZ.out.below d0)
        obtain ⟨r, hr⟩ : ∃ r, rnk n1 n2 (mat fun j => qss.getD j []) = r := ⟨_, rfl⟩
        rw [hr] at hb ⊢
        clear d0 hr
        rcases hb.out with ⟨hlt, rfl⟩ | ⟨hle, rfl, rfl⟩
        · have hlt' : (r : Int) < (n2 : Int) := by omega
          clear hb GC GG5
          go_wp2
          exact opq_end hR ⟨rfl, b0⟩
        · subst hle
          clear hb GC GG5
          go_wp2_with fail
          refine (vSame_yes (OZ.out.lst (by rw [hlx.out]; omega)) LX.out HX3.out (by decide) (T.out.below b0.out)).mono ?_
          rintro e w23 ⟨_, rfl, d0, rfl⟩
          replace b0 := hide (below_tr b0.out d0)
          clear d0
          go_wp2
          exact opq_end hR ⟨rfl, b0⟩
      · go_wp2_with fail
        refine (times_bad GC.out LX.out GG.out HX3.out hmp hk (by decide) (T.out.below b0.out)).mono ?_
        rintro e w20 ⟨rfl, d0⟩
        replace b0 := hide (below_tr b0.out d0)
        clear d0
        go_wp2
        exact opq_end hR ⟨rfl, b0⟩
  obtain rfl : n1 = n2 := hnn.symm
  obtain rfl : N = ma := hmN.symm
  have LA := hide hla
  have HSY := hide hsy
  have DOT := hide hdot
  clear hla hsy hdot hlm
  have GG9 : Hid (GQ qss N 100000000) := ⟨GG.out.rect, fun qs hq => (GG.out.hs qs hq).up (by decide), GG.out.n0⟩
  go_wp2_with fail
  refine (times_ok GC.out LA.out GG9.out HSY.out (fun _ => rfl) (Nat.le_trans (Nat.add_le_add_left (Nat.mul_le_mul_right 200000001 hN8) 1) (by decide)) (by decide) (by omega) (T.out.below b0.out)).mono ?_
  rintro e w7 ⟨ub, rfl, d0, ob⟩
  replace b0 := hide (below_tr b0.out d0)
  replace GC := hide (GC.out.can_below d0)
  replace LX := hide (LX.out.can_below d0)
  replace LA := hide (LA.out.can_below d0)
  have OB := hide (ob)
  clear d0
  clear ob
  rw [DOT.out] at OB
  have LB := hide (OB.out.lst (by rw [hlx.out]; omega))
  go_wp2_with fail
  refine (vSame_yes LB.out LX.out HX3.out (by decide) (T.out.below b0.out)).mono ?_
  rintro e w8 ⟨_, rfl, d0, rfl⟩
  replace b0 := hide (below_tr b0.out d0)
  replace GC := hide (GC.out.can_below d0)
  replace LX := hide (LX.out.can_below d0)
  replace LA := hide (LA.out.can_below d0)
  replace LB := hide (LB.out.can_below d0)
  clear d0
  clear OB LB LA HSY DOT GG9
  by_cases hm0 : n1 = 0
  · have e0 : qss = [] := List.eq_nil_of_length_eq_zero (by rw [hl.out]; exact hm0)
    obtain rfl := GG.out.n0 e0
    subst hm0
    clear e0
    go_wp2_with fail
    refine (times_ok GC.out LX.out GG.out HX3.out (fun h => absurd h (by decide)) (by decide) (by decide) (by omega) (T.out.below b0.out)).mono ?_
    rintro e w20 ⟨uy, rfl, d0, oy⟩
    replace b0 := hide (below_tr b0.out d0)
    obtain ⟨B, d, rfl⟩ := OLst.slN (N := 0) oy (by rw [List.length_map, hl.out])
    clear d0 oy
    go_wp2
    exact opq_end hR ⟨rfl, b0⟩
  · have hmp : 0 < n1 := by omega
    by_cases hk : n1 = N
    · subst hk
      go_wp2_with fail
      refine (times_ok GC.out LX.out GG.out HX3.out (fun _ => rfl) (Nat.le_trans (Nat.add_le_add_left (Nat.mul_le_mul_right 601 hN8) 1) (by decide)) (by decide) (by omega) (T.out.below b0.out)).mono ?_
      rintro e w20 ⟨uy, rfl, d0, oy⟩
      replace b0 := hide (below_tr b0.out d0)
      replace GC := hide (GC.out.can_below d0)
      replace LX := hide (LX.out.can_below d0)
      obtain ⟨B, d, rfl⟩ := OLst.slN (N := n1) oy (by rw [List.length_map, hl.out])
      have LY := hide (oy.lst (by rw [List.length_map, hl.out]; omega))
      have HY : Hid (Hs (qss.map fun q => dot q xs) 5000) := Hs_times GG.out HX3.out hN8 (by decide) (by decide)
      have hm1 : ((n1 : Int) == 0) = false := by simpa using hm0
      have GG5 : Hid (GQ qss n1 5000) := ⟨GG.out.rect, fun qs hq => (GG.out.hs qs hq).up (by decide), GG.out.n0⟩
      clear d0 oy
      go_wp2_with fail
      refine (solve_ok GC.out LY.out GG5.out HY.out (by decide) (Nat.le_trans (szt_le 5000 n1 8 hN8) (by decide)) (by omega) (by omega) (T.out.below b0.out)).mono ?_
      rintro e w21 ⟨uz, er2, zs, rfl, d0, oz, hz2, _⟩
      replace b0 := hide (below_tr b0.out d0)
      replace GC := hide (GC.out.can_below d0)
      replace LX := hide (LX.out.can_below d0)
      have hs : Sol n1 n1 (mat fun j => qss.getD j []) (fun i => (qss.map fun q => dot q xs).getD i 0) (fun j => xs.getD j 0) := by
        have := (sol_times GG.out hlx.out (bs := qss.map fun q => dot q xs) (List.length_map ..)).2 rfl
        rw [hl.out] at this
        exact this
      have hb := hide (SolR.back hz2 hlx.out hs)
      have OZ := hide oz
      clear d0 LY HY oz hz2 hs
      go_wp2_with fail
      refine (rank_ok GC.out GG.out (by decide) hz.out (by omega) (by omega) (T.out.below b0.out)).mono ?_
      rintro e w22 ⟨rfl, d0⟩
      replace b0 := hide (below_tr b0.out d0)
      replace LX := hide (LX.out.can_below d0)
      replace OZ := hide (OZ.out.below d0)
      obtain ⟨r, hr⟩ : ∃ r, rnk n1 n1 (mat fun j => qss.getD j []) = r := ⟨_, rfl⟩
      rw [hr] at hb ⊢
      clear d0 hr
      rcases hb.out with ⟨hlt, rfl⟩ | ⟨hle, rfl, rfl⟩
      · have hlt' : (r : Int) < (n1 : Int) := by omega
        clear hb GC GG5
        go_wp2
        exact opq_end hR ⟨rfl, b0⟩
      · subst hle
        clear hb GC GG5
        go_wp2_with fail
        refine (vSame_yes (OZ.out.lst (by rw [hlx.out]; omega)) LX.out HX3.out (by decide) (T.out.below b0.out)).mono ?_
        rintro e w23 ⟨_, rfl, d0, rfl⟩
        replace b0 := hide (below_tr b0.out d0)
        clear d0
        go_wp2
        exact opq_end hR ⟨rfl, b0⟩
    · go_wp2_with fail
      refine (times_bad GC.out LX.out GG.out HX3.out hmp hk (by decide) (T.out.below b0.out)).mono ?_
      rintro e w20 ⟨rfl, d0⟩
      replace b0 := hide (below_tr b0.out d0)
      clear d0
      go_wp2
      exact opq_end hR ⟨rfl, b0⟩
end Go.Proofs.YtfpnhggbfakdkaaDoor
