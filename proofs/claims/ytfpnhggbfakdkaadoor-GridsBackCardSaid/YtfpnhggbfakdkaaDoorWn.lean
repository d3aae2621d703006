/- The law: turned twice a grid is as it was; as many rows count as columns. -/
import Derived.Test.YtfpnhggbfakdkaaDoorWm
set_option linter.unusedVariables false
set_option linter.unusedSimpArgs false
set_option maxRecDepth 100000
namespace Go.Proofs.YtfpnhggbfakdkaaDoor
open Go.RowKit

set_option maxHeartbeats 8000000 in
theorem GridsBack_ok (w : World) (A1 : Option Addr) (n1 c1 : Nat) (ess1 : List (List Raw)) (h1 : Gst RRw w (.slice A1 n1 c1) ess1) (hT : Tab w) :
    Calls Tryd.prog 3 #[.slice A1 n1 c1] w fun e w' => e = .returned (.bool true) ∧ Hid (Below w.heap.size w w') := by
  refine opq fun R hR => ?_
  have T := hide hT
  clear hT
  replace h1 := hide h1
  go_enter Tryd.func3, Tryd.ntmps3
  go_wp2_with fail
  refine (galive_P w T.out).mono ?_
  rintro e w1 ⟨_, rfl, d0, rfl⟩
  have b0 := hide d0
  clear d0
  go_wp2_with fail
  refine (ggreat_ok w1 A1 n1 c1 ess1 (h1.out.rw_below b0.out)).mono ?_
  rintro e w2 ⟨r, rfl, hr, d0⟩
  replace b0 := hide (below_tr b0.out d0)
  clear d0
  rcases r with _ | _
  · have hg := hide (hr.out rfl)
    have G0 := hide (gopen_raw (h1.out.rw_below b0.out) hg.out)
    clear hr
    by_cases hk : gok ess1 = true
    · have GO := hide (gopen G0.out hg.out hk)
      go_wp2_with fail
      refine (gridCheck_ok G0.out (T.out.below b0.out) true hk).mono ?_
      rintro e w3 ⟨_, rfl, d0, rfl⟩
      replace b0 := hide (below_tr b0.out d0)
      replace GO := hide (GO.out.below d0)
      clear d0 G0 hg h1 hk
      obtain ⟨N, hN⟩ : ∃ N, cols ess1 = N := ⟨_, rfl⟩
      rw [hN] at GO
      obtain ⟨qss, hq⟩ : ∃ qss, (ess1.map fun es => es.map rvE) = qss := ⟨_, rfl⟩
      have GC : Hid (Gst RCan w3 (.slice A1 n1 c1) qss) := hq ▸ GO.out.can
      have GG : Hid (GQ qss N 300) := hq ▸ GO.out.gq
      have hn8 := GO.out.n8
      have hN8 := GO.out.N8
      clear GO hN hq
      have hl := hide GC.out.len
      go_wp2_with fail
      refine (turnG_ok GC.out GG.out (by decide) (by omega) (by omega) (T.out.below b0.out)).mono ?_
      rintro e w4 ⟨ua, us, W, Bs, rfl, d0, og⟩
      have og2 := og.gst (by rw [turnQ_len]; omega) (fun qs hq => by rw [(GG.out.turn (by decide)).rect qs hq]; split <;> (try rw [hl.out]) <;> omega)
      have GA := hide og2
      replace b0 := hide (below_tr b0.out d0)
      replace GC := hide (GC.out.can_below d0)
      clear d0 og og2
      obtain ⟨AA, cA, eA⟩ := GA.out.sl
      rw [turnQ_len] at eA
      subst eA
      obtain ⟨M, hM⟩ : ∃ M, (if N = 0 then 0 else n1) = M := ⟨_, rfl⟩
      have GT : Hid (GQ (turnQ qss N) M 300) := by
        have := GG.out.turn (by decide)
        rw [hl.out, hM] at this
        exact this
      have hM8 : M ≤ 8 := by rw [← hM]; split <;> omega
      go_wp2_with fail
      refine (turnG_ok GA.out GT.out (by decide) (by omega) (by omega) (T.out.below b0.out)).mono ?_
      rintro e w5 ⟨ub, us, W, Bs, rfl, d0, og⟩
      have og2 := og.gst (by rw [turnQ_len]; omega) (fun qs hq => by rw [(GT.out.turn (by decide)).rect qs hq]; split <;> (try rw [turnQ_len]) <;> omega)
      have GB := hide og2
      replace b0 := hide (below_tr b0.out d0)
      replace GC := hide (GC.out.can_below d0)
      replace GA := hide (GA.out.can_below d0)
      clear d0 og og2
      obtain ⟨AB, cB, eB⟩ := GB.out.sl
      rw [turnQ_len] at eB
      subst eB
      go_wp2_with fail
      refine (rank_ok GC.out GG.out (by decide) (szt300 hN8) (by omega) (by omega) (T.out.below b0.out)).mono ?_
      rintro e w6 ⟨rfl, d0⟩
      obtain ⟨r, hr⟩ : ∃ r, rnk n1 N (mat fun j => qss.getD j []) = r := ⟨_, rfl⟩
      rw [hr]
      replace hr := hide hr
      replace b0 := hide (below_tr b0.out d0)
      replace GC := hide (GC.out.can_below d0)
      replace GA := hide (GA.out.can_below d0)
      replace GB := hide (GB.out.can_below d0)
      clear d0
      go_wp2_with fail
      refine (rank_ok GA.out GT.out (by decide) (szt300 hM8) (by omega) (by omega) (T.out.below b0.out)).mono ?_
      rintro e w7 ⟨rfl, d0⟩
      replace b0 := hide (below_tr b0.out d0)
      replace GC := hide (GC.out.can_below d0)
      replace GA := hide (GA.out.can_below d0)
      replace GB := hide (GB.out.can_below d0)
      clear d0
      have er : rnk N M (mat fun j => (turnQ qss N).getD j []) = rnk n1 N (mat fun j => qss.getD j []) := by
        have := rank_turn GG.out
        rw [hl.out, hM] at this
        exact this
      rw [er, hr.out]
      have hr1 := rnk_rows n1 N (mat fun j => qss.getD j [])
      have hr2 := rnk_le n1 N (mat fun j => qss.getD j [])
      rw [hr.out] at hr1 hr2
      clear hr
      clear er GT
      by_cases h0 : n1 = 0
      · have e0 : qss = [] := List.eq_nil_of_length_eq_zero (by rw [hl.out]; exact h0)
        obtain rfl := GG.out.n0 e0
        obtain rfl : r = 0 := by omega
        subst h0
        clear GC GA GB
        go_wp2
        exact opq_end hR ⟨rfl, b0⟩
      · obtain ⟨q, hq⟩ : ∃ q, qss[0]? = some q := ⟨_, List.getElem?_eq_getElem (by rw [hl.out]; omega)⟩
        obtain ⟨ad, AR, cR, rfl, _, x0, XR⟩ := GC.out.at_ hq
        rw [GG.out.rect q (List.mem_of_getElem? hq), addr_zero] at x0
        clear XR hq
        have hn0 : (n1 : Int) > 0 := by omega
        have hle1 : (r : Int) ≤ (n1 : Int) := by omega
        have hle2 : (r : Int) ≤ (N : Int) := by omega
        by_cases hN0 : N = 0
        · subst hN0
          clear GC GA GB
          go_wp2
          exact opq_end hR ⟨rfl, b0⟩
        · rw [if_neg hN0] at hM
          subst hM
          have hN1 : (N : Int) > 0 := by omega
          have eQ : turnQ (turnQ qss N) n1 = qss := by
            rw [← hl.out]
            exact turn_turn GG.out
          rw [eQ] at GB
          clear eQ GA
          go_wp2_with fail
          refine (sameGrid_yes GB.out GC.out).mono ?_
          rintro e w8 ⟨_, rfl, d0, rfl⟩
          replace b0 := hide (below_tr b0.out d0)
          clear d0 GB GC
          go_wp2
          exact opq_end hR ⟨rfl, b0⟩
    · have hk2 : gok ess1 = false := by simpa using hk
      go_wp2_with fail
      refine (gridCheck_ok G0.out (T.out.below b0.out) false hk2).mono ?_
      rintro e w3 ⟨_, rfl, d0, rfl⟩
      replace b0 := hide (below_tr b0.out d0)
      clear d0 G0 hg h1 hk hk2
      go_wp2_with fail
      refine (galive_P w3 (T.out.below b0.out)).mono ?_
      rintro e w4 ⟨_, rfl, d0, rfl⟩
      replace b0 := hide (below_tr b0.out d0)
      clear d0
      go_wp2
      exact opq_end hR ⟨rfl, b0⟩
  · clear hr h1
    go_wp2_with fail
    refine (galive_P w2 (T.out.below b0.out)).mono ?_
    rintro e w3 ⟨_, rfl, d0, rfl⟩
    replace b0 := hide (below_tr b0.out d0)
    clear d0
    go_wp2
    exact opq_end hR ⟨rfl, b0⟩
end Go.Proofs.YtfpnhggbfakdkaaDoor
