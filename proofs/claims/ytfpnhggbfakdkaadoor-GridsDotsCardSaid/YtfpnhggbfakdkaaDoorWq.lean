/- The law: what a grid makes of one list, together with another one, is the first one together with what the turned grid makes of that. -/
import Derived.Test.YtfpnhggbfakdkaaDoorWo
set_option linter.unusedVariables false
set_option linter.unusedSimpArgs false
set_option maxRecDepth 100000
namespace Go.Proofs.YtfpnhggbfakdkaaDoor
open Go.RowKit

theorem map_raw (qss : List (List Rat)) : ((qss.map fun qs => qs.map rawOf).map fun es => es.map rvE) = qss := by
  rw [List.map_map]
  conv => rhs; rw [← List.map_id qss]
  refine List.map_congr_left fun qs _ => ?_
  show (qs.map rawOf).map rvE = qs
  rw [List.map_map]
  conv => rhs; rw [← List.map_id qs]
  exact List.map_congr_left fun q _ => rv_self q
/-- A grid together with two lists. -/
theorem dot_turn {qss : List (List Rat)} {N s : Nat} (G : GQ qss N s) {xs ys : List Rat} (hx : xs.length = N) (hy : ys.length = qss.length) : dot (qss.map fun q => dot q xs) ys = dot xs ((turnQ qss N).map fun q => dot q ys) := by
  rw [dot_Sgm qss.length _ _ (List.length_map ..) hy, dot_Sgm N xs _ hx (by rw [List.length_map, turnQ_len])]
  have e1 : ∀ i, i < qss.length → (qss.map fun q => dot q xs).getD i 0 * ys.getD i 0 = Sgm N fun j => mat (fun a => qss.getD a []) i j * xs.getD j 0 * ys.getD i 0 := fun i hi => by
    rw [times_at G hx hi, Rat.mul_comm, ← Sgm_mul]
    exact Sgm_congr fun j _ => by grind
  have e2 : ∀ j, j < N → xs.getD j 0 * ((turnQ qss N).map fun q => dot q ys).getD j 0 = Sgm qss.length fun i => mat (fun a => qss.getD a []) i j * xs.getD j 0 * ys.getD i 0 := fun j hj => by
    have h1 : ((turnQ qss N).map fun q => dot q ys).getD j 0 = dot (qss.map fun q => q.getD j 0) ys := by
      rw [List.getD_eq_getElem?_getD, List.getElem?_map, turnQ_get hj]
      rfl
    rw [h1, dot_Sgm qss.length _ _ (List.length_map ..) hy, ← Sgm_mul]
    refine Sgm_congr fun i hi => ?_
    have h2 : qss[i]? = some (qss[i]'hi) := List.getElem?_eq_getElem _
    have h3 : (qss.map fun q => q.getD j 0).getD i 0 = (qss[i]).getD j 0 := by
      rw [List.getD_eq_getElem?_getD, List.getElem?_map, h2]
      rfl
    rw [mat_at h2, h3]
    grind
  rw [Sgm_congr e1, Sgm_congr e2]
  exact Sgm_swap _ _ _
set_option maxHeartbeats 8000000 in
theorem GridsDots_ok (w : World) (A1 : Option Addr) (n1 c1 : Nat) (ess1 : List (List Raw)) (A2 : Option Addr) (n2 c2 : Nat) (es2 : List Raw) (A3 : Option Addr) (n3 c3 : Nat) (es3 : List Raw) (h1 : Gst RRw w (.slice A1 n1 c1) ess1) (h2 : Lst RRw w (.slice A2 n2 c2) es2) (h3 : Lst RRw w (.slice A3 n3 c3) es3) (hT : Tab w) :
    Calls Tryd.prog 6 #[.slice A1 n1 c1, .slice A2 n2 c2, .slice A3 n3 c3] w fun e w' => e = .returned (.bool true) ∧ Hid (Below w.heap.size w w') := by
  refine opq fun R hR => ?_
  have T := hide hT
  clear hT
  replace h1 := hide h1
  replace h2 := hide h2
  replace h3 := hide h3
  go_enter Tryd.func6, Tryd.ntmps6
  go_wp2_with fail
  refine (galive_P w T.out).mono ?_
  rintro e w1 ⟨_, rfl, d0, rfl⟩
  have b0 := hide d0
  clear d0
  replace h2 := hide (h2.out.rw_below b0.out)
  replace h3 := hide (h3.out.rw_below b0.out)
  replace h1 := hide (h1.out.rw_below b0.out)
  go_wp2_with fail
  refine (ggreat_ok w1 A1 n1 c1 ess1 h1.out).mono ?_
  rintro e w2 ⟨r, rfl, hr, d0⟩
  replace b0 := hide (below_tr b0.out d0)
  replace h2 := hide (h2.out.rw_below d0)
  replace h3 := hide (h3.out.rw_below d0)
  replace h1 := hide (h1.out.rw_below d0)
  clear d0
  rcases r with _ | _
  rotate_left
  · clear hr
    go_wp2_with fail
    refine (galive_P w2 (T.out.below b0.out)).mono ?_
    rintro e w99 ⟨_, rfl, d0, rfl⟩
    replace b0 := hide (below_tr b0.out d0)
    clear d0
    go_wp2
    exact opq_end hR ⟨rfl, b0⟩
  have hg := hide (hr.out rfl)
  clear hr
  have G0 := hide (gopen_raw h1.out hg.out)
  by_cases hn0 : n1 = 0
  · have hn0' : ((n1 : Int) == 0) = true := by simpa using hn0
    go_wp2_with fail
    refine (galive_P w2 (T.out.below b0.out)).mono ?_
    rintro e w99 ⟨_, rfl, d0, rfl⟩
    replace b0 := hide (below_tr b0.out d0)
    clear d0
    go_wp2
    exact opq_end hR ⟨rfl, b0⟩
  have hn0' : ((n1 : Int) == 0) = false := by simpa using hn0
  by_cases h10_n2 : (n2 : Int) > 10
  · go_wp2_with fail
    refine (galive_P w2 (T.out.below b0.out)).mono ?_
    rintro e w99 ⟨_, rfl, d0, rfl⟩
    replace b0 := hide (below_tr b0.out d0)
    clear d0
    go_wp2
    exact opq_end hR ⟨rfl, b0⟩
  have hn10_n2 : n2 ≤ 10 := by omega
  by_cases h10_n3 : (n3 : Int) > 10
  · go_wp2_with fail
    refine (galive_P w2 (T.out.below b0.out)).mono ?_
    rintro e w99 ⟨_, rfl, d0, rfl⟩
    replace b0 := hide (below_tr b0.out d0)
    clear d0
    go_wp2
    exact opq_end hR ⟨rfl, b0⟩
  have hn10_n3 : n3 ≤ 10 := by omega
  go_wp2_with fail
  refine (RatsSize_any _ A2 n2 c2 es2 h2.out).mono ?_
  rintro e w3 ⟨r2, rfl, cn2, hb2, d0⟩
  replace b0 := hide (below_tr b0.out d0)
  replace h2 := hide (h2.out.rw_below d0)
  replace h3 := hide (h3.out.rw_below d0)
  replace h1 := hide (h1.out.rw_below d0)
  replace G0 := hide (G0.out.raw_below d0)
  clear d0
  go_wp2_with fail
  refine (RatsSize_any _ A3 n3 c3 es3 h3.out).mono ?_
  rintro e w4 ⟨r3, rfl, cn3, hb3, d0⟩
  replace b0 := hide (below_tr b0.out d0)
  replace h2 := hide (h2.out.rw_below d0)
  replace h3 := hide (h3.out.rw_below d0)
  replace h1 := hide (h1.out.rw_below d0)
  replace G0 := hide (G0.out.raw_below d0)
  clear d0
  have hw23 : IntKind.i64.wrap ((r2 : Int) + (r3 : Int)) = (r2 : Int) + (r3 : Int) := by
    rw [IntKind.wrap_i64]
    omega
  by_cases hr : (r2 : Int) + (r3 : Int) > 100
  · clear cn2 cn3
    go_wp2_with fail
    refine (galive_P w4 (T.out.below b0.out)).mono ?_
    rintro e w99 ⟨_, rfl, d0, rfl⟩
    replace b0 := hide (below_tr b0.out d0)
    clear d0
    go_wp2
    exact opq_end hR ⟨rfl, b0⟩
  have hx2 : n2 + tsz es2 ≤ 100 := by
    rcases cn2.2 with e | e <;> omega
  have hx3 : n3 + tsz es3 ≤ 100 := by
    rcases cn3.2 with e | e <;> omega
  clear cn2 cn3
  have LR2 := hide (h2.out.rawW 100 (by omega) (by decide)).1
  have HX2 : Hid (Hs (es2.map rvE) 300) := (h2.out.rawW 100 (by omega) (by decide)).2.up (by decide)
  have LR3 := hide (h3.out.rawW 100 (by omega) (by decide)).1
  have HX3 : Hid (Hs (es3.map rvE) 300) := (h3.out.rawW 100 (by omega) (by decide)).2.up (by decide)
  have HQ := hide (graw_hs G0.out hg.out.2.1)
  have hl := hide G0.out.len
  have hn8 := hg.out.1
  clear h1 h2 h3 hx2 hx3
  obtain ⟨e0, he0⟩ : ∃ e, ess1[0]? = some e := ⟨_, List.getElem?_eq_getElem (by rw [hl.out]; omega)⟩
  obtain ⟨ad, AR, cR, rfl, _, x0, XR⟩ := G0.out.at_ he0
  have hN : Hid (cols ess1 = e0.length) := cols_of he0
  have hN8 : e0.length ≤ 8 := hg.out.2.2 e0 (List.mem_of_getElem? he0)
  rw [addr_zero] at x0
  clear XR he0
  generalize e0.length = N at *
  by_cases hN0 : N = 0
  · have hN0' : ((N : Int) == 0) = true := by simpa using hN0
    go_wp2_with fail
    refine (galive_P w4 (T.out.below b0.out)).mono ?_
    rintro e w99 ⟨_, rfl, d0, rfl⟩
    replace b0 := hide (below_tr b0.out d0)
    clear d0
    go_wp2
    exact opq_end hR ⟨rfl, b0⟩
  have hN0' : ((N : Int) == 0) = false := by simpa using hN0
  by_cases hk : gok ess1 = true
  rotate_left
  · have hk2 : gok ess1 = false := by simpa using hk
    go_wp2_with fail
    refine (turnG_bad G0.out (T.out.below b0.out) hk2).mono ?_
    rintro e w20 ⟨rfl, d0⟩
    replace b0 := hide (below_tr b0.out d0)
    replace G0 := hide (G0.out.raw_below d0)
    replace LR2 := hide (LR2.out.raw_below d0)
    replace LR3 := hide (LR3.out.raw_below d0)
    clear d0 x0
    go_wp2_with fail
    refine (times_raw G0.out LR2.out HQ.out HX2.out (by rw [hN.out]; omega) (by decide) (by omega) (T.out.below b0.out)).mono ?_
    rintro e w21 ⟨u, m, cc, er, rfl, d0, _⟩
    replace b0 := hide (below_tr b0.out d0)
    replace LR3 := hide (LR3.out.raw_below d0)
    clear d0
    have GN0 : Hid (Gst RRaw w21 (.slice none 0 0) []) := gst_nil _ _
    go_wp2_with fail
    refine (times_raw (s := 300) GN0.out LR3.out (fun es hes => by cases hes) HX3.out (by decide) (by decide) (by decide) (T.out.below b0.out)).mono ?_
    rintro e w22 ⟨u2, m2, cc2, er2, rfl, d0, _⟩
    replace b0 := hide (below_tr b0.out d0)
    clear d0
    go_wp2
    exact opq_end hR ⟨rfl, b0⟩
  obtain ⟨GC0, GG0⟩ := gcan G0.out hk HQ.out
  rw [hN.out] at GG0
  have GC := hide GC0
  have GG := hide GG0
  clear GC0 GG0
  obtain ⟨qss, hq⟩ : ∃ qss, (ess1.map fun es => es.map rvE) = qss := ⟨_, rfl⟩
  rw [hq] at GC GG
  have hlq := hide GC.out.len
  go_wp2_with fail
  refine (turnG_ok GC.out GG.out (by decide) (by omega) (by omega) (T.out.below b0.out)).mono ?_
  rintro e w5 ⟨ua, us, Wa, Bs, rfl, d0, og⟩
  replace b0 := hide (below_tr b0.out d0)
  replace G0 := hide (G0.out.raw_below d0)
  replace LR2 := hide (LR2.out.raw_below d0)
  replace LR3 := hide (LR3.out.raw_below d0)
  replace GC := hide (GC.out.can_below d0)
  have GA := hide (og.gst (by rw [turnQ_len]; omega) (fun qs hq => by rw [(GG.out.turn (by decide)).rect qs hq]; split <;> (try rw [hlq.out]) <;> omega))
  clear d0
  clear og x0
  obtain ⟨AA, cA, eA⟩ := GA.out.sl
  rw [turnQ_len] at eA
  subst eA
  have GT : Hid (GQ (turnQ qss N) n1 300) := by
    have := GG.out.turn (by decide)
    rw [if_neg hN0, hlq.out] at this
    exact this
  go_wp2_with fail
  refine (times_raw G0.out LR2.out HQ.out HX2.out (by rw [hN.out]; omega) (by decide) (by omega) (T.out.below b0.out)).mono ?_
  rintro e w6 ⟨u4, m4, cc4, er4, rfl, d0, t4⟩
  replace b0 := hide (below_tr b0.out d0)
  replace G0 := hide (G0.out.raw_below d0)
  replace LR2 := hide (LR2.out.raw_below d0)
  replace LR3 := hide (LR3.out.raw_below d0)
  replace GC := hide (GC.out.can_below d0)
  replace GA := hide (GA.out.can_below d0)
  clear d0
  have GAR := hide (GA.out.rawQ GT.out (by decide))
  have CT : Hid (cols ((turnQ qss N).map fun qs => qs.map rawOf) = n1) := by
    have := GT.out.cols
    show _ = _
    unfold cols
    rw [List.getElem?_map]
    cases e : (turnQ qss N)[0]? with
    | none => rw [e] at this; exact this
    | some q => rw [e] at this; simpa using this
  have HQT : Hid (∀ es ∈ (turnQ qss N).map fun qs => qs.map rawOf, Hs (es.map rvE) 300) := fun es hes => by
    have : es.map rvE ∈ turnQ qss N := by
      rw [← map_raw (turnQ qss N)]
      exact List.mem_map_of_mem hes
    exact GT.out.hs _ this
  have T4 := hide t4
  clear t4
  go_wp2_with fail
  refine (times_raw GAR.out LR3.out HQT.out HX3.out (by rw [CT.out]; omega) (by decide) (by omega) (T.out.below b0.out)).mono ?_
  rintro e w7 ⟨u5, m5, cc5, er5, rfl, d0, t5⟩
  replace b0 := hide (below_tr b0.out d0)
  replace G0 := hide (G0.out.raw_below d0)
  replace LR2 := hide (LR2.out.raw_below d0)
  replace LR3 := hide (LR3.out.raw_below d0)
  replace GC := hide (GC.out.can_below d0)
  replace GA := hide (GA.out.can_below d0)
  have b5 := hide d0
  clear d0
  rcases T4.out with ⟨rfl, rfl, _, hf2, hk2, oa⟩ | ⟨rfl, rfl, _⟩
  rotate_left
  · clear GA GC GAR T4 b5
    go_wp2
    exact opq_end hR ⟨rfl, b0⟩
  rcases t5 with ⟨rfl, rfl, _, hf3, hk3, ob⟩ | ⟨rfl, rfl, _⟩
  rotate_left
  · clear oa
    clear GA GC GAR T4 b5
    go_wp2
    exact opq_end hR ⟨rfl, b0⟩
  have hxl : n2 = m5 := by rw [hk2 (by omega), hN.out]
  have hyl : n3 = m4 := by rw [hk3 (by omega), CT.out]
  have LX := hide (LR2.out.canW hf2)
  have LY := hide (LR3.out.canW hf3)
  obtain ⟨xs, hxs⟩ : ∃ xs, es2.map rvE = xs := ⟨_, rfl⟩
  obtain ⟨ys, hys⟩ : ∃ ys, es3.map rvE = ys := ⟨_, rfl⟩
  rw [hxs] at LX HX2 oa
  rw [hys] at LY HX3 ob
  rw [hq] at oa
  rw [map_raw] at ob
  have hlx := hide LX.out.len
  have hly := hide LY.out.len
  have LA := hide ((oa.lst (by rw [List.length_map, hlq.out]; omega)).can_below b5.out)
  have LB := hide (ob.lst (by rw [List.length_map, turnQ_len]; omega))
  have HA : Hid (Hs (qss.map fun q => dot q xs) 5000) := Hs_times GG.out HX2.out hN8 (by decide) (by decide)
  have HB : Hid (Hs ((turnQ qss m5).map fun q => dot q ys) 5000) := Hs_times GT.out HX3.out hn8 (by decide) (by decide)
  have hd : Hid (dot (qss.map fun q => dot q xs) ys = dot xs ((turnQ qss m5).map fun q => dot q ys)) := dot_turn GG.out (hlx.out.trans hxl) (by rw [hly.out, hlq.out]; exact hyl)
  clear oa ob hxs hys T4 b5 LR2 LR3 GAR CT HQT hf2 hf3 hk2 hk3 GA G0 GC
  subst hxl
  subst hyl
  go_wp2_with fail
  refine (vDot_T (k := 5000) LA.out LY.out (by rw [List.length_map, hlq.out, hly.out]) HA.out (HX3.out.up (by decide)) (by rw [List.length_map, hlq.out]; omega) (T.out.below b0.out)).mono ?_
  rintro e w8 ⟨v6, rfl, d0, p6⟩
  replace b0 := hide (below_tr b0.out d0)
  replace LX := hide (LX.out.can_below d0)
  replace LY := hide (LY.out.can_below d0)
  replace LB := hide (LB.out.can_below d0)
  have P6 := hide (p6)
  clear d0
  clear p6 LA
  obtain ⟨b6, A6, n6, c6, D6, m6, k6, rfl⟩ := P6.out.slice
  have K6 := hide (Blk.new w8 TR #[.bool b6, .slice A6 n6 c6, .slice D6 m6 k6])
  have y6 := (Below.refl w8.heap.size w8).alloc (Nat.le_refl _) (.cells #[.bool b6, .slice A6 n6 c6, .slice D6 m6 k6] TR)
  replace b0 := hide (below_tr b0.out y6)
  replace LX := hide (LX.out.can_below y6)
  replace LB := hide (LB.out.can_below y6)
  replace P6 := hide (P6.out.below y6)
  clear y6
  go_wp2_with fail
  refine (vDot_T (k := 5000) LX.out LB.out (by rw [hlx.out, List.length_map, turnQ_len]) (HX2.out.up (by decide)) HB.out (by rw [hlx.out]; omega) (T.out.below b0.out)).mono ?_
  rintro e w9 ⟨v7, rfl, d0, p7⟩
  replace b0 := hide (below_tr b0.out d0)
  replace LX := hide (LX.out.can_below d0)
  replace LB := hide (LB.out.can_below d0)
  replace P6 := hide (P6.out.below d0)
  replace K6 := hide (K6.out.below' d0)
  have P7 := hide (p7)
  clear d0
  clear p7 LX LB
  rw [← hd.out] at P7
  obtain ⟨b7, A7, n7, c7, D7, m7, k7, rfl⟩ := P7.out.slice
  have K7 := hide (Blk.new w9 TR #[.bool b7, .slice A7 n7 c7, .slice D7 m7 k7])
  have y7 := (Below.refl w9.heap.size w9).alloc (Nat.le_refl _) (.cells #[.bool b7, .slice A7 n7 c7, .slice D7 m7 k7] TR)
  replace b0 := hide (below_tr b0.out y7)
  replace P6 := hide (P6.out.below y7)
  replace P7 := hide (P7.out.below y7)
  replace K6 := hide (K6.out.below' y7)
  clear y7
  have x0 := K6.out.at_ 0 rfl
  have x1 := K6.out.at_ 1 rfl
  have x2 := K6.out.at_ 2 rfl
  have y0 := K7.out.at_ 0 rfl
  have y1 := K7.out.at_ 1 rfl
  have y2 := K7.out.at_ 2 rfl
  clear K6 K7
  go_wp2_with fail
  refine (rSame_yes P6.out P7.out true (by simp)).mono ?_
  rintro e w10 ⟨_, rfl, d0, rfl⟩
  replace b0 := hide (below_tr b0.out d0)
  clear d0
  clear x0 x1 x2 y0 y1 y2
  go_wp2
  exact opq_end hR ⟨rfl, b0⟩
end Go.Proofs.YtfpnhggbfakdkaaDoor
