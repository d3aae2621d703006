/- The law: one more row that is a sum of two makes no more that count; in whatever order rows stand they are as many; a row of noughts is none. -/
import Derived.Test.YtfpnhggbfakdkaaDoorWo
set_option linter.unusedVariables false
set_option linter.unusedSimpArgs false
set_option maxRecDepth 100000
namespace Go.Proofs.YtfpnhggbfakdkaaDoor
open Go.RowKit

theorem fws_vecs_Add (args : Array Value) (w : World) : (callFunc 21 args).run Tryd.prog w = .ok (.enter 21 args) w := callFunc_enter Tryd.func21 (by kernel_rfl) rfl args w
/-- All rows make 0 of x. -/
def NulL (N : Nat) (qss : List (List Rat)) (x : Nat → Rat) : Prop := ∀ q ∈ qss, Sgm N (fun j => q.getD j 0 * x j) = 0
theorem nul_iff {qss : List (List Rat)} {N m : Nat} (hm : qss.length = m) (x : Nat → Rat) : Nul m N (mat fun a => qss.getD a []) x ↔ NulL N qss x := by
  subst hm
  constructor
  · intro h q hq
    obtain ⟨i, hi, rfl⟩ := List.getElem_of_mem hq
    have := h i hi
    rw [Sgm_congr fun j _ => by rw [mat_at (List.getElem?_eq_getElem hi)]] at this
    exact this
  · intro h i hi
    rw [Sgm_congr fun j _ => by rw [mat_at (List.getElem?_eq_getElem hi)]]
    exact h _ (List.getElem_mem hi)
theorem rank_same {qss qss' : List (List Rat)} {N m m' : Nat} (hm : qss.length = m) (hm' : qss'.length = m') (h : ∀ x, NulL N qss' x ↔ NulL N qss x) : rnk m' N (mat fun a => qss'.getD a []) = rnk m N (mat fun a => qss.getD a []) :=
  rnk_congr fun x => by rw [nul_iff hm', nul_iff hm, h]
theorem NulL.snoc {N : Nat} {qss : List (List Rat)} {r : List Rat} {x : Nat → Rat} : NulL N (qss ++ [r]) x ↔ NulL N qss x ∧ Sgm N (fun j => r.getD j 0 * x j) = 0 := by
  constructor
  · intro h
    exact ⟨fun q hq => h q (List.mem_append_left _ hq), h r (List.mem_append_right _ (List.mem_singleton_self r))⟩
  · rintro ⟨h1, h2⟩ q hq
    rcases List.mem_append.1 hq with hq | hq
    · exact h1 q hq
    · rw [List.mem_singleton] at hq
      subst hq
      exact h2
theorem hangs {N : Nat} {qss : List (List Rat)} {a b : List Rat} {t : Rat} (ha : a ∈ qss) (hb : b ∈ qss) (la : a.length = N) (lb : b.length = N) (x : Nat → Rat) : NulL N (qss ++ [axpy a b t]) x ↔ NulL N qss x := by
  rw [NulL.snoc]
  refine ⟨fun h => h.1, fun h => ⟨h, ?_⟩⟩
  rw [Sgm_congr (g := fun j => a.getD j 0 * x j + t * (b.getD j 0 * x j)) fun j hj => by rw [axpy_getD _ (by rw [la, lb]) j (by rw [la]; exact hj)]; grind, Sgm_add, Sgm_mul, h a ha, h b hb]
  grind
theorem nul_rev {N : Nat} {qss : List (List Rat)} (x : Nat → Rat) : NulL N qss.reverse x ↔ NulL N qss x := ⟨fun h q hq => h q (List.mem_reverse.2 hq), fun h q hq => h q (List.mem_reverse.1 hq)⟩
theorem nul_zero {N n : Nat} {qss : List (List Rat)} (x : Nat → Rat) : NulL N (qss ++ [List.replicate n 0]) x ↔ NulL N qss x := by
  rw [NulL.snoc]
  refine ⟨fun h => h.1, fun h => ⟨h, ?_⟩⟩
  exact Sgm_nought fun j _ => by
    rw [List.getD_eq_getElem?_getD, List.getElem?_replicate]
    split <;> exact Rat.zero_mul _
theorem GQ.snoc {qss : List (List Rat)} {N s s' : Nat} (G : GQ qss N s) {r : List Rat} (hr : r.length = N) (hs : Hs r s') (h : s ≤ s') : GQ (qss ++ [r]) N s' := by
  refine ⟨fun q hq => ?_, fun q hq => ?_, fun e => absurd e (by simp)⟩
  · rcases List.mem_append.1 hq with hq | hq
    · exact G.rect q hq
    · rw [List.mem_singleton] at hq
      subst hq
      exact hr
  · rcases List.mem_append.1 hq with hq | hq
    · exact (G.hs q hq).up h
    · rw [List.mem_singleton] at hq
      subst hq
      exact hs
theorem GQ.rev {qss : List (List Rat)} {N s : Nat} (G : GQ qss N s) : GQ qss.reverse N s := ⟨fun q hq => G.rect q (List.mem_reverse.1 hq), fun q hq => G.hs q (List.mem_reverse.1 hq), fun e => G.n0 (List.reverse_eq_nil_iff.1 e)⟩
theorem szt1000 {N : Nat} (h : N ≤ 8) : szt 1000 N ≤ 1000000000 := Nat.le_trans (szt_le 1000 N 8 h) (by decide)
theorem RRw.lens {w : World} {b : Bool} {A : Option Addr} {n c : Nat} {D : Option Addr} {m k : Nat} {e : Raw} (h : RRw w (.agg #[.bool b, .slice A n c, .slice D m k]) e) : n ≤ 70368744177664 ∧ m ≤ 70368744177664 ∧ rsz e = 2 + n + m := by
  obtain ⟨A', n', c', D', m', k', e1, h1, h2, h3, h4, h5, h6, h7, h8⟩ := h
  cases e1
  have e1 := h1.1
  have e2 := h5.1
  exact ⟨h4, h8, by unfold rsz; omega⟩
theorem rCheck_raw {w : World} {v : Value} {e : Raw} (h : RRaw w v e) (hT : Tab w) (r : Bool) (hr : rk e = r) :
    Calls Tryd.prog 24 #[v] w fun e w' => ∃ u, e = .returned u ∧ Below w.heap.size w w' ∧ u = .bool r := rCheck_P h hT r hr
theorem wrap_u8 {z : Nat} (h : z < 256) : IntKind.i64.wrap ((z : Nat) : Int) = (z : Nat) := by
  rw [IntKind.wrap_i64]
  omega
set_option maxHeartbeats 8000000 in
theorem GridsHangs_ok (w : World) (A1 : Option Addr) (n1 c1 : Nat) (ess1 : List (List Raw)) (za zb : Nat) (b3 : Bool) (A3 : Option Addr) (n3 c3 : Nat) (D3 : Option Addr) (m3 k3 : Nat) (e3 : Raw) (h1 : Gst RRw w (.slice A1 n1 c1) ess1) (hza : za < 256) (hzb : zb < 256) (h3 : RRw w (.agg #[.bool b3, .slice A3 n3 c3, .slice D3 m3 k3]) e3) (hT : Tab w) :
    Calls Tryd.prog 7 #[.slice A1 n1 c1, .agg #[.int .u8 (za : Nat), .int .u8 (zb : Nat)], .agg #[.bool b3, .slice A3 n3 c3, .slice D3 m3 k3]] w fun e w' => e = .returned (.bool true) ∧ Hid (Below w.heap.size w w') := by
  refine opq fun R hR => ?_
  have T := hide hT
  clear hT
  go_enter Tryd.func7, Tryd.ntmps7
  replace h1 := hide h1
  replace h3 := hide h3
  have KA := hide (Blk.new w 52 #[.int .u8 (za : Nat), .int .u8 (zb : Nat)])
  have y1 := (Below.refl w.heap.size w).alloc (Nat.le_refl _) (.cells #[.int .u8 (za : Nat), .int .u8 (zb : Nat)] 52)
  have KB := hide (Blk.new_at (w.alloc (.cells #[.int .u8 (za : Nat), .int .u8 (zb : Nat)] 52)) (w.heap.size + 1) (by simp) TR #[.bool b3, .slice A3 n3 c3, .slice D3 m3 k3])
  have y2 := (Below.refl (w.alloc (.cells #[.int .u8 (za : Nat), .int .u8 (zb : Nat)] 52)).heap.size (w.alloc (.cells #[.int .u8 (za : Nat), .int .u8 (zb : Nat)] 52))).alloc (Nat.le_refl _) (.cells #[.bool b3, .slice A3 n3 c3, .slice D3 m3 k3] TR)
  replace KA := hide (KA.out.below' y2)
  have b0 := hide (below_tr y1 y2)
  replace h1 := hide (h1.out.rw_below b0.out)
  replace h3 := hide (h3.out.below b0.out)
  clear y1 y2
  go_wp2_with fail
  refine (galive_P _ (T.out.below b0.out)).mono ?_
  rintro e w1 ⟨_, rfl, d0, rfl⟩
  replace b0 := hide (below_tr b0.out d0)
  replace h1 := hide (h1.out.rw_below d0)
  replace h3 := hide (h3.out.below d0)
  replace KA := hide (KA.out.below' d0)
  replace KB := hide (KB.out.below' d0)
  clear d0
  go_wp2_with fail
  refine (ggreat_ok w1 A1 n1 c1 ess1 h1.out).mono ?_
  rintro e w2 ⟨r, rfl, hr, d0⟩
  replace b0 := hide (below_tr b0.out d0)
  replace h1 := hide (h1.out.rw_below d0)
  replace h3 := hide (h3.out.below d0)
  replace KA := hide (KA.out.below' d0)
  replace KB := hide (KB.out.below' d0)
  clear d0
  rcases r with _ | _
  rotate_left
  · clear hr
    go_wp2_with fail
    refine (galive_P w2 (T.out.below b0.out)).mono ?_
    rintro e w99 ⟨_, rfl, d0, rfl⟩
    replace b0 := hide (below_tr b0.out d0)
    clear d0
    go_wp2
    exact opq_end hR ⟨rfl, b0⟩
  have hg := hide (hr.out rfl)
  clear hr
  have G0 := hide (gopen_raw h1.out hg.out)
  by_cases hn0 : n1 = 0
  · have hn0' : ((n1 : Int) == 0) = true := by simpa using hn0
    go_wp2_with fail
    refine (galive_P w2 (T.out.below b0.out)).mono ?_
    rintro e w99 ⟨_, rfl, d0, rfl⟩
    replace b0 := hide (below_tr b0.out d0)
    clear d0
    go_wp2
    exact opq_end hR ⟨rfl, b0⟩
  have hn0' : ((n1 : Int) == 0) = false := by simpa using hn0
  by_cases h10_n1 : (n1 : Int) > 7
  · go_wp2_with fail
    refine (galive_P w2 (T.out.below b0.out)).mono ?_
    rintro e w99 ⟨_, rfl, d0, rfl⟩
    replace b0 := hide (below_tr b0.out d0)
    clear d0
    go_wp2
    exact opq_end hR ⟨rfl, b0⟩
  have hn10_n1 : n1 ≤ 7 := by omega
  have hb3 : n3 ≤ 70368744177664 ∧ m3 ≤ 70368744177664 ∧ rsz e3 = 2 + n3 + m3 := h3.out.lens
  have k0 := KB.out.at_ 0 rfl
  have k1_ := KB.out.at_ 1 rfl
  have k2_ := KB.out.at_ 2 rfl
  go_wp2_with fail
  refine (RatSize_ok _ b3 A3 n3 c3 D3 m3 k3 hb3.1 hb3.2.1).mono ?_
  rintro e w3 ⟨r, rfl, cn, d0'⟩
  have d0 := d0'.out
  clear d0'
  replace b0 := hide (below_tr b0.out d0)
  replace h1 := hide (h1.out.rw_below d0)
  replace h3 := hide (h3.out.below d0)
  replace KA := hide (KA.out.below' d0)
  replace KB := hide (KB.out.below' d0)
  replace G0 := hide (G0.out.raw_below d0)
  clear d0
  clear k0 k1_ k2_
  by_cases hr : (r : Int) > 30
  · clear cn
    go_wp2_with fail
    refine (galive_P w3 (T.out.below b0.out)).mono ?_
    rintro e w99 ⟨_, rfl, d0, rfl⟩
    replace b0 := hide (below_tr b0.out d0)
    clear d0
    go_wp2
    exact opq_end hR ⟨rfl, b0⟩
  have hx3 : rsz e3 ≤ 30 := by
    rcases cn.2 with e | e <;> omega
  clear cn
  have R3 := hide (h3.out.raw (by omega)).1
  have H3 : Hid (H (rvE e3) 300) := (h3.out.raw (by omega)).2.up (by omega)
  clear h3
  by_cases hk : gok ess1 = true
  rotate_left
  · have hk2 : gok ess1 = false := Bool.eq_false_iff.2 hk
    go_wp2_with fail
    refine (gridCheck_ok G0.out (T.out.below b0.out) false hk2).mono ?_
    rintro e w4 ⟨_, rfl, d0, rfl⟩
    replace b0 := hide (below_tr b0.out d0)
    clear d0 hk2
    go_wp2_with fail
    refine (galive_P w4 (T.out.below b0.out)).mono ?_
    rintro e w99 ⟨_, rfl, d0, rfl⟩
    replace b0 := hide (below_tr b0.out d0)
    clear d0
    go_wp2
    exact opq_end hR ⟨rfl, b0⟩
  have GO := hide (gopen G0.out hg.out hk)
  go_wp2_with fail
  refine (gridCheck_ok G0.out (T.out.below b0.out) true hk).mono ?_
  rintro e w4 ⟨_, rfl, d0, rfl⟩
  replace b0 := hide (below_tr b0.out d0)
  replace h1 := hide (h1.out.rw_below d0)
  replace KA := hide (KA.out.below' d0)
  replace KB := hide (KB.out.below' d0)
  replace G0 := hide (G0.out.raw_below d0)
  replace R3 := hide (R3.out.below d0)
  replace GO := hide (GO.out.below d0)
  clear d0
  have k0 := KB.out.at_ 0 rfl
  have k1_ := KB.out.at_ 1 rfl
  have k2_ := KB.out.at_ 2 rfl
  by_cases hrk : rk e3 = true
  rotate_left
  · have hk2 : rk e3 = false := Bool.eq_false_iff.2 hrk
    go_wp2_with fail
    refine (rCheck_raw R3.out (T.out.below b0.out) false hk2).mono ?_
    rintro e w5 ⟨_, rfl, d0, rfl⟩
    replace b0 := hide (below_tr b0.out d0)
    clear d0 hk2 k0 k1_ k2_
    go_wp2_with fail
    refine (galive_P w5 (T.out.below b0.out)).mono ?_
    rintro e w99 ⟨_, rfl, d0, rfl⟩
    replace b0 := hide (below_tr b0.out d0)
    clear d0
    go_wp2
    exact opq_end hR ⟨rfl, b0⟩
  go_wp2_with fail
  refine (rCheck_raw R3.out (T.out.below b0.out) true hrk).mono ?_
  rintro e w5 ⟨_, rfl, d0, rfl⟩
  replace b0 := hide (below_tr b0.out d0)
  replace h1 := hide (h1.out.rw_below d0)
  replace KA := hide (KA.out.below' d0)
  replace KB := hide (KB.out.below' d0)
  replace G0 := hide (G0.out.raw_below d0)
  replace R3 := hide (R3.out.below d0)
  replace GO := hide (GO.out.below d0)
  clear d0
  clear k0 k1_ k2_
  obtain ⟨N, hN⟩ : ∃ N, cols ess1 = N := ⟨_, rfl⟩
  rw [hN] at GO
  obtain ⟨qss, hq⟩ : ∃ qss, (ess1.map fun es => es.map rvE) = qss := ⟨_, rfl⟩
  have GC := hide (hq ▸ GO.out.can : Gst RCan _ _ qss)
  have GG : Hid (GQ qss N 300) := hq ▸ GO.out.gq
  have hn8 := GO.out.n8
  have hN8 := GO.out.N8
  clear GO hN hq G0 hg h1 hk
  have hl := hide GC.out.len
  have C3 : Hid (RCan w5 (.agg #[.bool b3, .slice A3 n3 c3, .slice D3 m3 k3]) (rvE e3)) := R3.out.can hrk
  obtain ⟨t, ht⟩ : ∃ t, rvE e3 = t := ⟨_, rfl⟩
  rw [ht] at C3 H3
  have hz := hide (szt300 hN8)
  clear R3 ht hrk
  go_wp2_with fail
  refine (rank_ok GC.out GG.out (by decide) hz.out (by omega) (by omega) (T.out.below b0.out)).mono ?_
  rintro e w6 ⟨rfl, d0⟩
  replace b0 := hide (below_tr b0.out d0)
  replace KA := hide (KA.out.below' d0)
  replace KB := hide (KB.out.below' d0)
  replace GC := hide (GC.out.can_below d0)
  replace C3 := hide (C3.out.below d0)
  clear d0
  obtain ⟨r, hr⟩ : ∃ r, rnk n1 N (mat fun j => qss.getD j []) = r := ⟨_, rfl⟩
  rw [hr]
  replace hr := hide hr
  have hma : za % n1 < n1 := Nat.mod_lt _ (by omega)
  have hmb : zb % n1 < n1 := Nat.mod_lt _ (by omega)
  obtain ⟨ia, hia⟩ : ∃ ia, za % n1 = ia := ⟨_, rfl⟩
  obtain ⟨ib, hib⟩ : ∃ ib, zb % n1 = ib := ⟨_, rfl⟩
  rw [hia] at hma
  rw [hib] at hmb
  replace hia := hide hia
  replace hib := hide hib
  obtain ⟨ra, hra⟩ : ∃ q, qss[ia]? = some q := ⟨_, List.getElem?_eq_getElem (by rw [hl.out]; exact hma)⟩
  obtain ⟨rb, hrb⟩ : ∃ q, qss[ib]? = some q := ⟨_, List.getElem?_eq_getElem (by rw [hl.out]; exact hmb)⟩
  obtain ⟨ad, AR, cR, rfl, _, x0, XA⟩ := GC.out.at_ hra
  obtain ⟨ad', BR, dR, eA, _, y0, XB⟩ := GC.out.at_ hrb
  cases eA
  have hla := GG.out.rect ra (List.mem_of_getElem? hra)
  have hlb := GG.out.rect rb (List.mem_of_getElem? hrb)
  rw [hla] at x0 XA
  rw [hlb] at y0 XB
  replace x0 := hide x0
  replace y0 := hide y0
  replace XA := hide XA
  replace XB := hide XB
  have HA := hide (GG.out.hs ra (List.mem_of_getElem? hra))
  have HB := hide (GG.out.hs rb (List.mem_of_getElem? hrb))
  have hma' : ¬ ((n1 : Int) ≤ (ia : Int)) := by omega
  have hmb' : ¬ ((n1 : Int) ≤ (ib : Int)) := by omega
  have ka0 := hide (KA.out.at_ 0 rfl)
  have ka1 := hide (KA.out.at_ 1 rfl)
  have kb0 := hide (KB.out.at_ 0 rfl)
  have kb1 := hide (KB.out.at_ 1 rfl)
  have kb2 := hide (KB.out.at_ 2 rfl)
  have LAB := hide (hla.trans hlb.symm)
  have hla2 := hide hla
  have MA := hide (List.mem_of_getElem? hra)
  have MB := hide (List.mem_of_getElem? hrb)
  have cvza := hide (wrap_u8 hza)
  have cvzb := hide (wrap_u8 hzb)
  have rmia : Hid (((za : Nat) : Int).tmod (n1 : Nat) = (ia : Nat)) := by
    show _ = _
    rw [← hia.out]
    exact (Int.ofNat_tmod za n1).symm
  have rmib : Hid (((zb : Nat) : Int).tmod (n1 : Nat) = (ib : Nat)) := by
    show _ = _
    rw [← hib.out]
    exact (Int.ofNat_tmod zb n1).symm
  go_wp2
  refine wp_region_facts 25 (fun w' => Below w6.heap.size w6 w') [(57, .eq (.slice (some ad) n1 c1)), (58, .eq ((.pointer (some ⟨w.heap.size, 0, none⟩) : Value))), (59, .eq (.int .u8 (za : Nat))), (60, .eq (.int .i64 (za : Nat))), (61, .eq (.slice (some ad) n1 c1)), (62, .eq (.int .i64 (n1 : Nat))), (63, .eq (.int .i64 (ia : Nat))), (64, .eq ((.pointer (some (ad.add ia)) : Value))), (65, .eq (.slice AR N cR)), (66, .eq (.slice (some ad) n1 c1)), (67, .eq ((.pointer (some ⟨w.heap.size, 1, none⟩) : Value))), (68, .eq (.int .u8 (zb : Nat))), (69, .eq (.int .i64 (zb : Nat))), (70, .eq (.slice (some ad) n1 c1)), (71, .eq (.int .i64 (n1 : Nat))), (72, .eq (.int .i64 (ib : Nat))), (73, .eq ((.pointer (some (ad.add ib)) : Value))), (74, .eq (.slice BR N dR)), (75, .eq (.agg #[.bool b3, .slice A3 n3 c3, .slice D3 m3 k3])), (76, (.tupE (.lst (axpy ra rb t)) (.int .i64 0))), (56, (.tupE (.lst (axpy ra rb t)) (.int .i64 0))), (77, (.lst (axpy ra rb t))), (78, .eq (.int .i64 0)), (9, (.lst (axpy ra rb t))), (10, .eq (.int .i64 0))] [false, false, false, false, false, false, false, false, false, true, true, false, false, false, false, false, false, false, false, false, false, false, false, false, false, false, false, false, false, false, false, false, false, false, false, false, false, false, false, false, false, false, false, false, false, false, false, false, false, false, false, false, false, false, false, false, true, true, true, true, true, true, true, true, true, true, true, true, true, true, true, true, true, true, true, true, true, true, true, false, false, false, false, false, false, false, false, false, false, false, false, false, false, false, false, false, false, false, false, false, false, false, false, false, false, false, false, false, false, false, false, false, false, false, false, false, false, false, false, false, false, false, false, false, false, false, false, false, false, false, false, false, false, false, false, false, false, false, false, false, false, false, false, false, false, false, false, false, false, false, false, false] mixed (by kernel_rfl) (by kernel_rfl) (by kernel_rfl) (fun _ _ h hb => h.trans (hb.mono h.size)) ((Below.refl _ _).drew) ⟨?_, ?_, ?_, ?_, ?_, ?_, ?_, ?_, ?_, ?_, ?_, ?_, ?_, ?_, ?_, ?_, ?_, ?_, ?_, ?_, ?_, ?_, ?_, ?_, ?_, trivial⟩ ?_
  · exact .moveC (.inl rfl) (.inl rfl) rfl (fun a w' hC hs => (hs 0 (by kernel_rfl)))
  · exact .value (.inl rfl) (by intro T e; cases e) rfl rfl (fun a w' hC hs hl => by
      have e0 : a.eval (.tmp 4) = ((.pointer (some ⟨w.heap.size, 0, none⟩) : Value)) := (hs 4 (by kernel_rfl))
      simp only [execOp, e0]
      simp [go_sem, Act.eval])
  · exact .load (.int .u8 (za : Nat)) (.inl rfl) rfl rfl (fun a w' hC hs hl => by rw [show a.eval (.tmp 58) = (.pointer (some ⟨w.heap.size, 0, none⟩) : Value) from (hl 58 (by kernel_rfl) (by kernel_rfl))]; exact ⟨by simp [go_sem, cell_below hC ka0.out], rfl⟩)
  · exact .value (.inl rfl) (by intro T e; cases e) rfl rfl (fun a w' hC hs hl => by
      have e1 : a.eval (.tmp 59) = (.int .u8 (za : Nat)) := (hl 59 (by kernel_rfl) (by kernel_rfl))
      simp only [execOp, e1]
      skip
      simp [go_sem, cvza.out])
  · exact .moveC (.inl rfl) (.inl rfl) rfl (fun a w' hC hs => (hs 0 (by kernel_rfl)))
  · exact .value (.inl rfl) (by intro T e; cases e) rfl rfl (fun a w' hC hs hl => by
      have e0 : a.eval (.tmp 61) = (.slice (some ad) n1 c1) := (hl 61 (by kernel_rfl) (by kernel_rfl))
      have e0' : a.tmps[61]?.getD undef = _ := (by simp [Act.eval] : _ = a.eval (.tmp 61)).trans e0
      simp [execOp, resolve, invoke, builtin, go_sem, e0, e0'])
  · exact .value (.inl rfl) (by intro T e; cases e) rfl rfl (fun a w' hC hs hl => by
      have e0 : a.eval (.tmp 60) = (.int .i64 (za : Nat)) := (hl 60 (by kernel_rfl) (by kernel_rfl))
      have e1 : a.eval (.tmp 62) = (.int .i64 (n1 : Nat)) := (hl 62 (by kernel_rfl) (by kernel_rfl))
      simp only [execOp, e0, e1]
      skip
      simp [go_sem, hn0, rmia.out])
  · exact .value (.inl rfl) (by intro T e; cases e) rfl rfl (fun a w' hC hs hl => by
      have e0 : a.eval (.tmp 57) = (.slice (some ad) n1 c1) := (hl 57 (by kernel_rfl) (by kernel_rfl))
      have e1 : a.eval (.tmp 63) = (.int .i64 (ia : Nat)) := (hl 63 (by kernel_rfl) (by kernel_rfl))
      simp only [execOp, e0, e1]
      simp [go_sem, hma'])
  · exact .load (.slice AR N cR) (.inl rfl) rfl rfl (fun a w' hC hs hl => by rw [show a.eval (.tmp 64) = (.pointer (some (ad.add ia)) : Value) from (hl 64 (by kernel_rfl) (by kernel_rfl))]; exact ⟨by simp [go_sem, cell_below hC x0.out], rfl⟩)
  · exact .moveC (.inl rfl) (.inl rfl) rfl (fun a w' hC hs => (hs 0 (by kernel_rfl)))
  · exact .value (.inl rfl) (by intro T e; cases e) rfl rfl (fun a w' hC hs hl => by
      have e0 : a.eval (.tmp 4) = ((.pointer (some ⟨w.heap.size, 0, none⟩) : Value)) := (hs 4 (by kernel_rfl))
      simp only [execOp, e0]
      simp [go_sem, Act.eval])
  · exact .load (.int .u8 (zb : Nat)) (.inl rfl) rfl rfl (fun a w' hC hs hl => by rw [show a.eval (.tmp 67) = (.pointer (some ⟨w.heap.size, 1, none⟩) : Value) from (hl 67 (by kernel_rfl) (by kernel_rfl))]; exact ⟨by simp [go_sem, cell_below hC ka1.out], rfl⟩)
  · exact .value (.inl rfl) (by intro T e; cases e) rfl rfl (fun a w' hC hs hl => by
      have e1 : a.eval (.tmp 68) = (.int .u8 (zb : Nat)) := (hl 68 (by kernel_rfl) (by kernel_rfl))
      simp only [execOp, e1]
      skip
      simp [go_sem, cvzb.out])
  · exact .moveC (.inl rfl) (.inl rfl) rfl (fun a w' hC hs => (hs 0 (by kernel_rfl)))
  · exact .value (.inl rfl) (by intro T e; cases e) rfl rfl (fun a w' hC hs hl => by
      have e0 : a.eval (.tmp 70) = (.slice (some ad) n1 c1) := (hl 70 (by kernel_rfl) (by kernel_rfl))
      have e0' : a.tmps[70]?.getD undef = _ := (by simp [Act.eval] : _ = a.eval (.tmp 70)).trans e0
      simp [execOp, resolve, invoke, builtin, go_sem, e0, e0'])
  · exact .value (.inl rfl) (by intro T e; cases e) rfl rfl (fun a w' hC hs hl => by
      have e0 : a.eval (.tmp 69) = (.int .i64 (zb : Nat)) := (hl 69 (by kernel_rfl) (by kernel_rfl))
      have e1 : a.eval (.tmp 71) = (.int .i64 (n1 : Nat)) := (hl 71 (by kernel_rfl) (by kernel_rfl))
      simp only [execOp, e0, e1]
      skip
      simp [go_sem, hn0, rmib.out])
  · exact .value (.inl rfl) (by intro T e; cases e) rfl rfl (fun a w' hC hs hl => by
      have e0 : a.eval (.tmp 66) = (.slice (some ad) n1 c1) := (hl 66 (by kernel_rfl) (by kernel_rfl))
      have e1 : a.eval (.tmp 72) = (.int .i64 (ib : Nat)) := (hl 72 (by kernel_rfl) (by kernel_rfl))
      simp only [execOp, e0, e1]
      simp [go_sem, hmb'])
  · exact .load (.slice BR N dR) (.inl rfl) rfl rfl (fun a w' hC hs hl => by rw [show a.eval (.tmp 73) = (.pointer (some (ad.add ib)) : Value) from (hl 73 (by kernel_rfl) (by kernel_rfl))]; exact ⟨by simp [go_sem, cell_below hC y0.out], rfl⟩)
  · exact .load (.agg #[.bool b3, .slice A3 n3 c3, .slice D3 m3 k3]) (.inl rfl) rfl rfl (fun a w' hC hs hl => by rw [show a.eval (.tmp 5) = (.pointer (some ⟨w.heap.size + 1, 0, none⟩) : Value) from (hs 5 (by kernel_rfl))]; exact ⟨by simp [go_sem, cell_below hC kb0.out, cell_below hC kb1.out, cell_below hC kb2.out], rfl⟩)
  · exact .call (.inl rfl) rfl rfl fws_vecs_Add (fun a w' hC hs hl => by
      show Calls _ _ #[a.eval (.tmp 65), a.eval (.tmp 74), a.eval (.tmp 75)] _ _
      rw [show a.eval (.tmp 65) = (.slice AR N cR : Value) from (hl 65 (by kernel_rfl) (by kernel_rfl)), show a.eval (.tmp 74) = (.slice BR N dR : Value) from (hl 74 (by kernel_rfl) (by kernel_rfl)), show a.eval (.tmp 75) = (.agg #[.bool b3, .slice A3 n3 c3, .slice D3 m3 k3] : Value) from (hl 75 (by kernel_rfl) (by kernel_rfl))]
      exact vAdd_L (k := 300) (XA.out.can_below hC) (XB.out.can_below hC) (C3.out.below hC) LAB.out HA.out HB.out H3.out (by decide) (by rw [hla2.out]; omega) (T.out.below (below_tr b0.out hC)))
  · exact .move (.inl rfl) (.inl rfl) rfl (by kernel_rfl) (by kernel_rfl) rfl
  · exact .make (.inl rfl) (by intro T e; cases e) rfl (fun a w' hC hs hl => by
      obtain ⟨u, e, h⟩ := (hl 56 (by kernel_rfl) (by kernel_rfl))
      have e' : a.tmps[56]?.getD undef = _ := (by simp [Act.eval] : _ = a.eval (.tmp 56)).trans e
      exact ⟨u, by simp [execOp, go_sem, e'], h⟩)
  · exact .make (.inl rfl) (by intro T e; cases e) rfl (fun a w' hC hs hl => by
      obtain ⟨u, e, h⟩ := (hl 56 (by kernel_rfl) (by kernel_rfl))
      have e' : a.tmps[56]?.getD undef = _ := (by simp [Act.eval] : _ = a.eval (.tmp 56)).trans e
      exact ⟨_, by simp [execOp, go_sem, e'], rfl⟩)
  · exact .move (.inl rfl) (.inr rfl) rfl (by kernel_rfl) (by kernel_rfl) rfl
  · exact .move (.inl rfl) (.inr rfl) rfl (by kernel_rfl) (by kernel_rfl) rfl
  · intro f w20 hC hF _
    have f9 : (Fact.lst (axpy ra rb t)).holds (f 9) w20 := hF 9 (by kernel_rfl)
    have f10 : f 10 = .int .i64 0 := hF 10 (by kernel_rfl)
    clear hF
    simp only [patch, List.drop]
    rw [f10]
    clear f10
    have LR0 : Lst RCan w20 (f 9) (axpy ra rb t) := f9
    clear f9
    generalize f 57 = y57_ at *
    generalize f 58 = y58_ at *
    generalize f 59 = y59_ at *
    generalize f 60 = y60_ at *
    generalize f 61 = y61_ at *
    generalize f 62 = y62_ at *
    generalize f 63 = y63_ at *
    generalize f 64 = y64_ at *
    generalize f 65 = y65_ at *
    generalize f 66 = y66_ at *
    generalize f 67 = y67_ at *
    generalize f 68 = y68_ at *
    generalize f 69 = y69_ at *
    generalize f 70 = y70_ at *
    generalize f 71 = y71_ at *
    generalize f 72 = y72_ at *
    generalize f 73 = y73_ at *
    generalize f 74 = y74_ at *
    generalize f 75 = y75_ at *
    generalize f 76 = y76_ at *
    generalize f 56 = y56_ at *
    generalize f 77 = y77_ at *
    generalize f 78 = y78_ at *
    generalize f 9 = y9_ at *
    have hlr : (axpy ra rb t).length = N := by rw [axpy_length _ _ _ LAB.out, hla2.out]
    obtain ⟨QR, qc, eR⟩ := LR0.sl
    rw [hlr] at eR
    subst eR
    have LR := hide LR0
    replace b0 := hide (below_tr b0.out hC)
    replace GC := hide (GC.out.can_below hC)
    have HG := hide (hangs (t := t) MA.out MB.out hla2.out (LAB.out.symm.trans hla2.out))
    have HR := hide (Hs_axpy HA.out HB.out H3.out 1000 (by decide))
    have G2 := hide (GG.out.snoc hlr HR.out (by decide : 300 ≤ 1000))
    clear hC HA HB H3 C3 XA XB x0 y0 ka0 ka1 kb0 kb1 kb2 KA KB LAB MA MB cvza cvzb rmia rmib hia hib hma' hmb' LR0 hz hla2
    obtain ⟨us, hu1, hu2, hu3⟩ := GC.out.vals
    obtain ⟨ad2, e2, hu2'⟩ := hu2 (by omega)
    cases e2
    have HU := hide hu2'
    have HL := hide hu1
    have H1 := hide (slices_one hu1 hl.out hu3)
    have hn63 : n1 ≤ 7 := hn10_n1
    clear hu2 hu2'
    go_wp2_with (at_builtin; first
      | (refine wpList_appv (P := Tryd.prog) (t := 22) (e := TRs) (z := .slice none 0 0) (size := 1) (b := 24) (by kernel_rfl) infoRs rfl (by omega) _ rfl _ _ rfl w20.heap.size 0 (.slice none 0 0) [] rfl (World.ownsRow_nil _ _ _ _) ad n1 c1 us rfl (by rw [HL.out]; omega) HU.out H1.out (by omega) (by omega) (Nat.le_refl _) ?_; intro v' w21 q1 q2; rw [List.nil_append, Nat.zero_add] at q1; obtain ⟨Y1, d1_, rfl⟩ := own_slice q1.out; have B21 := hide ((Below.refl w20.heap.size w20).grown q2.out (Nat.le_refl _) (fun k e => by cases e)); have yv := hide ((Below.refl w21.heap.size w21).alloc (Nat.le_refl _) (.cells #[.slice QR N qc] TRs)); have B22 := hide (B21.out.trans (yv.out.mono B21.out.size)); have O22 := hide (own_below q1.out yv.out); have HV : Hid (∀ (j : Nat) u, [Value.slice QR N qc][j]? = some u → (w21.alloc (.cells #[.slice QR N qc] TRs)).cell? ((⟨w21.heap.size, 0, none⟩ : Addr).add j) = some u) := (fun j u hj => by rw [add0]; exact (Blk.new w21 TRs #[.slice QR N qc]).at_ j (by simpa using hj)); clear q1 q2 yv B21)
      | (refine wpList_appv (P := Tryd.prog) (t := 22) (e := TRs) (z := .slice none 0 0) (size := 1) (b := 24) (by kernel_rfl) infoRs rfl (by omega) _ rfl _ _ rfl w20.heap.size n1 _ us rfl O22.out ⟨w21.heap.size, 0, none⟩ 1 1 [.slice QR N qc] rfl rfl HV.out (by intro u hu; simp at hu; subst hu; rfl) (by omega) (by omega) B22.out.size ?_; intro v' w23 q1 q2; obtain ⟨Y2, d2_, rfl⟩ := own_slice q1.out; have B23 := hide (B22.out.grown q2.out B22.out.size (fun k e => (own_rowT O22.out k e).1)); have O23 := hide q1.out; clear q1 q2 B22 O22 HV))
    have U3 := hide hu3
    clear hu3
    have G23 : Hid (Gst RCan w23 (.slice Y2 (n1 + 1) d2_) (qss ++ [axpy ra rb t])) := gst_of_own O23.out (by rw [List.length_append, hl.out]; rfl) (by omega) fun j qs hq => by
      by_cases hj : j < n1
      · rw [List.getElem?_append_left (by rw [hl.out]; exact hj)] at hq
        obtain ⟨A', c', h1, h2⟩ := U3.out j qs hq
        exact ⟨A', c', by rw [List.getElem?_append_left (by rw [HL.out]; exact hj)]; exact h1, h2.can_below B23.out⟩
      · have hj2 : j = n1 := by
          have := (List.getElem?_eq_some_iff.1 hq).1
          rw [List.length_append, hl.out] at this
          simp at this
          omega
        subst hj2
        rw [List.getElem?_append_right (by rw [hl.out]; exact Nat.le_refl _), hl.out, Nat.sub_self] at hq
        cases hq
        refine ⟨QR, qc, by rw [List.getElem?_append_right (by rw [HL.out]; exact Nat.le_refl _), HL.out, Nat.sub_self, hlr]; rfl, ?_⟩
        rw [hlr]
        exact LR.out.can_below B23.out
    replace b0 := hide (below_tr b0.out B23.out)
    replace GC := hide (GC.out.can_below B23.out)
    clear O23 B23 LR U3 HU
    go_wp2_with fail
    refine (rank_ok G23.out G2.out (by decide) (szt1000 hN8) (by omega) (by omega) (T.out.below b0.out)).mono ?_
    rintro e w24 ⟨rfl, d0⟩
    rw [rank_same hl.out (by rw [List.length_append, hl.out]; rfl) HG.out, hr.out]
    replace b0 := hide (below_tr b0.out d0)
    replace GC := hide (GC.out.can_below d0)
    clear d0 G23 G2 HG HR hlr HL H1
    clear us hu1
    obtain ⟨us, hu1, hu2, hu3⟩ := GC.out.vals
    obtain ⟨ad2, e2, hu2'⟩ := hu2 (by omega)
    cases e2
    have HU := hide hu2'
    have HL := hide hu1
    have U3 := hide hu3
    clear hu2 hu2' hu3
    have hsub : ((n1 : Int) - 1) = (n1 : Int) - 1 - ((0 : Nat) : Int) := by omega
    have hlt63 : (n1 : Int) - 1 ≤ 9223372036854775807 := by omega
    clear hsub
    go_wp2
    go_loopw [13, 14] (fun tv iv wr => ∃ (i : Nat) (Y : Option Addr) (dy : Nat), i ≤ n1 ∧ iv = .int .i64 ((n1 : Int) - 1 - (i : Nat)) ∧ tv = .slice Y i dy ∧ Hid (wr.ownsRow w24.heap.size TRs 1 (.slice Y i dy) i (us.reverse.take i)) ∧ Hid (Below w24.heap.size w24 wr)) (fun _ iv _ => (intOf iv + 1).toNat)
    case atStart => exact ⟨0, _, _, by omega, by simp, rfl, World.ownsRow_nil _ _ _ _, Below.refl _ _⟩
    case round =>
      obtain ⟨i, Y, dy, hi, rfl, rfl, own, hbel⟩ := hrel
      by_cases hlt : i < n1
      · obtain ⟨m, hm⟩ : ∃ m, m + i + 1 = n1 := ⟨n1 - 1 - i, by omega⟩
        have hmi : (n1 : Int) - 1 - (i : Nat) = (m : Nat) := by omega
        obtain ⟨u, hu⟩ : ∃ u, us[m]? = some u := ⟨_, List.getElem?_eq_getElem (by rw [HL.out]; omega)⟩
        obtain ⟨q, hq⟩ : ∃ q, qss[m]? = some q := ⟨_, List.getElem?_eq_getElem (by rw [hl.out]; omega)⟩
        obtain ⟨PA, pc, e1, _⟩ := U3.out m q hq
        rw [hu] at e1
        cases e1
        have hln := GG.out.rect q (List.mem_of_getElem? hq)
        rw [hln] at hu
        have x0 := cell_below hbel.out (HU.out m _ hu)
        have hT : Hid (us.reverse.take (i + 1) = us.reverse.take i ++ [.slice PA N pc]) := by
          show _ = _
          rw [List.take_add_one, List.getElem?_reverse (by rw [HL.out]; exact hlt), HL.out, show n1 - 1 - i = m by omega, hu]
          rfl
        have yv := hide ((Below.refl wr.heap.size wr).alloc (Nat.le_refl _) (.cells #[.slice PA N pc] TRs))
        have O2 := hide (own_below own.out yv.out)
        have B2 := hide (hbel.out.trans (yv.out.mono hbel.out.size))
        have HV : Hid (∀ (j : Nat) u, [Value.slice PA N pc][j]? = some u → (wr.alloc (.cells #[.slice PA N pc] TRs)).cell? ((⟨wr.heap.size, 0, none⟩ : Addr).add j) = some u) := fun j u hj => by
          rw [add0]
          exact (Blk.new wr TRs #[.slice PA N pc]).at_ j (by simpa using hj)
        have hmn : ¬ ((n1 : Int) ≤ (m : Int)) := by omega
        have hw1 : IntKind.i64.wrap ((m : Int) - 1) = (m : Int) - 1 := by
          rw [IntKind.wrap_i64]
          omega
        have h0m : (0 : Int) ≤ (m : Int) := by omega
        clear hu hq own yv hbel
        rw [hmi]
        go_wp2_with (at_builtin; refine wpList_appv (P := Tryd.prog) (t := 22) (e := TRs) (z := .slice none 0 0) (size := 1) (b := 24) (by kernel_rfl) infoRs rfl (by omega) _ rfl _ _ rfl w24.heap.size i _ (us.reverse.take i) rfl O2.out ⟨wr.heap.size, 0, none⟩ 1 1 [.slice PA N pc] rfl rfl HV.out (by intro u hu; simp at hu; subst hu; rfl) (by omega) (by omega) B2.out.size ?_; intro v' w26 q1 q2)
        rw [← hT.out] at q1
        obtain ⟨Y4, dy4, rfl⟩ := own_slice q1.out
        have B4 := hide (B2.out.grown q2.out B2.out.size (fun k e => (own_rowT O2.out k e).1))
        clear O2 HV q2 B2 x0
        go_roundw
        case rel => exact ⟨i + 1, Y4, dy4, by omega, by rw [show (n1 : Int) - 1 - ((i + 1 : Nat) : Int) = (m : Int) - 1 by omega], rfl, q1, B4⟩
        case measure => simp [intOf] <;> omega
      · obtain rfl : i = n1 := by omega
        rw [List.take_of_length_le (by rw [List.length_reverse, HL.out]; exact Nat.le_refl _)] at own
        have rows : Hid (∀ (j : Nat) qs, qss.reverse[j]? = some qs → ∃ A' c', us.reverse[j]? = some (.slice A' qs.length c') ∧ Lst RCan w24 (.slice A' qs.length c') qs) := fun j qs hq => by
          have hj : j < i := by
            have := (List.getElem?_eq_some_iff.1 hq).1
            rwa [List.length_reverse, hl.out] at this
          rw [List.getElem?_reverse (by rw [hl.out]; exact hj), hl.out] at hq
          rw [List.getElem?_reverse (by rw [HL.out]; exact hj), HL.out]
          exact U3.out _ qs hq
        have GR := hide (gst_of_own own.out (by rw [List.length_reverse, hl.out]) (by omega) fun j qs hq => by
          obtain ⟨A', c', h1, h2⟩ := rows.out j qs hq
          exact ⟨A', c', h1, h2.can_below hbel.out⟩)
        have GQR := hide GG.out.rev
        have hz := hide (szt300 hN8)
        have hidx : ¬ ((0 : Int) ≤ (i : Int) - 1 - (i : Nat)) := by omega
        have hidx2 : (i : Int) - 1 - (i : Nat) = -1 := by omega
        rw [hidx2]
        clear hidx hidx2
        have b24 := hide b0.out
        have b25 := hide (b0.out.trans (hbel.out.mono b0.out.size))
        go_wp2_with fail
        refine (rank_ok GR.out GQR.out (by decide) hz.out (by omega) (by omega) (T.out.below b25.out)).mono ?_
        rintro e w27 ⟨rfl, d0⟩
        rw [rank_same (m' := i) hl.out (by rw [List.length_reverse, hl.out]) (fun x => nul_rev x), hr.out]
        replace b0 := hide (below_tr b25.out d0)
        have C27 := hide (GC.out.can_below (below_tr hbel.out d0))
        have B27 := hide (below_tr hbel.out d0)
        have O27 := hide (own_below own.out d0)
        clear d0 own hbel GR b25
        obtain ⟨q0, hq0⟩ : ∃ q, qss[0]? = some q := ⟨_, List.getElem?_eq_getElem (by rw [hl.out]; omega)⟩
        obtain ⟨ad3, ER, eR, e3, _, x0, X3⟩ := C27.out.at_ hq0
        cases e3
        rw [GG.out.rect q0 (List.mem_of_getElem? hq0), addr_zero] at x0
        clear X3 hq0
        go_wp2_with fail
        refine (Zero_ok w27 N (by omega)).mono ?_
        rintro e w28 ⟨uz, rfl, d0, oz⟩
        obtain ⟨ZA, zc, eZ⟩ := oz.out.slice
        rw [List.length_replicate] at eZ
        subst eZ
        have KZ := hide oz.out
        have D0 := hide d0.out
        replace b0 := hide (below_tr b0.out d0.out)
        have B28 := hide (below_tr B27.out D0.out)
        have O28 := hide (own_below O27.out D0.out)
        have yv := hide ((Below.refl w28.heap.size w28).alloc (Nat.le_refl _) (.cells #[.slice ZA N zc] TRs))
        have O29 := hide (own_below O28.out yv.out)
        have B29 := hide (below_tr B28.out yv.out)
        have HV : Hid (∀ (j : Nat) u, [Value.slice ZA N zc][j]? = some u → (w28.alloc (.cells #[.slice ZA N zc] TRs)).cell? ((⟨w28.heap.size, 0, none⟩ : Addr).add j) = some u) := fun j u hj => by
          rw [add0]
          exact (Blk.new w28 TRs #[.slice ZA N zc]).at_ j (by simpa using hj)
        clear d0 oz x0 B27 O27 D0 O28 C27
        go_wp2_with (at_builtin; refine wpList_appv (P := Tryd.prog) (t := 22) (e := TRs) (z := .slice none 0 0) (size := 1) (b := 24) (by kernel_rfl) infoRs rfl (by omega) _ rfl _ _ rfl w24.heap.size i _ us.reverse rfl O29.out ⟨w28.heap.size, 0, none⟩ 1 1 [.slice ZA N zc] rfl rfl HV.out (by intro u hu; simp at hu; subst hu; rfl) (by omega) (by omega) B29.out.size ?_; intro v' w30 q1 q2; obtain ⟨Y5, dy5, rfl⟩ := own_slice q1.out; have KP := hide (Kp2.grown O29.out q2.out (by decide) (by decide)); have B30 := hide (B29.out.grown q2.out B29.out.size (fun k e => (own_rowT O29.out k e).1)); have O30 := hide q1.out; clear q1 q2 HV O29)
        have LZ2 := hide ((KZ.out.kp2 ((Kp2.bel yv.out).tr KP.out)).lst (by rw [List.length_replicate]; omega))
        have G30 : Hid (Gst RCan w30 (.slice Y5 (i + 1) dy5) (qss.reverse ++ [List.replicate N 0])) := gst_of_own O30.out (by rw [List.length_append, List.length_reverse, hl.out]; rfl) (by omega) fun j qs hq => by
          by_cases hj : j < i
          · rw [List.getElem?_append_left (by rw [List.length_reverse, hl.out]; exact hj)] at hq
            obtain ⟨A', c', h1, h2⟩ := rows.out j qs hq
            exact ⟨A', c', by rw [List.getElem?_append_left (by rw [List.length_reverse, HL.out]; exact hj)]; exact h1, h2.can_below B30.out⟩
          · have hj2 : j = i := by
              have := (List.getElem?_eq_some_iff.1 hq).1
              rw [List.length_append, List.length_reverse, hl.out] at this
              simp at this
              omega
            subst hj2
            rw [List.getElem?_append_right (by rw [List.length_reverse, hl.out]; exact Nat.le_refl _), List.length_reverse, hl.out, Nat.sub_self] at hq
            cases hq
            refine ⟨ZA, zc, by rw [List.getElem?_append_right (by rw [List.length_reverse, HL.out]; exact Nat.le_refl _), List.length_reverse, HL.out, Nat.sub_self, List.length_replicate]; rfl, ?_⟩
            rw [List.length_replicate]
            exact LZ2.out
        have G3 := hide (GQR.out.snoc (r := List.replicate N 0) (by rw [List.length_replicate]) ((Hs_zero N).up (by decide)) (by decide : 300 ≤ 300))
        have b30 := hide (b24.out.trans (B30.out.mono b24.out.size))
        have e30 : rnk (i + 1) N (mat fun j => (qss.reverse ++ [List.replicate N 0]).getD j []) = r := by
          rw [rank_same (m' := i + 1) hl.out (by rw [List.length_append, List.length_reverse, hl.out]; rfl) (fun x => (nul_zero x).trans (nul_rev x)), hr.out]
        clear KZ yv KP O30 B29 B28 b24 b0 rows LZ2 B30 U3 HU HL GC
        go_wp2_with fail
        refine (rank_ok G30.out G3.out (by decide) hz.out (by omega) (by omega) (T.out.below b30.out)).mono ?_
        rintro e w31 ⟨rfl, d0⟩
        rw [e30]
        replace b30 := hide (below_tr b30.out d0)
        clear d0 G30 G3 e30 hr
        go_wp2
        exact opq_end hR ⟨rfl, b30⟩
  
end Go.Proofs.YtfpnhggbfakdkaaDoor
