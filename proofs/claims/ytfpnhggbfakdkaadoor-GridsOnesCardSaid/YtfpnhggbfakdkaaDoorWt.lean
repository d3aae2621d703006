/- The law: a grid of ones from corner to corner makes of a column itself, and all its rows count; solved, it is what was asked. -/
import Derived.Test.YtfpnhggbfakdkaaDoorWo
import Derived.Test.YtfpnhggbfakdkaaDoorVx
set_option linter.unusedVariables false
set_option linter.unusedSimpArgs false
set_option maxRecDepth 100000
namespace Go.Proofs.YtfpnhggbfakdkaaDoor
open Go.RowKit

/-- A list of the call's own (whether its fractions share memory is not told). -/
def OL2 (w : World) (B : Nat) (v : Value) (qs : List Rat) : Prop := ∃ us, us.length = qs.length ∧ w.ownsRow B TR 3 v qs.length (flat us) ∧ ∀ (j : Nat) q, qs[j]? = some q → ∃ u, us[j]? = some u ∧ RatR q B w u
theorem OL2.kp2 {w w' : World} {B : Nat} {v : Value} {qs : List Rat} (h : OL2 w B v qs) (k : Kp2 w w') : OL2 w' B v qs := by
  obtain ⟨us, h1, h2, h3⟩ := h
  exact ⟨us, h1, own_keepS h2 (fun r cs hk => k.2 r cs hk), fun j q hq => by
    obtain ⟨u, hu, hE⟩ := h3 j q hq
    exact ⟨u, hu, hE.kp2 k⟩⟩
theorem OL2.lst {w : World} {B : Nat} {v : Value} {qs : List Rat} (h : OL2 w B v qs) (hn : qs.length ≤ 1000000) : Lst RCan w v qs := by
  obtain ⟨us, h1, h2, h3⟩ := h
  exact lst_of_own h1 h2 (fun j q hq => by
    obtain ⟨u, hu, hE⟩ := h3 j q hq
    exact ⟨u, hu, hE.can⟩) hn
def Kp2' (w w' : World) : Prop := ∀ g cs, Blk w g T32 cs → Blk w' g T32 cs
theorem H.up' {q : Rat} {k k' : Nat} (h : H q k) (hk : 1 ≤ k') : H 1 k' := ⟨Nat.le_trans (L_small (N := 1) (by decide)) hk, Nat.le_trans (L_small (N := 1) (by decide)) hk⟩
/-- A fraction is written into a list of the call's own. -/
theorem OL2.write {w : World} {B n : Nat} {v : Value} {qs : List Rat} (h : OLst w B v qs) (hl : qs.length = n) (hn : 0 < n) (hm : n ≤ 1000000) :
    ∃ g cap, v = .slice (some ⟨g, 0, none⟩) n cap ∧ B ≤ g ∧ ∀ w1, Below w.heap.size w w1 → ∀ k, k < n → (∃ d0 d1 d2, w1.cell? ⟨g, k * 3, none⟩ = some d0 ∧ w1.cell? ⟨g, k * 3 + 1, none⟩ = some d1 ∧ w1.cell? ⟨g, k * 3 + 2, none⟩ = some d2) ∧ (w1.frozen? ⟨g, k * 3, none⟩ = false ∧ w1.frozen? ⟨g, k * 3 + 1, none⟩ = false ∧ w1.frozen? ⟨g, k * 3 + 2, none⟩ = false) ∧
      ∀ b A m c D p d q, RatR q B w1 (.agg #[.bool b, .slice A m c, .slice D p d]) → OL2 (((w1.setCell ⟨g, k * 3, none⟩ (.bool b)).setCell ⟨g, k * 3 + 1, none⟩ (.slice A m c)).setCell ⟨g, k * 3 + 2, none⟩ (.slice D p d)) B (.slice (some ⟨g, 0, none⟩) n cap) (qs.set k q) := by
  obtain ⟨us, h1, h2, h3, _⟩ := h
  rw [hl] at h2
  have hcap : ∀ g cap, v = .slice (some ⟨g, 0, none⟩) n cap → cap ≤ maxLen := fun g cap e => by
    obtain ⟨g', cap', cur, e', _, _, hm', _⟩ := own_some h2 hn
    rw [e] at e'
    cases e'
    exact hm'
  obtain ⟨g, cap, rfl, hB, R0⟩ := row_of_own h2 (by omega) hn hm
  have hc := hcap g cap rfl
  have h33 : ∀ u ∈ us, u.cells.size = 3 := fun u hu => by
    obtain ⟨i, hi, rfl⟩ := List.getElem_of_mem hu
    obtain ⟨u', hu', hr⟩ := h3 i (qs[i]'(by omega)) (List.getElem?_eq_getElem _)
    rw [List.getElem?_eq_getElem hi] at hu'
    cases hu'
    obtain ⟨b, A, m, c, D, k, d, e⟩ := hr.slice
    rw [e]; rfl
  refine ⟨g, cap, rfl, hB, fun w1 hb1 k hk => ?_⟩
  have R1 := R0.below hb1
  obtain ⟨d0, d1, d2, e0, e1, e2, f0, f1, f2⟩ := R1.cells hk
  refine ⟨⟨d0, d1, d2, e0, e1, e2⟩, ⟨f0, f1, f2⟩, fun b A m c D p d q hq => ?_⟩
  obtain ⟨O, R2, _⟩ := R1.store h33 hk (.bool b) (.slice A m c) (.slice D p d) rfl
  obtain ⟨⟨cur1, k1, _⟩, _⟩ := R1
  have kp : Kp2' w1 (((w1.setCell ⟨g, k * 3, none⟩ (.bool b)).setCell ⟨g, k * 3 + 1, none⟩ (.slice A m c)).setCell ⟨g, k * 3 + 2, none⟩ (.slice D p d)) := fun b' cs hk' => hk'.keep (O.block b' (hk'.type_ne k1 (by decide)))
  obtain ⟨⟨cur, kk, hs, ht⟩, r1, r2, r3⟩ := R2
  refine ⟨us.set k (.agg #[.bool b, .slice A m c, .slice D p d]), by simp [h1], ⟨by rw [List.length_set, hl, ← ht, List.length_take, Array.length_toList, hs]; omega, .inr ⟨g, cap, cur, by rw [List.length_set, hl], hB, kk.eq, by rw [List.length_set, hl]; exact r2, hc, hs, by rw [List.length_set, hl]; exact ht⟩⟩, fun j y hy => ?_⟩
  by_cases e : j = k
  · subst e
    rw [List.getElem?_set_self (by omega)] at hy
    cases hy
    exact ⟨_, List.getElem?_set_self (by omega), hq.k32 kp⟩
  · rw [List.getElem?_set_ne (fun q => e q.symm)] at hy
    obtain ⟨u, hu, hr⟩ := h3 j y hy
    exact ⟨u, by rw [List.getElem?_set_ne (fun q => e q.symm)]; exact hu, (hr.below hb1).k32 kp⟩
/-- Ones from corner to corner. -/
def idQ (n i : Nat) : List (List Rat) := (List.range i).map fun k => (List.replicate n (0 : Rat)).set k 1
theorem idQ_len (n i : Nat) : (idQ n i).length = i := by unfold idQ; simp
theorem idQ_get {n i k : Nat} (h : k < i) : (idQ n i)[k]? = some ((List.replicate n (0 : Rat)).set k 1) := by
  unfold idQ
  rw [List.getElem?_map, List.getElem?_range h]
  rfl
theorem idQ_gq (n : Nat) : GQ (idQ n n) n 300 := by
  refine ⟨fun qs hq => ?_, fun qs hq x hx => ?_, fun e => ?_⟩
  · unfold idQ at hq
    obtain ⟨k, hk, rfl⟩ := List.mem_map.1 hq
    rw [List.length_set, List.length_replicate]
  · unfold idQ at hq
    obtain ⟨k, hk, rfl⟩ := List.mem_map.1 hq
    rcases List.mem_or_eq_of_mem_set hx with h | h
    · rw [List.eq_of_mem_replicate h]
      exact H_zero (by decide)
    · rw [h]
      exact H_one.up' (by decide)
  · have := idQ_len n n
    rw [e] at this
    exact this.symm
theorem mat_id {n i j : Nat} (hi : i < n) (hj : j < n) : mat (fun a => (idQ n n).getD a []) i j = if i = j then 1 else 0 := by
  rw [mat_at (idQ_get hi), List.getD_eq_getElem?_getD]
  by_cases e : i = j
  · subst e
    rw [if_pos rfl, List.getElem?_set_self (by rw [List.length_replicate]; exact hi)]
    rfl
  · rw [if_neg e, List.getElem?_set_ne e, List.getElem?_replicate, if_pos hj]
    rfl
theorem id_sum {n i : Nat} (hi : i < n) (x : Nat → Rat) : Sgm n (fun j => mat (fun a => (idQ n n).getD a []) i j * x j) = x i := by
  rw [Sgm_one hi fun j hj hne => by rw [mat_id hi hj, if_neg (fun q => hne q.symm), Rat.zero_mul], mat_id hi hi, if_pos rfl, Rat.one_mul]
theorem id_times {n : Nat} {xs : List Rat} (hx : xs.length = n) : ((idQ n n).map fun q => dot q xs) = xs :=
  list_eq (by rw [List.length_map, idQ_len]) hx fun i hi => by
    rw [times_at (idQ_gq n) hx (by rw [idQ_len]; exact hi), id_sum hi]
theorem id_rank (n : Nat) : rnk n n (mat fun a => (idQ n n).getD a []) = n := rnk_full.2 fun x h j hj => by
  have := h j hj
  rwa [id_sum hj] at this
theorem id_sol {n : Nat} {xs : List Rat} (hx : xs.length = n) : SolR n n (mat fun a => (idQ n n).getD a []) (fun i => xs.getD i 0) 0 xs := by
  refine .inl ⟨rfl, hx, fun x => ?_⟩
  constructor
  · intro h j hj
    have := h j hj
    rwa [id_sum hj] at this
  · intro h i hi
    rw [id_sum hi]
    exact h i hi
set_option maxHeartbeats 8000000 in
theorem GridsOnes_ok (w : World) (A1 : Option Addr) (n1 c1 : Nat) (es1 : List Raw) (h1 : Lst RRw w (.slice A1 n1 c1) es1) (hT : Tab w) :
    Calls Tryd.prog 8 #[.slice A1 n1 c1] w fun e w' => e = .returned (.bool true) ∧ Hid (Below w.heap.size w w') := by
  refine opq fun R hR => ?_
  have T := hide hT
  clear hT
  replace h1 := hide h1
  go_enter Tryd.func8, Tryd.ntmps8
  go_wp2_with fail
  refine (galive_P w T.out).mono ?_
  rintro e w1 ⟨_, rfl, d0, rfl⟩
  have b0 := hide d0
  clear d0
  replace h1 := hide (h1.out.rw_below b0.out)
  by_cases h10_n1 : (n1 : Int) > 8
  · go_wp2_with fail
    refine (galive_P w1 (T.out.below b0.out)).mono ?_
    rintro e w99 ⟨_, rfl, d0, rfl⟩
    replace b0 := hide (below_tr b0.out d0)
    clear d0
    go_wp2
    exact opq_end hR ⟨rfl, b0⟩
  have hn10_n1 : n1 ≤ 8 := by omega
  go_wp2_with fail
  refine (RatsSize_any _ A1 n1 c1 es1 h1.out).mono ?_
  rintro e w2 ⟨r, rfl, cn, _, d0⟩
  replace b0 := hide (below_tr b0.out d0)
  replace h1 := hide (h1.out.rw_below d0)
  clear d0
  by_cases hr : (r : Int) > 200
  · clear cn
    go_wp2_with fail
    refine (galive_P w2 (T.out.below b0.out)).mono ?_
    rintro e w99 ⟨_, rfl, d0, rfl⟩
    replace b0 := hide (below_tr b0.out d0)
    clear d0
    go_wp2
    exact opq_end hR ⟨rfl, b0⟩
  have hx2 : n1 + tsz es1 ≤ 200 := by
    rcases cn.2 with e | e <;> omega
  clear cn
  have LR := hide (h1.out.rawW 200 (by omega) (by decide)).1
  have HX : Hid (Hs (es1.map rvE) 300) := (h1.out.rawW 200 (by omega) (by decide)).2.up (by decide)
  clear h1
  by_cases hx_es1 : es1.all rk = true
  rotate_left
  · have hk2 : es1.all rk = false := Bool.eq_false_iff.2 hx_es1
    go_wp2_with fail
    refine (vCheck_L LR.out (T.out.below b0.out) false hk2).mono ?_
    rintro e w3 ⟨_, rfl, d0, rfl⟩
    replace b0 := hide (below_tr b0.out d0)
    clear d0 hk2
    go_wp2_with fail
    refine (galive_P w3 (T.out.below b0.out)).mono ?_
    rintro e w99 ⟨_, rfl, d0, rfl⟩
    replace b0 := hide (below_tr b0.out d0)
    clear d0
    go_wp2
    exact opq_end hR ⟨rfl, b0⟩
  go_wp2_with fail
  refine (vCheck_L LR.out (T.out.below b0.out) true hx_es1).mono ?_
  rintro e w3 ⟨_, rfl, d0, rfl⟩
  replace b0 := hide (below_tr b0.out d0)
  replace LR := hide (LR.out.raw_below d0)
  clear d0
  have LX := hide (LR.out.canW hx_es1)
  obtain ⟨xs, hxs⟩ : ∃ xs, es1.map rvE = xs := ⟨_, rfl⟩
  rw [hxs] at LX HX
  have hlx := hide LX.out.len
  clear LR hx_es1 hxs hx2
  go_wp2
  go_loopw [3, 4] (fun tv iv wr => ∃ (i : Nat) (Y : Option Addr) (dy : Nat) (vs : List Value), i ≤ n1 ∧ iv = .int .i64 (i : Nat) ∧ tv = .slice Y i dy ∧ Hid (Below w3.heap.size w3 wr) ∧ Hid (vs.length = i) ∧ Hid (wr.ownsRow w3.heap.size TRs 1 (.slice Y i dy) i vs) ∧ Hid (∀ j, j < i → ∃ A c, vs[j]? = some (.slice A n1 c) ∧ OL2 wr w3.heap.size (.slice A n1 c) ((List.replicate n1 (0 : Rat)).set j 1))) (fun _ iv _ => n1 - (intOf iv).toNat)
  case atStart => exact ⟨0, _, _, [], by omega, rfl, rfl, Below.refl _ _, rfl, World.ownsRow_nil _ _ _ _, fun j hj => absurd hj (Nat.not_lt_zero j)⟩
  case round =>
    obtain ⟨i, Y, dy, vs, hi, rfl, rfl, hbel, hvl, own, rows⟩ := hrel
    by_cases hlt : i < n1
    · go_wp2_with fail
      refine (Zero_ok wr n1 (by omega)).mono ?_
      rintro e w20 ⟨u, rfl, d0, oz⟩
      obtain ⟨g, cap, rfl, hgB, WR⟩ := OL2.write oz.out (List.length_replicate ..) (by omega) (by omega)
      have B1 := hide d0.out
      clear d0 oz
      go_wp2_with fail
      refine (rOf_P w20 1 (by decide) (by decide)).mono ?_
      rintro e w21 ⟨u, rfl, d0, p1⟩
      obtain ⟨⟨d0_, d1_, d2_, e0, e1, e2⟩, ⟨f0, f1, f2⟩, WR2⟩ := WR w21 d0 i hlt
      obtain ⟨b, A, m, c, D, p, d, rfl⟩ := p1.slice
      have p2 : RatR 1 wr.heap.size w21 (.agg #[.bool b, .slice A m c, .slice D p d]) := by
        have := p1.mono (Nat.le_trans B1.out.size (Nat.le_refl _))
        simpa using this
      have o2 := hide (WR2 b A m c D p d 1 p2)
      have B2 := hide (((below_tr B1.out d0).setCell (p := ⟨g, i * 3, none⟩) hgB (.bool b)).setCell (p := ⟨g, i * 3 + 1, none⟩) hgB (.slice A m c))
      have B3 := hide (B2.out.setCell (p := ⟨g, i * 3 + 2, none⟩) hgB (.slice D p d))
      clear WR WR2 p1 p2 d0 B2 B1
      obtain ⟨V, hV⟩ : ∃ V, (((w21.setCell ⟨g, i * 3, none⟩ (.bool b)).setCell ⟨g, i * 3 + 1, none⟩ (.slice A m c)).setCell ⟨g, i * 3 + 2, none⟩ (.slice D p d)) = V := ⟨_, rfl⟩
      rw [hV] at o2 B3
      have o3 := hide (own_below own.out B3.out)
      have rows2 : Hid (∀ j, j < i → ∃ A c, vs[j]? = some (.slice A n1 c) ∧ OL2 V w3.heap.size (.slice A n1 c) ((List.replicate n1 (0 : Rat)).set j 1)) := fun j hj => by
        obtain ⟨A', c', h1, h2⟩ := rows.out j hj
        exact ⟨A', c', h1, h2.kp2 (Kp2.bel B3.out)⟩
      have hB4 := hbel.out.size
      have o4 : Hid (OL2 V w3.heap.size (.slice (some ⟨g, 0, none⟩) n1 cap) ((List.replicate n1 (0 : Rat)).set i 1)) := by
        obtain ⟨us, q1, q2, q3⟩ := o2.out
        exact ⟨us, q1, own_monoT q2 hB4, fun j q hq => by
          obtain ⟨u, hu, hr⟩ := q3 j q hq
          exact ⟨u, hu, hr.mono hB4⟩⟩
      have yv := hide ((Below.refl V.heap.size V).alloc (Nat.le_refl _) (.cells #[.slice (some ⟨g, 0, none⟩) n1 cap] TRs))
      have HU : Hid (∀ (j : Nat) u, [Value.slice (some ⟨g, 0, none⟩) n1 cap][j]? = some u → (V.alloc (.cells #[.slice (some ⟨g, 0, none⟩) n1 cap] TRs)).cell? ((⟨V.heap.size, 0, none⟩ : Addr).add j) = some u) := fun j u hj => by
        rw [add0]
        exact (Blk.new V TRs #[.slice (some ⟨g, 0, none⟩) n1 cap]).at_ j (by simpa using hj)
      have o5 := hide (own_below o3.out yv.out)
      have B5 := hide (hbel.out.trans ((below_tr B3.out yv.out).mono hB4))
      clear own rows o2
      replace hV := hV
      go_wp2_with (at_builtin; refine wpList_appv (P := Tryd.prog) (t := 22) (e := TRs) (z := .slice none 0 0) (size := 1) (b := 24) (by kernel_rfl) infoRs rfl (by omega) _ rfl _ _ rfl w3.heap.size i _ vs rfl o5.out ⟨V.heap.size, 0, none⟩ 1 1 [.slice (some ⟨g, 0, none⟩) n1 cap] rfl rfl HU.out (by intro u hu; simp at hu; subst hu; rfl) (by omega) (by omega) B5.out.size ?_; intro v' w25 q1 q2)
      obtain ⟨Y4, dy4, rfl⟩ := own_slice q1.out
      have kp := hide ((Kp2.bel yv.out).tr (Kp2.grown o5.out q2.out (by decide) (by decide)))
      have rows4 : Hid (∀ j, j < i + 1 → ∃ A c, (vs ++ [Value.slice (some ⟨g, 0, none⟩) n1 cap])[j]? = some (.slice A n1 c) ∧ OL2 w25 w3.heap.size (.slice A n1 c) ((List.replicate n1 (0 : Rat)).set j 1)) := fun j hj => by
        by_cases e : j < i
        · obtain ⟨A', c', h1, h2⟩ := rows2.out j e
          exact ⟨A', c', by rw [List.getElem?_append_left (by rw [hvl.out]; exact e)]; exact h1, h2.kp2 kp.out⟩
        · obtain rfl : j = i := by omega
          exact ⟨_, cap, by rw [List.getElem?_append_right (by rw [hvl.out]; exact Nat.le_refl _), hvl.out, Nat.sub_self]; rfl, o4.out.kp2 kp.out⟩
      have B6 := hide (B5.out.grown q2.out B5.out.size (fun k e => (own_rowT o5.out k e).1))
      have hv4 : Hid ((vs ++ [Value.slice (some ⟨g, 0, none⟩) n1 cap]).length = i + 1) := by
        show _ = _
        rw [List.length_append, hvl.out]
        rfl
      clear o3 rows2 o4 yv HU o5 B5 q2 kp B3 hvl hbel
      go_roundw
      case rel => exact ⟨i + 1, Y4, dy4, _, by omega, by go_num, rfl, B6, hv4, q1, rows4⟩
      case measure => simp [intOf]; omega
    · obtain rfl : i = n1 := by omega
      have GI : Hid (Gst RCan wr (.slice Y i dy) (idQ i i)) := gst_of_own own.out (idQ_len i i) (by omega) fun j qs hq => by
        have hj : j < i := by
          have := (List.getElem?_eq_some_iff.1 hq).1
          rwa [idQ_len] at this
        rw [idQ_get hj] at hq
        cases hq
        obtain ⟨A', c', h1, h2⟩ := rows.out j hj
        refine ⟨A', c', by rw [List.length_set, List.length_replicate]; exact h1, ?_⟩
        have := h2.lst (by rw [List.length_set, List.length_replicate]; omega)
        rw [List.length_set, List.length_replicate]
        exact this
      replace b0 := hide (b0.out.trans (hbel.out.mono b0.out.size))
      replace LX := hide (LX.out.can_below hbel.out)
      have GQI := hide (idQ_gq i)
      have hz := hide (szt300 hn10_n1)
      clear own rows hvl hbel
      go_wp2_with fail
      refine (times_ok GI.out LX.out GQI.out HX.out (fun _ => rfl) (Nat.le_trans (Nat.add_le_add_left (Nat.mul_le_mul_right 601 hn10_n1) 1) (by decide)) (by decide) (by omega) (T.out.below b0.out)).mono ?_
      rintro e w30 ⟨ua, rfl, d0, oa⟩
      rw [id_times hlx.out] at oa
      have OA := hide (oa.lst (by rw [hlx.out]; omega))
      replace b0 := hide (below_tr b0.out d0)
      replace LX := hide (LX.out.can_below d0)
      replace GI := hide (GI.out.can_below d0)
      clear d0 oa
      go_wp2_with fail
      refine (solve_ok GI.out LX.out GQI.out HX.out (by decide) hz.out (by omega) (by omega) (T.out.below b0.out)).mono ?_
      rintro e w31 ⟨ub, er, ys, rfl, d0, ob, sr, _⟩
      obtain ⟨rfl, rfl⟩ := sr.unique (id_sol hlx.out)
      have OB := hide (ob.lst (by rw [hlx.out]; omega))
      replace b0 := hide (below_tr b0.out d0)
      replace LX := hide (LX.out.can_below d0)
      replace GI := hide (GI.out.can_below d0)
      replace OA := hide (OA.out.can_below d0)
      clear d0 ob sr
      go_wp2_with fail
      refine (rank_ok GI.out GQI.out (by decide) hz.out (by omega) (by omega) (T.out.below b0.out)).mono ?_
      rintro e w32 ⟨rfl, d0⟩
      rw [id_rank]
      replace b0 := hide (below_tr b0.out d0)
      replace LX := hide (LX.out.can_below d0)
      replace OA := hide (OA.out.can_below d0)
      replace OB := hide (OB.out.can_below d0)
      clear d0 GI
      go_wp2_with fail
      refine (vSame_yes OA.out LX.out HX.out (by decide) (T.out.below b0.out)).mono ?_
      rintro e w33 ⟨_, rfl, d0, rfl⟩
      replace b0 := hide (below_tr b0.out d0)
      replace LX := hide (LX.out.can_below d0)
      replace OB := hide (OB.out.can_below d0)
      clear d0 OA
      go_wp2_with fail
      refine (vSame_yes OB.out LX.out HX.out (by decide) (T.out.below b0.out)).mono ?_
      rintro e w34 ⟨_, rfl, d0, rfl⟩
      replace b0 := hide (below_tr b0.out d0)
      clear d0 OB LX
      go_wp2
      exact opq_end hR ⟨rfl, b0⟩
end Go.Proofs.YtfpnhggbfakdkaaDoor
