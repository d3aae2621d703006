/- The document's answer for vecs. -/
import Derived.Test.YtkefmeddnncacaaGreatDoorVB
import Derived.Test.YtkefmeddnncacaaGreatDoorBo
import Derived.Test.YtkefmeddnncacaaGreatDoorBp
import Derived.Deep.RegionLaw
import Derived.Test.YtkefmeddnncacaaGreatDoorFR
import Derived.Test.YtkefmeddnncacaaGreatDoorBY
/- the document's answer for vecs: Check, Zero, Scale. -/
set_option linter.unusedVariables false
set_option linter.unusedSimpArgs false
set_option maxRecDepth 100000
namespace Go.Proofs.YtkefmeddnncacaaGreatDoor
open Go.RowKit

theorem Lst.le_ {α : Type} {E : World → Value → α → Prop} {w : World} {v : Value} {qs : List α} (h : Lst E w v qs) : qs.length ≤ 140737488355328 := by
  obtain ⟨_, _, _, _, e, _, h2, _, h4, _⟩ := h
  cases e
  omega
/-- One more fraction, in a region that draws. -/
theorem step_appO {w : World} {ops : Array Oper} {o : Oper} {a : Act} {K : Act → World → Prop} {Q : Exit → Act → World → Prop} {E : Prop} (hgd : o.guard = none) (s x : Operand)
    (ho : o.op = .call { callee := .builtin .append, args := #[s, x], argTypes := #[56, 56] })
    (B : Nat) (v : Value) (qs : List Rat) (hs : a.eval s = v) {w0 : World} (hown0 : OLst w0 B v qs) (hb0 : Below w0.heap.size w0 w) (hB0 : B ≤ w0.heap.size) {g : Nat} {b : Bool} {A D : Option Addr} {m c k d : Nat} {q : Rat} (hx : a.eval x = .slice (some ⟨g, 0, none⟩) 1 1) (hg : Blk w g TR #[.bool b, .slice A m c, .slice D k d]) (hq : RatR q w0.heap.size w (.agg #[.bool b, .slice A m c, .slice D k d]))
    (hn : qs.length ≤ 1000000) (hbase : B ≤ w.heap.size)
    (h : ∀ v' w', Hid (OLst w' B v' (qs ++ [q])) → Hid (Below B w w') → Hid (B ≤ w'.heap.size) → K (a.put o.dst v') w') : if Region.wanted o (yielded ops a.tmps) = true then Oper.wp Tryz.prog o a w K Q else E := by
  have hfr : ∀ us' : List Value, us'.length = qs.length → (∀ (j : Nat) q, qs[j]? = some q → ∃ u, us'[j]? = some u ∧ RatR q B w0 u) → ∀ u' ∈ us', ∀ g', uhas u' g' → ¬ uhas (.agg #[.bool b, .slice A m c, .slice D k d]) g' := fun us' e1 e3 => OLst.elt (v := v) e1 e3 hq
  obtain ⟨us, h1, h2', h3', h4⟩ := hown0
  have h3 : ∀ (j : Nat) q, qs[j]? = some q → ∃ u, us[j]? = some u ∧ RatR q B w u := fun j q hq => by
    obtain ⟨u, hu, hr⟩ := h3' j q hq
    exact ⟨u, hu, hr.below hb0⟩
  have h2 := own_below h2' hb0
  have hap := UAp.snoc h4 (hfr us h1 h3')
  replace hq := hq.mono hB0
  refine step_appv (P := Tryz.prog) (t := 56) (e := TR) (z := .agg #[.bool false, .slice none 0 0, .slice none 0 0]) (size := 3) (b := 56) (by kernel_rfl) infoR rfl (by omega) w hgd s x ho B qs.length v (flat us) hs h2 ⟨g, 0, none⟩ 1 1 [.bool b, .slice A m c, .slice D k d] hx rfl (fun j u hj => ?_) (fun u hu => ?_) (by omega) (by omega) hbase fun v' w' k1 k2 => h v' w' ?_ ?_ ?_
  · rw [add0, hg.cell]
    simpa using hj
  · simp at hu
    rcases hu with rfl | rfl | rfl <;> rfl
  · have hr := fun k e => (own_row h2 k e).2
    refine ⟨us ++ [.agg #[.bool b, .slice A m c, .slice D k d]], by simp [h1], by rw [flat_snoc, List.length_append]; exact k1.out, fun j p hp => ?_, hap⟩
    by_cases hj : j < qs.length
    · rw [List.getElem?_append_left hj] at hp
      obtain ⟨u, hu, hR⟩ := h3 j p hp
      exact ⟨u, by rw [List.getElem?_append_left (by omega)]; exact hu, hR.grownR k2.out hr⟩
    · have hj2 : j = qs.length := by
        have := (List.getElem?_eq_some_iff.1 hp).1
        simp at this
        omega
      subst hj2
      rw [List.getElem?_append_right (Nat.le_refl _), Nat.sub_self] at hp
      cases hp
      refine ⟨_, by rw [List.getElem?_append_right (by omega), h1, Nat.sub_self]; rfl, hq.grownR k2.out hr⟩
  · exact (Below.refl B w).grown k2.out hbase (fun k e => (own_row h2 k e).1)
  · exact Nat.le_trans hbase k2.out.size
set_option maxHeartbeats 1000000 in
theorem vkCheck_P {w : World} {v : Value} {es : List Raw} (h : Lst RRaw w v es) (r : Bool) (hr : es.all rk = r) :
    Calls Tryz.prog 39 #[v] w fun e w' => ∃ u, e = .returned u ∧ Below w.heap.size w w' ∧ u = .bool r := by
  refine opq fun R hR => ?_
  obtain ⟨A, c, rfl⟩ := h.sl
  obtain ⟨n, hn⟩ : ∃ n, Hid (es.length = n) := ⟨_, rfl⟩
  have hbn := h.le_
  rw [hn.out] at h hbn ⊢
  have L := hide h
  replace hr := hide hr
  clear h
  go_enter Tryz.func39, Tryz.ntmps39
  go_wp2
  go_loopw [3] (fun iv wr => ∃ (i : Nat), i ≤ n ∧ iv = .int .i64 (i : Nat) ∧ Hid (Below w.heap.size w wr) ∧ Hid ((es.take i).all rk = true)) (fun iv _ => n - (intOf iv).toNat)
  case atStart => exact ⟨0, by omega, rfl, Below.refl _ _, by show _ = _; simp⟩
  case round =>
    obtain ⟨i, hi, rfl, hbel, al⟩ := hrel
    by_cases hlt : i < n
    · obtain ⟨x, hx⟩ : ∃ x, es[i]? = some x := ⟨_, List.getElem?_eq_getElem (by rw [hn.out]; exact hlt)⟩
      obtain ⟨ad, b2, A2, n2, c2, D2, m2, k2, rfl, _, x0, x1, x2, X⟩ := (L.out.raw_below hbel.out).at_ tri_raw hx
      have hT := hide (show es.take (i + 1) = es.take i ++ [x] by
        rw [List.take_add_one, hx]; rfl)
      replace X := hide X
      replace hx := hide hx
      cases hk : rk x with
      | false =>
        go_wp2_with fail
        refine (krCheck_P X.out false hk).mono ?_
        rintro e w1 ⟨u, rfl, d0, rfl⟩
        have B2 := hide (below_tr hbel.out d0)
        have e0 : r = false := by
          rw [← hr.out, List.all_eq_false]
          exact ⟨x, List.mem_of_getElem? hx.out, by rw [hk]; simp⟩
        subst e0
        clear d0 x0 x1 x2
        go_wp2
        exact opq_end hR ⟨_, rfl, B2.out, rfl⟩
      | true =>
        go_wp2_with fail
        refine (krCheck_P X.out true hk).mono ?_
        rintro e w1 ⟨u, rfl, d0, rfl⟩
        have B2 := hide (below_tr hbel.out d0)
        have a2 : Hid ((es.take (i + 1)).all rk = true) := by
          show _ = _
          rw [hT.out, List.all_append, al.out]
          simp [hk]
        clear d0 x0 x1 x2 hk
        go_wp2
        go_roundw
        case rel => exact ⟨i + 1, by omega, by go_num, B2, a2⟩
        case measure => simp [intOf]; omega
    · obtain rfl : i = n := by omega
      have e0 : r = true := by
        rw [← hr.out, ← al.out, List.take_of_length_le (by rw [hn.out]; exact Nat.le_refl _)]
      subst e0
      go_wp2
      exact opq_end hR ⟨_, rfl, hbel.out, rfl⟩
def zN (z : Int) : Nat := if 65536 < z then 0 else z.toNat
set_option maxHeartbeats 2000000 in
theorem vkScale_P {w : World} {v v' : Value} {qs : List Rat} {y : Rat} (h : Lst RArg w v qs) (hy : RArg w v' y) (hl : qs.length ≤ 1000000) :
    Calls Tryz.prog 33 #[v, v'] w fun e w' => ∃ u, e = .returned u ∧ Below w.heap.size w w' ∧ Lst RCan w' u (qs.map (· * y)) := by
  refine opq fun R hR => ?_
  obtain ⟨A, c, rfl⟩ := h.sl
  obtain ⟨b, A1, n1, c1, D1, m1, k1, rfl⟩ := hy.slice
  obtain ⟨n, hq⟩ : ∃ n, Hid (qs.length = n) := ⟨_, rfl⟩
  rw [hq.out] at h hl ⊢
  have L := hide h
  have Y := hide hy
  clear h hy
  go_enter Tryz.func33, Tryz.ntmps33
  have b0 := hide (Below.refl w.heap.size w)
  have K3 := hide (Blk.new_at w (w.heap.size) (by simp) TR #[.bool b, .slice A1 n1 c1, .slice D1 m1 k1])
  have yy := (Below.refl w.heap.size w).alloc (Nat.le_refl _) (.cells #[.bool b, .slice A1 n1 c1, .slice D1 m1 k1] TR)
  replace b0 := hide (below_tr b0.out yy)
  clear yy
  go_wp2
  obtain ⟨V, hV⟩ : ∃ V, w.alloc (.cells #[.bool b, .slice A1 n1 c1, .slice D1 m1 k1] TR) = V := ⟨_, rfl⟩
  rw [hV] at K3 b0
  rw [hV]
  clear hV
  go_loopw [5, 6] (fun tv iv wr => ∃ (i : Nat) (A' : Option Addr) (c' : Nat), i ≤ n ∧ iv = .int .i64 (i : Nat) ∧ tv = .slice A' i c' ∧ Hid (OLst wr V.heap.size (.slice A' i c') ((qs.take i).map (· * y))) ∧ Hid (Below V.heap.size V wr)) (fun _ iv _ => n - (intOf iv).toNat)
  case atStart => exact ⟨0, _, _, by omega, rfl, rfl, OLst.nil _ _, Below.refl _ _⟩
  case round =>
    obtain ⟨i, A', c', hi, rfl, rfl, own, hbel⟩ := hrel
    by_cases hlt : i < n
    · obtain ⟨x, hx⟩ : ∃ x, qs[i]? = some x := ⟨_, List.getElem?_eq_getElem (by rw [hq.out]; exact hlt)⟩
      obtain ⟨ad, b2, A2, n2, c2, D2, m2, k2, rfl, _, x0, x1, x2, X⟩ := (L.out.arg_below (below_tr b0.out hbel.out)).at_ tri_arg hx
      have hT := hide (show qs.take (i + 1) = qs.take i ++ [x] by
        rw [List.take_add_one, hx]; rfl)
      replace X := hide X
      replace hx := hide hx
      have yd : Hid (Below wr.heap.size wr wr.drew) := (Below.refl _ _).drew
      have k0 := (K3.out.below' hbel.out).at_ 0 rfl
      have k1' := (K3.out.below' hbel.out).at_ 1 rfl
      have k2' := (K3.out.below' hbel.out).at_ 2 rfl
      have hs0 := hide hbel.out.size
      have hlen : Hid (((qs.take i).map (· * y)).length = i) := by
        show _ = _
        rw [List.length_map, List.length_take, hq.out]; omega
      go_wp2
      go_region_law (first
        | ((try go_simp); go_at_call 147; refine (krMul_P (X.out.below yd.out) ((Y.out.below (below_tr b0.out hbel.out)).below yd.out)).mono ?_; rintro e w1 ⟨u, rfl, d0, r⟩; have D0 := hide (below_tr yd.out d0); have r1 := hide r; obtain ⟨b3, A3, n3, c3, D3, m3, k3, rfl⟩ := r1.out.slice; clear d0 r x0 x1 x2 k0 k1' k2'; have K := hide (Blk.new w1 TR #[.bool b3, .slice A3 n3 c3, .slice D3 m3 k3]); have y1 := hide ((Below.refl w1.heap.size w1).alloc (Nat.le_refl _) (.cells #[.bool b3, .slice A3 n3 c3, .slice D3 m3 k3] TR)); have O2 := hide (below_tr D0.out y1.out); have R2 := hide (r1.out.below y1.out); have B2 := hide (below_tr hbel.out O2.out); clear D0 y1 r1)
        | (refine step_appO rfl _ _ rfl V.heap.size _ ((qs.take i).map (· * y)) rfl own.out O2.out hs0.out rfl K.out R2.out (by rw [hlen.out]; omega) B2.out.size ?_; intro v' w3 q1 q2 q3))
      all_goals
        have q4 : Hid (OLst w3 V.heap.size v' ((qs.take (i + 1)).map (· * y))) := by
          show OLst _ _ _ _
          rw [hT.out, List.map_append]
          exact q1.out
        obtain ⟨A', c', rfl⟩ := q4.out.slice
        have hlen2 : Hid (((qs.take (i + 1)).map (· * y)).length = i + 1) := by
          show _ = _
          rw [List.length_map, List.length_take, hq.out]; omega
        rw [hlen2.out] at q4 ⊢
        have B4 := hide (B2.out.trans q2.out)
        go_wp2
        go_roundw
        case rel => exact ⟨i + 1, A', c', by omega, by go_num, rfl, q4, B4⟩
        case measure => simp [intOf]; omega
    · obtain rfl : i = n := by omega
      rw [List.take_of_length_le (by rw [hq.out]; exact Nat.le_refl _)] at own
      have B5 := hide (below_tr b0.out hbel.out)
      go_wp2
      exact opq_end hR ⟨_, rfl, B5.out, own.out.lst (by rw [List.length_map, hq.out]; exact hl)⟩
end Go.Proofs.YtkefmeddnncacaaGreatDoor

/- the document's answer for vecs: Same, Dot, Add. -/
set_option linter.unusedVariables false
set_option linter.unusedSimpArgs false
set_option maxRecDepth 100000
namespace Go.Proofs.YtkefmeddnncacaaGreatDoor
open Go.RowKit

theorem fits_parts {es fs : List Raw} (h : fits es fs = true) : es.length = fs.length ∧ es.all rk = true ∧ fs.all rk = true := by
  unfold fits at h
  rw [Bool.and_eq_true, Bool.and_eq_true] at h
  exact ⟨by simpa using h.1.1, h.1.2, h.2⟩
theorem fits_not {es fs : List Raw} (h : fits es fs = false) : es.length ≠ fs.length ∨ (es.length = fs.length ∧ es.all rk = false) ∨ (es.length = fs.length ∧ es.all rk = true ∧ fs.all rk = false) := by
  unfold fits at h
  by_cases hl : es.length = fs.length
  · rw [decide_eq_true hl, Bool.true_and] at h
    cases ha : es.all rk with
    | false => exact .inr (.inl ⟨hl, rfl⟩)
    | true =>
      rw [ha, Bool.true_and] at h
      exact .inr (.inr ⟨hl, rfl, h⟩)
  · exact .inl hl
theorem dot_take_H {ps qs : List Rat} {k : Nat} (hp : Hs ps k) (hq : Hs qs k) (j : Nat) (hj : j ≤ ps.length) (hk : 1 + ps.length * (2 * k + 1) ≤ 100000000000) : H (dotA 0 ((ps.zip qs).take j)) 100000000000 := by
  have e : (ps.zip qs).take j = (ps.take j).zip (qs.take j) := by rw [List.zip_eq_zipWith, List.zip_eq_zipWith, List.take_zipWith]
  rw [e]
  have hl : (ps.take j).length ≤ ps.length := by rw [List.length_take]; omega
  have := Nat.mul_le_mul_right (2 * k + 1) hl
  exact H_dot (k := k) (hp.take j) (hq.take j) ps.length 100000000000 hl (by omega) (Nat.le_refl _)
theorem cmpQ_ne {a b : Rat} (h : ¬ a = b) : cmpQ a b = 1 ∨ cmpQ a b = -1 := by
  unfold cmpQ
  rw [if_neg h]
  split
  · exact .inr rfl
  · exact .inl rfl
theorem fq4_assayerref03_Add (args : Array Value) (w : World) : (callFunc 146 args).run Tryz.prog w = .ok (.enter 146 args) w := callFunc_enter Tryz.func146 (by kernel_rfl) rfl args w
theorem fq4_assayerref03_Cmp (args : Array Value) (w : World) : (callFunc 154 args).run Tryz.prog w = .ok (.enter 154 args) w := callFunc_enter Tryz.func154 (by kernel_rfl) rfl args w
theorem fq4_assayerref03_Mul (args : Array Value) (w : World) : (callFunc 147 args).run Tryz.prog w = .ok (.enter 147 args) w := callFunc_enter Tryz.func147 (by kernel_rfl) rfl args w
set_option maxHeartbeats 1000000 in
theorem vkSame_bad {w : World} {v v' : Value} {es fs : List Raw} (h : Lst RRaw w v es) (h' : Lst RRaw w v' fs) (hb : fits es fs = false) :
    Calls Tryz.prog 41 #[v, v'] w fun e w' => ∃ u, e = .returned u ∧ Below w.heap.size w w' ∧ u = .bool false := by
  refine opq fun R hR => ?_
  obtain ⟨A, c, rfl⟩ := h.sl
  obtain ⟨A', c', rfl⟩ := h'.sl
  have b0 := hide (Below.refl w.heap.size w)
  go_enter Tryz.func41, Tryz.ntmps41
  rcases fits_not hb with hl | ⟨hl, ha⟩ | ⟨hl, ha, hb⟩
  · have hl2 : ¬ ((es.length : Int) = (fs.length : Int)) := by omega
    generalize es.length = n at *
    generalize fs.length = n' at *
    go_wp2
    exact opq_end hR ⟨_, rfl, b0.out, rfl⟩
  · rw [← hl] at h' ⊢
    clear hl
    generalize es.length = n at *
    replace h := hide h
    replace h' := hide h'
    go_wp2_with fail
    refine (vkCheck_P (h.out.raw_below b0.out) false ha).mono ?_
    rintro e w1 ⟨_, rfl, d0, rfl⟩
    replace b0 := hide (below_tr b0.out d0)
    clear d0
    go_wp2
    exact opq_end hR ⟨_, rfl, b0.out, rfl⟩
  · rw [← hl] at h' ⊢
    clear hl
    generalize es.length = n at *
    replace h := hide h
    replace h' := hide h'
    go_wp2_with fail
    refine (vkCheck_P (h.out.raw_below b0.out) true ha).mono ?_
    rintro e w1 ⟨_, rfl, d0, rfl⟩
    replace b0 := hide (below_tr b0.out d0)
    clear d0
    go_wp2_with fail
    refine (vkCheck_P (h'.out.raw_below b0.out) false hb).mono ?_
    rintro e w2 ⟨_, rfl, d0, rfl⟩
    replace b0 := hide (below_tr b0.out d0)
    clear d0
    go_wp2
    exact opq_end hR ⟨_, rfl, b0.out, rfl⟩
set_option maxHeartbeats 2000000 in
theorem vkSame_ok {w : World} {v v' : Value} {es fs : List Raw} (h : Lst RRaw w v es) (g : Lst RArg w v (es.map rvE)) (h' : Lst RRaw w v' fs) (g' : Lst RArg w v' (fs.map rvE)) (hf : fits es fs = true) (z : Hs (es.map rvE) 100000) (z' : Hs (fs.map rvE) 100000) :
    Calls Tryz.prog 41 #[v, v'] w fun e w' => ∃ u, e = .returned u ∧ Below w.heap.size w w' ∧ u = .bool (decide (es.map rvE = fs.map rvE)) := by
  refine opq fun R hR => ?_
  obtain ⟨A, c, rfl⟩ := h.sl
  obtain ⟨A', c', rfl⟩ := h'.sl
  obtain ⟨hl, ha, hb⟩ := fits_parts hf
  have hbn : es.length ≤ 140737488355328 := h.le_
  obtain ⟨n, hn⟩ : ∃ n, Hid (es.length = n) := ⟨_, rfl⟩
  have hn' : Hid (fs.length = n) := by rw [← hl]; exact hn
  rw [hn.out] at h g hbn ⊢
  rw [hn'.out] at h' g' ⊢
  have L := hide h
  have M := hide h'
  have GA := hide g
  have GB := hide g'
  have b0 := hide (Below.refl w.heap.size w)
  clear h h' g g' hf hl
  replace z := hide z
  replace z' := hide z'
  go_enter Tryz.func41, Tryz.ntmps41
  go_wp2_with fail
  refine (vkCheck_P (L.out.raw_below b0.out) true ha).mono ?_
  rintro e w1 ⟨_, rfl, d0, rfl⟩
  replace b0 := hide (below_tr b0.out d0)
  clear d0
  go_wp2_with fail
  refine (vkCheck_P (M.out.raw_below b0.out) true hb).mono ?_
  rintro e w2 ⟨_, rfl, d0, rfl⟩
  replace b0 := hide (below_tr b0.out d0)
  clear d0
  go_wp2
  clear L M ha hb
  have bI := b0
  clear b0
  go_loopw [5] (fun iv wr => ∃ (i : Nat), i ≤ n ∧ iv = .int .i64 (i : Nat) ∧ Hid (Below w.heap.size w wr) ∧ Hid ((es.map rvE).take i = (fs.map rvE).take i)) (fun iv _ => n - (intOf iv).toNat)
  case atStart => exact ⟨0, by omega, rfl, bI, by show _ = _; simp⟩
  case round =>
    clear bI
    obtain ⟨i, hi, rfl, b0, eq⟩ := hrel
    by_cases hlt : i < n
    · obtain ⟨p, hp⟩ : ∃ p, (es.map rvE)[i]? = some p := ⟨_, List.getElem?_eq_getElem (by rw [List.length_map, hn.out]; exact hlt)⟩
      obtain ⟨q, hq⟩ : ∃ q, (fs.map rvE)[i]? = some q := ⟨_, List.getElem?_eq_getElem (by rw [List.length_map, hn'.out]; exact hlt)⟩
      obtain ⟨ad, b2, A2, n2, c2, D2, m2, k2, rfl, _, x0, x1, x2, X⟩ := (GA.out.arg_below b0.out).at_ tri_arg hp
      obtain ⟨ad2, b3, A3, n3, c3, D3, m3, k3, rfl, _, y0, y1, y2, Y⟩ := (GB.out.arg_below b0.out).at_ tri_arg hq
      replace X := hide X
      replace Y := hide Y
      have P0 := hide x0
      have P1 := hide x1
      have P2 := hide x2
      have Q0 := hide y0
      have Q1 := hide y1
      have Q2 := hide y2
      replace hp := hide hp
      replace hq := hide hq
      clear x0 x1 x2 y0 y1 y2
      have hlt2 : ¬ ((n : Int) ≤ (i : Int)) := by omega
      have hpq : Hid (H p 100000 ∧ H q 100000) := ⟨z.out p (List.mem_of_getElem? hp.out), z'.out q (List.mem_of_getElem? hq.out)⟩
      by_cases hxy : p = q
      · have hr : Hid (cmpQ p q = 0) := cmpQ_e hxy
        have eq' : Hid ((es.map rvE).take (i + 1) = (fs.map rvE).take (i + 1)) := by
          show _ = _
          rw [List.take_add_one, List.take_add_one, eq.out, hp.out, hq.out, hxy]
        go_wp2
        refine wp_region_facts 10 (fun w' => Below wr.heap.size wr w') [(27, .eq (.slice (some ad) n c)), (28, .eq (.int .i64 (i : Nat))), (29, .eq ((.pointer (some (ad.add (i * 3))) : Value))), (30, .eq (.agg #[.bool b2, .slice A2 n2 c2, .slice D2 m2 k2])), (31, .eq (.slice (some ad2) n c')), (32, .eq (.int .i64 (i : Nat))), (33, .eq ((.pointer (some (ad2.add (i * 3))) : Value))), (34, .eq (.agg #[.bool b3, .slice A3 n3 c3, .slice D3 m3 k3])), (35, .eq (.int .i64 (0))), (36, .eq (.bool false))] [false, false, false, false, false, false, false, false, false, false, false, false, false, false, false, false, false, false, false, false, false, false, false, false, false, false, false, true, true, true, true, true, true, true, true, true, true] mixed (by kernel_rfl) (by kernel_rfl) (by kernel_rfl) (fun _ _ h hb => h.trans (hb.mono h.size)) ((Below.refl _ _).drew) ⟨?_, ?_, ?_, ?_, ?_, ?_, ?_, ?_, ?_, ?_, trivial⟩ ?_
        · exact .moveC (.inl rfl) (.inl rfl) rfl (fun a w' hC hs => (hs 0 (by kernel_rfl)))
        · exact .moveC (.inl rfl) (.inl rfl) rfl (fun a w' hC hs => (hs 5 (by kernel_rfl)))
        · exact .value (.inl rfl) (by intro T e; cases e) rfl rfl (fun a w' hC hs hl => by
            have e0 : a.eval (.tmp 27) = (.slice (some ad) n c) := (hl 27 (by kernel_rfl) (by kernel_rfl))
            have e1 : a.eval (.tmp 28) = (.int .i64 (i : Nat)) := (hl 28 (by kernel_rfl) (by kernel_rfl))
            simp only [execOp, e0, e1]
            simp [go_sem, hlt2])
        · exact .load (.agg #[.bool b2, .slice A2 n2 c2, .slice D2 m2 k2]) (.inl rfl) rfl rfl (fun a w' hC hs hl => by rw [show a.eval (.tmp 29) = (.pointer (some (ad.add (i * 3))) : Value) from (hl 29 (by kernel_rfl) (by kernel_rfl))]; exact ⟨ld_RatAt (cell_below hC P0.out) (cell_below hC P1.out) (cell_below hC P2.out), rfl⟩)
        · exact .moveC (.inl rfl) (.inl rfl) rfl (fun a w' hC hs => (hs 1 (by kernel_rfl)))
        · exact .moveC (.inl rfl) (.inl rfl) rfl (fun a w' hC hs => (hs 5 (by kernel_rfl)))
        · exact .value (.inl rfl) (by intro T e; cases e) rfl rfl (fun a w' hC hs hl => by
            have e0 : a.eval (.tmp 31) = (.slice (some ad2) n c') := (hl 31 (by kernel_rfl) (by kernel_rfl))
            have e1 : a.eval (.tmp 32) = (.int .i64 (i : Nat)) := (hl 32 (by kernel_rfl) (by kernel_rfl))
            simp only [execOp, e0, e1]
            simp [go_sem, hlt2])
        · exact .load (.agg #[.bool b3, .slice A3 n3 c3, .slice D3 m3 k3]) (.inl rfl) rfl rfl (fun a w' hC hs hl => by rw [show a.eval (.tmp 33) = (.pointer (some (ad2.add (i * 3))) : Value) from (hl 33 (by kernel_rfl) (by kernel_rfl))]; exact ⟨ld_RatAt (cell_below hC Q0.out) (cell_below hC Q1.out) (cell_below hC Q2.out), rfl⟩)
        · exact .call (.inl rfl) rfl rfl fq4_assayerref03_Cmp (fun a w' hC hs hl => by
            show Calls _ _ #[a.eval (.tmp 30), a.eval (.tmp 34)] _ _
            rw [show a.eval (.tmp 30) = (.agg #[.bool b2, .slice A2 n2 c2, .slice D2 m2 k2] : Value) from (hl 30 (by kernel_rfl) (by kernel_rfl)), show a.eval (.tmp 34) = (.agg #[.bool b3, .slice A3 n3 c3, .slice D3 m3 k3] : Value) from (hl 34 (by kernel_rfl) (by kernel_rfl))]
            exact krCmp_eq (X.out.below hC) (Y.out.below hC) hpq.out.1 hpq.out.2 hr.out)
        · exact .value (.inl rfl) (by intro T e; cases e) rfl rfl (fun a w' hC hs hl => by
            have e0 : a.eval (.tmp 35) = (.int .i64 (0)) := (hl 35 (by kernel_rfl) (by kernel_rfl))
            simp only [execOp, e0]
            simp only [Act.eval]
            simp [go_sem] <;> rfl)
        · intro f wz hC hF _
          have fz : f 36 = .bool false := hF 36 (by kernel_rfl)
          clear hF
          simp only [patch, List.drop]
          rw [fz]
          clear fz
          try change wpList _ _ _ [] _ _
          generalize f 27 = y27_
          generalize f 28 = y28_
          generalize f 29 = y29_
          generalize f 30 = y30_
          generalize f 31 = y31_
          generalize f 32 = y32_
          generalize f 33 = y33_
          generalize f 34 = y34_
          generalize f 35 = y35_
          have b0' := hide (below_tr b0.out hC)
          clear hC P0 P1 P2 Q0 Q1 Q2 hlt2 X Y hpq hr
          go_wp2
          go_roundw
          case rel => exact ⟨i + 1, by omega, by go_num, b0', eq'⟩
          case measure => simp [intOf]; omega
      · have en : Hid (decide (es.map rvE = fs.map rvE) = false) := by
          show _ = _
          rw [decide_eq_false_iff_not]
          intro e
          have h1 := hp.out
          rw [e, hq.out] at h1
          exact hxy (Option.some.inj h1).symm
        rcases cmpQ_ne hxy with hr | hr
        · replace hr := hide hr
          go_wp2
          refine wp_region_facts 10 (fun w' => Below wr.heap.size wr w') [(27, .eq (.slice (some ad) n c)), (28, .eq (.int .i64 (i : Nat))), (29, .eq ((.pointer (some (ad.add (i * 3))) : Value))), (30, .eq (.agg #[.bool b2, .slice A2 n2 c2, .slice D2 m2 k2])), (31, .eq (.slice (some ad2) n c')), (32, .eq (.int .i64 (i : Nat))), (33, .eq ((.pointer (some (ad2.add (i * 3))) : Value))), (34, .eq (.agg #[.bool b3, .slice A3 n3 c3, .slice D3 m3 k3])), (35, .eq (.int .i64 (1))), (36, .eq (.bool true))] [false, false, false, false, false, false, false, false, false, false, false, false, false, false, false, false, false, false, false, false, false, false, false, false, false, false, false, true, true, true, true, true, true, true, true, true, true] mixed (by kernel_rfl) (by kernel_rfl) (by kernel_rfl) (fun _ _ h hb => h.trans (hb.mono h.size)) ((Below.refl _ _).drew) ⟨?_, ?_, ?_, ?_, ?_, ?_, ?_, ?_, ?_, ?_, trivial⟩ ?_
          · exact .moveC (.inl rfl) (.inl rfl) rfl (fun a w' hC hs => (hs 0 (by kernel_rfl)))
          · exact .moveC (.inl rfl) (.inl rfl) rfl (fun a w' hC hs => (hs 5 (by kernel_rfl)))
          · exact .value (.inl rfl) (by intro T e; cases e) rfl rfl (fun a w' hC hs hl => by
              have e0 : a.eval (.tmp 27) = (.slice (some ad) n c) := (hl 27 (by kernel_rfl) (by kernel_rfl))
              have e1 : a.eval (.tmp 28) = (.int .i64 (i : Nat)) := (hl 28 (by kernel_rfl) (by kernel_rfl))
              simp only [execOp, e0, e1]
              simp [go_sem, hlt2])
          · exact .load (.agg #[.bool b2, .slice A2 n2 c2, .slice D2 m2 k2]) (.inl rfl) rfl rfl (fun a w' hC hs hl => by rw [show a.eval (.tmp 29) = (.pointer (some (ad.add (i * 3))) : Value) from (hl 29 (by kernel_rfl) (by kernel_rfl))]; exact ⟨ld_RatAt (cell_below hC P0.out) (cell_below hC P1.out) (cell_below hC P2.out), rfl⟩)
          · exact .moveC (.inl rfl) (.inl rfl) rfl (fun a w' hC hs => (hs 1 (by kernel_rfl)))
          · exact .moveC (.inl rfl) (.inl rfl) rfl (fun a w' hC hs => (hs 5 (by kernel_rfl)))
          · exact .value (.inl rfl) (by intro T e; cases e) rfl rfl (fun a w' hC hs hl => by
              have e0 : a.eval (.tmp 31) = (.slice (some ad2) n c') := (hl 31 (by kernel_rfl) (by kernel_rfl))
              have e1 : a.eval (.tmp 32) = (.int .i64 (i : Nat)) := (hl 32 (by kernel_rfl) (by kernel_rfl))
              simp only [execOp, e0, e1]
              simp [go_sem, hlt2])
          · exact .load (.agg #[.bool b3, .slice A3 n3 c3, .slice D3 m3 k3]) (.inl rfl) rfl rfl (fun a w' hC hs hl => by rw [show a.eval (.tmp 33) = (.pointer (some (ad2.add (i * 3))) : Value) from (hl 33 (by kernel_rfl) (by kernel_rfl))]; exact ⟨ld_RatAt (cell_below hC Q0.out) (cell_below hC Q1.out) (cell_below hC Q2.out), rfl⟩)
          · exact .call (.inl rfl) rfl rfl fq4_assayerref03_Cmp (fun a w' hC hs hl => by
              show Calls _ _ #[a.eval (.tmp 30), a.eval (.tmp 34)] _ _
              rw [show a.eval (.tmp 30) = (.agg #[.bool b2, .slice A2 n2 c2, .slice D2 m2 k2] : Value) from (hl 30 (by kernel_rfl) (by kernel_rfl)), show a.eval (.tmp 34) = (.agg #[.bool b3, .slice A3 n3 c3, .slice D3 m3 k3] : Value) from (hl 34 (by kernel_rfl) (by kernel_rfl))]
              exact krCmp_eq (X.out.below hC) (Y.out.below hC) hpq.out.1 hpq.out.2 hr.out)
          · exact .value (.inl rfl) (by intro T e; cases e) rfl rfl (fun a w' hC hs hl => by
              have e0 : a.eval (.tmp 35) = (.int .i64 (1)) := (hl 35 (by kernel_rfl) (by kernel_rfl))
              simp only [execOp, e0]
              simp only [Act.eval]
              simp [go_sem] <;> rfl)
          · intro f wz hC hF _
            have fz : f 36 = .bool true := hF 36 (by kernel_rfl)
            clear hF
            simp only [patch, List.drop]
            rw [fz]
            clear fz
            try change wpList _ _ _ [] _ _
            generalize f 27 = y27_
            generalize f 28 = y28_
            generalize f 29 = y29_
            generalize f 30 = y30_
            generalize f 31 = y31_
            generalize f 32 = y32_
            generalize f 33 = y33_
            generalize f 34 = y34_
            generalize f 35 = y35_
            have b0' := hide (below_tr b0.out hC)
            clear hC P0 P1 P2 Q0 Q1 Q2 hlt2 X Y hpq hr
            go_wp2
            rw [en.out] at hR
            exact opq_end hR ⟨_, rfl, b0'.out, rfl⟩
        · replace hr := hide hr
          go_wp2
          refine wp_region_facts 10 (fun w' => Below wr.heap.size wr w') [(27, .eq (.slice (some ad) n c)), (28, .eq (.int .i64 (i : Nat))), (29, .eq ((.pointer (some (ad.add (i * 3))) : Value))), (30, .eq (.agg #[.bool b2, .slice A2 n2 c2, .slice D2 m2 k2])), (31, .eq (.slice (some ad2) n c')), (32, .eq (.int .i64 (i : Nat))), (33, .eq ((.pointer (some (ad2.add (i * 3))) : Value))), (34, .eq (.agg #[.bool b3, .slice A3 n3 c3, .slice D3 m3 k3])), (35, .eq (.int .i64 (-1))), (36, .eq (.bool true))] [false, false, false, false, false, false, false, false, false, false, false, false, false, false, false, false, false, false, false, false, false, false, false, false, false, false, false, true, true, true, true, true, true, true, true, true, true] mixed (by kernel_rfl) (by kernel_rfl) (by kernel_rfl) (fun _ _ h hb => h.trans (hb.mono h.size)) ((Below.refl _ _).drew) ⟨?_, ?_, ?_, ?_, ?_, ?_, ?_, ?_, ?_, ?_, trivial⟩ ?_
          · exact .moveC (.inl rfl) (.inl rfl) rfl (fun a w' hC hs => (hs 0 (by kernel_rfl)))
          · exact .moveC (.inl rfl) (.inl rfl) rfl (fun a w' hC hs => (hs 5 (by kernel_rfl)))
          · exact .value (.inl rfl) (by intro T e; cases e) rfl rfl (fun a w' hC hs hl => by
              have e0 : a.eval (.tmp 27) = (.slice (some ad) n c) := (hl 27 (by kernel_rfl) (by kernel_rfl))
              have e1 : a.eval (.tmp 28) = (.int .i64 (i : Nat)) := (hl 28 (by kernel_rfl) (by kernel_rfl))
              simp only [execOp, e0, e1]
              simp [go_sem, hlt2])
          · exact .load (.agg #[.bool b2, .slice A2 n2 c2, .slice D2 m2 k2]) (.inl rfl) rfl rfl (fun a w' hC hs hl => by rw [show a.eval (.tmp 29) = (.pointer (some (ad.add (i * 3))) : Value) from (hl 29 (by kernel_rfl) (by kernel_rfl))]; exact ⟨ld_RatAt (cell_below hC P0.out) (cell_below hC P1.out) (cell_below hC P2.out), rfl⟩)
          · exact .moveC (.inl rfl) (.inl rfl) rfl (fun a w' hC hs => (hs 1 (by kernel_rfl)))
          · exact .moveC (.inl rfl) (.inl rfl) rfl (fun a w' hC hs => (hs 5 (by kernel_rfl)))
          · exact .value (.inl rfl) (by intro T e; cases e) rfl rfl (fun a w' hC hs hl => by
              have e0 : a.eval (.tmp 31) = (.slice (some ad2) n c') := (hl 31 (by kernel_rfl) (by kernel_rfl))
              have e1 : a.eval (.tmp 32) = (.int .i64 (i : Nat)) := (hl 32 (by kernel_rfl) (by kernel_rfl))
              simp only [execOp, e0, e1]
              simp [go_sem, hlt2])
          · exact .load (.agg #[.bool b3, .slice A3 n3 c3, .slice D3 m3 k3]) (.inl rfl) rfl rfl (fun a w' hC hs hl => by rw [show a.eval (.tmp 33) = (.pointer (some (ad2.add (i * 3))) : Value) from (hl 33 (by kernel_rfl) (by kernel_rfl))]; exact ⟨ld_RatAt (cell_below hC Q0.out) (cell_below hC Q1.out) (cell_below hC Q2.out), rfl⟩)
          · exact .call (.inl rfl) rfl rfl fq4_assayerref03_Cmp (fun a w' hC hs hl => by
              show Calls _ _ #[a.eval (.tmp 30), a.eval (.tmp 34)] _ _
              rw [show a.eval (.tmp 30) = (.agg #[.bool b2, .slice A2 n2 c2, .slice D2 m2 k2] : Value) from (hl 30 (by kernel_rfl) (by kernel_rfl)), show a.eval (.tmp 34) = (.agg #[.bool b3, .slice A3 n3 c3, .slice D3 m3 k3] : Value) from (hl 34 (by kernel_rfl) (by kernel_rfl))]
              exact krCmp_eq (X.out.below hC) (Y.out.below hC) hpq.out.1 hpq.out.2 hr.out)
          · exact .value (.inl rfl) (by intro T e; cases e) rfl rfl (fun a w' hC hs hl => by
              have e0 : a.eval (.tmp 35) = (.int .i64 (-1)) := (hl 35 (by kernel_rfl) (by kernel_rfl))
              simp only [execOp, e0]
              simp only [Act.eval]
              simp [go_sem] <;> rfl)
          · intro f wz hC hF _
            have fz : f 36 = .bool true := hF 36 (by kernel_rfl)
            clear hF
            simp only [patch, List.drop]
            rw [fz]
            clear fz
            try change wpList _ _ _ [] _ _
            generalize f 27 = y27_
            generalize f 28 = y28_
            generalize f 29 = y29_
            generalize f 30 = y30_
            generalize f 31 = y31_
            generalize f 32 = y32_
            generalize f 33 = y33_
            generalize f 34 = y34_
            generalize f 35 = y35_
            have b0' := hide (below_tr b0.out hC)
            clear hC P0 P1 P2 Q0 Q1 Q2 hlt2 X Y hpq hr
            go_wp2
            rw [en.out] at hR
            exact opq_end hR ⟨_, rfl, b0'.out, rfl⟩
    · obtain rfl : i = n := by omega
      have en : Hid (decide (es.map rvE = fs.map rvE) = true) := by
        show _ = _
        rw [decide_eq_true_eq]
        have h1 := eq.out
        rwa [List.take_of_length_le (by rw [List.length_map, hn.out]; exact Nat.le_refl _), List.take_of_length_le (by rw [List.length_map, hn'.out]; exact Nat.le_refl _)] at h1
      go_wp2
      rw [en.out] at hR
      exact opq_end hR ⟨_, rfl, b0.out, rfl⟩
set_option maxHeartbeats 1000000 in
theorem vkDot_bad {w : World} {v v' : Value} {es fs : List Raw} (h : Lst RRaw w v es) (h' : Lst RRaw w v' fs) (hb : fits es fs = false) :
    Calls Tryz.prog 37 #[v, v'] w fun e w' => ∃ u, e = .returned u ∧ Below w.heap.size w w' ∧ u = .tuple #[.agg #[.bool false, .slice none 0 0, .slice none 0 0], .int .i64 1] := by
  refine opq fun R hR => ?_
  obtain ⟨A, c, rfl⟩ := h.sl
  obtain ⟨A', c', rfl⟩ := h'.sl
  have b0 := hide (Below.refl w.heap.size w)
  go_enter Tryz.func37, Tryz.ntmps37
  have K4 := hide (Blk.new w TR #[.bool false, .slice none 0 0, .slice none 0 0])
  have y4 : Below w.heap.size w (w.alloc (.cells #[.bool false, .slice none 0 0, .slice none 0 0] TR)) := (Below.refl _ _).alloc (Nat.le_refl _) _
  replace b0 := hide y4
  clear y4
  rcases fits_not hb with hl | ⟨hl, ha⟩ | ⟨hl, ha, hb⟩
  · have hl2 : ¬ ((es.length : Int) = (fs.length : Int)) := by omega
    generalize es.length = n at *
    generalize fs.length = n' at *
    have c0 := K4.out.at_ 0 rfl
    have c1 := K4.out.at_ 1 rfl
    have c2 := K4.out.at_ 2 rfl
    have f0 := K4.out.frozen 0
    have f1 := K4.out.frozen 1
    have f2 := K4.out.frozen 2
    go_wp2
    refine bodyPost_ret (v := .tuple #[.agg #[.bool false, .slice none 0 0, .slice none 0 0], .int .i64 1]) (by simp [results, Tryz.results37, go_sem, c0, c1, c2, f0, f1, f2]) rfl ?_
    exact opq_end hR ⟨_, rfl, (by (repeat (first | exact b0.out | exact Below.refl _ _ | refine Below.setCell ?_ (by first | (simp; done) | (simp; omega)) _ | refine Below.alloc ?_ (by first | (simp; done) | (simp; omega)) _))), rfl⟩
  · rw [← hl] at h' ⊢
    clear hl
    generalize es.length = n at *
    replace h := hide h
    replace h' := hide h'
    go_wp2_with fail
    refine (vkCheck_P (h.out.raw_below b0.out) false ha).mono ?_
    rintro e w1 ⟨_, rfl, d0, rfl⟩
    replace b0 := hide (below_tr b0.out d0)
    replace K4 := hide (K4.out.below' d0)
    clear d0
    have c0 := K4.out.at_ 0 rfl
    have c1 := K4.out.at_ 1 rfl
    have c2 := K4.out.at_ 2 rfl
    have f0 := K4.out.frozen 0
    have f1 := K4.out.frozen 1
    have f2 := K4.out.frozen 2
    go_wp2
    refine bodyPost_ret (v := .tuple #[.agg #[.bool false, .slice none 0 0, .slice none 0 0], .int .i64 1]) (by simp [results, Tryz.results37, go_sem, c0, c1, c2, f0, f1, f2]) rfl ?_
    exact opq_end hR ⟨_, rfl, (by (repeat (first | exact b0.out | exact Below.refl _ _ | refine Below.setCell ?_ (by first | (simp; done) | (simp; omega)) _ | refine Below.alloc ?_ (by first | (simp; done) | (simp; omega)) _))), rfl⟩
  · rw [← hl] at h' ⊢
    clear hl
    generalize es.length = n at *
    replace h := hide h
    replace h' := hide h'
    go_wp2_with fail
    refine (vkCheck_P (h.out.raw_below b0.out) true ha).mono ?_
    rintro e w1 ⟨_, rfl, d0, rfl⟩
    replace b0 := hide (below_tr b0.out d0)
    replace K4 := hide (K4.out.below' d0)
    clear d0
    go_wp2_with fail
    refine (vkCheck_P (h'.out.raw_below b0.out) false hb).mono ?_
    rintro e w2 ⟨_, rfl, d0, rfl⟩
    replace b0 := hide (below_tr b0.out d0)
    replace K4 := hide (K4.out.below' d0)
    clear d0
    have c0 := K4.out.at_ 0 rfl
    have c1 := K4.out.at_ 1 rfl
    have c2 := K4.out.at_ 2 rfl
    have f0 := K4.out.frozen 0
    have f1 := K4.out.frozen 1
    have f2 := K4.out.frozen 2
    go_wp2
    refine bodyPost_ret (v := .tuple #[.agg #[.bool false, .slice none 0 0, .slice none 0 0], .int .i64 1]) (by simp [results, Tryz.results37, go_sem, c0, c1, c2, f0, f1, f2]) rfl ?_
    exact opq_end hR ⟨_, rfl, (by (repeat (first | exact b0.out | exact Below.refl _ _ | refine Below.setCell ?_ (by first | (simp; done) | (simp; omega)) _ | refine Below.alloc ?_ (by first | (simp; done) | (simp; omega)) _))), rfl⟩
set_option maxHeartbeats 4000000 in
theorem vkDot_ok {w : World} {v v' : Value} {es fs : List Raw} (h : Lst RRaw w v es) (g : Lst RArg w v (es.map rvE)) (h' : Lst RRaw w v' fs) (g' : Lst RArg w v' (fs.map rvE)) (hf : fits es fs = true) (k : Nat) (z : Hs (es.map rvE) k) (z' : Hs (fs.map rvE) k) (hk : 1 + es.length * (2 * k + 1) ≤ 100000000000) :
    Calls Tryz.prog 37 #[v, v'] w fun e w' => ∃ u, e = .returned (.tuple #[u, .int .i64 0]) ∧ Below w.heap.size w w' ∧ RatR (dot (es.map rvE) (fs.map rvE)) w.heap.size w' u := by
  refine opq fun R hR => ?_
  obtain ⟨A, c, rfl⟩ := h.sl
  obtain ⟨A', c', rfl⟩ := h'.sl
  obtain ⟨hl, ha, hb⟩ := fits_parts hf
  have hbn : es.length ≤ 140737488355328 := h.le_
  obtain ⟨n, hn⟩ : ∃ n, Hid (es.length = n) := ⟨_, rfl⟩
  have hn' : Hid (fs.length = n) := by rw [← hl]; exact hn
  rw [hn.out] at h g hbn ⊢
  rw [hn'.out] at h' g' ⊢
  have L := hide h
  have M := hide h'
  have GA := hide g
  have GB := hide g'
  have b0 := hide (Below.refl w.heap.size w)
  clear h h' g g' hf hl
  replace z := hide z
  replace z' := hide z'
  rw [hn.out] at hk
  go_enter Tryz.func37, Tryz.ntmps37
  have K4 := hide (Blk.new w TR #[.bool false, .slice none 0 0, .slice none 0 0])
  have y4 : Below w.heap.size w (w.alloc (.cells #[.bool false, .slice none 0 0, .slice none 0 0] TR)) := (Below.refl _ _).alloc (Nat.le_refl _) _
  replace b0 := hide y4
  clear y4
  go_wp2_with fail
  refine (vkCheck_P (L.out.raw_below b0.out) true ha).mono ?_
  rintro e w1 ⟨_, rfl, d0, rfl⟩
  replace b0 := hide (below_tr b0.out d0)
  replace K4 := hide (K4.out.below' d0)
  clear d0
  go_wp2_with fail
  refine (vkCheck_P (M.out.raw_below b0.out) true hb).mono ?_
  rintro e w2 ⟨_, rfl, d0, rfl⟩
  replace b0 := hide (below_tr b0.out d0)
  replace K4 := hide (K4.out.below' d0)
  clear d0
  go_wp2_with fail
  refine (krOf_P _ 0 (by omega) (by omega)).mono ?_
  rintro e w3 ⟨u0, rfl, d0, r0⟩
  have r1 := hide (r0.mono (B' := w.heap.size) b0.out.size)
  replace b0 := hide (below_tr b0.out d0)
  replace K4 := hide (K4.out.below' d0)
  clear d0 r0
  obtain ⟨b4, A4, n4, c4, D4, m4, k4, rfl⟩ := r1.out.slice
  have KB := hide (Blk.new w3 TR #[.bool b4, .slice A4 n4 c4, .slice D4 m4 k4])
  have y6 : Below w3.heap.size w3 (w3.alloc (.cells #[.bool b4, .slice A4 n4 c4, .slice D4 m4 k4] TR)) := (Below.refl _ _).alloc (Nat.le_refl _) _
  have hw4 := K4.out.lt
  replace K4 := hide (K4.out.below' y6)
  replace r1 := hide (r1.out.below y6)
  have hpb := hide b0.out.size
  replace b0 := hide (below_tr b0.out y6)
  clear y6
  go_wp2
  obtain ⟨W0, hW0⟩ : ∃ W0, w3.alloc (.cells #[.bool b4, .slice A4 n4 c4, .slice D4 m4 k4] TR) = W0 := ⟨_, rfl⟩
  obtain ⟨pb, hp0⟩ : ∃ pb, w3.heap.size = pb := ⟨_, rfl⟩
  rw [hW0] at KB K4 r1 b0
  rw [hp0] at KB hpb hw4
  rw [hW0, hp0]
  have hne : Hid (pb ≠ w.heap.size) := Nat.ne_of_gt hw4
  clear hW0 hp0
  have KB' : Hid (∃ b A n c D m k, Blk W0 pb TR #[.bool b, .slice A n c, .slice D m k] ∧ RatR (dotA 0 (((es.map rvE).zip (fs.map rvE)).take 0)) w.heap.size W0 (.agg #[.bool b, .slice A n c, .slice D m k])) := ⟨_, _, _, _, _, _, _, KB.out, r1.out⟩
  have K4' : Hid (Blk W0 w.heap.size TR #[.bool false, .slice none 0 0, .slice none 0 0]) := K4.out
  have bI := b0
  clear KB r1 K4 b0 L M ha hb hw4
  go_loopw [7] (fun iv wr => ∃ (i : Nat), i ≤ n ∧ iv = .int .i64 (i : Nat) ∧ Hid (Below w.heap.size w wr) ∧ Hid (Blk wr w.heap.size TR #[.bool false, .slice none 0 0, .slice none 0 0]) ∧ Hid (∃ b A n c D m k, Blk wr pb TR #[.bool b, .slice A n c, .slice D m k] ∧ RatR (dotA 0 (((es.map rvE).zip (fs.map rvE)).take i)) w.heap.size wr (.agg #[.bool b, .slice A n c, .slice D m k]))) (fun iv _ => n - (intOf iv).toNat)
  case atStart => exact ⟨0, by omega, rfl, bI, K4', KB'⟩
  case round =>
    clear bI K4' KB'
    obtain ⟨i, hi, rfl, b0, K4, KB⟩ := hrel
    obtain ⟨b4, A4, n4, c4, D4, m4, k4, KB, SR⟩ := KB.out
    replace KB := hide KB
    replace SR := hide SR
    by_cases hlt : i < n
    · obtain ⟨p, hp⟩ : ∃ p, (es.map rvE)[i]? = some p := ⟨_, List.getElem?_eq_getElem (by rw [List.length_map, hn.out]; exact hlt)⟩
      obtain ⟨q, hq⟩ : ∃ q, (fs.map rvE)[i]? = some q := ⟨_, List.getElem?_eq_getElem (by rw [List.length_map, hn'.out]; exact hlt)⟩
      obtain ⟨ad, b2, A2, n2, c2, D2, m2, k2, rfl, _, x0, x1, x2, X⟩ := (GA.out.arg_below b0.out).at_ tri_arg hp
      obtain ⟨ad2, b3, A3, n3, c3, D3, m3, k3, rfl, _, y0, y1, y2, Y⟩ := (GB.out.arg_below b0.out).at_ tri_arg hq
      replace X := hide X
      replace Y := hide Y
      have P0 := hide x0
      have P1 := hide x1
      have P2 := hide x2
      have Q0 := hide y0
      have Q1 := hide y1
      have Q2 := hide y2
      replace hp := hide hp
      replace hq := hide hq
      clear x0 x1 x2 y0 y1 y2
      have hlt2 : ¬ ((n : Int) ≤ (i : Int)) := by omega
      have B0 : Hid (wr.cell? ⟨pb, 0, none⟩ = some (.bool b4)) := KB.out.at_ 0 rfl
      have B1 : Hid (wr.cell? ⟨pb, 1, none⟩ = some (.slice A4 n4 c4)) := KB.out.at_ 1 rfl
      have B2 : Hid (wr.cell? ⟨pb, 2, none⟩ = some (.slice D4 m4 k4)) := KB.out.at_ 2 rfl
      have hmem : Hid (∀ j, j ≤ n → H (dotA 0 (((es.map rvE).zip (fs.map rvE)).take j)) 100000000000) := fun j hj => dot_take_H z.out z'.out j (by rw [List.length_map, hn.out]; exact hj) (by rw [List.length_map, hn.out]; exact hk)
      have hz : Hid (H (dotA 0 (((es.map rvE).zip (fs.map rvE)).take i)) 100000000000) := hmem.out i (by omega)
      have hpq : Hid (H (p * q) 100000000000) := H_mul (z.out p (List.mem_of_getElem? hp.out)) (z'.out q (List.mem_of_getElem? hq.out)) (by have := Nat.mul_le_mul_right (2 * k + 1) (show 1 ≤ n by omega); omega)
      have hT : Hid (((es.map rvE).zip (fs.map rvE)).take (i + 1) = ((es.map rvE).zip (fs.map rvE)).take i ++ [(p, q)]) := by
        show _ = _
        have hzz : ((es.map rvE).zip (fs.map rvE))[i]? = some (p, q) := List.getElem?_zip_eq_some.2 ⟨hp.out, hq.out⟩
        rw [List.take_add_one, hzz]
        rfl
      go_wp2
      refine wp_region_facts 11 (fun w' => Below wr.heap.size wr w') [(31, .eq (.agg #[(.bool b4), (.slice A4 n4 c4), (.slice D4 m4 k4)])), (32, .eq (.slice (some ad) n c)), (33, .eq (.int .i64 (i : Nat))), (34, .eq ((.pointer (some (ad.add (i * 3))) : Value))), (35, .eq (.agg #[.bool b2, .slice A2 n2 c2, .slice D2 m2 k2])), (36, .eq (.slice (some ad2) n c')), (37, .eq (.int .i64 (i : Nat))), (38, .eq ((.pointer (some (ad2.add (i * 3))) : Value))), (39, .eq (.agg #[.bool b3, .slice A3 n3 c3, .slice D3 m3 k3])), (40, (.ratR (p * q) 0)), (41, (.ratR ((dotA 0 (((es.map rvE).zip (fs.map rvE)).take i)) + p * q) w.heap.size))] [false, false, false, false, false, false, false, false, false, false, false, false, false, false, false, false, false, false, false, false, false, false, false, false, false, false, false, false, false, false, false, true, true, true, true, true, true, true, true, true, true, true, false] mixed (by kernel_rfl) (by kernel_rfl) (by kernel_rfl) (fun _ _ h hb => h.trans (hb.mono h.size)) ((Below.refl _ _).drew) ⟨?_, ?_, ?_, ?_, ?_, ?_, ?_, ?_, ?_, ?_, ?_, trivial⟩ ?_
      · exact .load (.agg #[(.bool b4), (.slice A4 n4 c4), (.slice D4 m4 k4)]) (.inl rfl) rfl rfl (fun a w' hC hs hl => by rw [show a.eval (.tmp 6) = (.pointer (some ⟨pb, 0, none⟩) : Value) from (hs 6 (by kernel_rfl))]; exact ⟨by simp [go_sem, cell_below hC B0.out, cell_below hC B1.out, cell_below hC B2.out], rfl⟩)
      · exact .moveC (.inl rfl) (.inl rfl) rfl (fun a w' hC hs => (hs 0 (by kernel_rfl)))
      · exact .moveC (.inl rfl) (.inl rfl) rfl (fun a w' hC hs => (hs 7 (by kernel_rfl)))
      · exact .value (.inl rfl) (by intro T e; cases e) rfl rfl (fun a w' hC hs hl => by
          have e0 : a.eval (.tmp 32) = (.slice (some ad) n c) := (hl 32 (by kernel_rfl) (by kernel_rfl))
          have e1 : a.eval (.tmp 33) = (.int .i64 (i : Nat)) := (hl 33 (by kernel_rfl) (by kernel_rfl))
          simp only [execOp, e0, e1]
          simp [go_sem, hlt2])
      · exact .load (.agg #[.bool b2, .slice A2 n2 c2, .slice D2 m2 k2]) (.inl rfl) rfl rfl (fun a w' hC hs hl => by rw [show a.eval (.tmp 34) = (.pointer (some (ad.add (i * 3))) : Value) from (hl 34 (by kernel_rfl) (by kernel_rfl))]; exact ⟨ld_RatAt (cell_below hC P0.out) (cell_below hC P1.out) (cell_below hC P2.out), rfl⟩)
      · exact .moveC (.inl rfl) (.inl rfl) rfl (fun a w' hC hs => (hs 1 (by kernel_rfl)))
      · exact .moveC (.inl rfl) (.inl rfl) rfl (fun a w' hC hs => (hs 7 (by kernel_rfl)))
      · exact .value (.inl rfl) (by intro T e; cases e) rfl rfl (fun a w' hC hs hl => by
          have e0 : a.eval (.tmp 36) = (.slice (some ad2) n c') := (hl 36 (by kernel_rfl) (by kernel_rfl))
          have e1 : a.eval (.tmp 37) = (.int .i64 (i : Nat)) := (hl 37 (by kernel_rfl) (by kernel_rfl))
          simp only [execOp, e0, e1]
          simp [go_sem, hlt2])
      · exact .load (.agg #[.bool b3, .slice A3 n3 c3, .slice D3 m3 k3]) (.inl rfl) rfl rfl (fun a w' hC hs hl => by rw [show a.eval (.tmp 38) = (.pointer (some (ad2.add (i * 3))) : Value) from (hl 38 (by kernel_rfl) (by kernel_rfl))]; exact ⟨ld_RatAt (cell_below hC Q0.out) (cell_below hC Q1.out) (cell_below hC Q2.out), rfl⟩)
      · exact .call (.inl rfl) rfl rfl fq4_assayerref03_Mul (fun a w' hC hs hl => by
          show Calls _ _ #[a.eval (.tmp 35), a.eval (.tmp 39)] _ _
          rw [show a.eval (.tmp 35) = (.agg #[.bool b2, .slice A2 n2 c2, .slice D2 m2 k2] : Value) from (hl 35 (by kernel_rfl) (by kernel_rfl)), show a.eval (.tmp 39) = (.agg #[.bool b3, .slice A3 n3 c3, .slice D3 m3 k3] : Value) from (hl 39 (by kernel_rfl) (by kernel_rfl))]
          exact (krMul_P (X.out.below hC) (Y.out.below hC)).mono fun e w' ⟨u, h1, h2, h3⟩ => ⟨u, h1, h2, h3.mono (Nat.zero_le _)⟩)
      · exact .call (.inl rfl) rfl rfl fq4_assayerref03_Add (fun a w' hC hs hl => by
          show Calls _ _ #[a.eval (.tmp 31), a.eval (.tmp 40)] _ _
          rw [show a.eval (.tmp 31) = (.agg #[(.bool b4), (.slice A4 n4 c4), (.slice D4 m4 k4)] : Value) from (hl 31 (by kernel_rfl) (by kernel_rfl))]
          exact krAdd_R _ (Nat.le_trans b0.out.size hC.size) ((SR.out.can.below hC).arg hz.out) (((hl 40 (by kernel_rfl) (by kernel_rfl))).can.arg hpq.out))
      · intro f wz hC hF _
        have f41 : RatR ((dotA 0 (((es.map rvE).zip (fs.map rvE)).take i)) + p * q) w.heap.size wz (f 41) := hF 41 (by kernel_rfl)
        clear hF
        simp only [patch, List.drop]
        obtain ⟨b5, A5, n5, c5, D5, m5, k5, e5⟩ := f41.slice
        rw [e5] at f41 ⊢
        clear e5
        generalize f 31 = y31_
        generalize f 32 = y32_
        generalize f 33 = y33_
        generalize f 34 = y34_
        generalize f 35 = y35_
        generalize f 36 = y36_
        generalize f 37 = y37_
        generalize f 38 = y38_
        generalize f 39 = y39_
        generalize f 40 = y40_
        replace f41 := hide f41
        have b1 := hide (below_tr b0.out hC)
        have KB1 := hide (KB.out.below' hC)
        have K41 := hide (K4.out.below' hC)
        clear hC b0 K4 KB SR B0 B1 B2 P0 P1 P2 Q0 Q1 Q2 hlt2 X Y
        have c0 := KB1.out.at_ 0 rfl
        have c1 := KB1.out.at_ 1 rfl
        have c2 := KB1.out.at_ 2 rfl
        have f0 := KB1.out.frozen 0
        have f1 := KB1.out.frozen 1
        have f2 := KB1.out.frozen 2
        have r2 : RatR (dotA 0 (((es.map rvE).zip (fs.map rvE)).take (i + 1))) w.heap.size wz (.agg #[.bool b5, .slice A5 n5 c5, .slice D5 m5 k5]) := by
          rw [hT.out, dotA_snoc]
          exact f41.out
        have O : Only pb wz (((wz.setCell ⟨pb, 0, none⟩ (.bool b5)).setCell ⟨pb, 1, none⟩ (.slice A5 n5 c5)).setCell ⟨pb, 2, none⟩ (.slice D5 m5 k5)) := (((Only.refl _ _).set _ _).set _ _).set _ _
        have r3 := hide (r2.only KB1.out (by decide) O)
        have K6 := hide (((KB1.out.set_ 0 (.bool b5)).set_ 1 (.slice A5 n5 c5)).set_ 2 (.slice D5 m5 k5))
        have K7 : Hid (Blk (((wz.setCell ⟨pb, 0, none⟩ (.bool b5)).setCell ⟨pb, 1, none⟩ (.slice A5 n5 c5)).setCell ⟨pb, 2, none⟩ (.slice D5 m5 k5)) w.heap.size TR #[.bool false, .slice none 0 0, .slice none 0 0]) := ((K41.out.far (p := ⟨pb, 0, none⟩) (fun e => hne.out e.symm) _).far (p := ⟨pb, 1, none⟩) (fun e => hne.out e.symm) _).far (p := ⟨pb, 2, none⟩) (fun e => hne.out e.symm) _
        have b2 : Hid (Below w.heap.size w (((wz.setCell ⟨pb, 0, none⟩ (.bool b5)).setCell ⟨pb, 1, none⟩ (.slice A5 n5 c5)).setCell ⟨pb, 2, none⟩ (.slice D5 m5 k5))) := ((b1.out.setCell (p := ⟨pb, 0, none⟩) hpb.out _).setCell (p := ⟨pb, 1, none⟩) hpb.out _).setCell (p := ⟨pb, 2, none⟩) hpb.out _
        clear r2 O b1 K41 KB1 f41
        go_wp2
        go_roundw
        case rel => exact ⟨i + 1, by omega, by go_num, b2, K7, _, _, _, _, _, _, _, K6.out, r3.out⟩
        case measure => simp [intOf]; omega
    · obtain rfl : i = n := by omega
      have eT : Hid (((es.map rvE).zip (fs.map rvE)).take i = (es.map rvE).zip (fs.map rvE)) := List.take_of_length_le (by rw [List.length_zip, List.length_map, List.length_map, hn.out, hn'.out]; omega)
      rw [eT.out] at SR
      have x0 := KB.out.at_ 0 rfl
      have x1 := KB.out.at_ 1 rfl
      have x2 := KB.out.at_ 2 rfl
      have c0 := K4.out.at_ 0 rfl
      have c1 := K4.out.at_ 1 rfl
      have c2 := K4.out.at_ 2 rfl
      have f0 := K4.out.frozen 0
      have f1 := K4.out.frozen 1
      have f2 := K4.out.frozen 2
      have O : Only w.heap.size wr (((wr.setCell ⟨w.heap.size, 0, none⟩ (.bool b4)).setCell ⟨w.heap.size, 1, none⟩ (.slice A4 n4 c4)).setCell ⟨w.heap.size, 2, none⟩ (.slice D4 m4 k4)) := (((Only.refl _ _).set _ _).set _ _).set _ _
      have r3 := hide (SR.out.only K4.out (by decide) O)
      have b2 : Hid (Below w.heap.size w (((wr.setCell ⟨w.heap.size, 0, none⟩ (.bool b4)).setCell ⟨w.heap.size, 1, none⟩ (.slice A4 n4 c4)).setCell ⟨w.heap.size, 2, none⟩ (.slice D4 m4 k4))) := ((b0.out.setCell (p := ⟨w.heap.size, 0, none⟩) (Nat.le_refl _) _).setCell (p := ⟨w.heap.size, 1, none⟩) (Nat.le_refl _) _).setCell (p := ⟨w.heap.size, 2, none⟩) (Nat.le_refl _) _
      clear O
      go_wp2
      refine bodyPost_ret (v := .tuple #[.agg #[.bool b4, .slice A4 n4 c4, .slice D4 m4 k4], .int .i64 0]) (by simp [results, Tryz.results37, go_sem, c0, c1, c2, f0, f1, f2]) rfl ?_
      exact opq_end hR ⟨_, rfl, b2.out, r3.out⟩
set_option maxHeartbeats 1000000 in
theorem vkAdd_bad1 {w : World} {v v' : Value} {es fs : List Raw} (h : Lst RRaw w v es) (h' : Lst RRaw w v' fs) {u0 : Value} {e0 : Raw} (h0 : RRaw w u0 e0) (hb : fits es fs = false) :
    Calls Tryz.prog 31 #[v, v', u0] w fun e w' => ∃ u, e = .returned u ∧ Below w.heap.size w w' ∧ u = .tuple #[.slice none 0 0, .int .i64 1] := by
  refine opq fun R hR => ?_
  obtain ⟨A, c, rfl⟩ := h.sl
  obtain ⟨A', c', rfl⟩ := h'.sl
  obtain ⟨b9, A9, n9, c9, D9, m9, k9, rfl⟩ := h0.slice
  clear h0
  have b0 := hide (Below.refl w.heap.size w)
  go_enter Tryz.func31, Tryz.ntmps31
  replace b0 := hide ((Below.refl w.heap.size w).alloc (Nat.le_refl _) (.cells #[.bool b9, .slice A9 n9 c9, .slice D9 m9 k9] TR))
  rcases fits_not hb with hl | ⟨hl, ha⟩ | ⟨hl, ha, hb⟩
  · have hl2 : ¬ ((es.length : Int) = (fs.length : Int)) := by omega
    generalize es.length = n at *
    generalize fs.length = n' at *
    go_wp2
    exact opq_end hR ⟨_, rfl, b0.out, rfl⟩
  · rw [← hl] at h' ⊢
    clear hl
    generalize es.length = n at *
    replace h := hide h
    replace h' := hide h'
    go_wp2_with fail
    refine (vkCheck_P (h.out.raw_below b0.out) false ha).mono ?_
    rintro e w1 ⟨_, rfl, d0, rfl⟩
    replace b0 := hide (below_tr b0.out d0)
    clear d0
    go_wp2
    exact opq_end hR ⟨_, rfl, b0.out, rfl⟩
  · rw [← hl] at h' ⊢
    clear hl
    generalize es.length = n at *
    replace h := hide h
    replace h' := hide h'
    go_wp2_with fail
    refine (vkCheck_P (h.out.raw_below b0.out) true ha).mono ?_
    rintro e w1 ⟨_, rfl, d0, rfl⟩
    replace b0 := hide (below_tr b0.out d0)
    clear d0
    go_wp2_with fail
    refine (vkCheck_P (h'.out.raw_below b0.out) false hb).mono ?_
    rintro e w2 ⟨_, rfl, d0, rfl⟩
    replace b0 := hide (below_tr b0.out d0)
    clear d0
    go_wp2
    exact opq_end hR ⟨_, rfl, b0.out, rfl⟩
set_option maxHeartbeats 1000000 in
theorem vkAdd_bad2 {w : World} {v v' u0 : Value} {es fs : List Raw} {e0 : Raw} (h : Lst RRaw w v es) (g : Lst RArg w v (es.map rvE)) (h' : Lst RRaw w v' fs) (g' : Lst RArg w v' (fs.map rvE)) (h0 : RRaw w u0 e0) (hf : fits es fs = true) (hk0 : rk e0 = false) :
    Calls Tryz.prog 31 #[v, v', u0] w fun e w' => ∃ u, e = .returned u ∧ Below w.heap.size w w' ∧ u = .tuple #[.slice none 0 0, .int .i64 1] := by
  refine opq fun R hR => ?_
  obtain ⟨A, c, rfl⟩ := h.sl
  obtain ⟨A', c', rfl⟩ := h'.sl
  obtain ⟨hl, ha, hb⟩ := fits_parts hf
  have hbn : es.length ≤ 140737488355328 := h.le_
  obtain ⟨n, hn⟩ : ∃ n, Hid (es.length = n) := ⟨_, rfl⟩
  have hn' : Hid (fs.length = n) := by rw [← hl]; exact hn
  rw [hn.out] at h g hbn ⊢
  rw [hn'.out] at h' g' ⊢
  have L := hide h
  have M := hide h'
  have GA := hide g
  have GB := hide g'
  have b0 := hide (Below.refl w.heap.size w)
  clear h h' g g' hf hl
  obtain ⟨b9, A9, n9, c9, D9, m9, k9, rfl⟩ := h0.slice
  replace h0 := hide h0
  go_enter Tryz.func31, Tryz.ntmps31
  have KB := hide (Blk.new w TR #[.bool b9, .slice A9 n9 c9, .slice D9 m9 k9])
  replace b0 := hide ((Below.refl w.heap.size w).alloc (Nat.le_refl _) (.cells #[.bool b9, .slice A9 n9 c9, .slice D9 m9 k9] TR))
  go_wp2_with fail
  refine (vkCheck_P (L.out.raw_below b0.out) true ha).mono ?_
  rintro e w1 ⟨_, rfl, d0, rfl⟩
  replace b0 := hide (below_tr b0.out d0)
  replace KB := hide (KB.out.below' d0)
  clear d0
  go_wp2_with fail
  refine (vkCheck_P (M.out.raw_below b0.out) true hb).mono ?_
  rintro e w2 ⟨_, rfl, d0, rfl⟩
  replace b0 := hide (below_tr b0.out d0)
  replace KB := hide (KB.out.below' d0)
  clear d0
  have z0 := KB.out.at_ 0 rfl
  have z1 := KB.out.at_ 1 rfl
  have z2 := KB.out.at_ 2 rfl
  go_wp2_with fail
  refine (krCheck_P (h0.out.below b0.out) false hk0).mono ?_
  rintro e w3 ⟨_, rfl, d0, rfl⟩
  replace b0 := hide (below_tr b0.out d0)
  replace KB := hide (KB.out.below' d0)
  clear d0 z0 z1 z2
  go_wp2
  exact opq_end hR ⟨_, rfl, b0.out, rfl⟩
set_option maxHeartbeats 4000000 in
theorem vkAdd_ok {w : World} {v v' u0 : Value} {es fs : List Raw} {e0 : Raw} (h : Lst RRaw w v es) (g : Lst RArg w v (es.map rvE)) (h' : Lst RRaw w v' fs) (g' : Lst RArg w v' (fs.map rvE)) (h0 : RRaw w u0 e0) (g0 : RArg w u0 (rvE e0)) (hf : fits es fs = true) (hk0 : rk e0 = true) (k : Nat) (z' : Hs (fs.map rvE) k) (z0 : H (rvE e0) k) (hk : 2 * k ≤ 100000000000) (hm : es.length ≤ 1000000) :
    Calls Tryz.prog 31 #[v, v', u0] w fun e w' => ∃ u, e = .returned (.tuple #[u, .int .i64 0]) ∧ Below w.heap.size w w' ∧ Lst RCan w' u (axpy (es.map rvE) (fs.map rvE) (rvE e0)) := by
  refine opq fun R hR => ?_
  obtain ⟨A, c, rfl⟩ := h.sl
  obtain ⟨A', c', rfl⟩ := h'.sl
  obtain ⟨hl, ha, hb⟩ := fits_parts hf
  have hbn : es.length ≤ 140737488355328 := h.le_
  obtain ⟨n, hn⟩ : ∃ n, Hid (es.length = n) := ⟨_, rfl⟩
  have hn' : Hid (fs.length = n) := by rw [← hl]; exact hn
  rw [hn.out] at h g hbn ⊢
  rw [hn'.out] at h' g' ⊢
  have L := hide h
  have M := hide h'
  have GA := hide g
  have GB := hide g'
  have b0 := hide (Below.refl w.heap.size w)
  clear h h' g g' hf hl
  obtain ⟨b9, A9, n9, c9, D9, m9, k9, rfl⟩ := h0.slice
  replace h0 := hide h0
  have G0 := hide g0
  replace z' := hide z'
  replace z0 := hide z0
  rw [hn.out] at hm
  clear g0
  go_enter Tryz.func31, Tryz.ntmps31
  have KB := hide (Blk.new w TR #[.bool b9, .slice A9 n9 c9, .slice D9 m9 k9])
  replace b0 := hide ((Below.refl w.heap.size w).alloc (Nat.le_refl _) (.cells #[.bool b9, .slice A9 n9 c9, .slice D9 m9 k9] TR))
  go_wp2_with fail
  refine (vkCheck_P (L.out.raw_below b0.out) true ha).mono ?_
  rintro e w1 ⟨_, rfl, d0, rfl⟩
  replace b0 := hide (below_tr b0.out d0)
  replace KB := hide (KB.out.below' d0)
  clear d0
  go_wp2_with fail
  refine (vkCheck_P (M.out.raw_below b0.out) true hb).mono ?_
  rintro e w2 ⟨_, rfl, d0, rfl⟩
  replace b0 := hide (below_tr b0.out d0)
  replace KB := hide (KB.out.below' d0)
  clear d0
  have q0 := KB.out.at_ 0 rfl
  have q1 := KB.out.at_ 1 rfl
  have q2 := KB.out.at_ 2 rfl
  go_wp2_with fail
  refine (krCheck_P (h0.out.below b0.out) true hk0).mono ?_
  rintro e w3 ⟨_, rfl, d0, rfl⟩
  replace b0 := hide (below_tr b0.out d0)
  replace KB := hide (KB.out.below' d0)
  clear d0 q0 q1 q2
  go_wp2
  have bI := b0
  have KI := KB
  clear b0 KB L M ha hb h0 hk0
  go_loopw [8, 9] (fun tv iv wr => ∃ (i : Nat) (T : Option Addr) (cT : Nat), i ≤ n ∧ iv = .int .i64 (i : Nat) ∧ tv = .slice T i cT ∧ Hid (Below w.heap.size w wr) ∧ Hid (Blk wr w.heap.size TR #[.bool b9, .slice A9 n9 c9, .slice D9 m9 k9]) ∧ Hid (OLst wr w3.heap.size (.slice T i cT) ((((es.map rvE).zip (fs.map rvE)).take (i)).map fun x => x.1 + x.2 * rvE e0)) ∧ Hid (w3.heap.size ≤ wr.heap.size)) (fun _ iv _ => n - (intOf iv).toNat)
  case atStart => exact ⟨0, none, 0, by omega, rfl, rfl, bI, KI, OLst.nil _ _, Nat.le_refl _⟩
  case round =>
    have hlt3 := KI.out.lt
    clear bI KI
    obtain ⟨i, T, cT, hi, rfl, rfl, b0, KB, own, hs0⟩ := hrel
    by_cases hlt : i < n
    · obtain ⟨p, hp⟩ : ∃ p, (es.map rvE)[i]? = some p := ⟨_, List.getElem?_eq_getElem (by rw [List.length_map, hn.out]; exact hlt)⟩
      obtain ⟨q, hq⟩ : ∃ q, (fs.map rvE)[i]? = some q := ⟨_, List.getElem?_eq_getElem (by rw [List.length_map, hn'.out]; exact hlt)⟩
      obtain ⟨ad, b2, A2, n2, c2, D2, m2, k2, rfl, _, x0, x1, x2, X⟩ := (GA.out.arg_below b0.out).at_ tri_arg hp
      obtain ⟨ad2, b3, A3, n3, c3, D3, m3, k3, rfl, _, y0, y1, y2, Y⟩ := (GB.out.arg_below b0.out).at_ tri_arg hq
      replace X := hide X
      replace Y := hide Y
      have P0 := hide x0
      have P1 := hide x1
      have P2 := hide x2
      have Q0 := hide y0
      have Q1 := hide y1
      have Q2 := hide y2
      replace hp := hide hp
      replace hq := hide hq
      clear x0 x1 x2 y0 y1 y2
      have hlt2 : ¬ ((n : Int) ≤ (i : Int)) := by omega
      have B0 : Hid (wr.cell? ⟨w.heap.size, 0, none⟩ = some (.bool b9)) := KB.out.at_ 0 rfl
      have B1 : Hid (wr.cell? ⟨w.heap.size, 1, none⟩ = some (.slice A9 n9 c9)) := KB.out.at_ 1 rfl
      have B2 : Hid (wr.cell? ⟨w.heap.size, 2, none⟩ = some (.slice D9 m9 k9)) := KB.out.at_ 2 rfl
      have hpq : Hid (H (q * rvE e0) 100000000000) := H_mul (z'.out q (List.mem_of_getElem? hq.out)) z0.out (by omega)
      have hT : Hid (((((es.map rvE).zip (fs.map rvE)).take (i + 1)).map fun x => x.1 + x.2 * rvE e0) = ((((es.map rvE).zip (fs.map rvE)).take (i)).map fun x => x.1 + x.2 * rvE e0) ++ [p + q * rvE e0]) := by
        show _ = _
        have hzz : ((es.map rvE).zip (fs.map rvE))[i]? = some (p, q) := List.getElem?_zip_eq_some.2 ⟨hp.out, hq.out⟩
        rw [List.take_add_one, hzz, List.map_append]
        rfl
      have hlen : Hid (((((es.map rvE).zip (fs.map rvE)).take (i)).map fun x => x.1 + x.2 * rvE e0).length = i) := by
        show _ = _
        rw [List.length_map, List.length_take, List.length_zip, List.length_map, List.length_map, hn.out, hn'.out]; omega
      go_wp2
      refine wp_region_facts 13 (fun w' => Below wr.heap.size wr w') [(36, .eq (.slice T i cT)), (37, .eq (.slice (some ad) n c)), (38, .eq (.int .i64 (i : Nat))), (39, .eq ((.pointer (some (ad.add (i * 3))) : Value))), (40, .eq (.agg #[.bool b2, .slice A2 n2 c2, .slice D2 m2 k2])), (41, .eq (.slice (some ad2) n c')), (42, .eq (.int .i64 (i : Nat))), (43, .eq ((.pointer (some (ad2.add (i * 3))) : Value))), (44, .eq (.agg #[.bool b3, .slice A3 n3 c3, .slice D3 m3 k3])), (45, .eq (.agg #[(.bool b9), (.slice A9 n9 c9), (.slice D9 m9 k9)])), (46, (.ratR (q * rvE e0) 0)), (47, (.ratR (p + q * rvE e0) wr.heap.size)), (48, (.sl1 (p + q * rvE e0) wr.heap.size))] [false, false, false, false, false, false, false, false, false, false, false, false, false, false, false, false, false, false, false, false, false, false, false, false, false, false, false, false, false, false, false, false, false, false, false, false, true, true, true, true, true, true, true, true, true, true, true, true, true, false, false] mixed (by kernel_rfl) (by kernel_rfl) (by kernel_rfl) (fun _ _ h hb => h.trans (hb.mono h.size)) ((Below.refl _ _).drew) ⟨?_, ?_, ?_, ?_, ?_, ?_, ?_, ?_, ?_, ?_, ?_, ?_, ?_, trivial⟩ ?_
      · exact .moveC (.inl rfl) (.inl rfl) rfl (fun a w' hC hs => (hs 8 (by kernel_rfl)))
      · exact .moveC (.inl rfl) (.inl rfl) rfl (fun a w' hC hs => (hs 0 (by kernel_rfl)))
      · exact .moveC (.inl rfl) (.inl rfl) rfl (fun a w' hC hs => (hs 9 (by kernel_rfl)))
      · exact .value (.inl rfl) (by intro T e; cases e) rfl rfl (fun a w' hC hs hl => by
          have e0 : a.eval (.tmp 37) = (.slice (some ad) n c) := (hl 37 (by kernel_rfl) (by kernel_rfl))
          have e1 : a.eval (.tmp 38) = (.int .i64 (i : Nat)) := (hl 38 (by kernel_rfl) (by kernel_rfl))
          simp only [execOp, e0, e1]
          simp [go_sem, hlt2])
      · exact .load (.agg #[.bool b2, .slice A2 n2 c2, .slice D2 m2 k2]) (.inl rfl) rfl rfl (fun a w' hC hs hl => by rw [show a.eval (.tmp 39) = (.pointer (some (ad.add (i * 3))) : Value) from (hl 39 (by kernel_rfl) (by kernel_rfl))]; exact ⟨ld_RatAt (cell_below hC P0.out) (cell_below hC P1.out) (cell_below hC P2.out), rfl⟩)
      · exact .moveC (.inl rfl) (.inl rfl) rfl (fun a w' hC hs => (hs 1 (by kernel_rfl)))
      · exact .moveC (.inl rfl) (.inl rfl) rfl (fun a w' hC hs => (hs 9 (by kernel_rfl)))
      · exact .value (.inl rfl) (by intro T e; cases e) rfl rfl (fun a w' hC hs hl => by
          have e0 : a.eval (.tmp 41) = (.slice (some ad2) n c') := (hl 41 (by kernel_rfl) (by kernel_rfl))
          have e1 : a.eval (.tmp 42) = (.int .i64 (i : Nat)) := (hl 42 (by kernel_rfl) (by kernel_rfl))
          simp only [execOp, e0, e1]
          simp [go_sem, hlt2])
      · exact .load (.agg #[.bool b3, .slice A3 n3 c3, .slice D3 m3 k3]) (.inl rfl) rfl rfl (fun a w' hC hs hl => by rw [show a.eval (.tmp 43) = (.pointer (some (ad2.add (i * 3))) : Value) from (hl 43 (by kernel_rfl) (by kernel_rfl))]; exact ⟨ld_RatAt (cell_below hC Q0.out) (cell_below hC Q1.out) (cell_below hC Q2.out), rfl⟩)
      · exact .load (.agg #[(.bool b9), (.slice A9 n9 c9), (.slice D9 m9 k9)]) (.inl rfl) rfl rfl (fun a w' hC hs hl => by rw [show a.eval (.tmp 5) = (.pointer (some ⟨w.heap.size, 0, none⟩) : Value) from (hs 5 (by kernel_rfl))]; exact ⟨by simp [go_sem, cell_below hC B0.out, cell_below hC B1.out, cell_below hC B2.out], rfl⟩)
      · exact .call (.inl rfl) rfl rfl fq4_assayerref03_Mul (fun a w' hC hs hl => by
          show Calls _ _ #[a.eval (.tmp 44), a.eval (.tmp 45)] _ _
          rw [show a.eval (.tmp 44) = (.agg #[.bool b3, .slice A3 n3 c3, .slice D3 m3 k3] : Value) from (hl 44 (by kernel_rfl) (by kernel_rfl)), show a.eval (.tmp 45) = (.agg #[(.bool b9), (.slice A9 n9 c9), (.slice D9 m9 k9)] : Value) from (hl 45 (by kernel_rfl) (by kernel_rfl))]
          exact (krMul_P (Y.out.below hC) (G0.out.below (below_tr b0.out hC))).mono fun e w' ⟨u, h1, h2, h3⟩ => ⟨u, h1, h2, h3.mono (Nat.zero_le _)⟩)
      · exact .call (.inl rfl) rfl rfl fq4_assayerref03_Add (fun a w' hC hs hl => by
          show Calls _ _ #[a.eval (.tmp 40), a.eval (.tmp 46)] _ _
          rw [show a.eval (.tmp 40) = (.agg #[.bool b2, .slice A2 n2 c2, .slice D2 m2 k2] : Value) from (hl 40 (by kernel_rfl) (by kernel_rfl))]
          exact krAdd_R _ hC.size (X.out.below hC) (((hl 46 (by kernel_rfl) (by kernel_rfl))).can.arg hpq.out))
      · exact .makeW (.inl rfl) (by intro T e; cases e) rfl (fun a w' hC hs hl => by
          have e0 : RatR ((p + q * rvE e0)) wr.heap.size w' (a.eval (.tmp 47)) := (hl 47 (by kernel_rfl) (by kernel_rfl))
          obtain ⟨b5, A5, n5, c5, D5, m5, k5, e5⟩ := e0.slice
          rw [e5] at e0
          have e6 : a.tmps[47]?.getD undef = _ := (by simp [Act.eval] : _ = a.eval (.tmp 47)).trans e5
          have yy : Below w'.heap.size w' (w'.alloc (.cells #[.bool b5, .slice A5 n5 c5, .slice D5 m5 k5] TR)) := (Below.refl _ _).alloc (Nat.le_refl _) _
          exact ⟨.slice (some ⟨w'.heap.size, 0, none⟩) 1 1, w'.alloc (.cells #[.bool b5, .slice A5 n5 c5, .slice D5 m5 k5] TR), by simp [execOp, Act.eval, go_sem, e6], yy, _, b5, A5, n5, c5, D5, m5, k5, rfl, Blk.new _ _ _, e0.below yy⟩)
      · intro f wz hC hF _
        have f36 : f 36 = .slice T i cT := hF 36 (by kernel_rfl)
        have f48 : (Fact.sl1 (p + q * rvE e0) wr.heap.size).holds (f 48) wz := hF 48 (by kernel_rfl)
        clear hF
        obtain ⟨g9, b5, A5, n5, c5, D5, m5, k5, e48, GK, R2⟩ := f48
        simp only [patch, List.drop]
        rw [f36, e48]
        clear f36 e48
        generalize f 37 = y37_
        generalize f 38 = y38_
        generalize f 39 = y39_
        generalize f 40 = y40_
        generalize f 41 = y41_
        generalize f 42 = y42_
        generalize f 43 = y43_
        generalize f 44 = y44_
        generalize f 45 = y45_
        generalize f 46 = y46_
        generalize f 47 = y47_
        replace GK := hide GK
        replace R2 := hide R2
        have D2 := hide hC
        have b1 := hide (below_tr b0.out hC)
        have KB1 := hide (KB.out.below' hC)
        have hs1 := hide (Nat.le_trans hs0.out hC.size)
        clear hC b0 KB B0 B1 B2 P0 P1 P2 Q0 Q1 Q2 hlt2 X Y
        refine wpList_appO rfl _ _ rfl w3.heap.size _ ((((es.map rvE).zip (fs.map rvE)).take (i)).map fun x => x.1 + x.2 * rvE e0) rfl own.out D2.out hs0.out rfl GK.out R2.out (by rw [hlen.out]; omega) hs1.out ?_
        intro v' w6 q1 q2 q3
        have q4 : Hid (OLst w6 w3.heap.size v' ((((es.map rvE).zip (fs.map rvE)).take (i + 1)).map fun x => x.1 + x.2 * rvE e0)) := by
          show OLst _ _ _ _
          rw [hT.out]
          exact q1.out
        obtain ⟨T', cT', rfl⟩ := q4.out.slice
        have hlen2 : Hid (((((es.map rvE).zip (fs.map rvE)).take (i + 1)).map fun x => x.1 + x.2 * rvE e0).length = i + 1) := by
          show _ = _
          rw [hT.out, List.length_append, hlen.out]
          rfl
        rw [hlen2.out] at q4 ⊢
        have K6 := hide (KB1.out.below q2.out hlt3)
        have b2 : Hid (Below w.heap.size w w6) := b1.out.trans (q2.out.mono (Nat.le_of_lt hlt3))
        go_wp2
        go_roundw
        case rel => exact ⟨i + 1, T', cT', by omega, by go_num, rfl, b2, K6, q4, q3⟩
        case measure => simp [intOf]; omega
    · obtain rfl : i = n := by omega
      have eT : Hid (((((es.map rvE).zip (fs.map rvE)).take (i)).map fun x => x.1 + x.2 * rvE e0) = axpy (es.map rvE) (fs.map rvE) (rvE e0)) := by
        show _ = _
        rw [List.take_of_length_le (by rw [List.length_zip, List.length_map, List.length_map, hn.out, hn'.out]; omega)]
        rfl
      have hla : Hid ((axpy (es.map rvE) (fs.map rvE) (rvE e0)).length ≤ 1000000) := by
        show _ ≤ _
        rw [axpy, List.length_map, List.length_zip, List.length_map, List.length_map, hn.out, hn'.out]; omega
      rw [eT.out] at own
      go_wp2
      exact opq_end hR ⟨_, rfl, b0.out, own.out.lst hla.out⟩
end Go.Proofs.YtkefmeddnncacaaGreatDoor

/- laws of vecs that compare: words; Zero of any number. -/
set_option linter.unusedVariables false
set_option linter.unusedSimpArgs false
set_option maxRecDepth 100000
namespace Go.Proofs.YtkefmeddnncacaaGreatDoor
open Go.RowKit

theorem BookF.new {B : Nat} {w : World} (hB : B ≤ w.heap.size) : BookF B (w.alloc (.cells #[.int .i64 0, .slice none 0 0, .slice none 0 0, .slice none 0 0, .slice none 0 0, .slice none 0 0, .slice none 0 0, .slice none 0 0, .slice none 0 0, .slice none 0 0, .slice none 0 0, .slice none 0 0, .slice none 0 0] TBK)) w.heap.size 0 (.slice none 0 0) (.slice none 0 0) [] [] :=
  ⟨⟨Blk.new w TBK _, hB, rfl, .inl ⟨rfl, rfl⟩⟩, ⟨Blk.new w TBK _, hB, rfl, .inl ⟨rfl, rfl⟩⟩⟩
end Go.Proofs.YtkefmeddnncacaaGreatDoor
