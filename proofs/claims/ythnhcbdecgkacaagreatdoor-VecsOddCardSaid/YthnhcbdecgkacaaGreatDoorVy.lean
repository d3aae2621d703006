/- the laws of vecs: VecsOdd. -/
import Derived.Test.YthnhcbdecgkacaaGreatDoorVx
set_option linter.unusedVariables false
set_option linter.unusedSimpArgs false
set_option maxRecDepth 100000
namespace Go.Proofs.YthnhcbdecgkacaaGreatDoor
open Go.RowKit

def oddE : Raw := (false, [2], [2])
theorem rk_odd : rk oddE = false := by decide +kernel
theorem rv_odd : rvE oddE = 0 := by decide +kernel
theorem all_odd {es : List Raw} {k : Nat} (h : k < es.length) : (es.set k oddE).all rk = false := by
  rw [List.all_eq_false]
  exact ⟨oddE, List.mem_set h _, by rw [rk_odd]; simp⟩
theorem fits_odd1 {es fs : List Raw} (h : fs.all rk = false) : fits es fs = false := by
  unfold fits
  rw [h, Bool.and_false]
theorem fits_odd2 {es fs : List Raw} (h : es.all rk = false) : fits es fs = false := by
  unfold fits
  rw [h, Bool.and_false, Bool.false_and]
theorem odd_raw {w : World} {g2 g3 : Nat} (h2 : Blk w g2 T32 #[.int .u32 2]) (h3 : Blk w g3 T32 #[.int .u32 2]) : RRaw w (.agg #[.bool false, .slice (some ⟨g2, 0, none⟩) 1 1, .slice (some ⟨g3, 0, none⟩) 1 1]) oddE := by
  have key : ∀ g, Blk w g T32 #[.int .u32 2] → Prt w (.slice (some ⟨g, 0, none⟩) 1 1) [2] := fun g h => ⟨_, 1, 1, rfl, Nat.le_refl _, by omega, by
    have := Blk.rd (xs := [2]) (k := .u32) (w := w) (g := g) (t := T32) h 1 (by decide) (by decide)
    exact this, is32d (by decide)⟩
  exact ⟨_, _, rfl, key _ h2, key _ h3⟩
theorem set_rv (es : List Raw) (k : Nat) : (es.set k oddE).map rvE = (es.map rvE).set k 0 := by rw [List.map_set, rv_odd]
theorem vSame_N {w : World} {v v' : Value} {es fs : List Raw} (h : Lst RRaw w v es) (h' : Lst RRaw w v' fs) (hT : Tab w) (hb : fits es fs = false) :
    Calls Tryz.prog 53 #[v, v'] w fun e w' => ∃ u, e = .returned u ∧ Below w.heap.size w w' ∧ u = .bool false := by
  obtain ⟨A, c, rfl⟩ := h.sl
  obtain ⟨A', c', rfl⟩ := h'.sl
  exact vSame_bad w A _ c es A' _ c' fs h h' hT hb
def Since (w0 w : World) : Prop := Below w0.heap.size w0 w
theorem Since.below {w0 w w' : World} (h : Since w0 w) (d : Below w.heap.size w w') : Since w0 w' := below_tr h d
def OEl (B : Nat) (us : List Value) (qs : List Rat) (w : World) : Prop := ∀ (j : Nat) q, qs[j]? = some q → ∃ u, us[j]? = some u ∧ RatR q B w u
theorem OEl.below {B : Nat} {us : List Value} {qs : List Rat} {w w' : World} (h : OEl B us qs w) (d : Below w.heap.size w w') : OEl B us qs w' := fun j q hq => by
  obtain ⟨u, hu, hr⟩ := h j q hq
  exact ⟨u, hu, hr.below d⟩
def Fact.lraw0 (w : World) (es : List Raw) : Fact := ⟨fun v _ => Lst RRaw w v es, fun _ _ _ h _ => h⟩
set_option maxHeartbeats 8000000 in
theorem VecsOdd_ok (w : World) (A1 : Option Addr) (n1 c1 : Nat) (es1 : List Raw) (z : Nat) (h1 : Lst RRw w (.slice A1 n1 c1) es1) (hz : z < 256) (hT : Tab w) :
    Calls Tryz.prog 9 #[.slice A1 n1 c1, .int .u8 (z : Nat)] w fun e w' => e = .returned (.bool true) ∧ Hid (Below w.heap.size w w') := by
  refine opq fun R hR => ?_
  have T := hide hT
  clear hT
  replace h1 := hide h1
  go_enter Tryz.func9, Tryz.ntmps9
  have b0 := hide (Below.refl w.heap.size w)
  go_wp2_with fail
  refine (valive_P _ (T.out.below b0.out)).mono ?_
  rintro e w1 ⟨_, rfl, d0, rfl⟩
  replace b0 := hide (below_tr b0.out d0)
  clear d0
  have GE := hide (show ∀ x ∈ ([gl A1 n1 c1 es1] : List GL), Lst RRw w1 (slv x) x.2 from (List.forall_mem_cons.2 ⟨(h1.out.rw_below b0.out), (fun x hx => by simp at hx)⟩))
  by_cases gg : ([gl A1 n1 c1 es1] : List GL).any gr = true
  case pos =>
    replace gg := hide gg
    have y := (Below.refl w1.heap.size w1).alloc (Nat.le_refl _) (.cells #[.slice A1 n1 c1] 58)
    replace b0 := hide (below_tr b0.out y)
    clear y
    go_wp2_with fail
    refine (vgreat_L (w := w1) [gl A1 n1 c1 es1] #[.slice A1 n1 c1] rfl (g := w1.heap.size) (by simp) GE.out 1 rfl (by decide) true gg.out).mono ?_
    rintro e w2 ⟨_, rfl, d0, rfl⟩
    replace b0 := hide (below_tr b0.out d0)
    clear d0
    go_wp2_with fail
    refine (valive_P _ (T.out.below b0.out)).mono ?_
    rintro e w3 ⟨_, rfl, d0, rfl⟩
    replace b0 := hide (below_tr b0.out d0)
    clear d0
    go_wp2
    exact opq_end hR ⟨rfl, b0⟩
  replace gg : Hid (([gl A1 n1 c1 es1] : List GL).any gr = false) := (by simpa using gg : ([gl A1 n1 c1 es1] : List GL).any gr = false)
  have y := (Below.refl w1.heap.size w1).alloc (Nat.le_refl _) (.cells #[.slice A1 n1 c1] 58)
  replace b0 := hide (below_tr b0.out y)
  clear y
  go_wp2_with fail
  refine (vgreat_L (w := w1) [gl A1 n1 c1 es1] #[.slice A1 n1 c1] rfl (g := w1.heap.size) (by simp) GE.out 1 rfl (by decide) false gg.out).mono ?_
  rintro e w2 ⟨_, rfl, d0, rfl⟩
  replace b0 := hide (below_tr b0.out d0)
  clear d0
  clear GE
  have M1 : Hid (n1 ≤ 30 ∧ tsz es1 ≤ 300) := any_false gg.out (gl A1 n1 c1 es1) (by simp)
  have P1 := hide (h1.out.rawW 300 M1.out.2 (by decide)).1
  have S1 := hide (h1.out.rawW 300 M1.out.2 (by decide)).2
  have N1 : Hid (es1.length = n1) := h1.out.len
  clear gg h1 
  by_cases n0 : n1 = 0
  case pos =>
    obtain rfl : n1 = 0 := n0
    go_wp2_with fail
    refine (valive_P _ (T.out.below b0.out)).mono ?_
    rintro e w3 ⟨_, rfl, d0, rfl⟩
    replace b0 := hide (below_tr b0.out d0)
    clear d0
    go_wp2
    exact opq_end hR ⟨rfl, b0⟩
  have nz : ((n1 : Int) == 0) = false := by simpa using n0
  have np : Hid (0 < n1) := (by omega : 0 < n1)
  clear n0
  by_cases r1 : es1.all rk = false
  case pos =>
    replace r1 := hide r1
    go_wp2_with fail
    refine (vCheck_L (P1.out.raw_below b0.out) (T.out.below b0.out) false r1.out).mono ?_
    rintro e w3 ⟨_, rfl, d0, rfl⟩
    replace b0 := hide (below_tr b0.out d0)
    clear d0
    go_wp2_with fail
    refine (valive_P _ (T.out.below b0.out)).mono ?_
    rintro e w4 ⟨_, rfl, d0, rfl⟩
    replace b0 := hide (below_tr b0.out d0)
    clear d0
    go_wp2
    exact opq_end hR ⟨rfl, b0⟩
  replace r1 : Hid (es1.all rk = true) := (by simpa using r1 : es1.all rk = true)
  go_wp2_with fail
  refine (vCheck_L (P1.out.raw_below b0.out) (T.out.below b0.out) true r1.out).mono ?_
  rintro e w3 ⟨_, rfl, d0, rfl⟩
  replace b0 := hide (below_tr b0.out d0)
  clear d0
  have L1 := hide (P1.out.canW r1.out)
  have E1 : Hid ((es1.map rvE).length = n1) := by show _ = _; rw [List.length_map]; exact N1.out
  obtain ⟨k, hk1, hkd⟩ : ∃ k : Nat, k < n1 ∧ Hid (z % n1 = k) := ⟨_, Nat.mod_lt z np.out, rfl⟩
  have hk2 : Int.tmod (z : Int) (n1 : Int) = (k : Int) := by rw [← hkd.out]; norm_cast
  have hn1 : n1 ≤ 30 := M1.out.1
  go_wp2_with (at_builtin; refine wpList_copyR tri_raw (w0 := w) rfl _ _ rfl rfl rfl P1.out b0.out np.out (by omega) ?_; intro us g cap wq q1 q2 q3 q4 q5; have yy := (((Below.refl _ wq).alloc (Nat.le_refl _) (.cells #[.int .u32 2] T32)).alloc (by simp) (.cells #[.int .u32 2] T32)); have RW := hide (q1.out.below yy); obtain ⟨d0_, d1_, d2_, e0_, e1_, e2_, f0_, f1_, f2_⟩ := RW.out.cells hk1; clear yy)
  clear e0_ e1_ e2_ f0_ f1_ f2_
  obtain ⟨V, hV⟩ : ∃ V, (((((wq.alloc (.cells #[.int .u32 2] T32)).alloc (.cells #[.int .u32 2] T32)).setCell ⟨g, k * 3, none⟩ (.bool false)).setCell ⟨g, k * 3 + 1, none⟩ (.slice (some ⟨wq.heap.size, 0, none⟩) 1 1)).setCell ⟨g, k * 3 + 2, none⟩ (.slice (some ⟨wq.heap.size + 1, 0, none⟩) 1 1)) = V := ⟨_, rfl⟩
  rw [hV]
  obtain ⟨O9, R9, B9⟩ := RW.out.store q3.out hk1 _ _ _ hV.symm
  clear hV
  have hgl : g < wq.heap.size := by obtain ⟨⟨_, kk, _⟩, _⟩ := q1.out; exact kk.lt
  have BV : Below w.heap.size w V := ((below_tr b0.out q5.out).trans (((Below.refl w.heap.size wq).alloc (below_tr b0.out q5.out).size (.cells #[.int .u32 2] T32)).alloc (by have := (below_tr b0.out q5.out).size; simp; omega) (.cells #[.int .u32 2] T32))).trans (B9 _ (Nat.le_trans b0.out.size q2.out))
  have GA : Blk V wq.heap.size T32 #[.int .u32 2] := ((Blk.new wq T32 #[.int .u32 2]).alloc _).keep (O9.block _ (by omega))
  have GB : Blk V (wq.heap.size + 1) T32 #[.int .u32 2] := (Blk.new_at (wq.alloc (.cells #[.int .u32 2] T32)) (wq.heap.size + 1) (by simp) T32 #[.int .u32 2]).keep (O9.block _ (by omega))
  have OR := odd_raw GA GB
  have LB : Hid (Lst RRaw V (.slice (some ⟨g, 0, none⟩) n1 cap) (es1.set k oddE)) := R9.lst (by rw [List.length_set]; exact N1.out) (fun j q hq => by
    have hus := q1.out.len
    by_cases hj : j = k
    · subst hj
      rw [List.getElem?_set_self (by rw [N1.out]; exact hk1)] at hq
      cases hq
      exact ⟨_, List.getElem?_set_self (by rw [hus]; exact hk1), OR⟩
    · rw [List.getElem?_set_ne (fun e => hj e.symm)] at hq
      obtain ⟨u, hu, hr⟩ := q4.out j q hq
      exact ⟨u, by rw [List.getElem?_set_ne (fun e => hj e.symm)]; exact hu, hr.below BV⟩)
  have H3 : Hid (∀ u ∈ us.set k (.agg #[.bool false, .slice (some ⟨wq.heap.size, 0, none⟩) 1 1, .slice (some ⟨wq.heap.size + 1, 0, none⟩) 1 1]), u.cells.size = 3) := fun u hu => (List.mem_or_eq_of_mem_set hu).elim (q3.out u) (fun e => by rw [e]; rfl)
  have HK : Hid ((us.set k (.agg #[.bool false, .slice (some ⟨wq.heap.size, 0, none⟩) 1 1, .slice (some ⟨wq.heap.size + 1, 0, none⟩) 1 1]))[k]? = some (.agg #[.bool false, .slice (some ⟨wq.heap.size, 0, none⟩) 1 1, .slice (some ⟨wq.heap.size + 1, 0, none⟩) 1 1])) := List.getElem?_set_self (by rw [q1.out.len]; exact hk1)
  replace b0 := hide BV
  replace R9 := hide R9
  have OR2 := hide OR
  have AO : Hid ((es1.set k oddE).all rk = false) := all_odd (by rw [N1.out]; exact hk1)
  clear O9 B9 RW q1 q2 q3 q4 q5 GA GB OR BV hgl
  replace hk2 := hide hk2
  refine (vDot_bad _ _ _ _ _ _ _ _ _ (P1.out.raw_below b0.out) LB.out (T.out.below b0.out) (fits_odd1 AO.out)).mono ?_
  rintro e w4 ⟨rfl, d0⟩
  replace LB := hide (LB.out.raw_below d0)
  replace R9 := hide (R9.out.below d0)
  replace OR2 := hide (OR2.out.below d0)
  replace b0 := hide (below_tr b0.out d0)
  clear d0
  have K7 := hide (Blk.new_at w4 (w4.heap.size) (by simp) 60 #[.bool false, .slice none 0 0, .slice none 0 0])
  have y := (Below.refl w4.heap.size w4).alloc (Nat.le_refl _) (.cells #[.bool false, .slice none 0 0, .slice none 0 0] 60)
  replace LB := hide (LB.out.raw_below y)
  replace R9 := hide (R9.out.below y)
  replace OR2 := hide (OR2.out.below y)
  replace b0 := hide (below_tr b0.out y)
  clear y
  have HO : Hid (H ((1 : Int) : Rat) 2) := H_int (L_up (Z_64 (by decide) (by decide)) (by decide)) (by decide)
  go_wp2_with fail
  refine (rOf_C _ 1 (by decide) (by decide)).mono ?_
  rintro e w5 ⟨v20, rfl, d0, x20⟩
  replace LB := hide (LB.out.raw_below d0)
  replace R9 := hide (R9.out.below d0)
  replace OR2 := hide (OR2.out.below d0)
  replace K7 := hide (K7.out.below' d0)
  replace b0 := hide (below_tr b0.out d0)
  have X20 := hide (x20)
  clear d0
  clear x20
  obtain ⟨b20, A20, n20, c20, D20, m20, k20, rfl⟩ := X20.out.slice
  go_wp2_with fail
  refine (vAdd_bad _ _ _ _ _ _ _ _ _ _ _ _ _ _ _ _ (rawOf ((1 : Int) : Rat)) LB.out (P1.out.raw_below b0.out) (X20.out.prt (HO.out.up (by decide))) (T.out.below b0.out) (by rw [fits_odd2 AO.out]; rfl)).mono ?_
  rintro e w6 ⟨rfl, d0⟩
  replace LB := hide (LB.out.raw_below d0)
  replace R9 := hide (R9.out.below d0)
  replace OR2 := hide (OR2.out.below d0)
  replace K7 := hide (K7.out.below' d0)
  replace X20 := hide (X20.out.below d0)
  replace b0 := hide (below_tr b0.out d0)
  clear d0
  clear X20
  obtain ⟨s0_, s1_, s2_⟩ := R9.out.slot HK.out H3.out
  go_wp2_with fail
  refine (vAdd_bad _ _ _ _ _ _ _ _ _ _ _ _ _ _ _ _ oddE (P1.out.raw_below b0.out) (P1.out.raw_below b0.out) OR2.out (T.out.below b0.out) (by rw [rk_odd, Bool.and_false])).mono ?_
  rintro e w7 ⟨rfl, d0⟩
  replace LB := hide (LB.out.raw_below d0)
  replace R9 := hide (R9.out.below d0)
  replace OR2 := hide (OR2.out.below d0)
  replace K7 := hide (K7.out.below' d0)
  replace b0 := hide (below_tr b0.out d0)
  clear d0
  clear s0_ s1_ s2_
  go_wp2_with fail
  refine (rOf_C _ 1 (by decide) (by decide)).mono ?_
  rintro e w8 ⟨v21, rfl, d0, x21⟩
  replace LB := hide (LB.out.raw_below d0)
  replace R9 := hide (R9.out.below d0)
  replace OR2 := hide (OR2.out.below d0)
  replace K7 := hide (K7.out.below' d0)
  replace b0 := hide (below_tr b0.out d0)
  have X21 := hide (x21)
  clear d0
  clear x21
  obtain ⟨b21, A21, n21, c21, D21, m21, k21, rfl⟩ := X21.out.slice
  have SZ : Hid (∀ e ∈ es1.set k oddE, e.2.1.length ≤ 300 ∧ e.2.2.length ≤ 300) := fun e he => (List.mem_or_eq_of_mem_set he).elim (fun h => by
    have h1 := tsz_mem h
    have h2 := M1.out.2
    unfold rsz at h1
    omega) (fun h => by rw [h]; exact ⟨by decide, by decide⟩)
  have LA : Hid (Lst RArg w8 (.slice (some ⟨g, 0, none⟩) n1 cap) ((es1.set k oddE).map rvE)) := LB.out.imp rvE fun u e he hu => RPrt.arg hu (Nat.le_trans (SZ.out e he).1 (by decide)) (Nat.le_trans (SZ.out e he).2 (by decide))
  have LB8 := hide LB.out
  have OR8 := hide OR2.out
  have R98 := hide R9.out
  have hz8 := hide b0.out.size
  have S8 : Hid (Since w8 w8) := Below.refl _ _
  clear LB
  clear OR2
  clear R9
  go_wp2_with fail
  refine (Scale_ok _ _ _ _ _ _ _ _ _ _ _ _ ((1 : Int) : Rat) LA.out (X21.out.arg (HO.out.up (by decide))) (by omega) (T.out.below b0.out)).mono ?_
  rintro e w9 ⟨v22, rfl, d0', r22⟩
  have d0 := d0'.out
  replace K7 := hide (K7.out.below' d0)
  replace X21 := hide (X21.out.below d0)
  replace S8 := hide (S8.out.below d0)
  replace LA := hide (LA.out.arg_below d0)
  replace b0 := hide (below_tr b0.out d0)
  have OC := hide (r22.out)
  clear d0
  clear d0' r22
  clear LA X21
  rw [castR_one, scale_one, set_rv] at OC
  have EL : ((es1.map rvE).set k 0).length = n1 := by rw [List.length_set]; exact E1.out
  obtain ⟨us2, hu1, hu2, hu3⟩ := OC.out
  rw [EL] at hu1 hu2
  obtain ⟨g2, cap2, rfl, hB2, R10⟩ := row_of_own hu2 hu1 np.out (by omega)
  have H4 : Hid (∀ u ∈ us2, u.cells.size = 3) := Lst.tri3 (E := fun w u q => RatR q _ w u) (w := w9) (fun w u q h => h.slice) (hu1.trans EL.symm) hu3
  obtain ⟨uk, huk, hrk⟩ := hu3 k 0 (List.getElem?_set_self (by rw [E1.out]; exact hk1))
  obtain ⟨b30, A30, n30, c30, D30, m30, k30, rfl⟩ := hrk.slice
  replace R10 := hide R10
  replace hu3 := hide hu3
  replace huk := hide huk
  replace hrk := hide hrk
  have hlen2 := hide hu1
  have hB3 : Hid (w.heap.size ≤ g2) := Nat.le_trans hz8.out hB2
  have hB8 : Hid (w8.heap.size ≤ g2) := hB2
  replace hu3 : Hid (OEl _ us2 _ _) := hu3.out
  clear OC EL hu1 hu2 hB2
  obtain ⟨s0_, s1_, s2_⟩ := R10.out.slot huk.out H4.out
  go_wp2_with fail
  refine (rSign_eq (hrk.out.can.arg (H_zero (by decide))) (T.out.below b0.out) 0 (cmpQ_e rfl)).mono ?_
  rintro e w10 ⟨_, rfl, d0, rfl⟩
  replace K7 := hide (K7.out.below' d0)
  replace S8 := hide (S8.out.below d0)
  replace R10 := hide (R10.out.below d0)
  replace hu3 := hide (hu3.out.below d0)
  replace hrk := hide (hrk.out.below d0)
  replace b0 := hide (below_tr b0.out d0)
  clear d0
  clear s0_ s1_ s2_
  obtain ⟨s0_, s1_, s2_⟩ := R10.out.slot huk.out H4.out
  go_wp2_with fail
  refine (rCheck_can hrk.out.can (H_zero (by decide)) (T.out.below b0.out)).mono ?_
  rintro e w11 ⟨_, rfl, d0, rfl⟩
  replace K7 := hide (K7.out.below' d0)
  replace S8 := hide (S8.out.below d0)
  replace R10 := hide (R10.out.below d0)
  replace hu3 := hide (hu3.out.below d0)
  replace hrk := hide (hrk.out.below d0)
  replace b0 := hide (below_tr b0.out d0)
  clear d0
  clear s0_ s1_ s2_
  obtain ⟨pk, hpk⟩ : ∃ p, (es1.map rvE)[k]? = some p := ⟨_, List.getElem?_eq_getElem (by rw [E1.out]; exact hk1)⟩
  obtain ⟨ad, b31, A31, n31, c31, D31, m31, k31, rfl, _, x0, x1, x2, XX⟩ := L1.out.at_ tri_can hpk
  replace x0 := cell_below b0.out x0
  replace x1 := cell_below b0.out x1
  replace x2 := cell_below b0.out x2
  replace XX := hide XX
  replace hpk := hide hpk
  obtain ⟨d0_, d1_, d2_, e0_, e1_, e2_, f0_, f1_, f2_⟩ := R10.out.cells hk1
  repeat (first | with_reducible refine hold_reg (id := 13) ?_ | go_values | go_skip | go_guarded | go_step | go_upon | go_back | (simp only [Int.not_lt, Int.not_le] at *; go_simp))
  obtain ⟨V2, hV⟩ : ∃ V, (((w11.setCell ⟨g2, k * 3, none⟩ (.bool b31)).setCell ⟨g2, k * 3 + 1, none⟩ (.slice A31 n31 c31)).setCell ⟨g2, k * 3 + 2, none⟩ (.slice D31 m31 k31)) = V := ⟨_, rfl⟩
  rw [hV]
  unfold Hid
  refine wp_seq ?_
  obtain ⟨O9, R11, B9⟩ := R10.out.store H4.out hk1 _ _ _ hV.symm
  clear hV e0_ e1_ e2_ f0_ f1_ f2_ x0 x1 x2
  have S2 := hide (Below.trans S8.out (B9 _ hB8.out))
  have b2 := hide (b0.out.trans (B9 _ hB3.out))
  have LBV := hide (LB8.out.raw_below S2.out)
  have ORV := hide (OR8.out.below S2.out)
  have R9V := hide (R98.out.below S2.out)
  have L1V := hide (L1.out.can_below b2.out)
  have LCV : Hid (Lst RCan V2 (.slice (some ⟨g2, 0, none⟩) n1 cap2) (es1.map rvE)) := R11.lst E1.out (fun j q hq => by
    by_cases hj : j = k
    · subst hj
      rw [hpk.out] at hq
      cases hq
      exact ⟨_, List.getElem?_set_self (by rw [hlen2.out]; exact hk1), XX.out.below b2.out⟩
    · obtain ⟨u, hu, hr⟩ := hu3.out j q (by rw [List.getElem?_set_ne (fun e => hj e.symm)]; exact hq)
      obtain ⟨⟨_, kk, _⟩, _⟩ := R10.out
      exact ⟨u, by rw [List.getElem?_set_ne (fun e => hj e.symm)]; exact hu, (hr.only kk (by decide) O9).can⟩)
  replace b0 := b2
  have HZ : Hid (H (rvE oddE) 1) := by show H _ _; rw [rv_odd]; exact H_zero (Nat.le_refl _)
  obtain ⟨y0, y1, y2⟩ := R9V.out.slot HK.out H3.out
  replace y0 := hide y0
  replace y1 := hide y1
  replace y2 := hide y2
  have AV : Hid (RArg V2 (.agg #[.bool false, .slice (some ⟨wq.heap.size, 0, none⟩) 1 1, .slice (some ⟨wq.heap.size + 1, 0, none⟩) 1 1]) (rvE oddE)) := RPrt.arg ORV.out (by decide) (by decide)
  clear O9 B9
  have Q1_ : Hid (Hs (((es1.map rvE).map (· * (rvE oddE)))) 301) := Hs_scale S1.out HZ.out _ (by decide)
  have Q2_ : Hid (Hs ((List.replicate n1 (0 : Rat))) 1) := Hs_zero n1
  refine wp_region_seq 39 (fun w' => Below V2.heap.size V2 w') [(100, (.lraw0 V2 (es1.set k oddE))), (101, .eq (.bool false)), (102, .eq (.bool true)), (103, .eq (.bool true)), (104, .eq (.int .i64 1)), (105, .eq (.bool true)), (106, .eq (.bool true)), (107, .eq (.bool true)), (108, .eq (.int .i64 1)), (109, .eq (.bool true)), (110, .eq (.bool true)), (111, .eq (.bool true)), (112, .eq (.int .i64 1)), (113, .eq (.bool true)), (114, .eq (.bool true)), (115, .eq (.bool true)), (116, (.lraw0 V2 (es1.set k oddE))), (117, (.lraw0 V2 (es1.set k oddE))), (118, .eq (.bool false)), (119, .eq (.bool true)), (120, .eq (.bool true)), (121, .eq (.bool true)), (122, (.lst0 V2 (es1.map rvE))), (123, (.lst0 V2 (es1.map rvE))), (124, .eq (.bool true)), (125, .eq (.bool true)), (126, .eq (.bool true)), (127, (.lst0 V2 (es1.map rvE))), (128, .eq (.slice (some ⟨g, 0, none⟩) n1 cap)), (129, .eq (.int .i64 (k : Nat))), (130, .eq ((.pointer (some ⟨g, k * 3, none⟩) : Value))), (131, (.rarg0 V2 (rvE oddE))), (132, (.lst ((es1.map rvE).map (· * (rvE oddE))))), (133, .eq (.slice (some ad) n1 c1)), (134, .eq (.int .i64 (n1))), (135, (.lst (List.replicate n1 (0 : Rat)))), (136, .eq (.bool true)), (137, .eq (.bool true)), (4, .eq (.bool true))] [false, false, false, false, true, false, false, false, false, false, false, false, false, false, false, false, false, false, false, false, false, false, false, false, false, false, false, false, false, false, false, false, false, false, false, false, false, false, false, false, false, false, false, false, false, false, false, false, false, false, false, false, false, false, false, false, false, false, false, false, false, false, false, false, false, false, false, false, false, false, false, false, false, false, false, false, false, false, false, false, false, false, false, false, false, false, false, false, false, false, false, false, false, false, false, false, false, false, false, false, true, true, true, true, true, true, true, true, true, true, true, true, true, true, true, true, true, true, true, true, true, true, true, true, true, true, true, true, true, true, true, true, true, true, true, true, true, true] (by kernel_rfl) (by kernel_rfl) (by kernel_rfl) (fun _ _ h hb => h.trans (hb.mono h.size)) (Below.refl _ _) ⟨?_, ?_, ?_, ?_, ?_, ?_, ?_, ?_, ?_, ?_, ?_, ?_, ?_, ?_, ?_, ?_, ?_, ?_, ?_, ?_, ?_, ?_, ?_, ?_, ?_, ?_, ?_, ?_, ?_, ?_, ?_, ?_, ?_, ?_, ?_, ?_, ?_, ?_, ?_, trivial⟩ ?_
  · exact .moveC (.inl rfl) (.inl rfl) rfl (fun a w' hC hs => (show Lst RRaw V2 (a.eval (.tmp 6)) (es1.set k oddE) from by rw [show a.eval (.tmp 6) = (.slice (some ⟨g, 0, none⟩) n1 cap : Value) from (hs 6 (by kernel_rfl))]; exact LBV.out))
  · exact .call (.inl rfl) rfl rfl fn_vCheck (fun a w' hC hs hl => vCheck_L (Lst.raw_below (hl 100 (by kernel_rfl) (by kernel_rfl)) hC) (T.out.below (b0.out.trans (hC.mono b0.out.size))) false AO.out)
  · exact .value (.inl rfl) (by intro T e; cases e) rfl rfl (fun a w' hC hs hl => by
      have e0 : a.eval (.tmp 101) = (.bool false) := (hl 101 (by kernel_rfl) (by kernel_rfl))
      simp only [execOp, e0]
      skip
      simp [go_sem] <;> rfl)
  · exact .move (.inl rfl) (.inl rfl) rfl (by kernel_rfl) (by kernel_rfl) rfl
  · exact .moveC (.inr ⟨3, true, 103, by decide, rfl, rfl, rfl⟩) (.inl rfl) rfl (fun a w' hC hs => (hs 8 (by kernel_rfl)))
  · exact .value (.inr ⟨3, true, 103, by decide, rfl, rfl, rfl⟩) (by intro T e; cases e) rfl rfl (fun a w' hC hs hl => by
      have e0 : a.eval (.tmp 104) = (.int .i64 1) := (hl 104 (by kernel_rfl) (by kernel_rfl))
      simp only [execOp, e0]
      simp only [Act.eval]
      simp [go_sem] <;> rfl)
  · exact .pick (b := true) (.inl rfl) rfl rfl (fun a w' hC hs hl => ⟨(hl 103 (by kernel_rfl) (by kernel_rfl)), (hl 105 (by kernel_rfl) (by kernel_rfl))⟩)
  · exact .move (.inl rfl) (.inl rfl) rfl (by kernel_rfl) (by kernel_rfl) rfl
  · exact .moveC (.inr ⟨7, true, 107, by decide, rfl, rfl, rfl⟩) (.inl rfl) rfl (fun a w' hC hs => (hs 10 (by kernel_rfl)))
  · exact .value (.inr ⟨7, true, 107, by decide, rfl, rfl, rfl⟩) (by intro T e; cases e) rfl rfl (fun a w' hC hs hl => by
      have e0 : a.eval (.tmp 108) = (.int .i64 1) := (hl 108 (by kernel_rfl) (by kernel_rfl))
      simp only [execOp, e0]
      simp only [Act.eval]
      simp [go_sem] <;> rfl)
  · exact .pick (b := true) (.inl rfl) rfl rfl (fun a w' hC hs hl => ⟨(hl 107 (by kernel_rfl) (by kernel_rfl)), (hl 109 (by kernel_rfl) (by kernel_rfl))⟩)
  · exact .move (.inl rfl) (.inl rfl) rfl (by kernel_rfl) (by kernel_rfl) rfl
  · exact .moveC (.inr ⟨11, true, 111, by decide, rfl, rfl, rfl⟩) (.inl rfl) rfl (fun a w' hC hs => (hs 12 (by kernel_rfl)))
  · exact .value (.inr ⟨11, true, 111, by decide, rfl, rfl, rfl⟩) (by intro T e; cases e) rfl rfl (fun a w' hC hs hl => by
      have e0 : a.eval (.tmp 112) = (.int .i64 1) := (hl 112 (by kernel_rfl) (by kernel_rfl))
      simp only [execOp, e0]
      simp only [Act.eval]
      simp [go_sem] <;> rfl)
  · exact .pick (b := true) (.inl rfl) rfl rfl (fun a w' hC hs hl => ⟨(hl 111 (by kernel_rfl) (by kernel_rfl)), (hl 113 (by kernel_rfl) (by kernel_rfl))⟩)
  · exact .move (.inl rfl) (.inl rfl) rfl (by kernel_rfl) (by kernel_rfl) rfl
  · exact .moveC (.inr ⟨15, true, 115, by decide, rfl, rfl, rfl⟩) (.inl rfl) rfl (fun a w' hC hs => (show Lst RRaw V2 (a.eval (.tmp 6)) (es1.set k oddE) from by rw [show a.eval (.tmp 6) = (.slice (some ⟨g, 0, none⟩) n1 cap : Value) from (hs 6 (by kernel_rfl))]; exact LBV.out))
  · exact .moveC (.inr ⟨15, true, 115, by decide, rfl, rfl, rfl⟩) (.inl rfl) rfl (fun a w' hC hs => (show Lst RRaw V2 (a.eval (.tmp 6)) (es1.set k oddE) from by rw [show a.eval (.tmp 6) = (.slice (some ⟨g, 0, none⟩) n1 cap : Value) from (hs 6 (by kernel_rfl))]; exact LBV.out))
  · exact .call (.inr ⟨15, true, 115, by decide, rfl, rfl, rfl⟩) rfl rfl fn_vSame (fun a w' hC hs hl => vSame_N (Lst.raw_below (hl 116 (by kernel_rfl) (by kernel_rfl)) hC) (Lst.raw_below (hl 117 (by kernel_rfl) (by kernel_rfl)) hC) (T.out.below (b0.out.trans (hC.mono b0.out.size))) (fits_odd1 AO.out))
  · exact .value (.inr ⟨15, true, 115, by decide, rfl, rfl, rfl⟩) (by intro T e; cases e) rfl rfl (fun a w' hC hs hl => by
      have e0 : a.eval (.tmp 118) = (.bool false) := (hl 118 (by kernel_rfl) (by kernel_rfl))
      simp only [execOp, e0]
      skip
      simp [go_sem] <;> rfl)
  · exact .pick (b := true) (.inl rfl) rfl rfl (fun a w' hC hs hl => ⟨(hl 115 (by kernel_rfl) (by kernel_rfl)), (hl 119 (by kernel_rfl) (by kernel_rfl))⟩)
  · exact .move (.inl rfl) (.inl rfl) rfl (by kernel_rfl) (by kernel_rfl) rfl
  · exact .moveC (.inr ⟨21, true, 121, by decide, rfl, rfl, rfl⟩) (.inl rfl) rfl (fun a w' hC hs => (show Lst RCan V2 (a.eval (.tmp 13)) (es1.map rvE) from by rw [show a.eval (.tmp 13) = (.slice (some ⟨g2, 0, none⟩) n1 cap2 : Value) from (hs 13 (by kernel_rfl))]; exact LCV.out))
  · exact .moveC (.inr ⟨21, true, 121, by decide, rfl, rfl, rfl⟩) (.inl rfl) rfl (fun a w' hC hs => (show Lst RCan V2 (a.eval (.tmp 0)) (es1.map rvE) from by rw [show a.eval (.tmp 0) = (.slice (some ad) n1 c1 : Value) from (hs 0 (by kernel_rfl))]; exact L1V.out))
  · exact .call (.inr ⟨21, true, 121, by decide, rfl, rfl, rfl⟩) rfl rfl fn_vSame (fun a w' hC hs hl => vSame_L (k := 300) (Lst.can_below (hl 122 (by kernel_rfl) (by kernel_rfl)) hC) (Lst.can_below (hl 123 (by kernel_rfl) (by kernel_rfl)) hC) S1.out S1.out (by decide) (T.out.below (b0.out.trans (hC.mono b0.out.size))) true (decide_eq_true rfl))
  · exact .pick (b := true) (.inl rfl) rfl rfl (fun a w' hC hs hl => ⟨(hl 121 (by kernel_rfl) (by kernel_rfl)), (hl 124 (by kernel_rfl) (by kernel_rfl))⟩)
  · exact .move (.inl rfl) (.inl rfl) rfl (by kernel_rfl) (by kernel_rfl) rfl
  · exact .moveC (.inr ⟨26, true, 126, by decide, rfl, rfl, rfl⟩) (.inl rfl) rfl (fun a w' hC hs => (show Lst RCan V2 (a.eval (.tmp 0)) (es1.map rvE) from by rw [show a.eval (.tmp 0) = (.slice (some ad) n1 c1 : Value) from (hs 0 (by kernel_rfl))]; exact L1V.out))
  · exact .moveC (.inr ⟨26, true, 126, by decide, rfl, rfl, rfl⟩) (.inl rfl) rfl (fun a w' hC hs => (hs 6 (by kernel_rfl)))
  · exact .moveC (.inr ⟨26, true, 126, by decide, rfl, rfl, rfl⟩) (.inl rfl) rfl (fun a w' hC hs => (hs 5 (by kernel_rfl)))
  · exact .value (.inr ⟨26, true, 126, by decide, rfl, rfl, rfl⟩) (by intro T e; cases e) rfl rfl (fun a w' hC hs hl => by
      have e0 : a.eval (.tmp 128) = (.slice (some ⟨g, 0, none⟩) n1 cap) := (hl 128 (by kernel_rfl) (by kernel_rfl))
      have e1 : a.eval (.tmp 129) = (.int .i64 (k : Nat)) := (hl 129 (by kernel_rfl) (by kernel_rfl))
      simp only [execOp, e0, e1]
      simp [go_sem, hk1, add0])
  · exact .load (.agg #[.bool false, .slice (some ⟨wq.heap.size, 0, none⟩) 1 1, .slice (some ⟨wq.heap.size + 1, 0, none⟩) 1 1]) (.inr ⟨26, true, 126, by decide, rfl, rfl, rfl⟩) rfl rfl (fun a w' hC hs hl => by rw [show a.eval (.tmp 130) = (.pointer (some ⟨g, k * 3, none⟩) : Value) from (hl 130 (by kernel_rfl) (by kernel_rfl))]; exact ⟨ld_RatAt (cell_below hC y0.out) (cell_below hC y1.out) (cell_below hC y2.out), AV.out⟩)
  · exact .call (.inr ⟨26, true, 126, by decide, rfl, rfl, rfl⟩) rfl rfl fn_vScale (fun a w' hC hs hl => vScale_L (Lst.can_below (hl 127 (by kernel_rfl) (by kernel_rfl)) hC) (RArg.below (hl 131 (by kernel_rfl) (by kernel_rfl)) hC) (S1.out.up (by decide)) (by rw [E1.out]; omega) (T.out.below (b0.out.trans (hC.mono b0.out.size))))
  · exact .moveC (.inr ⟨26, true, 126, by decide, rfl, rfl, rfl⟩) (.inl rfl) rfl (fun a w' hC hs => (hs 0 (by kernel_rfl)))
  · exact .value (.inr ⟨26, true, 126, by decide, rfl, rfl, rfl⟩) (by intro T e; cases e) rfl rfl (fun a w' hC hs hl => by
      have e0 : a.eval (.tmp 133) = (.slice (some ad) n1 c1) := (hl 133 (by kernel_rfl) (by kernel_rfl))
      have e0' : a.tmps[133]?.getD undef = _ := (by simp [Act.eval] : _ = a.eval (.tmp 133)).trans e0
      simp [execOp, resolve, invoke, builtin, go_sem, e0, e0'])
  · exact .call (.inr ⟨26, true, 126, by decide, rfl, rfl, rfl⟩) rfl rfl fn_vZero (fun a w' hC hs hl => by
      show Calls _ _ #[a.eval (.tmp 134)] _ _
      rw [show a.eval (.tmp 134) = (.int .i64 (n1) : Value) from (hl 134 (by kernel_rfl) (by kernel_rfl))]
      exact vZero_L w' n1 (by omega))
  · exact .call (.inr ⟨26, true, 126, by decide, rfl, rfl, rfl⟩) rfl rfl fn_vSame (fun a w' hC hs hl => vSame_L (k := 301) (hl 132 (by kernel_rfl) (by kernel_rfl)) (hl 135 (by kernel_rfl) (by kernel_rfl)) Q1_.out (Q2_.out.up (by decide)) (by decide) (T.out.below (b0.out.trans (hC.mono b0.out.size))) true (decide_eq_true (by rw [rv_odd, ← E1.out]; exact scale_none _)))
  · exact .pick (b := true) (.inl rfl) rfl rfl (fun a w' hC hs hl => ⟨(hl 126 (by kernel_rfl) (by kernel_rfl)), (hl 136 (by kernel_rfl) (by kernel_rfl))⟩)
  · exact .move (.inl rfl) (.inr rfl) rfl (by kernel_rfl) (by kernel_rfl) rfl
  intro f w99 hC hF _
  have f0 : f 4 = .bool true := hF 4 (by kernel_rfl)
  clear hF
  simp only [patch, List.drop]
  have B9 := hide (b0.out.trans (hC.mono b0.out.size))
  clear hC
  rw [f0]
  try change wpList _ _ _ [] _ _
  go_wp2
  exact opq_end hR ⟨rfl, B9⟩
end Go.Proofs.YthnhcbdecgkacaaGreatDoor
