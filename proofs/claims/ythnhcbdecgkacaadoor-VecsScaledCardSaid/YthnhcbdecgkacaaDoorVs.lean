/- the laws of vecs: VecsScaled. -/
import Derived.Test.YthnhcbdecgkacaaDoorVo
set_option linter.unusedVariables false
set_option linter.unusedSimpArgs false
set_option maxRecDepth 100000
namespace Go.Proofs.YthnhcbdecgkacaaDoor
open Go.RowKit

set_option maxHeartbeats 8000000 in
theorem VecsScaled_ok (w : World) (A1 : Option Addr) (n1 c1 : Nat) (es1 : List Raw) (b2 : Bool) (A2 : Option Addr) (n2 c2 : Nat) (D2 : Option Addr) (m2 k2 : Nat) (e2 : Raw) (b3 : Bool) (A3 : Option Addr) (n3 c3 : Nat) (D3 : Option Addr) (m3 k3 : Nat) (e3 : Raw) (h1 : Lst RRw w (.slice A1 n1 c1) es1) (h2 : RRw w (.agg #[.bool b2, .slice A2 n2 c2, .slice D2 m2 k2]) e2) (h3 : RRw w (.agg #[.bool b3, .slice A3 n3 c3, .slice D3 m3 k3]) e3) (hT : Tab w) :
    Calls Tryd.prog 11 #[.slice A1 n1 c1, .agg #[.bool b2, .slice A2 n2 c2, .slice D2 m2 k2], .agg #[.bool b3, .slice A3 n3 c3, .slice D3 m3 k3]] w fun e w' => e = .returned (.bool true) ∧ Hid (Below w.heap.size w w') := by
  refine opq fun R hR => ?_
  have T := hide hT
  clear hT
  replace h1 := hide h1
  replace h2 := hide h2
  replace h3 := hide h3
  go_enter Tryd.func11, Tryd.ntmps11
  have b0 := hide (Below.refl w.heap.size w)
  have K2 := hide (Blk.new_at w (w.heap.size) (by simp) 32 #[.bool b2, .slice A2 n2 c2, .slice D2 m2 k2])
  have y := (Below.refl w.heap.size w).alloc (Nat.le_refl _) (.cells #[.bool b2, .slice A2 n2 c2, .slice D2 m2 k2] 32)
  replace b0 := hide (below_tr b0.out y)
  clear y
  have K3 := hide (Blk.new_at (w.alloc (.cells #[.bool b2, .slice A2 n2 c2, .slice D2 m2 k2] 32)) (w.heap.size + 1) (by simp) 32 #[.bool b3, .slice A3 n3 c3, .slice D3 m3 k3])
  have y := (Below.refl (w.alloc (.cells #[.bool b2, .slice A2 n2 c2, .slice D2 m2 k2] 32)).heap.size (w.alloc (.cells #[.bool b2, .slice A2 n2 c2, .slice D2 m2 k2] 32))).alloc (Nat.le_refl _) (.cells #[.bool b3, .slice A3 n3 c3, .slice D3 m3 k3] 32)
  replace K2 := hide (K2.out.below' y)
  replace b0 := hide (below_tr b0.out y)
  clear y
  have K2c0 : ((w.alloc (.cells #[.bool b2, .slice A2 n2 c2, .slice D2 m2 k2] 32)).alloc (.cells #[.bool b3, .slice A3 n3 c3, .slice D3 m3 k3] 32)).cell? ⟨w.heap.size, 0, none⟩ = some (.bool b2) := K2.out.at_ 0 rfl
  have K2c1 : ((w.alloc (.cells #[.bool b2, .slice A2 n2 c2, .slice D2 m2 k2] 32)).alloc (.cells #[.bool b3, .slice A3 n3 c3, .slice D3 m3 k3] 32)).cell? ⟨w.heap.size, 1, none⟩ = some (.slice A2 n2 c2) := K2.out.at_ 1 rfl
  have K2c2 : ((w.alloc (.cells #[.bool b2, .slice A2 n2 c2, .slice D2 m2 k2] 32)).alloc (.cells #[.bool b3, .slice A3 n3 c3, .slice D3 m3 k3] 32)).cell? ⟨w.heap.size, 2, none⟩ = some (.slice D2 m2 k2) := K2.out.at_ 2 rfl
  have K3c0 : ((w.alloc (.cells #[.bool b2, .slice A2 n2 c2, .slice D2 m2 k2] 32)).alloc (.cells #[.bool b3, .slice A3 n3 c3, .slice D3 m3 k3] 32)).cell? ⟨w.heap.size + 1, 0, none⟩ = some (.bool b3) := K3.out.at_ 0 rfl
  have K3c1 : ((w.alloc (.cells #[.bool b2, .slice A2 n2 c2, .slice D2 m2 k2] 32)).alloc (.cells #[.bool b3, .slice A3 n3 c3, .slice D3 m3 k3] 32)).cell? ⟨w.heap.size + 1, 1, none⟩ = some (.slice A3 n3 c3) := K3.out.at_ 1 rfl
  have K3c2 : ((w.alloc (.cells #[.bool b2, .slice A2 n2 c2, .slice D2 m2 k2] 32)).alloc (.cells #[.bool b3, .slice A3 n3 c3, .slice D3 m3 k3] 32)).cell? ⟨w.heap.size + 1, 2, none⟩ = some (.slice D3 m3 k3) := K3.out.at_ 2 rfl
  go_wp2_with fail
  refine (valive_P _ (T.out.below b0.out)).mono ?_
  rintro e w1 ⟨_, rfl, d0, rfl⟩
  replace K2 := hide (K2.out.below' d0)
  replace K3 := hide (K3.out.below' d0)
  replace b0 := hide (below_tr b0.out d0)
  clear d0
  clear K2c0 K2c1 K2c2 K3c0 K3c1 K3c2
  have K2c0 : w1.cell? ⟨w.heap.size, 0, none⟩ = some (.bool b2) := K2.out.at_ 0 rfl
  have K2c1 : w1.cell? ⟨w.heap.size, 1, none⟩ = some (.slice A2 n2 c2) := K2.out.at_ 1 rfl
  have K2c2 : w1.cell? ⟨w.heap.size, 2, none⟩ = some (.slice D2 m2 k2) := K2.out.at_ 2 rfl
  have K3c0 : w1.cell? ⟨w.heap.size + 1, 0, none⟩ = some (.bool b3) := K3.out.at_ 0 rfl
  have K3c1 : w1.cell? ⟨w.heap.size + 1, 1, none⟩ = some (.slice A3 n3 c3) := K3.out.at_ 1 rfl
  have K3c2 : w1.cell? ⟨w.heap.size + 1, 2, none⟩ = some (.slice D3 m3 k3) := K3.out.at_ 2 rfl
  have G2 := hide (Blk.new_at w1 (w1.heap.size) (by simp) 32 #[.bool b2, .slice A2 n2 c2, .slice D2 m2 k2, .bool b3, .slice A3 n3 c3, .slice D3 m3 k3])
  have y := (Below.refl w1.heap.size w1).alloc (Nat.le_refl _) (.cells #[.bool b2, .slice A2 n2 c2, .slice D2 m2 k2, .bool b3, .slice A3 n3 c3, .slice D3 m3 k3] 32)
  replace K2 := hide (K2.out.below' y)
  replace K3 := hide (K3.out.below' y)
  replace b0 := hide (below_tr b0.out y)
  clear y
  have GE := hide (show ∀ x ∈ ([gl A1 n1 c1 es1, gl (some ⟨w1.heap.size, 0, none⟩) 2 2 [e2, e3]] : List GL), Lst RRw (w1.alloc (.cells #[.bool b2, .slice A2 n2 c2, .slice D2 m2 k2, .bool b3, .slice A3 n3 c3, .slice D3 m3 k3] 32)) (slv x) x.2 from (List.forall_mem_cons.2 ⟨(h1.out.rw_below b0.out), (List.forall_mem_cons.2 ⟨(lst_two tri_rw (u := .agg #[.bool b2, .slice A2 n2 c2, .slice D2 m2 k2]) (v := .agg #[.bool b3, .slice A3 n3 c3, .slice D3 m3 k3]) rfl G2.out (h2.out.below b0.out) (h3.out.below b0.out)), (fun x hx => by simp at hx)⟩)⟩))
  by_cases gg : ([gl A1 n1 c1 es1, gl (some ⟨w1.heap.size, 0, none⟩) 2 2 [e2, e3]] : List GL).any gr = true
  case pos =>
    replace gg := hide gg
    have y := (Below.refl (w1.alloc (.cells #[.bool b2, .slice A2 n2 c2, .slice D2 m2 k2, .bool b3, .slice A3 n3 c3, .slice D3 m3 k3] 32)).heap.size (w1.alloc (.cells #[.bool b2, .slice A2 n2 c2, .slice D2 m2 k2, .bool b3, .slice A3 n3 c3, .slice D3 m3 k3] 32))).alloc (Nat.le_refl _) (.cells #[.slice A1 n1 c1, .slice (some ⟨w1.heap.size, 0, none⟩) 2 2] 23)
    replace K2 := hide (K2.out.below' y)
    replace K3 := hide (K3.out.below' y)
    replace G2 := hide (G2.out.below' y)
    replace b0 := hide (below_tr b0.out y)
    clear y
    go_wp2_with fail
    refine (vgreat_L (w := (w1.alloc (.cells #[.bool b2, .slice A2 n2 c2, .slice D2 m2 k2, .bool b3, .slice A3 n3 c3, .slice D3 m3 k3] 32))) [gl A1 n1 c1 es1, gl (some ⟨w1.heap.size, 0, none⟩) 2 2 [e2, e3]] #[.slice A1 n1 c1, .slice (some ⟨w1.heap.size, 0, none⟩) 2 2] rfl (g := w1.heap.size + 1) (by simp) GE.out 2 rfl (by decide) true gg.out).mono ?_
    rintro e w2 ⟨_, rfl, d0, rfl⟩
    replace K2 := hide (K2.out.below' d0)
    replace K3 := hide (K3.out.below' d0)
    replace G2 := hide (G2.out.below' d0)
    replace b0 := hide (below_tr b0.out d0)
    clear d0
    go_wp2_with fail
    refine (valive_P _ (T.out.below b0.out)).mono ?_
    rintro e w3 ⟨_, rfl, d0, rfl⟩
    replace K2 := hide (K2.out.below' d0)
    replace K3 := hide (K3.out.below' d0)
    replace G2 := hide (G2.out.below' d0)
    replace b0 := hide (below_tr b0.out d0)
    clear d0
    go_wp2
    exact opq_end hR ⟨rfl, b0⟩
  replace gg : Hid (([gl A1 n1 c1 es1, gl (some ⟨w1.heap.size, 0, none⟩) 2 2 [e2, e3]] : List GL).any gr = false) := (by simpa using gg : ([gl A1 n1 c1 es1, gl (some ⟨w1.heap.size, 0, none⟩) 2 2 [e2, e3]] : List GL).any gr = false)
  have y := (Below.refl (w1.alloc (.cells #[.bool b2, .slice A2 n2 c2, .slice D2 m2 k2, .bool b3, .slice A3 n3 c3, .slice D3 m3 k3] 32)).heap.size (w1.alloc (.cells #[.bool b2, .slice A2 n2 c2, .slice D2 m2 k2, .bool b3, .slice A3 n3 c3, .slice D3 m3 k3] 32))).alloc (Nat.le_refl _) (.cells #[.slice A1 n1 c1, .slice (some ⟨w1.heap.size, 0, none⟩) 2 2] 23)
  replace K2 := hide (K2.out.below' y)
  replace K3 := hide (K3.out.below' y)
  replace G2 := hide (G2.out.below' y)
  replace b0 := hide (below_tr b0.out y)
  clear y
  go_wp2_with fail
  refine (vgreat_L (w := (w1.alloc (.cells #[.bool b2, .slice A2 n2 c2, .slice D2 m2 k2, .bool b3, .slice A3 n3 c3, .slice D3 m3 k3] 32))) [gl A1 n1 c1 es1, gl (some ⟨w1.heap.size, 0, none⟩) 2 2 [e2, e3]] #[.slice A1 n1 c1, .slice (some ⟨w1.heap.size, 0, none⟩) 2 2] rfl (g := w1.heap.size + 1) (by simp) GE.out 2 rfl (by decide) false gg.out).mono ?_
  rintro e w2 ⟨_, rfl, d0, rfl⟩
  replace K2 := hide (K2.out.below' d0)
  replace K3 := hide (K3.out.below' d0)
  replace G2 := hide (G2.out.below' d0)
  replace b0 := hide (below_tr b0.out d0)
  clear d0
  clear GE
  clear G2
  have M1 : Hid (n1 ≤ 30 ∧ tsz es1 ≤ 300) := any_false gg.out (gl A1 n1 c1 es1) (by simp)
  have P1 := hide (h1.out.rawW 300 M1.out.2 (by decide)).1
  have S1 := hide (h1.out.rawW 300 M1.out.2 (by decide)).2
  have N1 : Hid (es1.length = n1) := h1.out.len
  have MG := (any_false gg.out (gl (some ⟨w1.heap.size, 0, none⟩) 2 2 [e2, e3]) (by simp)).2
  have a2 : Hid (RArg w (.agg #[.bool b2, .slice A2 n2 c2, .slice D2 m2 k2]) (rvE e2)) := h2.out.arg (Nat.le_trans (tsz_mem (by simp)) (Nat.le_trans MG (by decide)))
  have P2 := hide (h2.out.raw (Nat.le_trans (tsz_mem (by simp)) (Nat.le_trans MG (by decide)))).1
  have S2 := hide ((h2.out.raw (Nat.le_trans (tsz_mem (by simp)) (Nat.le_trans MG (by decide)))).2.up (Nat.le_trans (tsz_mem (by simp)) MG) : H (rvE e2) 300)
  have a3 : Hid (RArg w (.agg #[.bool b3, .slice A3 n3 c3, .slice D3 m3 k3]) (rvE e3)) := h3.out.arg (Nat.le_trans (tsz_mem (by simp)) (Nat.le_trans MG (by decide)))
  have P3 := hide (h3.out.raw (Nat.le_trans (tsz_mem (by simp)) (Nat.le_trans MG (by decide)))).1
  have S3 := hide ((h3.out.raw (Nat.le_trans (tsz_mem (by simp)) (Nat.le_trans MG (by decide)))).2.up (Nat.le_trans (tsz_mem (by simp)) MG) : H (rvE e3) 300)
  clear MG
  clear gg h1 h2 h3
  clear K2c0 K2c1 K2c2 K3c0 K3c1 K3c2
  have K2c0 : w2.cell? ⟨w.heap.size, 0, none⟩ = some (.bool b2) := K2.out.at_ 0 rfl
  have K2c1 : w2.cell? ⟨w.heap.size, 1, none⟩ = some (.slice A2 n2 c2) := K2.out.at_ 1 rfl
  have K2c2 : w2.cell? ⟨w.heap.size, 2, none⟩ = some (.slice D2 m2 k2) := K2.out.at_ 2 rfl
  have K3c0 : w2.cell? ⟨w.heap.size + 1, 0, none⟩ = some (.bool b3) := K3.out.at_ 0 rfl
  have K3c1 : w2.cell? ⟨w.heap.size + 1, 1, none⟩ = some (.slice A3 n3 c3) := K3.out.at_ 1 rfl
  have K3c2 : w2.cell? ⟨w.heap.size + 1, 2, none⟩ = some (.slice D3 m3 k3) := K3.out.at_ 2 rfl
  by_cases r1 : es1.all rk = false
  case pos =>
    replace r1 := hide r1
    go_wp2_with fail
    refine (vCheck_L (P1.out.raw_below b0.out) (T.out.below b0.out) false r1.out).mono ?_
    rintro e w3 ⟨_, rfl, d0, rfl⟩
    replace K2 := hide (K2.out.below' d0)
    replace K3 := hide (K3.out.below' d0)
    replace b0 := hide (below_tr b0.out d0)
    clear d0
    go_wp2_with fail
    refine (valive_P _ (T.out.below b0.out)).mono ?_
    rintro e w4 ⟨_, rfl, d0, rfl⟩
    replace K2 := hide (K2.out.below' d0)
    replace K3 := hide (K3.out.below' d0)
    replace b0 := hide (below_tr b0.out d0)
    clear d0
    go_wp2
    exact opq_end hR ⟨rfl, b0⟩
  replace r1 : Hid (es1.all rk = true) := (by simpa using r1 : es1.all rk = true)
  go_wp2_with fail
  refine (vCheck_L (P1.out.raw_below b0.out) (T.out.below b0.out) true r1.out).mono ?_
  rintro e w3 ⟨_, rfl, d0, rfl⟩
  replace K2 := hide (K2.out.below' d0)
  replace K3 := hide (K3.out.below' d0)
  replace b0 := hide (below_tr b0.out d0)
  clear d0
  clear K2c0 K2c1 K2c2 K3c0 K3c1 K3c2
  have K2c0 : w3.cell? ⟨w.heap.size, 0, none⟩ = some (.bool b2) := K2.out.at_ 0 rfl
  have K2c1 : w3.cell? ⟨w.heap.size, 1, none⟩ = some (.slice A2 n2 c2) := K2.out.at_ 1 rfl
  have K2c2 : w3.cell? ⟨w.heap.size, 2, none⟩ = some (.slice D2 m2 k2) := K2.out.at_ 2 rfl
  have K3c0 : w3.cell? ⟨w.heap.size + 1, 0, none⟩ = some (.bool b3) := K3.out.at_ 0 rfl
  have K3c1 : w3.cell? ⟨w.heap.size + 1, 1, none⟩ = some (.slice A3 n3 c3) := K3.out.at_ 1 rfl
  have K3c2 : w3.cell? ⟨w.heap.size + 1, 2, none⟩ = some (.slice D3 m3 k3) := K3.out.at_ 2 rfl
  have L1 := hide (P1.out.canW r1.out)
  have E1 : Hid ((es1.map rvE).length = n1) := by show _ = _; rw [List.length_map]; exact N1.out
  clear P1 r1 N1
  generalize es1.map rvE = ps at *
  clear P2
  generalize rvE e2 = t2 at *
  clear P3
  generalize rvE e3 = t3 at *
  clear K2c0 K2c1 K2c2 K3c0 K3c1 K3c2
  repeat (first | with_reducible refine hold_reg (id := 3) ?_ | go_values | go_skip | go_guarded | go_step | go_upon | go_back | (simp only [Int.not_lt, Int.not_le] at *; go_simp))
  obtain ⟨V1_3, hV⟩ : ∃ V, w3 = V := ⟨_, rfl⟩
  rw [hV] at K2 K3 b0
  rw [hV]
  clear hV
  unfold Hid
  refine wp_seq ?_
  have L1V := hide (L1.out.can_below b0.out)
  have a2V := hide (a2.out.below b0.out)
  have a3V := hide (a3.out.below b0.out)
  have Q1_ : Hid (Hs ((ps.map (· * t2))) 600) := Hs_scale S1.out S2.out _ (by decide)
  have Q2_ : Hid (Hs (((ps.map (· * t2)).map (· * t3))) 900) := Hs_scale Q1_.out S3.out _ (by decide)
  have Q3_ : Hid (H ((t2 * t3)) 600) := H_mul S2.out S3.out (by decide)
  have Q4_ : Hid (Hs ((ps.map (· * (t2 * t3)))) 900) := Hs_scale S1.out Q3_.out _ (by decide)
  have Q5_ : Hid (H (((1 : Int) : Rat)) 2) := H_int (L_up (Z_64 (by decide) (by decide)) (by decide)) (by decide)
  have Q6_ : Hid (Hs ((ps.map (· * ((1 : Int) : Rat)))) 302) := Hs_scale S1.out Q5_.out _ (by decide)
  have Q7_ : Hid (H (((0 : Int) : Rat)) 2) := H_int (L_up (Z_64 (by decide) (by decide)) (by decide)) (by decide)
  have Q8_ : Hid (Hs ((ps.map (· * ((0 : Int) : Rat)))) 302) := Hs_scale S1.out Q7_.out _ (by decide)
  have Q9_ : Hid (Hs ((List.replicate n1 (0 : Rat))) 1) := Hs_zero n1
  refine wp_region_facts 28 (fun w' => Below V1_3.heap.size V1_3 w') [(23, (.lst0 V1_3 ps)), (24, (.rarg0 V1_3 t2)), (25, (.lst (ps.map (· * t2)))), (26, (.rarg0 V1_3 t3)), (27, (.lst ((ps.map (· * t2)).map (· * t3)))), (28, (.lst0 V1_3 ps)), (29, (.rarg0 V1_3 t2)), (30, (.rarg0 V1_3 t3)), (31, (.rat (t2 * t3))), (32, (.lst (ps.map (· * (t2 * t3))))), (33, .eq (.bool true)), (34, .eq (.bool true)), (35, (.lst0 V1_3 ps)), (36, (.rat ((1 : Int) : Rat))), (37, (.lst (ps.map (· * ((1 : Int) : Rat))))), (38, (.lst0 V1_3 ps)), (39, .eq (.bool true)), (40, .eq (.bool true)), (41, .eq (.bool true)), (42, (.lst0 V1_3 ps)), (43, (.rat ((0 : Int) : Rat))), (44, (.lst (ps.map (· * ((0 : Int) : Rat))))), (45, .eq (.slice A1 n1 c1)), (46, .eq (.int .i64 (n1))), (47, (.lst (List.replicate n1 (0 : Rat)))), (48, .eq (.bool true)), (49, .eq (.bool true)), (6, .eq (.bool true))] [false, false, false, false, false, false, true, false, false, false, false, false, false, false, false, false, false, false, false, false, false, false, false, true, true, true, true, true, true, true, true, true, true, true, true, true, true, true, true, true, true, true, true, true, true, true, true, true, true, true] mixed (by kernel_rfl) (by kernel_rfl) (by kernel_rfl) (fun _ _ h hb => h.trans (hb.mono h.size)) ((Below.refl _ _).drew) ⟨?_, ?_, ?_, ?_, ?_, ?_, ?_, ?_, ?_, ?_, ?_, ?_, ?_, ?_, ?_, ?_, ?_, ?_, ?_, ?_, ?_, ?_, ?_, ?_, ?_, ?_, ?_, ?_, trivial⟩ ?_
  · exact .moveC (.inl rfl) (.inl rfl) rfl (fun a w' hC hs => (show Lst RCan V1_3 (a.eval (.tmp 0)) ps from by rw [show a.eval (.tmp 0) = (.slice A1 n1 c1 : Value) from (hs 0 (by kernel_rfl))]; exact L1V.out))
  · exact .load (.agg #[.bool b2, .slice A2 n2 c2, .slice D2 m2 k2]) (.inl rfl) rfl rfl (fun a w' hC hs hl => by rw [show a.eval (.tmp 4) = (.pointer (some ⟨w.heap.size, 0, none⟩) : Value) from (hs 4 (by kernel_rfl))]; exact ⟨ld_Rat_ ((K2.out.below' hC).at_ 0 rfl) ((K2.out.below' hC).at_ 1 rfl) ((K2.out.below' hC).at_ 2 rfl), a2V.out⟩)
  · exact .call (.inl rfl) rfl rfl fn_vScale (fun a w' hC hs hl => vScale_L (Lst.can_below (hl 23 (by kernel_rfl) (by kernel_rfl)) hC) (RArg.below (hl 24 (by kernel_rfl) (by kernel_rfl)) hC) (S1.out.up (by decide)) (by have : ps.length ≤ 30 := (by rw [E1.out]; exact M1.out.1); omega) (T.out.below (b0.out.trans (hC.mono b0.out.size))))
  · exact .load (.agg #[.bool b3, .slice A3 n3 c3, .slice D3 m3 k3]) (.inl rfl) rfl rfl (fun a w' hC hs hl => by rw [show a.eval (.tmp 5) = (.pointer (some ⟨w.heap.size + 1, 0, none⟩) : Value) from (hs 5 (by kernel_rfl))]; exact ⟨ld_Rat_ ((K3.out.below' hC).at_ 0 rfl) ((K3.out.below' hC).at_ 1 rfl) ((K3.out.below' hC).at_ 2 rfl), a3V.out⟩)
  · exact .call (.inl rfl) rfl rfl fn_vScale (fun a w' hC hs hl => vScale_L (hl 25 (by kernel_rfl) (by kernel_rfl)) (RArg.below (hl 26 (by kernel_rfl) (by kernel_rfl)) hC) (Q1_.out.up (by decide)) (by have : ps.length ≤ 30 := (by rw [E1.out]; exact M1.out.1); rw [List.length_map]; omega) (T.out.below (b0.out.trans (hC.mono b0.out.size))))
  · exact .moveC (.inl rfl) (.inl rfl) rfl (fun a w' hC hs => (show Lst RCan V1_3 (a.eval (.tmp 0)) ps from by rw [show a.eval (.tmp 0) = (.slice A1 n1 c1 : Value) from (hs 0 (by kernel_rfl))]; exact L1V.out))
  · exact .load (.agg #[.bool b2, .slice A2 n2 c2, .slice D2 m2 k2]) (.inl rfl) rfl rfl (fun a w' hC hs hl => by rw [show a.eval (.tmp 4) = (.pointer (some ⟨w.heap.size, 0, none⟩) : Value) from (hs 4 (by kernel_rfl))]; exact ⟨ld_Rat_ ((K2.out.below' hC).at_ 0 rfl) ((K2.out.below' hC).at_ 1 rfl) ((K2.out.below' hC).at_ 2 rfl), a2V.out⟩)
  · exact .load (.agg #[.bool b3, .slice A3 n3 c3, .slice D3 m3 k3]) (.inl rfl) rfl rfl (fun a w' hC hs hl => by rw [show a.eval (.tmp 5) = (.pointer (some ⟨w.heap.size + 1, 0, none⟩) : Value) from (hs 5 (by kernel_rfl))]; exact ⟨ld_Rat_ ((K3.out.below' hC).at_ 0 rfl) ((K3.out.below' hC).at_ 1 rfl) ((K3.out.below' hC).at_ 2 rfl), a3V.out⟩)
  · exact .call (.inl rfl) rfl rfl fn_rMul (fun a w' hC hs hl => rMul_C (RArg.below (hl 29 (by kernel_rfl) (by kernel_rfl)) hC) (RArg.below (hl 30 (by kernel_rfl) (by kernel_rfl)) hC) (T.out.below (b0.out.trans (hC.mono b0.out.size))))
  · exact .call (.inl rfl) rfl rfl fn_vScale (fun a w' hC hs hl => vScale_L (Lst.can_below (hl 28 (by kernel_rfl) (by kernel_rfl)) hC) (RCan.arg (hl 31 (by kernel_rfl) (by kernel_rfl)) (Q3_.out.up (by decide))) (S1.out.up (by decide)) (by have : ps.length ≤ 30 := (by rw [E1.out]; exact M1.out.1); omega) (T.out.below (b0.out.trans (hC.mono b0.out.size))))
  · exact .call (.inl rfl) rfl rfl fn_vSame (fun a w' hC hs hl => vSame_L (k := 900) (hl 27 (by kernel_rfl) (by kernel_rfl)) (hl 32 (by kernel_rfl) (by kernel_rfl)) Q2_.out Q4_.out (by decide) (T.out.below (b0.out.trans (hC.mono b0.out.size))) true (decide_eq_true (scale_scale _ _ _)))
  · exact .move (.inl rfl) (.inl rfl) rfl (by kernel_rfl) (by kernel_rfl) rfl
  · exact .moveC (.inr ⟨11, true, 34, by decide, rfl, rfl, rfl⟩) (.inl rfl) rfl (fun a w' hC hs => (show Lst RCan V1_3 (a.eval (.tmp 0)) ps from by rw [show a.eval (.tmp 0) = (.slice A1 n1 c1 : Value) from (hs 0 (by kernel_rfl))]; exact L1V.out))
  · exact .call (.inr ⟨11, true, 34, by decide, rfl, rfl, rfl⟩) rfl rfl fn_rOf (fun a w' hC hs hl => rOf_C w' (1) (by decide) (by decide))
  · exact .call (.inr ⟨11, true, 34, by decide, rfl, rfl, rfl⟩) rfl rfl fn_vScale (fun a w' hC hs hl => vScale_L (Lst.can_below (hl 35 (by kernel_rfl) (by kernel_rfl)) hC) (RCan.arg (hl 36 (by kernel_rfl) (by kernel_rfl)) (Q5_.out.up (by decide))) (S1.out.up (by decide)) (by have : ps.length ≤ 30 := (by rw [E1.out]; exact M1.out.1); omega) (T.out.below (b0.out.trans (hC.mono b0.out.size))))
  · exact .moveC (.inr ⟨11, true, 34, by decide, rfl, rfl, rfl⟩) (.inl rfl) rfl (fun a w' hC hs => (show Lst RCan V1_3 (a.eval (.tmp 0)) ps from by rw [show a.eval (.tmp 0) = (.slice A1 n1 c1 : Value) from (hs 0 (by kernel_rfl))]; exact L1V.out))
  · exact .call (.inr ⟨11, true, 34, by decide, rfl, rfl, rfl⟩) rfl rfl fn_vSame (fun a w' hC hs hl => vSame_L (k := 302) (hl 37 (by kernel_rfl) (by kernel_rfl)) (Lst.can_below (hl 38 (by kernel_rfl) (by kernel_rfl)) hC) Q6_.out (S1.out.up (by decide)) (by decide) (T.out.below (b0.out.trans (hC.mono b0.out.size))) true (decide_eq_true (by rw [castR_one]; exact scale_one _)))
  · exact .pick (b := true) (.inl rfl) rfl rfl (fun a w' hC hs hl => ⟨(hl 34 (by kernel_rfl) (by kernel_rfl)), (hl 39 (by kernel_rfl) (by kernel_rfl))⟩)
  · exact .move (.inl rfl) (.inl rfl) rfl (by kernel_rfl) (by kernel_rfl) rfl
  · exact .moveC (.inr ⟨18, true, 41, by decide, rfl, rfl, rfl⟩) (.inl rfl) rfl (fun a w' hC hs => (show Lst RCan V1_3 (a.eval (.tmp 0)) ps from by rw [show a.eval (.tmp 0) = (.slice A1 n1 c1 : Value) from (hs 0 (by kernel_rfl))]; exact L1V.out))
  · exact .call (.inr ⟨18, true, 41, by decide, rfl, rfl, rfl⟩) rfl rfl fn_rOf (fun a w' hC hs hl => rOf_C w' (0) (by decide) (by decide))
  · exact .call (.inr ⟨18, true, 41, by decide, rfl, rfl, rfl⟩) rfl rfl fn_vScale (fun a w' hC hs hl => vScale_L (Lst.can_below (hl 42 (by kernel_rfl) (by kernel_rfl)) hC) (RCan.arg (hl 43 (by kernel_rfl) (by kernel_rfl)) (Q7_.out.up (by decide))) (S1.out.up (by decide)) (by have : ps.length ≤ 30 := (by rw [E1.out]; exact M1.out.1); omega) (T.out.below (b0.out.trans (hC.mono b0.out.size))))
  · exact .moveC (.inr ⟨18, true, 41, by decide, rfl, rfl, rfl⟩) (.inl rfl) rfl (fun a w' hC hs => (hs 0 (by kernel_rfl)))
  · exact .value (.inr ⟨18, true, 41, by decide, rfl, rfl, rfl⟩) (by intro T e; cases e) rfl rfl (fun a w' hC hs hl => by
      have e0 : a.eval (.tmp 45) = (.slice A1 n1 c1) := (hl 45 (by kernel_rfl) (by kernel_rfl))
      have e0' : a.tmps[45]?.getD undef = _ := (by simp [Act.eval] : _ = a.eval (.tmp 45)).trans e0
      simp [execOp, resolve, invoke, builtin, go_sem, e0, e0'])
  · exact .call (.inr ⟨18, true, 41, by decide, rfl, rfl, rfl⟩) rfl rfl fn_vZero (fun a w' hC hs hl => by
      show Calls _ _ #[a.eval (.tmp 46)] _ _
      rw [show a.eval (.tmp 46) = (.int .i64 (n1) : Value) from (hl 46 (by kernel_rfl) (by kernel_rfl))]
      exact vZero_L w' n1 (by have := M1.out.1; omega))
  · exact .call (.inr ⟨18, true, 41, by decide, rfl, rfl, rfl⟩) rfl rfl fn_vSame (fun a w' hC hs hl => vSame_L (k := 302) (hl 44 (by kernel_rfl) (by kernel_rfl)) (hl 47 (by kernel_rfl) (by kernel_rfl)) Q8_.out (Q9_.out.up (by decide)) (by decide) (T.out.below (b0.out.trans (hC.mono b0.out.size))) true (decide_eq_true (by rw [castR_zero, ← E1.out]; exact scale_none _)))
  · exact .pick (b := true) (.inl rfl) rfl rfl (fun a w' hC hs hl => ⟨(hl 41 (by kernel_rfl) (by kernel_rfl)), (hl 48 (by kernel_rfl) (by kernel_rfl))⟩)
  · exact .move (.inl rfl) (.inr rfl) rfl (by kernel_rfl) (by kernel_rfl) rfl
  intro f w99 hC hF _
  have f0 : f 6 = .bool true := hF 6 (by kernel_rfl)
  clear hF
  simp only [patch, List.drop]
  have B9 := hide (b0.out.trans (hC.mono b0.out.size))
  clear hC
  rw [f0]
  try change wpList _ _ _ [] _ _
  go_wp2
  exact opq_end hR ⟨rfl, B9⟩
end Go.Proofs.YthnhcbdecgkacaaDoor
