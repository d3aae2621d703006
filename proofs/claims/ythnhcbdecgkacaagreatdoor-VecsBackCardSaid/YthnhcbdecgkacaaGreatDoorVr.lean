/- the laws of vecs: VecsBack. -/
import Derived.Test.YthnhcbdecgkacaaGreatDoorVo
set_option linter.unusedVariables false
set_option linter.unusedSimpArgs false
set_option maxRecDepth 100000
namespace Go.Proofs.YthnhcbdecgkacaaGreatDoor
open Go.RowKit

set_option maxHeartbeats 8000000 in
theorem VecsBack_ok (w : World) (A1 : Option Addr) (n1 c1 : Nat) (es1 : List Raw) (A2 : Option Addr) (n2 c2 : Nat) (es2 : List Raw) (b3 : Bool) (A3 : Option Addr) (n3 c3 : Nat) (D3 : Option Addr) (m3 k3 : Nat) (e3 : Raw) (h1 : Lst RRw w (.slice A1 n1 c1) es1) (h2 : Lst RRw w (.slice A2 n2 c2) es2) (h3 : RRw w (.agg #[.bool b3, .slice A3 n3 c3, .slice D3 m3 k3]) e3) (hT : Tab w) :
    Calls Tryz.prog 8 #[.slice A1 n1 c1, .slice A2 n2 c2, .agg #[.bool b3, .slice A3 n3 c3, .slice D3 m3 k3]] w fun e w' => e = .returned (.bool true) ∧ Hid (Below w.heap.size w w') := by
  refine opq fun R hR => ?_
  have T := hide hT
  clear hT
  replace h1 := hide h1
  replace h2 := hide h2
  replace h3 := hide h3
  go_enter Tryz.func8, Tryz.ntmps8
  have b0 := hide (Below.refl w.heap.size w)
  have K3 := hide (Blk.new_at w (w.heap.size) (by simp) 60 #[.bool b3, .slice A3 n3 c3, .slice D3 m3 k3])
  have y := (Below.refl w.heap.size w).alloc (Nat.le_refl _) (.cells #[.bool b3, .slice A3 n3 c3, .slice D3 m3 k3] 60)
  replace b0 := hide (below_tr b0.out y)
  clear y
  have K3c0 : (w.alloc (.cells #[.bool b3, .slice A3 n3 c3, .slice D3 m3 k3] 60)).cell? ⟨w.heap.size, 0, none⟩ = some (.bool b3) := K3.out.at_ 0 rfl
  have K3c1 : (w.alloc (.cells #[.bool b3, .slice A3 n3 c3, .slice D3 m3 k3] 60)).cell? ⟨w.heap.size, 1, none⟩ = some (.slice A3 n3 c3) := K3.out.at_ 1 rfl
  have K3c2 : (w.alloc (.cells #[.bool b3, .slice A3 n3 c3, .slice D3 m3 k3] 60)).cell? ⟨w.heap.size, 2, none⟩ = some (.slice D3 m3 k3) := K3.out.at_ 2 rfl
  go_wp2_with fail
  refine (valive_P _ (T.out.below b0.out)).mono ?_
  rintro e w1 ⟨_, rfl, d0, rfl⟩
  replace K3 := hide (K3.out.below' d0)
  replace b0 := hide (below_tr b0.out d0)
  clear d0
  clear K3c0 K3c1 K3c2
  have K3c0 : w1.cell? ⟨w.heap.size, 0, none⟩ = some (.bool b3) := K3.out.at_ 0 rfl
  have K3c1 : w1.cell? ⟨w.heap.size, 1, none⟩ = some (.slice A3 n3 c3) := K3.out.at_ 1 rfl
  have K3c2 : w1.cell? ⟨w.heap.size, 2, none⟩ = some (.slice D3 m3 k3) := K3.out.at_ 2 rfl
  have G3 := hide (Blk.new_at w1 (w1.heap.size) (by simp) 60 #[.bool b3, .slice A3 n3 c3, .slice D3 m3 k3])
  have y := (Below.refl w1.heap.size w1).alloc (Nat.le_refl _) (.cells #[.bool b3, .slice A3 n3 c3, .slice D3 m3 k3] 60)
  replace K3 := hide (K3.out.below' y)
  replace b0 := hide (below_tr b0.out y)
  clear y
  have GE := hide (show ∀ x ∈ ([gl A1 n1 c1 es1, gl A2 n2 c2 es2, gl (some ⟨w1.heap.size, 0, none⟩) 1 1 [e3]] : List GL), Lst RRw (w1.alloc (.cells #[.bool b3, .slice A3 n3 c3, .slice D3 m3 k3] 60)) (slv x) x.2 from (List.forall_mem_cons.2 ⟨(h1.out.rw_below b0.out), (List.forall_mem_cons.2 ⟨(h2.out.rw_below b0.out), (List.forall_mem_cons.2 ⟨(lst_one tri_rw (u := .agg #[.bool b3, .slice A3 n3 c3, .slice D3 m3 k3]) G3.out (h3.out.below b0.out)), (fun x hx => by simp at hx)⟩)⟩)⟩))
  by_cases gg : ([gl A1 n1 c1 es1, gl A2 n2 c2 es2, gl (some ⟨w1.heap.size, 0, none⟩) 1 1 [e3]] : List GL).any gr = true
  case pos =>
    replace gg := hide gg
    have y := (Below.refl (w1.alloc (.cells #[.bool b3, .slice A3 n3 c3, .slice D3 m3 k3] 60)).heap.size (w1.alloc (.cells #[.bool b3, .slice A3 n3 c3, .slice D3 m3 k3] 60))).alloc (Nat.le_refl _) (.cells #[.slice A1 n1 c1, .slice A2 n2 c2, .slice (some ⟨w1.heap.size, 0, none⟩) 1 1] 58)
    replace K3 := hide (K3.out.below' y)
    replace G3 := hide (G3.out.below' y)
    replace b0 := hide (below_tr b0.out y)
    clear y
    go_wp2_with fail
    refine (vgreat_L (w := (w1.alloc (.cells #[.bool b3, .slice A3 n3 c3, .slice D3 m3 k3] 60))) [gl A1 n1 c1 es1, gl A2 n2 c2 es2, gl (some ⟨w1.heap.size, 0, none⟩) 1 1 [e3]] #[.slice A1 n1 c1, .slice A2 n2 c2, .slice (some ⟨w1.heap.size, 0, none⟩) 1 1] rfl (g := w1.heap.size + 1) (by simp) GE.out 3 rfl (by decide) true gg.out).mono ?_
    rintro e w2 ⟨_, rfl, d0, rfl⟩
    replace K3 := hide (K3.out.below' d0)
    replace G3 := hide (G3.out.below' d0)
    replace b0 := hide (below_tr b0.out d0)
    clear d0
    go_wp2_with fail
    refine (valive_P _ (T.out.below b0.out)).mono ?_
    rintro e w3 ⟨_, rfl, d0, rfl⟩
    replace K3 := hide (K3.out.below' d0)
    replace G3 := hide (G3.out.below' d0)
    replace b0 := hide (below_tr b0.out d0)
    clear d0
    go_wp2
    exact opq_end hR ⟨rfl, b0⟩
  replace gg : Hid (([gl A1 n1 c1 es1, gl A2 n2 c2 es2, gl (some ⟨w1.heap.size, 0, none⟩) 1 1 [e3]] : List GL).any gr = false) := (by simpa using gg : ([gl A1 n1 c1 es1, gl A2 n2 c2 es2, gl (some ⟨w1.heap.size, 0, none⟩) 1 1 [e3]] : List GL).any gr = false)
  have y := (Below.refl (w1.alloc (.cells #[.bool b3, .slice A3 n3 c3, .slice D3 m3 k3] 60)).heap.size (w1.alloc (.cells #[.bool b3, .slice A3 n3 c3, .slice D3 m3 k3] 60))).alloc (Nat.le_refl _) (.cells #[.slice A1 n1 c1, .slice A2 n2 c2, .slice (some ⟨w1.heap.size, 0, none⟩) 1 1] 58)
  replace K3 := hide (K3.out.below' y)
  replace G3 := hide (G3.out.below' y)
  replace b0 := hide (below_tr b0.out y)
  clear y
  go_wp2_with fail
  refine (vgreat_L (w := (w1.alloc (.cells #[.bool b3, .slice A3 n3 c3, .slice D3 m3 k3] 60))) [gl A1 n1 c1 es1, gl A2 n2 c2 es2, gl (some ⟨w1.heap.size, 0, none⟩) 1 1 [e3]] #[.slice A1 n1 c1, .slice A2 n2 c2, .slice (some ⟨w1.heap.size, 0, none⟩) 1 1] rfl (g := w1.heap.size + 1) (by simp) GE.out 3 rfl (by decide) false gg.out).mono ?_
  rintro e w2 ⟨_, rfl, d0, rfl⟩
  replace K3 := hide (K3.out.below' d0)
  replace G3 := hide (G3.out.below' d0)
  replace b0 := hide (below_tr b0.out d0)
  clear d0
  clear GE
  clear G3
  have M1 : Hid (n1 ≤ 30 ∧ tsz es1 ≤ 300) := any_false gg.out (gl A1 n1 c1 es1) (by simp)
  have P1 := hide (h1.out.rawW 300 M1.out.2 (by decide)).1
  have S1 := hide (h1.out.rawW 300 M1.out.2 (by decide)).2
  have N1 : Hid (es1.length = n1) := h1.out.len
  have M2 : Hid (n2 ≤ 30 ∧ tsz es2 ≤ 300) := any_false gg.out (gl A2 n2 c2 es2) (by simp)
  have P2 := hide (h2.out.rawW 300 M2.out.2 (by decide)).1
  have S2 := hide (h2.out.rawW 300 M2.out.2 (by decide)).2
  have N2 : Hid (es2.length = n2) := h2.out.len
  have MG := (any_false gg.out (gl (some ⟨w1.heap.size, 0, none⟩) 1 1 [e3]) (by simp)).2
  have P3 := hide (h3.out.raw (Nat.le_trans (tsz_mem (by simp)) (Nat.le_trans MG (by decide)))).1
  have S3 := hide ((h3.out.raw (Nat.le_trans (tsz_mem (by simp)) (Nat.le_trans MG (by decide)))).2.up (Nat.le_trans (tsz_mem (by simp)) MG) : H (rvE e3) 300)
  clear MG
  clear gg h1 h2 h3
  clear K3c0 K3c1 K3c2
  have K3c0 : w2.cell? ⟨w.heap.size, 0, none⟩ = some (.bool b3) := K3.out.at_ 0 rfl
  have K3c1 : w2.cell? ⟨w.heap.size, 1, none⟩ = some (.slice A3 n3 c3) := K3.out.at_ 1 rfl
  have K3c2 : w2.cell? ⟨w.heap.size, 2, none⟩ = some (.slice D3 m3 k3) := K3.out.at_ 2 rfl
  by_cases ll : n1 = n2
  case neg =>
    have ne : ((n1 : Int) != (n2 : Int)) = true := by simp; omega
    go_wp2_with fail
    refine (valive_P _ (T.out.below b0.out)).mono ?_
    rintro e w3 ⟨_, rfl, d0, rfl⟩
    replace K3 := hide (K3.out.below' d0)
    replace b0 := hide (below_tr b0.out d0)
    clear d0
    go_wp2
    exact opq_end hR ⟨rfl, b0⟩
  subst ll
  by_cases r1 : es1.all rk = false
  case pos =>
    replace r1 := hide r1
    go_wp2_with fail
    refine (vCheck_L (P1.out.raw_below b0.out) (T.out.below b0.out) false r1.out).mono ?_
    rintro e w3 ⟨_, rfl, d0, rfl⟩
    replace K3 := hide (K3.out.below' d0)
    replace b0 := hide (below_tr b0.out d0)
    clear d0
    go_wp2_with fail
    refine (valive_P _ (T.out.below b0.out)).mono ?_
    rintro e w4 ⟨_, rfl, d0, rfl⟩
    replace K3 := hide (K3.out.below' d0)
    replace b0 := hide (below_tr b0.out d0)
    clear d0
    go_wp2
    exact opq_end hR ⟨rfl, b0⟩
  replace r1 : Hid (es1.all rk = true) := (by simpa using r1 : es1.all rk = true)
  go_wp2_with fail
  refine (vCheck_L (P1.out.raw_below b0.out) (T.out.below b0.out) true r1.out).mono ?_
  rintro e w3 ⟨_, rfl, d0, rfl⟩
  replace K3 := hide (K3.out.below' d0)
  replace b0 := hide (below_tr b0.out d0)
  clear d0
  clear K3c0 K3c1 K3c2
  have K3c0 : w3.cell? ⟨w.heap.size, 0, none⟩ = some (.bool b3) := K3.out.at_ 0 rfl
  have K3c1 : w3.cell? ⟨w.heap.size, 1, none⟩ = some (.slice A3 n3 c3) := K3.out.at_ 1 rfl
  have K3c2 : w3.cell? ⟨w.heap.size, 2, none⟩ = some (.slice D3 m3 k3) := K3.out.at_ 2 rfl
  have L1 := hide (P1.out.canW r1.out)
  have E1 : Hid ((es1.map rvE).length = n1) := by show _ = _; rw [List.length_map]; exact N1.out
  clear P1 r1 N1
  generalize es1.map rvE = ps at *
  by_cases r2 : es2.all rk = false
  case pos =>
    replace r2 := hide r2
    go_wp2_with fail
    refine (vCheck_L (P2.out.raw_below b0.out) (T.out.below b0.out) false r2.out).mono ?_
    rintro e w4 ⟨_, rfl, d0, rfl⟩
    replace K3 := hide (K3.out.below' d0)
    replace b0 := hide (below_tr b0.out d0)
    clear d0
    go_wp2_with fail
    refine (valive_P _ (T.out.below b0.out)).mono ?_
    rintro e w5 ⟨_, rfl, d0, rfl⟩
    replace K3 := hide (K3.out.below' d0)
    replace b0 := hide (below_tr b0.out d0)
    clear d0
    go_wp2
    exact opq_end hR ⟨rfl, b0⟩
  replace r2 : Hid (es2.all rk = true) := (by simpa using r2 : es2.all rk = true)
  go_wp2_with fail
  refine (vCheck_L (P2.out.raw_below b0.out) (T.out.below b0.out) true r2.out).mono ?_
  rintro e w4 ⟨_, rfl, d0, rfl⟩
  replace K3 := hide (K3.out.below' d0)
  replace b0 := hide (below_tr b0.out d0)
  clear d0
  clear K3c0 K3c1 K3c2
  have K3c0 : w4.cell? ⟨w.heap.size, 0, none⟩ = some (.bool b3) := K3.out.at_ 0 rfl
  have K3c1 : w4.cell? ⟨w.heap.size, 1, none⟩ = some (.slice A3 n3 c3) := K3.out.at_ 1 rfl
  have K3c2 : w4.cell? ⟨w.heap.size, 2, none⟩ = some (.slice D3 m3 k3) := K3.out.at_ 2 rfl
  have L2 := hide (P2.out.canW r2.out)
  have E2 : Hid ((es2.map rvE).length = n1) := by show _ = _; rw [List.length_map]; exact N2.out
  clear P2 r2 N2
  generalize es2.map rvE = qs at *
  by_cases r3 : rk e3 = false
  case pos =>
    replace r3 := hide r3
    go_wp2_with fail
    refine (rCheck_P (P3.out.below b0.out) (T.out.below b0.out) false r3.out).mono ?_
    rintro e w5 ⟨_, rfl, d0, rfl⟩
    replace K3 := hide (K3.out.below' d0)
    replace b0 := hide (below_tr b0.out d0)
    clear d0
    go_wp2_with fail
    refine (valive_P _ (T.out.below b0.out)).mono ?_
    rintro e w6 ⟨_, rfl, d0, rfl⟩
    replace K3 := hide (K3.out.below' d0)
    replace b0 := hide (below_tr b0.out d0)
    clear d0
    go_wp2
    exact opq_end hR ⟨rfl, b0⟩
  replace r3 : Hid (rk e3 = true) := (by simpa using r3 : rk e3 = true)
  go_wp2_with fail
  refine (rCheck_P (P3.out.below b0.out) (T.out.below b0.out) true r3.out).mono ?_
  rintro e w5 ⟨_, rfl, d0, rfl⟩
  replace K3 := hide (K3.out.below' d0)
  replace b0 := hide (below_tr b0.out d0)
  clear d0
  clear K3c0 K3c1 K3c2
  have K3c0 : w5.cell? ⟨w.heap.size, 0, none⟩ = some (.bool b3) := K3.out.at_ 0 rfl
  have K3c1 : w5.cell? ⟨w.heap.size, 1, none⟩ = some (.slice A3 n3 c3) := K3.out.at_ 1 rfl
  have K3c2 : w5.cell? ⟨w.heap.size, 2, none⟩ = some (.slice D3 m3 k3) := K3.out.at_ 2 rfl
  have a3 : Hid (RCan w (.agg #[.bool b3, .slice A3 n3 c3, .slice D3 m3 k3]) (rvE e3)) := RPrt.can P3.out r3.out
  clear P3 r3
  generalize rvE e3 = t3 at *
  have Q1_ : Hid (Hs ((axpy ps qs t3)) 901) := Hs_axpy S1.out S2.out S3.out _ (by decide)
  go_wp2_with fail
  refine (vAdd_T (k := 300) (L1.out.can_below b0.out) (L2.out.can_below b0.out) (a3.out.below b0.out) (by rw [E1.out, E2.out]) (S1.out) (S2.out) S3.out (by decide) (by have : ps.length ≤ 30 := (by rw [E1.out]; exact M1.out.1); omega) (T.out.below b0.out)).mono ?_
  rintro e w6 ⟨v8, rfl, d0, x8⟩
  replace K3 := hide (K3.out.below' d0)
  replace b0 := hide (below_tr b0.out d0)
  have L8 := hide (x8)
  clear d0
  clear x8
  obtain ⟨A8, c8, e8⟩ := L8.out.sl
  rw [axpy_length _ _ _ (by rw [E1.out, E2.out]), (E1.out)] at e8
  subst e8
  clear K3c0 K3c1 K3c2
  repeat (first | with_reducible refine hold_reg (id := 4) ?_ | go_values | go_skip | go_guarded | go_step | go_upon | go_back | (simp only [Int.not_lt, Int.not_le] at *; go_simp))
  obtain ⟨V1_6, hV⟩ : ∃ V, w6 = V := ⟨_, rfl⟩
  rw [hV] at K3 L8 b0
  rw [hV]
  clear hV
  unfold Hid
  refine wp_seq ?_
  have L1V := hide (L1.out.can_below b0.out)
  have L2V := hide (L2.out.can_below b0.out)
  have a3V := hide (a3.out.below b0.out)
  have Q2_ : Hid (H (((0 : Int) : Rat)) 2) := H_int (L_up (Z_64 (by decide) (by decide)) (by decide)) (by decide)
  have Q3_ : Hid (H ((((0 : Int) : Rat) - t3)) 303) := H_sub Q2_.out S3.out (by decide)
  have Q4_ : Hid (Hs ((axpy (axpy ps qs t3) qs (((0 : Int) : Rat) - t3))) 1505) := Hs_axpy Q1_.out S2.out Q3_.out _ (by decide)
  refine wp_region_facts 11 (fun w' => Below V1_6.heap.size V1_6 w') [(56, (.lst0 V1_6 (axpy ps qs t3))), (57, (.lst0 V1_6 qs)), (58, (.rat ((0 : Int) : Rat))), (59, (.rat0 V1_6 t3)), (60, (.rat (((0 : Int) : Rat) - t3))), (61, (.tupE (.lst (axpy (axpy ps qs t3) qs (((0 : Int) : Rat) - t3))) (.int .i64 0))), (55, (.tupE (.lst (axpy (axpy ps qs t3) qs (((0 : Int) : Rat) - t3))) (.int .i64 0))), (62, (.lst (axpy (axpy ps qs t3) qs (((0 : Int) : Rat) - t3)))), (63, .eq ((.int .i64 0))), (9, (.lst (axpy (axpy ps qs t3) qs (((0 : Int) : Rat) - t3)))), (10, .eq ((.int .i64 0)))] [false, false, false, false, false, false, false, false, false, true, true, false, false, false, false, false, false, false, false, false, false, false, false, false, false, false, false, false, false, false, false, false, false, false, false, false, false, false, false, false, false, false, false, false, false, false, false, false, false, false, false, false, false, false, false, true, true, true, true, true, true, true, true, true, false, false, false, false, false, false, false, false, false, false, false, false, false, false, false, false, false, false, false, false, false, false, false, false, false, false, false, false, false, false, false, false, false, false, false, false, false, false, false, false, false, false, false, false, false, false, false, false, false, false, false, false, false, false] mixed (by kernel_rfl) (by kernel_rfl) (by kernel_rfl) (fun _ _ h hb => h.trans (hb.mono h.size)) ((Below.refl _ _).drew) ⟨?_, ?_, ?_, ?_, ?_, ?_, ?_, ?_, ?_, ?_, ?_, trivial⟩ ?_
  · exact .moveC (.inl rfl) (.inl rfl) rfl (fun a w' hC hs => (show Lst RCan V1_6 (a.eval (.tmp 7)) (axpy ps qs t3) from by rw [show a.eval (.tmp 7) = (.slice A8 n1 c8 : Value) from (hs 7 (by kernel_rfl))]; exact L8.out))
  · exact .moveC (.inl rfl) (.inl rfl) rfl (fun a w' hC hs => (show Lst RCan V1_6 (a.eval (.tmp 1)) qs from by rw [show a.eval (.tmp 1) = (.slice A2 n1 c2 : Value) from (hs 1 (by kernel_rfl))]; exact L2V.out))
  · exact .call (.inl rfl) rfl rfl fn_rOf (fun a w' hC hs hl => rOf_C w' (0) (by decide) (by decide))
  · exact .load (.agg #[.bool b3, .slice A3 n3 c3, .slice D3 m3 k3]) (.inl rfl) rfl rfl (fun a w' hC hs hl => by rw [show a.eval (.tmp 5) = (.pointer (some ⟨w.heap.size, 0, none⟩) : Value) from (hs 5 (by kernel_rfl))]; exact ⟨ld_Rat_ ((K3.out.below' hC).at_ 0 rfl) ((K3.out.below' hC).at_ 1 rfl) ((K3.out.below' hC).at_ 2 rfl), a3V.out⟩)
  · exact .call (.inl rfl) rfl rfl fn_rSub (fun a w' hC hs hl => rSub_C (RCan.arg (hl 58 (by kernel_rfl) (by kernel_rfl)) (Q2_.out.up (by decide))) (RCan.arg (RCan.below (hl 59 (by kernel_rfl) (by kernel_rfl)) hC) (S3.out.up (by decide))) (T.out.below (b0.out.trans (hC.mono b0.out.size))))
  · exact .call (.inl rfl) rfl rfl fn_vAdd (fun a w' hC hs hl => vAdd_L (k := 901) (Lst.can_below (hl 56 (by kernel_rfl) (by kernel_rfl)) hC) (Lst.can_below (hl 57 (by kernel_rfl) (by kernel_rfl)) hC) (hl 60 (by kernel_rfl) (by kernel_rfl)) (by rw [axpy_length _ _ _ (by rw [E1.out, E2.out]), E1.out, E2.out]) Q1_.out (S2.out.up (by decide)) (Q3_.out.up (by decide)) (by decide) (by have : (axpy ps qs t3).length ≤ 30 := (by rw [axpy_length _ _ _ (by rw [E1.out, E2.out]), E1.out]; exact M1.out.1); omega) (T.out.below (b0.out.trans (hC.mono b0.out.size))))
  · exact .move (.inl rfl) (.inl rfl) rfl (by kernel_rfl) (by kernel_rfl) rfl
  · exact .make (.inl rfl) (by intro T e; cases e) rfl (fun a w' hC hs hl => by
      obtain ⟨u, e, h⟩ := (hl 55 (by kernel_rfl) (by kernel_rfl))
      have e' : a.tmps[55]?.getD undef = _ := (by simp [Act.eval] : _ = a.eval (.tmp 55)).trans e
      exact ⟨u, by simp [execOp, go_sem, e'], h⟩)
  · exact .make (.inl rfl) (by intro T e; cases e) rfl (fun a w' hC hs hl => by
      obtain ⟨u, e, h⟩ := (hl 55 (by kernel_rfl) (by kernel_rfl))
      have e' : a.tmps[55]?.getD undef = _ := (by simp [Act.eval] : _ = a.eval (.tmp 55)).trans e
      exact ⟨_, by simp [execOp, go_sem, e'], rfl⟩)
  · exact .move (.inl rfl) (.inr rfl) rfl (by kernel_rfl) (by kernel_rfl) rfl
  · exact .move (.inl rfl) (.inr rfl) rfl (by kernel_rfl) (by kernel_rfl) rfl
  intro f u7 hC hF _
  have L9 : Lst RCan u7 (f 9) (axpy (axpy ps qs t3) qs (((0 : Int) : Rat) - t3)) := hF 9 (by kernel_rfl)
  obtain ⟨A9, c9, e9⟩ := L9.sl
  rw [show ((axpy (axpy ps qs t3) qs (((0 : Int) : Rat) - t3))).length = n1 from by rw [axpy_length _ _ _ (by rw [axpy_length _ _ _ (by rw [E1.out, E2.out]), E1.out, E2.out]), axpy_length _ _ _ (by rw [E1.out, E2.out])]; exact E1.out] at e9
  rw [e9] at L9
  replace L9 := hide L9
  have f10 : f 10 = .int .i64 0 := hF 10 (by kernel_rfl)
  clear hF
  simp only [patch, List.drop]
  rw [e9]
  clear e9
  rw [f10]
  clear f10
  generalize f 56 = y56_ at *
  generalize f 57 = y57_ at *
  generalize f 58 = y58_ at *
  generalize f 59 = y59_ at *
  generalize f 60 = y60_ at *
  generalize f 61 = y61_ at *
  generalize f 55 = y55_ at *
  generalize f 62 = y62_ at *
  generalize f 63 = y63_ at *
  replace K3 := hide (K3.out.below' hC)
  replace L8 := hide (L8.out.can_below hC)
  replace L1V := hide (L1V.out.can_below hC)
  replace L2V := hide (L2V.out.can_below hC)
  replace a3V := hide (a3V.out.below hC)
  replace b0 := hide (b0.out.trans (hC.mono b0.out.size))
  clear hC
  go_wp2_with fail
  refine (rOf_C _ 0 (by decide) (by decide)).mono ?_
  rintro e w8 ⟨v20, rfl, d0, x20⟩
  replace K3 := hide (K3.out.below' d0)
  replace L8 := hide (L8.out.can_below d0)
  replace L1V := hide (L1V.out.can_below d0)
  replace L2V := hide (L2V.out.can_below d0)
  replace a3V := hide (a3V.out.below d0)
  replace L9 := hide (L9.out.can_below d0)
  replace b0 := hide (below_tr b0.out d0)
  have X20 := hide (x20)
  clear d0
  clear x20
  obtain ⟨b20, A20, n20, c20, D20, m20, k20, rfl⟩ := X20.out.slice
  have Q5_ : Hid (Hs ((axpy ps qs ((0 : Int) : Rat))) 603) := Hs_axpy S1.out S2.out Q2_.out _ (by decide)
  go_wp2_with fail
  refine (vAdd_T (k := 300) L1V.out L2V.out X20.out (by rw [E1.out, E2.out]) (S1.out) (S2.out) (Q2_.out.up (by decide)) (by decide) (by have : ps.length ≤ 30 := (by rw [E1.out]; exact M1.out.1); omega) (T.out.below b0.out)).mono ?_
  rintro e w9 ⟨v11, rfl, d0, x11⟩
  replace K3 := hide (K3.out.below' d0)
  replace L8 := hide (L8.out.can_below d0)
  replace L1V := hide (L1V.out.can_below d0)
  replace L2V := hide (L2V.out.can_below d0)
  replace a3V := hide (a3V.out.below d0)
  replace L9 := hide (L9.out.can_below d0)
  replace X20 := hide (X20.out.below d0)
  replace b0 := hide (below_tr b0.out d0)
  have L11 := hide (x11)
  clear d0
  clear x11
  obtain ⟨A11, c11, e11⟩ := L11.out.sl
  rw [axpy_length _ _ _ (by rw [E1.out, E2.out]), (E1.out)] at e11
  subst e11
  clear X20
  repeat (first | with_reducible refine hold_reg (id := 6) ?_ | go_values | go_skip | go_guarded | go_step | go_upon | go_back | (simp only [Int.not_lt, Int.not_le] at *; go_simp))
  obtain ⟨V2_9, hV⟩ : ∃ V, w9 = V := ⟨_, rfl⟩
  rw [hV] at K3 L8 L1V L2V a3V L9 L11 b0
  rw [hV]
  clear hV
  unfold Hid
  refine wp_seq ?_
  have Q6_ : Hid (Hs ((List.replicate n1 (0 : Rat))) 1) := Hs_zero n1
  have Q7_ : Hid (Hs ((axpy (List.replicate n1 (0 : Rat)) qs t3)) 602) := Hs_axpy Q6_.out S2.out S3.out _ (by decide)
  refine wp_region_facts 11 (fun w' => Below V2_9.heap.size V2_9 w') [(72, .eq (.slice A2 n1 c2)), (73, .eq (.int .i64 (n1))), (74, (.lst (List.replicate n1 (0 : Rat)))), (75, (.lst0 V2_9 qs)), (76, (.rat0 V2_9 t3)), (77, (.tupE (.lst (axpy (List.replicate n1 (0 : Rat)) qs t3)) (.int .i64 0))), (71, (.tupE (.lst (axpy (List.replicate n1 (0 : Rat)) qs t3)) (.int .i64 0))), (78, (.lst (axpy (List.replicate n1 (0 : Rat)) qs t3))), (79, .eq ((.int .i64 0))), (13, (.lst (axpy (List.replicate n1 (0 : Rat)) qs t3))), (14, .eq ((.int .i64 0)))] [false, false, false, false, false, false, false, false, false, false, false, false, false, true, true, false, false, false, false, false, false, false, false, false, false, false, false, false, false, false, false, false, false, false, false, false, false, false, false, false, false, false, false, false, false, false, false, false, false, false, false, false, false, false, false, false, false, false, false, false, false, false, false, false, false, false, false, false, false, false, false, true, true, true, true, true, true, true, true, true, false, false, false, false, false, false, false, false, false, false, false, false, false, false, false, false, false, false, false, false, false, false, false, false, false, false, false, false, false, false, false, false, false, false, false, false, false, false] mixed (by kernel_rfl) (by kernel_rfl) (by kernel_rfl) (fun _ _ h hb => h.trans (hb.mono h.size)) ((Below.refl _ _).drew) ⟨?_, ?_, ?_, ?_, ?_, ?_, ?_, ?_, ?_, ?_, ?_, trivial⟩ ?_
  · exact .moveC (.inl rfl) (.inl rfl) rfl (fun a w' hC hs => (hs 1 (by kernel_rfl)))
  · exact .value (.inl rfl) (by intro T e; cases e) rfl rfl (fun a w' hC hs hl => by
      have e0 : a.eval (.tmp 72) = (.slice A2 n1 c2) := (hl 72 (by kernel_rfl) (by kernel_rfl))
      have e0' : a.tmps[72]?.getD undef = _ := (by simp [Act.eval] : _ = a.eval (.tmp 72)).trans e0
      simp [execOp, resolve, invoke, builtin, go_sem, e0, e0'])
  · exact .call (.inl rfl) rfl rfl fn_vZero (fun a w' hC hs hl => by
      show Calls _ _ #[a.eval (.tmp 73)] _ _
      rw [show a.eval (.tmp 73) = (.int .i64 (n1) : Value) from (hl 73 (by kernel_rfl) (by kernel_rfl))]
      exact vZero_L w' n1 (by have := M1.out.1; omega))
  · exact .moveC (.inl rfl) (.inl rfl) rfl (fun a w' hC hs => (show Lst RCan V2_9 (a.eval (.tmp 1)) qs from by rw [show a.eval (.tmp 1) = (.slice A2 n1 c2 : Value) from (hs 1 (by kernel_rfl))]; exact L2V.out))
  · exact .load (.agg #[.bool b3, .slice A3 n3 c3, .slice D3 m3 k3]) (.inl rfl) rfl rfl (fun a w' hC hs hl => by rw [show a.eval (.tmp 5) = (.pointer (some ⟨w.heap.size, 0, none⟩) : Value) from (hs 5 (by kernel_rfl))]; exact ⟨ld_Rat_ ((K3.out.below' hC).at_ 0 rfl) ((K3.out.below' hC).at_ 1 rfl) ((K3.out.below' hC).at_ 2 rfl), a3V.out⟩)
  · exact .call (.inl rfl) rfl rfl fn_vAdd (fun a w' hC hs hl => vAdd_L (k := 300) (hl 74 (by kernel_rfl) (by kernel_rfl)) (Lst.can_below (hl 75 (by kernel_rfl) (by kernel_rfl)) hC) (RCan.below (hl 76 (by kernel_rfl) (by kernel_rfl)) hC) (by rw [List.length_replicate, E2.out]) (Q6_.out.up (by decide)) S2.out S3.out (by decide) (by have : (List.replicate n1 (0 : Rat)).length ≤ 30 := (by rw [List.length_replicate]; exact M1.out.1); omega) (T.out.below (b0.out.trans (hC.mono b0.out.size))))
  · exact .move (.inl rfl) (.inl rfl) rfl (by kernel_rfl) (by kernel_rfl) rfl
  · exact .make (.inl rfl) (by intro T e; cases e) rfl (fun a w' hC hs hl => by
      obtain ⟨u, e, h⟩ := (hl 71 (by kernel_rfl) (by kernel_rfl))
      have e' : a.tmps[71]?.getD undef = _ := (by simp [Act.eval] : _ = a.eval (.tmp 71)).trans e
      exact ⟨u, by simp [execOp, go_sem, e'], h⟩)
  · exact .make (.inl rfl) (by intro T e; cases e) rfl (fun a w' hC hs hl => by
      obtain ⟨u, e, h⟩ := (hl 71 (by kernel_rfl) (by kernel_rfl))
      have e' : a.tmps[71]?.getD undef = _ := (by simp [Act.eval] : _ = a.eval (.tmp 71)).trans e
      exact ⟨_, by simp [execOp, go_sem, e'], rfl⟩)
  · exact .move (.inl rfl) (.inr rfl) rfl (by kernel_rfl) (by kernel_rfl) rfl
  · exact .move (.inl rfl) (.inr rfl) rfl (by kernel_rfl) (by kernel_rfl) rfl
  intro f u10 hC hF _
  have L13 : Lst RCan u10 (f 13) (axpy (List.replicate n1 (0 : Rat)) qs t3) := hF 13 (by kernel_rfl)
  obtain ⟨A13, c13, e13⟩ := L13.sl
  rw [show ((axpy (List.replicate n1 (0 : Rat)) qs t3)).length = n1 from by rw [axpy_length _ _ _ (by rw [List.length_replicate, E2.out]), List.length_replicate]] at e13
  rw [e13] at L13
  replace L13 := hide L13
  have f14 : f 14 = .int .i64 0 := hF 14 (by kernel_rfl)
  clear hF
  simp only [patch, List.drop]
  rw [e13]
  clear e13
  rw [f14]
  clear f14
  generalize f 72 = y72_ at *
  generalize f 73 = y73_ at *
  generalize f 74 = y74_ at *
  generalize f 75 = y75_ at *
  generalize f 76 = y76_ at *
  generalize f 77 = y77_ at *
  generalize f 71 = y71_ at *
  generalize f 78 = y78_ at *
  generalize f 79 = y79_ at *
  replace K3 := hide (K3.out.below' hC)
  replace L8 := hide (L8.out.can_below hC)
  replace L1V := hide (L1V.out.can_below hC)
  replace L2V := hide (L2V.out.can_below hC)
  replace a3V := hide (a3V.out.below hC)
  replace L9 := hide (L9.out.can_below hC)
  replace L11 := hide (L11.out.can_below hC)
  replace b0 := hide (b0.out.trans (hC.mono b0.out.size))
  clear hC
  repeat (first | with_reducible refine hold_reg (id := 7) ?_ | go_values | go_skip | go_guarded | go_step | go_upon | go_back | (simp only [Int.not_lt, Int.not_le] at *; go_simp))
  obtain ⟨V3_10, hV⟩ : ∃ V, u10 = V := ⟨_, rfl⟩
  rw [hV] at K3 L8 L1V L2V a3V L9 L11 L13 b0
  rw [hV]
  clear hV
  unfold Hid
  refine wp_seq ?_
  have Q8_ : Hid (Hs ((qs.map (· * t3))) 600) := Hs_scale S2.out S3.out _ (by decide)
  refine wp_region_seq 39 (fun w' => Below V3_10.heap.size V3_10 w') [(80, .eq (.int .i64 0)), (81, .eq (.bool true)), (82, .eq (.bool true)), (83, .eq (.int .i64 0)), (84, .eq (.bool true)), (85, .eq (.bool true)), (86, .eq (.bool true)), (87, .eq (.int .i64 0)), (88, .eq (.bool true)), (89, .eq (.bool true)), (90, .eq (.bool true)), (91, .eq (.int .i64 0)), (92, .eq (.bool true)), (93, .eq (.bool true)), (94, .eq (.bool true)), (95, (.lst0 V3_10 (axpy (axpy ps qs t3) qs (((0 : Int) : Rat) - t3)))), (96, (.lst0 V3_10 ps)), (97, .eq (.bool true)), (98, .eq (.bool true)), (99, .eq (.bool true)), (100, (.lst0 V3_10 (axpy ps qs ((0 : Int) : Rat)))), (101, (.lst0 V3_10 ps)), (102, .eq (.bool true)), (103, .eq (.bool true)), (104, .eq (.bool true)), (105, (.lst0 V3_10 (axpy (List.replicate n1 (0 : Rat)) qs t3))), (106, (.lst0 V3_10 qs)), (107, (.rat0 V3_10 t3)), (108, (.lst (qs.map (· * t3)))), (109, .eq (.bool true)), (110, .eq (.bool true)), (111, .eq (.bool true)), (112, .eq (.slice A8 n1 c8)), (113, .eq (.int .i64 (n1))), (114, .eq (.slice A1 n1 c1)), (115, .eq (.int .i64 (n1))), (116, .eq (.bool true)), (117, .eq (.bool true)), (6, .eq (.bool true))] [false, false, false, false, false, false, true, false, false, false, false, false, false, false, false, false, false, false, false, false, false, false, false, false, false, false, false, false, false, false, false, false, false, false, false, false, false, false, false, false, false, false, false, false, false, false, false, false, false, false, false, false, false, false, false, false, false, false, false, false, false, false, false, false, false, false, false, false, false, false, false, false, false, false, false, false, false, false, false, false, true, true, true, true, true, true, true, true, true, true, true, true, true, true, true, true, true, true, true, true, true, true, true, true, true, true, true, true, true, true, true, true, true, true, true, true, true, true] (by kernel_rfl) (by kernel_rfl) (by kernel_rfl) (fun _ _ h hb => h.trans (hb.mono h.size)) (Below.refl _ _) ⟨?_, ?_, ?_, ?_, ?_, ?_, ?_, ?_, ?_, ?_, ?_, ?_, ?_, ?_, ?_, ?_, ?_, ?_, ?_, ?_, ?_, ?_, ?_, ?_, ?_, ?_, ?_, ?_, ?_, ?_, ?_, ?_, ?_, ?_, ?_, ?_, ?_, ?_, ?_, trivial⟩ ?_
  · exact .moveC (.inl rfl) (.inl rfl) rfl (fun a w' hC hs => (hs 8 (by kernel_rfl)))
  · exact .value (.inl rfl) (by intro T e; cases e) rfl rfl (fun a w' hC hs hl => by
      have e0 : a.eval (.tmp 80) = (.int .i64 0) := (hl 80 (by kernel_rfl) (by kernel_rfl))
      simp only [execOp, e0]
      simp only [Act.eval]
      simp [go_sem] <;> rfl)
  · exact .move (.inl rfl) (.inl rfl) rfl (by kernel_rfl) (by kernel_rfl) rfl
  · exact .moveC (.inr ⟨2, true, 82, by decide, rfl, rfl, rfl⟩) (.inl rfl) rfl (fun a w' hC hs => (hs 10 (by kernel_rfl)))
  · exact .value (.inr ⟨2, true, 82, by decide, rfl, rfl, rfl⟩) (by intro T e; cases e) rfl rfl (fun a w' hC hs hl => by
      have e0 : a.eval (.tmp 83) = (.int .i64 0) := (hl 83 (by kernel_rfl) (by kernel_rfl))
      simp only [execOp, e0]
      simp only [Act.eval]
      simp [go_sem] <;> rfl)
  · exact .pick (b := true) (.inl rfl) rfl rfl (fun a w' hC hs hl => ⟨(hl 82 (by kernel_rfl) (by kernel_rfl)), (hl 84 (by kernel_rfl) (by kernel_rfl))⟩)
  · exact .move (.inl rfl) (.inl rfl) rfl (by kernel_rfl) (by kernel_rfl) rfl
  · exact .moveC (.inr ⟨6, true, 86, by decide, rfl, rfl, rfl⟩) (.inl rfl) rfl (fun a w' hC hs => (hs 12 (by kernel_rfl)))
  · exact .value (.inr ⟨6, true, 86, by decide, rfl, rfl, rfl⟩) (by intro T e; cases e) rfl rfl (fun a w' hC hs hl => by
      have e0 : a.eval (.tmp 87) = (.int .i64 0) := (hl 87 (by kernel_rfl) (by kernel_rfl))
      simp only [execOp, e0]
      simp only [Act.eval]
      simp [go_sem] <;> rfl)
  · exact .pick (b := true) (.inl rfl) rfl rfl (fun a w' hC hs hl => ⟨(hl 86 (by kernel_rfl) (by kernel_rfl)), (hl 88 (by kernel_rfl) (by kernel_rfl))⟩)
  · exact .move (.inl rfl) (.inl rfl) rfl (by kernel_rfl) (by kernel_rfl) rfl
  · exact .moveC (.inr ⟨10, true, 90, by decide, rfl, rfl, rfl⟩) (.inl rfl) rfl (fun a w' hC hs => (hs 14 (by kernel_rfl)))
  · exact .value (.inr ⟨10, true, 90, by decide, rfl, rfl, rfl⟩) (by intro T e; cases e) rfl rfl (fun a w' hC hs hl => by
      have e0 : a.eval (.tmp 91) = (.int .i64 0) := (hl 91 (by kernel_rfl) (by kernel_rfl))
      simp only [execOp, e0]
      simp only [Act.eval]
      simp [go_sem] <;> rfl)
  · exact .pick (b := true) (.inl rfl) rfl rfl (fun a w' hC hs hl => ⟨(hl 90 (by kernel_rfl) (by kernel_rfl)), (hl 92 (by kernel_rfl) (by kernel_rfl))⟩)
  · exact .move (.inl rfl) (.inl rfl) rfl (by kernel_rfl) (by kernel_rfl) rfl
  · exact .moveC (.inr ⟨14, true, 94, by decide, rfl, rfl, rfl⟩) (.inl rfl) rfl (fun a w' hC hs => (show Lst RCan V3_10 (a.eval (.tmp 9)) (axpy (axpy ps qs t3) qs (((0 : Int) : Rat) - t3)) from by rw [show a.eval (.tmp 9) = (.slice A9 n1 c9 : Value) from (hs 9 (by kernel_rfl))]; exact L9.out))
  · exact .moveC (.inr ⟨14, true, 94, by decide, rfl, rfl, rfl⟩) (.inl rfl) rfl (fun a w' hC hs => (show Lst RCan V3_10 (a.eval (.tmp 0)) ps from by rw [show a.eval (.tmp 0) = (.slice A1 n1 c1 : Value) from (hs 0 (by kernel_rfl))]; exact L1V.out))
  · exact .call (.inr ⟨14, true, 94, by decide, rfl, rfl, rfl⟩) rfl rfl fn_vSame (fun a w' hC hs hl => vSame_L (k := 1505) (Lst.can_below (hl 95 (by kernel_rfl) (by kernel_rfl)) hC) (Lst.can_below (hl 96 (by kernel_rfl) (by kernel_rfl)) hC) Q4_.out (S1.out.up (by decide)) (by decide) (T.out.below (b0.out.trans (hC.mono b0.out.size))) true (decide_eq_true (axpy_back _ _ _ (by rw [E1.out, E2.out]))))
  · exact .pick (b := true) (.inl rfl) rfl rfl (fun a w' hC hs hl => ⟨(hl 94 (by kernel_rfl) (by kernel_rfl)), (hl 97 (by kernel_rfl) (by kernel_rfl))⟩)
  · exact .move (.inl rfl) (.inl rfl) rfl (by kernel_rfl) (by kernel_rfl) rfl
  · exact .moveC (.inr ⟨19, true, 99, by decide, rfl, rfl, rfl⟩) (.inl rfl) rfl (fun a w' hC hs => (show Lst RCan V3_10 (a.eval (.tmp 11)) (axpy ps qs ((0 : Int) : Rat)) from by rw [show a.eval (.tmp 11) = (.slice A11 n1 c11 : Value) from (hs 11 (by kernel_rfl))]; exact L11.out))
  · exact .moveC (.inr ⟨19, true, 99, by decide, rfl, rfl, rfl⟩) (.inl rfl) rfl (fun a w' hC hs => (show Lst RCan V3_10 (a.eval (.tmp 0)) ps from by rw [show a.eval (.tmp 0) = (.slice A1 n1 c1 : Value) from (hs 0 (by kernel_rfl))]; exact L1V.out))
  · exact .call (.inr ⟨19, true, 99, by decide, rfl, rfl, rfl⟩) rfl rfl fn_vSame (fun a w' hC hs hl => vSame_L (k := 603) (Lst.can_below (hl 100 (by kernel_rfl) (by kernel_rfl)) hC) (Lst.can_below (hl 101 (by kernel_rfl) (by kernel_rfl)) hC) Q5_.out (S1.out.up (by decide)) (by decide) (T.out.below (b0.out.trans (hC.mono b0.out.size))) true (decide_eq_true (axpy_none _ _ (by rw [E1.out, E2.out]))))
  · exact .pick (b := true) (.inl rfl) rfl rfl (fun a w' hC hs hl => ⟨(hl 99 (by kernel_rfl) (by kernel_rfl)), (hl 102 (by kernel_rfl) (by kernel_rfl))⟩)
  · exact .move (.inl rfl) (.inl rfl) rfl (by kernel_rfl) (by kernel_rfl) rfl
  · exact .moveC (.inr ⟨24, true, 104, by decide, rfl, rfl, rfl⟩) (.inl rfl) rfl (fun a w' hC hs => (show Lst RCan V3_10 (a.eval (.tmp 13)) (axpy (List.replicate n1 (0 : Rat)) qs t3) from by rw [show a.eval (.tmp 13) = (.slice A13 n1 c13 : Value) from (hs 13 (by kernel_rfl))]; exact L13.out))
  · exact .moveC (.inr ⟨24, true, 104, by decide, rfl, rfl, rfl⟩) (.inl rfl) rfl (fun a w' hC hs => (show Lst RCan V3_10 (a.eval (.tmp 1)) qs from by rw [show a.eval (.tmp 1) = (.slice A2 n1 c2 : Value) from (hs 1 (by kernel_rfl))]; exact L2V.out))
  · exact .load (.agg #[.bool b3, .slice A3 n3 c3, .slice D3 m3 k3]) (.inr ⟨24, true, 104, by decide, rfl, rfl, rfl⟩) rfl rfl (fun a w' hC hs hl => by rw [show a.eval (.tmp 5) = (.pointer (some ⟨w.heap.size, 0, none⟩) : Value) from (hs 5 (by kernel_rfl))]; exact ⟨ld_Rat_ ((K3.out.below' hC).at_ 0 rfl) ((K3.out.below' hC).at_ 1 rfl) ((K3.out.below' hC).at_ 2 rfl), a3V.out⟩)
  · exact .call (.inr ⟨24, true, 104, by decide, rfl, rfl, rfl⟩) rfl rfl fn_vScale (fun a w' hC hs hl => vScale_L (Lst.can_below (hl 106 (by kernel_rfl) (by kernel_rfl)) hC) (RCan.arg (RCan.below (hl 107 (by kernel_rfl) (by kernel_rfl)) hC) (S3.out.up (by decide))) (S2.out.up (by decide)) (by have : qs.length ≤ 30 := (by rw [E2.out]; exact M1.out.1); omega) (T.out.below (b0.out.trans (hC.mono b0.out.size))))
  · exact .call (.inr ⟨24, true, 104, by decide, rfl, rfl, rfl⟩) rfl rfl fn_vSame (fun a w' hC hs hl => vSame_L (k := 602) (Lst.can_below (hl 105 (by kernel_rfl) (by kernel_rfl)) hC) (hl 108 (by kernel_rfl) (by kernel_rfl)) Q7_.out (Q8_.out.up (by decide)) (by decide) (T.out.below (b0.out.trans (hC.mono b0.out.size))) true (decide_eq_true (by rw [← E2.out]; exact axpy_zero _ _)))
  · exact .pick (b := true) (.inl rfl) rfl rfl (fun a w' hC hs hl => ⟨(hl 104 (by kernel_rfl) (by kernel_rfl)), (hl 109 (by kernel_rfl) (by kernel_rfl))⟩)
  · exact .move (.inl rfl) (.inl rfl) rfl (by kernel_rfl) (by kernel_rfl) rfl
  · exact .moveC (.inr ⟨31, true, 111, by decide, rfl, rfl, rfl⟩) (.inl rfl) rfl (fun a w' hC hs => (hs 7 (by kernel_rfl)))
  · exact .value (.inr ⟨31, true, 111, by decide, rfl, rfl, rfl⟩) (by intro T e; cases e) rfl rfl (fun a w' hC hs hl => by
      have e0 : a.eval (.tmp 112) = (.slice A8 n1 c8) := (hl 112 (by kernel_rfl) (by kernel_rfl))
      have e0' : a.tmps[112]?.getD undef = _ := (by simp [Act.eval] : _ = a.eval (.tmp 112)).trans e0
      simp [execOp, resolve, invoke, builtin, go_sem, e0, e0'])
  · exact .moveC (.inr ⟨31, true, 111, by decide, rfl, rfl, rfl⟩) (.inl rfl) rfl (fun a w' hC hs => (hs 0 (by kernel_rfl)))
  · exact .value (.inr ⟨31, true, 111, by decide, rfl, rfl, rfl⟩) (by intro T e; cases e) rfl rfl (fun a w' hC hs hl => by
      have e0 : a.eval (.tmp 114) = (.slice A1 n1 c1) := (hl 114 (by kernel_rfl) (by kernel_rfl))
      have e0' : a.tmps[114]?.getD undef = _ := (by simp [Act.eval] : _ = a.eval (.tmp 114)).trans e0
      simp [execOp, resolve, invoke, builtin, go_sem, e0, e0'])
  · exact .value (.inr ⟨31, true, 111, by decide, rfl, rfl, rfl⟩) (by intro T e; cases e) rfl rfl (fun a w' hC hs hl => by
      have e0 : a.eval (.tmp 113) = (.int .i64 (n1)) := (hl 113 (by kernel_rfl) (by kernel_rfl))
      have e1 : a.eval (.tmp 115) = (.int .i64 (n1)) := (hl 115 (by kernel_rfl) (by kernel_rfl))
      simp only [execOp, e0, e1]
      skip
      simp [go_sem] <;> rfl)
  · exact .pick (b := true) (.inl rfl) rfl rfl (fun a w' hC hs hl => ⟨(hl 111 (by kernel_rfl) (by kernel_rfl)), (hl 116 (by kernel_rfl) (by kernel_rfl))⟩)
  · exact .move (.inl rfl) (.inr rfl) rfl (by kernel_rfl) (by kernel_rfl) rfl
  intro f w99 hC hF _
  have f0 : f 6 = .bool true := hF 6 (by kernel_rfl)
  clear hF
  simp only [patch, List.drop]
  have B9 := hide (b0.out.trans (hC.mono b0.out.size))
  clear hC
  rw [f0]
  try change wpList _ _ _ [] _ _
  go_wp2
  exact opq_end hR ⟨rfl, B9⟩
end Go.Proofs.YthnhcbdecgkacaaGreatDoor
