/- the laws of vecs: VecsLinear. -/
import Derived.Test.YthnhcbdecgkacaaGreatDoorFreeD
set_option linter.unusedVariables false
set_option linter.unusedSimpArgs false
set_option maxRecDepth 100000
namespace Go.Proofs.YthnhcbdecgkacaaGreatDoor
open Go.RowKit

theorem ld_RatsI {w : World} {g i : Nat} {v : Value} (h : w.cell? ⟨g, i, none⟩ = some v) : (Instr.loadAt 58 (.pointer (some ⟨g, i, none⟩))).run Tryz.prog w = .ok v w := by simp [go_sem, h]
set_option maxHeartbeats 8000000 in
theorem VecsLinear_ok (w : World) (A1 : Option Addr) (n1 c1 : Nat) (es1 : List Raw) (A2 : Option Addr) (n2 c2 : Nat) (es2 : List Raw) (A3 : Option Addr) (n3 c3 : Nat) (es3 : List Raw) (b4 : Bool) (A4 : Option Addr) (n4 c4 : Nat) (D4 : Option Addr) (m4 k4 : Nat) (e4 : Raw) (h1 : Lst RRw w (.slice A1 n1 c1) es1) (h2 : Lst RRw w (.slice A2 n2 c2) es2) (h3 : Lst RRw w (.slice A3 n3 c3) es3) (h4 : RRw w (.agg #[.bool b4, .slice A4 n4 c4, .slice D4 m4 k4]) e4) (hT : Tab w) :
    Calls Tryz.prog 5 #[.agg #[.slice A1 n1 c1, .slice A2 n2 c2, .slice A3 n3 c3, .bool b4, .slice A4 n4 c4, .slice D4 m4 k4]] w fun e w' => e = .returned (.bool true) ∧ Hid (Below w.heap.size w w') := by
  refine opq fun R hR => ?_
  have T := hide hT
  clear hT
  replace h1 := hide h1
  replace h2 := hide h2
  replace h3 := hide h3
  replace h4 := hide h4
  go_enter Tryz.func5, Tryz.ntmps5
  have b0 := hide (Below.refl w.heap.size w)
  have K0 := hide (Blk.new_at w (w.heap.size) (by simp) 62 #[.slice A1 n1 c1, .slice A2 n2 c2, .slice A3 n3 c3, .bool b4, .slice A4 n4 c4, .slice D4 m4 k4])
  have y := (Below.refl w.heap.size w).alloc (Nat.le_refl _) (.cells #[.slice A1 n1 c1, .slice A2 n2 c2, .slice A3 n3 c3, .bool b4, .slice A4 n4 c4, .slice D4 m4 k4] 62)
  replace b0 := hide (below_tr b0.out y)
  clear y
  have K0c0 : (w.alloc (.cells #[.slice A1 n1 c1, .slice A2 n2 c2, .slice A3 n3 c3, .bool b4, .slice A4 n4 c4, .slice D4 m4 k4] 62)).cell? ⟨w.heap.size, 0, none⟩ = some (.slice A1 n1 c1) := K0.out.at_ 0 rfl
  have K0c1 : (w.alloc (.cells #[.slice A1 n1 c1, .slice A2 n2 c2, .slice A3 n3 c3, .bool b4, .slice A4 n4 c4, .slice D4 m4 k4] 62)).cell? ⟨w.heap.size, 1, none⟩ = some (.slice A2 n2 c2) := K0.out.at_ 1 rfl
  have K0c2 : (w.alloc (.cells #[.slice A1 n1 c1, .slice A2 n2 c2, .slice A3 n3 c3, .bool b4, .slice A4 n4 c4, .slice D4 m4 k4] 62)).cell? ⟨w.heap.size, 2, none⟩ = some (.slice A3 n3 c3) := K0.out.at_ 2 rfl
  have K0c3 : (w.alloc (.cells #[.slice A1 n1 c1, .slice A2 n2 c2, .slice A3 n3 c3, .bool b4, .slice A4 n4 c4, .slice D4 m4 k4] 62)).cell? ⟨w.heap.size, 3, none⟩ = some (.bool b4) := K0.out.at_ 3 rfl
  have K0c4 : (w.alloc (.cells #[.slice A1 n1 c1, .slice A2 n2 c2, .slice A3 n3 c3, .bool b4, .slice A4 n4 c4, .slice D4 m4 k4] 62)).cell? ⟨w.heap.size, 4, none⟩ = some (.slice A4 n4 c4) := K0.out.at_ 4 rfl
  have K0c5 : (w.alloc (.cells #[.slice A1 n1 c1, .slice A2 n2 c2, .slice A3 n3 c3, .bool b4, .slice A4 n4 c4, .slice D4 m4 k4] 62)).cell? ⟨w.heap.size, 5, none⟩ = some (.slice D4 m4 k4) := K0.out.at_ 5 rfl
  go_wp2_with fail
  refine (valive_P _ (T.out.below b0.out)).mono ?_
  rintro e w1 ⟨_, rfl, d0, rfl⟩
  replace K0 := hide (K0.out.below' d0)
  replace b0 := hide (below_tr b0.out d0)
  clear d0
  clear K0c0 K0c1 K0c2 K0c3 K0c4 K0c5
  have K0c0 : w1.cell? ⟨w.heap.size, 0, none⟩ = some (.slice A1 n1 c1) := K0.out.at_ 0 rfl
  have K0c1 : w1.cell? ⟨w.heap.size, 1, none⟩ = some (.slice A2 n2 c2) := K0.out.at_ 1 rfl
  have K0c2 : w1.cell? ⟨w.heap.size, 2, none⟩ = some (.slice A3 n3 c3) := K0.out.at_ 2 rfl
  have K0c3 : w1.cell? ⟨w.heap.size, 3, none⟩ = some (.bool b4) := K0.out.at_ 3 rfl
  have K0c4 : w1.cell? ⟨w.heap.size, 4, none⟩ = some (.slice A4 n4 c4) := K0.out.at_ 4 rfl
  have K0c5 : w1.cell? ⟨w.heap.size, 5, none⟩ = some (.slice D4 m4 k4) := K0.out.at_ 5 rfl
  have G4 := hide (Blk.new_at w1 (w1.heap.size) (by simp) 60 #[.bool b4, .slice A4 n4 c4, .slice D4 m4 k4])
  have y := (Below.refl w1.heap.size w1).alloc (Nat.le_refl _) (.cells #[.bool b4, .slice A4 n4 c4, .slice D4 m4 k4] 60)
  replace K0 := hide (K0.out.below' y)
  replace b0 := hide (below_tr b0.out y)
  clear y
  have GE := hide (show ∀ x ∈ ([gl A1 n1 c1 es1, gl A2 n2 c2 es2, gl A3 n3 c3 es3, gl (some ⟨w1.heap.size, 0, none⟩) 1 1 [e4]] : List GL), Lst RRw (w1.alloc (.cells #[.bool b4, .slice A4 n4 c4, .slice D4 m4 k4] 60)) (slv x) x.2 from (List.forall_mem_cons.2 ⟨(h1.out.rw_below b0.out), (List.forall_mem_cons.2 ⟨(h2.out.rw_below b0.out), (List.forall_mem_cons.2 ⟨(h3.out.rw_below b0.out), (List.forall_mem_cons.2 ⟨(lst_one tri_rw (u := .agg #[.bool b4, .slice A4 n4 c4, .slice D4 m4 k4]) G4.out (h4.out.below b0.out)), (fun x hx => by simp at hx)⟩)⟩)⟩)⟩))
  by_cases gg : ([gl A1 n1 c1 es1, gl A2 n2 c2 es2, gl A3 n3 c3 es3, gl (some ⟨w1.heap.size, 0, none⟩) 1 1 [e4]] : List GL).any gr = true
  case pos =>
    replace gg := hide gg
    have y := (Below.refl (w1.alloc (.cells #[.bool b4, .slice A4 n4 c4, .slice D4 m4 k4] 60)).heap.size (w1.alloc (.cells #[.bool b4, .slice A4 n4 c4, .slice D4 m4 k4] 60))).alloc (Nat.le_refl _) (.cells #[.slice A1 n1 c1, .slice A2 n2 c2, .slice A3 n3 c3, .slice (some ⟨w1.heap.size, 0, none⟩) 1 1] 58)
    replace K0 := hide (K0.out.below' y)
    replace G4 := hide (G4.out.below' y)
    replace b0 := hide (below_tr b0.out y)
    clear y
    go_wp2_with fail
    refine (vgreat_L (w := (w1.alloc (.cells #[.bool b4, .slice A4 n4 c4, .slice D4 m4 k4] 60))) [gl A1 n1 c1 es1, gl A2 n2 c2 es2, gl A3 n3 c3 es3, gl (some ⟨w1.heap.size, 0, none⟩) 1 1 [e4]] #[.slice A1 n1 c1, .slice A2 n2 c2, .slice A3 n3 c3, .slice (some ⟨w1.heap.size, 0, none⟩) 1 1] rfl (g := w1.heap.size + 1) (by simp) GE.out 4 rfl (by decide) true gg.out).mono ?_
    rintro e w2 ⟨_, rfl, d0, rfl⟩
    replace K0 := hide (K0.out.below' d0)
    replace G4 := hide (G4.out.below' d0)
    replace b0 := hide (below_tr b0.out d0)
    clear d0
    go_wp2_with fail
    refine (valive_P _ (T.out.below b0.out)).mono ?_
    rintro e w3 ⟨_, rfl, d0, rfl⟩
    replace K0 := hide (K0.out.below' d0)
    replace G4 := hide (G4.out.below' d0)
    replace b0 := hide (below_tr b0.out d0)
    clear d0
    go_wp2
    exact opq_end hR ⟨rfl, b0⟩
  replace gg : Hid (([gl A1 n1 c1 es1, gl A2 n2 c2 es2, gl A3 n3 c3 es3, gl (some ⟨w1.heap.size, 0, none⟩) 1 1 [e4]] : List GL).any gr = false) := (by simpa using gg : ([gl A1 n1 c1 es1, gl A2 n2 c2 es2, gl A3 n3 c3 es3, gl (some ⟨w1.heap.size, 0, none⟩) 1 1 [e4]] : List GL).any gr = false)
  have y := (Below.refl (w1.alloc (.cells #[.bool b4, .slice A4 n4 c4, .slice D4 m4 k4] 60)).heap.size (w1.alloc (.cells #[.bool b4, .slice A4 n4 c4, .slice D4 m4 k4] 60))).alloc (Nat.le_refl _) (.cells #[.slice A1 n1 c1, .slice A2 n2 c2, .slice A3 n3 c3, .slice (some ⟨w1.heap.size, 0, none⟩) 1 1] 58)
  replace K0 := hide (K0.out.below' y)
  replace G4 := hide (G4.out.below' y)
  replace b0 := hide (below_tr b0.out y)
  clear y
  go_wp2_with fail
  refine (vgreat_L (w := (w1.alloc (.cells #[.bool b4, .slice A4 n4 c4, .slice D4 m4 k4] 60))) [gl A1 n1 c1 es1, gl A2 n2 c2 es2, gl A3 n3 c3 es3, gl (some ⟨w1.heap.size, 0, none⟩) 1 1 [e4]] #[.slice A1 n1 c1, .slice A2 n2 c2, .slice A3 n3 c3, .slice (some ⟨w1.heap.size, 0, none⟩) 1 1] rfl (g := w1.heap.size + 1) (by simp) GE.out 4 rfl (by decide) false gg.out).mono ?_
  rintro e w2 ⟨_, rfl, d0, rfl⟩
  replace K0 := hide (K0.out.below' d0)
  replace G4 := hide (G4.out.below' d0)
  replace b0 := hide (below_tr b0.out d0)
  clear d0
  clear GE
  clear G4
  have M1 : Hid (n1 ≤ 30 ∧ tsz es1 ≤ 300) := any_false gg.out (gl A1 n1 c1 es1) (by simp)
  have P1 := hide (h1.out.rawW 300 M1.out.2 (by decide)).1
  have S1 := hide (h1.out.rawW 300 M1.out.2 (by decide)).2
  have N1 : Hid (es1.length = n1) := h1.out.len
  have M2 : Hid (n2 ≤ 30 ∧ tsz es2 ≤ 300) := any_false gg.out (gl A2 n2 c2 es2) (by simp)
  have P2 := hide (h2.out.rawW 300 M2.out.2 (by decide)).1
  have S2 := hide (h2.out.rawW 300 M2.out.2 (by decide)).2
  have N2 : Hid (es2.length = n2) := h2.out.len
  have M3 : Hid (n3 ≤ 30 ∧ tsz es3 ≤ 300) := any_false gg.out (gl A3 n3 c3 es3) (by simp)
  have P3 := hide (h3.out.rawW 300 M3.out.2 (by decide)).1
  have S3 := hide (h3.out.rawW 300 M3.out.2 (by decide)).2
  have N3 : Hid (es3.length = n3) := h3.out.len
  have MG := (any_false gg.out (gl (some ⟨w1.heap.size, 0, none⟩) 1 1 [e4]) (by simp)).2
  have P4 := hide (h4.out.raw (Nat.le_trans (tsz_mem (by simp)) (Nat.le_trans MG (by decide)))).1
  have S4 := hide ((h4.out.raw (Nat.le_trans (tsz_mem (by simp)) (Nat.le_trans MG (by decide)))).2.up (Nat.le_trans (tsz_mem (by simp)) MG) : H (rvE e4) 300)
  clear MG
  clear gg h1 h2 h3 h4
  clear K0c0 K0c1 K0c2 K0c3 K0c4 K0c5
  have K0c0 : w2.cell? ⟨w.heap.size, 0, none⟩ = some (.slice A1 n1 c1) := K0.out.at_ 0 rfl
  have K0c1 : w2.cell? ⟨w.heap.size, 1, none⟩ = some (.slice A2 n2 c2) := K0.out.at_ 1 rfl
  have K0c2 : w2.cell? ⟨w.heap.size, 2, none⟩ = some (.slice A3 n3 c3) := K0.out.at_ 2 rfl
  have K0c3 : w2.cell? ⟨w.heap.size, 3, none⟩ = some (.bool b4) := K0.out.at_ 3 rfl
  have K0c4 : w2.cell? ⟨w.heap.size, 4, none⟩ = some (.slice A4 n4 c4) := K0.out.at_ 4 rfl
  have K0c5 : w2.cell? ⟨w.heap.size, 5, none⟩ = some (.slice D4 m4 k4) := K0.out.at_ 5 rfl
  by_cases n10 : 10 < n1
  case pos =>
    go_wp2_with fail
    refine (valive_P _ (T.out.below b0.out)).mono ?_
    rintro e w3 ⟨_, rfl, d0, rfl⟩
    replace K0 := hide (K0.out.below' d0)
    replace b0 := hide (below_tr b0.out d0)
    clear d0
    go_wp2
    exact opq_end hR ⟨rfl, b0⟩

  by_cases ll : n1 = n2
  case neg =>
    have ne : ((n1 : Int) != (n2 : Int)) = true := by simp; omega
    go_wp2_with fail
    refine (valive_P _ (T.out.below b0.out)).mono ?_
    rintro e w3 ⟨_, rfl, d0, rfl⟩
    replace K0 := hide (K0.out.below' d0)
    replace b0 := hide (below_tr b0.out d0)
    clear d0
    go_wp2
    exact opq_end hR ⟨rfl, b0⟩
  subst ll
  by_cases ll : n1 = n3
  case neg =>
    have ne : ((n1 : Int) != (n3 : Int)) = true := by simp; omega
    go_wp2_with fail
    refine (valive_P _ (T.out.below b0.out)).mono ?_
    rintro e w3 ⟨_, rfl, d0, rfl⟩
    replace K0 := hide (K0.out.below' d0)
    replace b0 := hide (below_tr b0.out d0)
    clear d0
    go_wp2
    exact opq_end hR ⟨rfl, b0⟩
  subst ll
  by_cases r1 : es1.all rk = false
  case pos =>
    replace r1 := hide r1
    go_wp2_with fail
    refine (vCheck_L (P1.out.raw_below b0.out) (T.out.below b0.out) false r1.out).mono ?_
    rintro e w3 ⟨_, rfl, d0, rfl⟩
    replace K0 := hide (K0.out.below' d0)
    replace b0 := hide (below_tr b0.out d0)
    clear d0
    go_wp2_with fail
    refine (valive_P _ (T.out.below b0.out)).mono ?_
    rintro e w4 ⟨_, rfl, d0, rfl⟩
    replace K0 := hide (K0.out.below' d0)
    replace b0 := hide (below_tr b0.out d0)
    clear d0
    go_wp2
    exact opq_end hR ⟨rfl, b0⟩
  replace r1 : Hid (es1.all rk = true) := (by simpa using r1 : es1.all rk = true)
  go_wp2_with fail
  refine (vCheck_L (P1.out.raw_below b0.out) (T.out.below b0.out) true r1.out).mono ?_
  rintro e w3 ⟨_, rfl, d0, rfl⟩
  replace K0 := hide (K0.out.below' d0)
  replace b0 := hide (below_tr b0.out d0)
  clear d0
  clear K0c0 K0c1 K0c2 K0c3 K0c4 K0c5
  have K0c0 : w3.cell? ⟨w.heap.size, 0, none⟩ = some (.slice A1 n1 c1) := K0.out.at_ 0 rfl
  have K0c1 : w3.cell? ⟨w.heap.size, 1, none⟩ = some (.slice A2 n1 c2) := K0.out.at_ 1 rfl
  have K0c2 : w3.cell? ⟨w.heap.size, 2, none⟩ = some (.slice A3 n1 c3) := K0.out.at_ 2 rfl
  have K0c3 : w3.cell? ⟨w.heap.size, 3, none⟩ = some (.bool b4) := K0.out.at_ 3 rfl
  have K0c4 : w3.cell? ⟨w.heap.size, 4, none⟩ = some (.slice A4 n4 c4) := K0.out.at_ 4 rfl
  have K0c5 : w3.cell? ⟨w.heap.size, 5, none⟩ = some (.slice D4 m4 k4) := K0.out.at_ 5 rfl
  have L1 := hide (P1.out.canW r1.out)
  have E1 : Hid ((es1.map rvE).length = n1) := by show _ = _; rw [List.length_map]; exact N1.out
  clear P1 r1 N1
  generalize es1.map rvE = ps at *
  by_cases r2 : es2.all rk = false
  case pos =>
    replace r2 := hide r2
    go_wp2_with fail
    refine (vCheck_L (P2.out.raw_below b0.out) (T.out.below b0.out) false r2.out).mono ?_
    rintro e w4 ⟨_, rfl, d0, rfl⟩
    replace K0 := hide (K0.out.below' d0)
    replace b0 := hide (below_tr b0.out d0)
    clear d0
    go_wp2_with fail
    refine (valive_P _ (T.out.below b0.out)).mono ?_
    rintro e w5 ⟨_, rfl, d0, rfl⟩
    replace K0 := hide (K0.out.below' d0)
    replace b0 := hide (below_tr b0.out d0)
    clear d0
    go_wp2
    exact opq_end hR ⟨rfl, b0⟩
  replace r2 : Hid (es2.all rk = true) := (by simpa using r2 : es2.all rk = true)
  go_wp2_with fail
  refine (vCheck_L (P2.out.raw_below b0.out) (T.out.below b0.out) true r2.out).mono ?_
  rintro e w4 ⟨_, rfl, d0, rfl⟩
  replace K0 := hide (K0.out.below' d0)
  replace b0 := hide (below_tr b0.out d0)
  clear d0
  clear K0c0 K0c1 K0c2 K0c3 K0c4 K0c5
  have K0c0 : w4.cell? ⟨w.heap.size, 0, none⟩ = some (.slice A1 n1 c1) := K0.out.at_ 0 rfl
  have K0c1 : w4.cell? ⟨w.heap.size, 1, none⟩ = some (.slice A2 n1 c2) := K0.out.at_ 1 rfl
  have K0c2 : w4.cell? ⟨w.heap.size, 2, none⟩ = some (.slice A3 n1 c3) := K0.out.at_ 2 rfl
  have K0c3 : w4.cell? ⟨w.heap.size, 3, none⟩ = some (.bool b4) := K0.out.at_ 3 rfl
  have K0c4 : w4.cell? ⟨w.heap.size, 4, none⟩ = some (.slice A4 n4 c4) := K0.out.at_ 4 rfl
  have K0c5 : w4.cell? ⟨w.heap.size, 5, none⟩ = some (.slice D4 m4 k4) := K0.out.at_ 5 rfl
  have L2 := hide (P2.out.canW r2.out)
  have E2 : Hid ((es2.map rvE).length = n1) := by show _ = _; rw [List.length_map]; exact N2.out
  clear P2 r2 N2
  generalize es2.map rvE = qs at *
  by_cases r3 : es3.all rk = false
  case pos =>
    replace r3 := hide r3
    go_wp2_with fail
    refine (vCheck_L (P3.out.raw_below b0.out) (T.out.below b0.out) false r3.out).mono ?_
    rintro e w5 ⟨_, rfl, d0, rfl⟩
    replace K0 := hide (K0.out.below' d0)
    replace b0 := hide (below_tr b0.out d0)
    clear d0
    go_wp2_with fail
    refine (valive_P _ (T.out.below b0.out)).mono ?_
    rintro e w6 ⟨_, rfl, d0, rfl⟩
    replace K0 := hide (K0.out.below' d0)
    replace b0 := hide (below_tr b0.out d0)
    clear d0
    go_wp2
    exact opq_end hR ⟨rfl, b0⟩
  replace r3 : Hid (es3.all rk = true) := (by simpa using r3 : es3.all rk = true)
  go_wp2_with fail
  refine (vCheck_L (P3.out.raw_below b0.out) (T.out.below b0.out) true r3.out).mono ?_
  rintro e w5 ⟨_, rfl, d0, rfl⟩
  replace K0 := hide (K0.out.below' d0)
  replace b0 := hide (below_tr b0.out d0)
  clear d0
  clear K0c0 K0c1 K0c2 K0c3 K0c4 K0c5
  have K0c0 : w5.cell? ⟨w.heap.size, 0, none⟩ = some (.slice A1 n1 c1) := K0.out.at_ 0 rfl
  have K0c1 : w5.cell? ⟨w.heap.size, 1, none⟩ = some (.slice A2 n1 c2) := K0.out.at_ 1 rfl
  have K0c2 : w5.cell? ⟨w.heap.size, 2, none⟩ = some (.slice A3 n1 c3) := K0.out.at_ 2 rfl
  have K0c3 : w5.cell? ⟨w.heap.size, 3, none⟩ = some (.bool b4) := K0.out.at_ 3 rfl
  have K0c4 : w5.cell? ⟨w.heap.size, 4, none⟩ = some (.slice A4 n4 c4) := K0.out.at_ 4 rfl
  have K0c5 : w5.cell? ⟨w.heap.size, 5, none⟩ = some (.slice D4 m4 k4) := K0.out.at_ 5 rfl
  have L3 := hide (P3.out.canW r3.out)
  have E3 : Hid ((es3.map rvE).length = n1) := by show _ = _; rw [List.length_map]; exact N3.out
  clear P3 r3 N3
  generalize es3.map rvE = rs at *
  by_cases r4 : rk e4 = false
  case pos =>
    replace r4 := hide r4
    go_wp2_with fail
    refine (rCheck_P (P4.out.below b0.out) (T.out.below b0.out) false r4.out).mono ?_
    rintro e w6 ⟨_, rfl, d0, rfl⟩
    replace K0 := hide (K0.out.below' d0)
    replace b0 := hide (below_tr b0.out d0)
    clear d0
    go_wp2_with fail
    refine (valive_P _ (T.out.below b0.out)).mono ?_
    rintro e w7 ⟨_, rfl, d0, rfl⟩
    replace K0 := hide (K0.out.below' d0)
    replace b0 := hide (below_tr b0.out d0)
    clear d0
    go_wp2
    exact opq_end hR ⟨rfl, b0⟩
  replace r4 : Hid (rk e4 = true) := (by simpa using r4 : rk e4 = true)
  go_wp2_with fail
  refine (rCheck_P (P4.out.below b0.out) (T.out.below b0.out) true r4.out).mono ?_
  rintro e w6 ⟨_, rfl, d0, rfl⟩
  replace K0 := hide (K0.out.below' d0)
  replace b0 := hide (below_tr b0.out d0)
  clear d0
  clear K0c0 K0c1 K0c2 K0c3 K0c4 K0c5
  have K0c0 : w6.cell? ⟨w.heap.size, 0, none⟩ = some (.slice A1 n1 c1) := K0.out.at_ 0 rfl
  have K0c1 : w6.cell? ⟨w.heap.size, 1, none⟩ = some (.slice A2 n1 c2) := K0.out.at_ 1 rfl
  have K0c2 : w6.cell? ⟨w.heap.size, 2, none⟩ = some (.slice A3 n1 c3) := K0.out.at_ 2 rfl
  have K0c3 : w6.cell? ⟨w.heap.size, 3, none⟩ = some (.bool b4) := K0.out.at_ 3 rfl
  have K0c4 : w6.cell? ⟨w.heap.size, 4, none⟩ = some (.slice A4 n4 c4) := K0.out.at_ 4 rfl
  have K0c5 : w6.cell? ⟨w.heap.size, 5, none⟩ = some (.slice D4 m4 k4) := K0.out.at_ 5 rfl
  have a4 : Hid (RCan w (.agg #[.bool b4, .slice A4 n4 c4, .slice D4 m4 k4]) (rvE e4)) := RPrt.can P4.out r4.out
  clear P4 r4
  generalize rvE e4 = t4 at *
  have Q1_ : Hid (Hs ((axpy ps qs t4)) 901) := Hs_axpy S1.out S2.out S4.out _ (by decide)
  go_wp2_with fail
  refine (vAdd_T (k := 300) (L1.out.can_below b0.out) (L2.out.can_below b0.out) (a4.out.below b0.out) (by rw [E1.out, E2.out]) (S1.out) (S2.out) S4.out (by decide) (by have : ps.length ≤ 30 := (by rw [E1.out]; exact M1.out.1); omega) (T.out.below b0.out)).mono ?_
  rintro e w7 ⟨v8, rfl, d0, x8⟩
  replace K0 := hide (K0.out.below' d0)
  replace b0 := hide (below_tr b0.out d0)
  have L8 := hide (x8)
  clear d0
  clear x8
  obtain ⟨A8, c8, e8⟩ := L8.out.sl
  rw [axpy_length _ _ _ (by rw [E1.out, E2.out]), (E1.out)] at e8
  subst e8
  clear K0c0 K0c1 K0c2 K0c3 K0c4 K0c5
  have K0c0 : w7.cell? ⟨w.heap.size, 0, none⟩ = some (.slice A1 n1 c1) := K0.out.at_ 0 rfl
  have K0c1 : w7.cell? ⟨w.heap.size, 1, none⟩ = some (.slice A2 n1 c2) := K0.out.at_ 1 rfl
  have K0c2 : w7.cell? ⟨w.heap.size, 2, none⟩ = some (.slice A3 n1 c3) := K0.out.at_ 2 rfl
  have K0c3 : w7.cell? ⟨w.heap.size, 3, none⟩ = some (.bool b4) := K0.out.at_ 3 rfl
  have K0c4 : w7.cell? ⟨w.heap.size, 4, none⟩ = some (.slice A4 n4 c4) := K0.out.at_ 4 rfl
  have K0c5 : w7.cell? ⟨w.heap.size, 5, none⟩ = some (.slice D4 m4 k4) := K0.out.at_ 5 rfl
  have Q2_ : Hid (H ((dot (axpy ps qs t4) rs)) 54091) := H_dot (Q1_.out.up (by decide)) (S3.out.up (by decide)) (k := 901) 30 54091 (by rw [axpy_length _ _ _ (by rw [E1.out, E2.out]), E1.out]; exact M1.out.1) (by decide) (by decide)
  go_wp2_with fail
  refine (vDot_T (k := 901) L8.out (L3.out.can_below b0.out) (by rw [axpy_length _ _ _ (by rw [E1.out, E2.out]), E1.out, E3.out]) (Q1_.out) ((S3.out.up (by decide))) (by have : (axpy ps qs t4).length ≤ 30 := (by rw [axpy_length _ _ _ (by rw [E1.out, E2.out]), E1.out]; exact M1.out.1); omega) (T.out.below b0.out)).mono ?_
  rintro e w8 ⟨v15, rfl, d0, x15⟩
  replace K0 := hide (K0.out.below' d0)
  replace L8 := hide (L8.out.can_below d0)
  replace b0 := hide (below_tr b0.out d0)
  have X15 := hide (x15)
  clear d0
  clear x15
  obtain ⟨b15, A15, n15, c15, D15, m15, k15, rfl⟩ := X15.out.slice
  clear K0c0 K0c1 K0c2 K0c3 K0c4 K0c5
  have K15 := hide (Blk.new_at w8 (w8.heap.size) (by simp) 60 #[.bool b15, .slice A15 n15 c15, .slice D15 m15 k15])
  have y := (Below.refl w8.heap.size w8).alloc (Nat.le_refl _) (.cells #[.bool b15, .slice A15 n15 c15, .slice D15 m15 k15] 60)
  replace K0 := hide (K0.out.below' y)
  replace L8 := hide (L8.out.can_below y)
  replace X15 := hide (X15.out.below y)
  replace b0 := hide (below_tr b0.out y)
  clear y
  have K0c0 : (w8.alloc (.cells #[.bool b15, .slice A15 n15 c15, .slice D15 m15 k15] 60)).cell? ⟨w.heap.size, 0, none⟩ = some (.slice A1 n1 c1) := K0.out.at_ 0 rfl
  have K0c1 : (w8.alloc (.cells #[.bool b15, .slice A15 n15 c15, .slice D15 m15 k15] 60)).cell? ⟨w.heap.size, 1, none⟩ = some (.slice A2 n1 c2) := K0.out.at_ 1 rfl
  have K0c2 : (w8.alloc (.cells #[.bool b15, .slice A15 n15 c15, .slice D15 m15 k15] 60)).cell? ⟨w.heap.size, 2, none⟩ = some (.slice A3 n1 c3) := K0.out.at_ 2 rfl
  have K0c3 : (w8.alloc (.cells #[.bool b15, .slice A15 n15 c15, .slice D15 m15 k15] 60)).cell? ⟨w.heap.size, 3, none⟩ = some (.bool b4) := K0.out.at_ 3 rfl
  have K0c4 : (w8.alloc (.cells #[.bool b15, .slice A15 n15 c15, .slice D15 m15 k15] 60)).cell? ⟨w.heap.size, 4, none⟩ = some (.slice A4 n4 c4) := K0.out.at_ 4 rfl
  have K0c5 : (w8.alloc (.cells #[.bool b15, .slice A15 n15 c15, .slice D15 m15 k15] 60)).cell? ⟨w.heap.size, 5, none⟩ = some (.slice D4 m4 k4) := K0.out.at_ 5 rfl
  have Q3_ : Hid (H ((dot ps rs)) 18031) := H_dot (S1.out.up (by decide)) (S3.out.up (by decide)) (k := 300) 30 18031 (by rw [E1.out]; exact M1.out.1) (by decide) (by decide)
  go_wp2_with fail
  refine (vDot_T (k := 300) (L1.out.can_below b0.out) (L3.out.can_below b0.out) (by rw [E1.out, E3.out]) (S1.out) (S3.out) (by have : ps.length ≤ 30 := (by rw [E1.out]; exact M1.out.1); omega) (T.out.below b0.out)).mono ?_
  rintro e w9 ⟨v16, rfl, d0, x16⟩
  replace K0 := hide (K0.out.below' d0)
  replace L8 := hide (L8.out.can_below d0)
  replace X15 := hide (X15.out.below d0)
  replace K15 := hide (K15.out.below' d0)
  replace b0 := hide (below_tr b0.out d0)
  have X16 := hide (x16)
  clear d0
  clear x16
  obtain ⟨b16, A16, n16, c16, D16, m16, k16, rfl⟩ := X16.out.slice
  clear K0c0 K0c1 K0c2 K0c3 K0c4 K0c5
  have K16 := hide (Blk.new_at w9 (w9.heap.size) (by simp) 60 #[.bool b16, .slice A16 n16 c16, .slice D16 m16 k16])
  have y := (Below.refl w9.heap.size w9).alloc (Nat.le_refl _) (.cells #[.bool b16, .slice A16 n16 c16, .slice D16 m16 k16] 60)
  replace K0 := hide (K0.out.below' y)
  replace L8 := hide (L8.out.can_below y)
  replace X15 := hide (X15.out.below y)
  replace K15 := hide (K15.out.below' y)
  replace X16 := hide (X16.out.below y)
  replace b0 := hide (below_tr b0.out y)
  clear y
  have K0c0 : (w9.alloc (.cells #[.bool b16, .slice A16 n16 c16, .slice D16 m16 k16] 60)).cell? ⟨w.heap.size, 0, none⟩ = some (.slice A1 n1 c1) := K0.out.at_ 0 rfl
  have K0c1 : (w9.alloc (.cells #[.bool b16, .slice A16 n16 c16, .slice D16 m16 k16] 60)).cell? ⟨w.heap.size, 1, none⟩ = some (.slice A2 n1 c2) := K0.out.at_ 1 rfl
  have K0c2 : (w9.alloc (.cells #[.bool b16, .slice A16 n16 c16, .slice D16 m16 k16] 60)).cell? ⟨w.heap.size, 2, none⟩ = some (.slice A3 n1 c3) := K0.out.at_ 2 rfl
  have K0c3 : (w9.alloc (.cells #[.bool b16, .slice A16 n16 c16, .slice D16 m16 k16] 60)).cell? ⟨w.heap.size, 3, none⟩ = some (.bool b4) := K0.out.at_ 3 rfl
  have K0c4 : (w9.alloc (.cells #[.bool b16, .slice A16 n16 c16, .slice D16 m16 k16] 60)).cell? ⟨w.heap.size, 4, none⟩ = some (.slice A4 n4 c4) := K0.out.at_ 4 rfl
  have K0c5 : (w9.alloc (.cells #[.bool b16, .slice A16 n16 c16, .slice D16 m16 k16] 60)).cell? ⟨w.heap.size, 5, none⟩ = some (.slice D4 m4 k4) := K0.out.at_ 5 rfl
  have Q4_ : Hid (H ((dot qs rs)) 18031) := H_dot (S2.out.up (by decide)) (S3.out.up (by decide)) (k := 300) 30 18031 (by rw [E2.out]; exact M1.out.1) (by decide) (by decide)
  go_wp2_with fail
  refine (vDot_T (k := 300) (L2.out.can_below b0.out) (L3.out.can_below b0.out) (by rw [E2.out, E3.out]) (S2.out) (S3.out) (by have : qs.length ≤ 30 := (by rw [E2.out]; exact M1.out.1); omega) (T.out.below b0.out)).mono ?_
  rintro e w10 ⟨v17, rfl, d0, x17⟩
  replace K0 := hide (K0.out.below' d0)
  replace L8 := hide (L8.out.can_below d0)
  replace X15 := hide (X15.out.below d0)
  replace K15 := hide (K15.out.below' d0)
  replace X16 := hide (X16.out.below d0)
  replace K16 := hide (K16.out.below' d0)
  replace b0 := hide (below_tr b0.out d0)
  have X17 := hide (x17)
  clear d0
  clear x17
  obtain ⟨b17, A17, n17, c17, D17, m17, k17, rfl⟩ := X17.out.slice
  clear K0c0 K0c1 K0c2 K0c3 K0c4 K0c5
  have K17 := hide (Blk.new_at w10 (w10.heap.size) (by simp) 60 #[.bool b17, .slice A17 n17 c17, .slice D17 m17 k17])
  have y := (Below.refl w10.heap.size w10).alloc (Nat.le_refl _) (.cells #[.bool b17, .slice A17 n17 c17, .slice D17 m17 k17] 60)
  replace K0 := hide (K0.out.below' y)
  replace L8 := hide (L8.out.can_below y)
  replace X15 := hide (X15.out.below y)
  replace K15 := hide (K15.out.below' y)
  replace X16 := hide (X16.out.below y)
  replace K16 := hide (K16.out.below' y)
  replace X17 := hide (X17.out.below y)
  replace b0 := hide (below_tr b0.out y)
  clear y
  have K0c0 : (w10.alloc (.cells #[.bool b17, .slice A17 n17 c17, .slice D17 m17 k17] 60)).cell? ⟨w.heap.size, 0, none⟩ = some (.slice A1 n1 c1) := K0.out.at_ 0 rfl
  have K0c1 : (w10.alloc (.cells #[.bool b17, .slice A17 n17 c17, .slice D17 m17 k17] 60)).cell? ⟨w.heap.size, 1, none⟩ = some (.slice A2 n1 c2) := K0.out.at_ 1 rfl
  have K0c2 : (w10.alloc (.cells #[.bool b17, .slice A17 n17 c17, .slice D17 m17 k17] 60)).cell? ⟨w.heap.size, 2, none⟩ = some (.slice A3 n1 c3) := K0.out.at_ 2 rfl
  have K0c3 : (w10.alloc (.cells #[.bool b17, .slice A17 n17 c17, .slice D17 m17 k17] 60)).cell? ⟨w.heap.size, 3, none⟩ = some (.bool b4) := K0.out.at_ 3 rfl
  have K0c4 : (w10.alloc (.cells #[.bool b17, .slice A17 n17 c17, .slice D17 m17 k17] 60)).cell? ⟨w.heap.size, 4, none⟩ = some (.slice A4 n4 c4) := K0.out.at_ 4 rfl
  have K0c5 : (w10.alloc (.cells #[.bool b17, .slice A17 n17 c17, .slice D17 m17 k17] 60)).cell? ⟨w.heap.size, 5, none⟩ = some (.slice D4 m4 k4) := K0.out.at_ 5 rfl
  clear K0c0 K0c1 K0c2 K0c3 K0c4 K0c5
  go_wp2
  obtain ⟨V1_10, hV⟩ : ∃ V, (w10.alloc (.cells #[.bool b17, .slice A17 n17 c17, .slice D17 m17 k17] 60)) = V := ⟨_, rfl⟩
  rw [hV] at K0 L8 X15 K15 X16 K16 X17 K17 b0
  rw [hV]
  clear hV
  have L2V := hide (L2.out.can_below b0.out)
  have L3V := hide (L3.out.can_below b0.out)
  have a4V := hide (a4.out.below b0.out)
  have Q5_ : Hid (Hs ((qs.map (· * t4))) 600) := Hs_scale S2.out S4.out _ (by decide)
  have Q6_ : Hid (H ((dot (qs.map (· * t4)) rs)) 36031) := H_dot (Q5_.out.up (by decide)) (S3.out.up (by decide)) (k := 600) 30 36031 (by rw [List.length_map, E2.out]; exact M1.out.1) (by decide) (by decide)
  refine RD.wp_region_R 13 V1_10 11 119 [(111, .eq ((.pointer (some ⟨w.heap.size, 1, none⟩) : Value))), (112, (.lst0 V1_10 qs)), (113, .eq ((.pointer (some ⟨w.heap.size, 3, none⟩) : Value))), (114, (.rat0 V1_10 t4)), (115, (.lst (qs.map (· * t4)))), (116, .eq ((.pointer (some ⟨w.heap.size, 2, none⟩) : Value))), (117, (.lst0 V1_10 rs)), (118, (.tupE (.ratR (dot (qs.map (· * t4)) rs) V1_10.heap.size) (.int .i64 0))), (110, (.tupE (.ratR (dot (qs.map (· * t4)) rs) V1_10.heap.size) (.int .i64 0))), (119, (.ratR (dot (qs.map (· * t4)) rs) V1_10.heap.size)), (120, .eq ((.int .i64 0))), (11, (.var TR 3))] [false, false, false, false, false, false, false, false, false, false, false, true, false, false, false, false, false, false, false, false, false, false, false, false, false, false, false, false, false, false, false, false, false, false, false, false, false, false, false, false, false, false, false, false, false, false, false, false, false, false, false, false, false, false, false, false, false, false, false, false, false, false, false, false, false, false, false, false, false, false, false, false, false, false, false, false, false, false, false, false, false, false, false, false, false, false, false, false, false, false, false, false, false, false, false, false, false, false, false, false, false, false, false, false, false, false, false, false, false, false, true, true, true, true, true, true, true, true, true, true, true, false, false, false, false, false, false, false, false, false, false, false, false, false, false, false, false, false, false, false, false, false, false, false, false, false, false, false, false, false, false, false, false, false, false, false, false] mixed (by kernel_rfl) (by kernel_rfl) (by kernel_rfl) (by kernel_rfl) (Below.refl _ _).drew (by kernel_rfl) (by kernel_rfl) (by kernel_rfl) ⟨?_, ?_, ?_, ?_, ?_, ?_, ?_, ?_, ?_, ?_, ?_, ?_, ?_, trivial⟩ ?_
  · exact (.inl ⟨rfl, .fieldAddr (.inl rfl) rfl rfl rfl (fun a w' hC hs hl => by rw [show a.eval (.tmp 1) = (.pointer (some ⟨w.heap.size, 0, none⟩) : Value) from (hs 1 (by kernel_rfl))]; simp [go_sem])⟩)
  · exact (.inl ⟨rfl, .load (.slice A2 n1 c2) (.inl rfl) rfl rfl (fun a w' hC hs hl => by rw [show a.eval (.tmp 111) = (.pointer (some ⟨w.heap.size, 1, none⟩) : Value) from (hl 111 (by kernel_rfl) (by kernel_rfl))]; exact ⟨ld_RatsI ((K0.out.below' hC).at_ 1 rfl), L2V.out⟩)⟩)
  · exact (.inl ⟨rfl, .fieldAddr (.inl rfl) rfl rfl rfl (fun a w' hC hs hl => by rw [show a.eval (.tmp 1) = (.pointer (some ⟨w.heap.size, 0, none⟩) : Value) from (hs 1 (by kernel_rfl))]; simp [go_sem])⟩)
  · exact (.inl ⟨rfl, .load (.agg #[.bool b4, .slice A4 n4 c4, .slice D4 m4 k4]) (.inl rfl) rfl rfl (fun a w' hC hs hl => by rw [show a.eval (.tmp 113) = (.pointer (some ⟨w.heap.size, 3, none⟩) : Value) from (hl 113 (by kernel_rfl) (by kernel_rfl))]; exact ⟨ld_Rat_ ((K0.out.below' hC).at_ 3 rfl) ((K0.out.below' hC).at_ 4 rfl) ((K0.out.below' hC).at_ 5 rfl), a4V.out⟩)⟩)
  · exact (.inl ⟨rfl, .call (.inl rfl) rfl rfl fn_vScale (fun a w' hC hs hl => vScale_L (Lst.can_below (hl 112 (by kernel_rfl) (by kernel_rfl)) hC) (RCan.arg (RCan.below (hl 114 (by kernel_rfl) (by kernel_rfl)) hC) (S4.out.up (by decide))) (S2.out.up (by decide)) (by have : qs.length ≤ 30 := (by rw [E2.out]; exact M1.out.1); omega) (T.out.below (b0.out.trans (hC.mono b0.out.size))))⟩)
  · exact (.inl ⟨rfl, .fieldAddr (.inl rfl) rfl rfl rfl (fun a w' hC hs hl => by rw [show a.eval (.tmp 1) = (.pointer (some ⟨w.heap.size, 0, none⟩) : Value) from (hs 1 (by kernel_rfl))]; simp [go_sem])⟩)
  · exact (.inl ⟨rfl, .load (.slice A3 n1 c3) (.inl rfl) rfl rfl (fun a w' hC hs hl => by rw [show a.eval (.tmp 116) = (.pointer (some ⟨w.heap.size, 2, none⟩) : Value) from (hl 116 (by kernel_rfl) (by kernel_rfl))]; exact ⟨ld_RatsI ((K0.out.below' hC).at_ 2 rfl), L3V.out⟩)⟩)
  · exact (.inl ⟨rfl, .call (.inl rfl) rfl rfl fn_vDot (fun a w' hC hs hl => RD.vDot_D (k := 600) _ hC.size (hl 115 (by kernel_rfl) (by kernel_rfl)) (Lst.can_below (hl 117 (by kernel_rfl) (by kernel_rfl)) hC) (by rw [List.length_map, E2.out, E3.out]) Q5_.out (S3.out.up (by decide)) (by have : (qs.map (· * t4)).length ≤ 30 := (by rw [List.length_map, E2.out]; exact M1.out.1); omega) (T.out.below (b0.out.trans (hC.mono b0.out.size))))⟩)
  · exact (.inl ⟨rfl, .move (.inl rfl) (.inl rfl) rfl (by kernel_rfl) (by kernel_rfl) rfl⟩)
  · exact (.inl ⟨rfl, .make (.inl rfl) (by intro T e; cases e) rfl (fun a w' hC hs hl => by
      obtain ⟨u, e, h⟩ := (hl 110 (by kernel_rfl) (by kernel_rfl))
      have e' : a.tmps[110]?.getD undef = _ := (by simp [Act.eval] : _ = a.eval (.tmp 110)).trans e
      exact ⟨u, by simp [execOp, go_sem, e'], h⟩)⟩)
  · exact (.inl ⟨rfl, .make (.inl rfl) (by intro T e; cases e) rfl (fun a w' hC hs hl => by
      obtain ⟨u, e, h⟩ := (hl 110 (by kernel_rfl) (by kernel_rfl))
      have e' : a.tmps[110]?.getD undef = _ := (by simp [Act.eval] : _ = a.eval (.tmp 110)).trans e
      exact ⟨_, by simp [execOp, go_sem, e'], rfl⟩)⟩)
  · exact (.inl ⟨rfl, .alloc (.agg #[.bool false, .slice none 0 0, .slice none 0 0]) (.inl rfl) rfl rfl (fun a w' hC => ⟨run_alloc_Rat _ _ _ _ _ _ _, _, _, rfl, hC.size, Blk.new _ _ _, rfl⟩)⟩)
  · exact (.storeR (fun v w h => RatR.slice h) rfl rfl rfl (by kernel_rfl) (by kernel_rfl) (by kernel_rfl) (by kernel_rfl) rfl)
  intro f w11 hC hF _ hE
  obtain ⟨g18, b18, A18, n18, c18, D18, m18, k18, ep, lp, er, K18⟩ := hE
  have f120 : f 120 = (.int .i64 0) := hF 120 (by kernel_rfl) rfl
  have fr : RatR (dot (qs.map (· * t4)) rs) V1_10.heap.size w11 (f 119) := hF 119 (by kernel_rfl) rfl
  rw [er] at fr
  have X18 := hide fr.can
  clear fr
  replace K18 := hide K18
  clear hF lp
  simp only [patch, List.drop]
  rw [f120]
  clear f120
  generalize f 111 = y111_ at *
  generalize f 112 = y112_ at *
  generalize f 113 = y113_ at *
  generalize f 114 = y114_ at *
  generalize f 115 = y115_ at *
  generalize f 116 = y116_ at *
  generalize f 117 = y117_ at *
  generalize f 118 = y118_ at *
  generalize f 110 = y110_ at *
  generalize f 119 = y119_ at *
  generalize f 11 = y11_ at *
  subst er ep
  replace K0 := hide (K0.out.below' hC)
  replace L8 := hide (L8.out.can_below hC)
  replace X15 := hide (X15.out.below hC)
  replace K15 := hide (K15.out.below' hC)
  replace X16 := hide (X16.out.below hC)
  replace K16 := hide (K16.out.below' hC)
  replace X17 := hide (X17.out.below hC)
  replace K17 := hide (K17.out.below' hC)
  replace L2V := hide (L2V.out.can_below hC)
  replace L3V := hide (L3V.out.can_below hC)
  replace a4V := hide (a4V.out.below hC)
  replace b0 := hide (b0.out.trans (hC.mono b0.out.size))
  clear hC
  go_wp2
  obtain ⟨V2_11, hV⟩ : ∃ V, w11 = V := ⟨_, rfl⟩
  rw [hV] at K0 L8 X15 K15 X16 K16 X17 K17 L2V L3V a4V K18 X18 b0
  rw [hV]
  clear hV
  have Q7_ : Hid (H ((t4 * (dot qs rs))) 18331) := H_mul S4.out Q4_.out (by decide)
  have Q8_ : Hid (H (((dot ps rs) + (t4 * (dot qs rs)))) 36363) := H_add Q3_.out Q7_.out (by decide)
  refine wp_region_facts 37 (fun w' => Below V2_11.heap.size V2_11 w') [(121, .eq (.int .i64 0)), (122, .eq (.bool true)), (123, .eq (.bool true)), (124, .eq (.int .i64 0)), (125, .eq (.bool true)), (126, .eq (.bool true)), (127, .eq (.bool true)), (128, .eq (.int .i64 0)), (129, .eq (.bool true)), (130, .eq (.bool true)), (131, .eq (.bool true)), (132, .eq (.int .i64 0)), (133, .eq (.bool true)), (134, .eq (.bool true)), (135, .eq (.bool true)), (136, .eq (.int .i64 0)), (137, .eq (.bool true)), (138, .eq (.bool true)), (139, .eq (.bool true)), (140, (.rat0 V2_11 (dot (axpy ps qs t4) rs))), (141, (.rat0 V2_11 (dot ps rs))), (142, .eq ((.pointer (some ⟨w.heap.size, 3, none⟩) : Value))), (143, (.rat0 V2_11 t4)), (144, (.rat0 V2_11 (dot qs rs))), (145, (.rat (t4 * (dot qs rs)))), (146, (.rat ((dot ps rs) + (t4 * (dot qs rs))))), (147, .eq (.bool true)), (148, .eq (.bool true)), (149, .eq (.bool true)), (150, (.rat0 V2_11 (dot (qs.map (· * t4)) rs))), (151, .eq ((.pointer (some ⟨w.heap.size, 3, none⟩) : Value))), (152, (.rat0 V2_11 t4)), (153, (.rat0 V2_11 (dot qs rs))), (154, (.rat (t4 * (dot qs rs)))), (155, .eq (.bool true)), (156, .eq (.bool true)), (2, .eq (.bool true))] [false, false, true, false, false, false, false, false, false, false, false, false, false, false, false, false, false, false, false, false, false, false, false, false, false, false, false, false, false, false, false, false, false, false, false, false, false, false, false, false, false, false, false, false, false, false, false, false, false, false, false, false, false, false, false, false, false, false, false, false, false, false, false, false, false, false, false, false, false, false, false, false, false, false, false, false, false, false, false, false, false, false, false, false, false, false, false, false, false, false, false, false, false, false, false, false, false, false, false, false, false, false, false, false, false, false, false, false, false, false, false, false, false, false, false, false, false, false, false, false, false, true, true, true, true, true, true, true, true, true, true, true, true, true, true, true, true, true, true, true, true, true, true, true, true, true, true, true, true, true, true, true, true, true, true, true, true] mixed (by kernel_rfl) (by kernel_rfl) (by kernel_rfl) (fun _ _ h hb => h.trans (hb.mono h.size)) ((Below.refl _ _).drew) ⟨?_, ?_, ?_, ?_, ?_, ?_, ?_, ?_, ?_, ?_, ?_, ?_, ?_, ?_, ?_, ?_, ?_, ?_, ?_, ?_, ?_, ?_, ?_, ?_, ?_, ?_, ?_, ?_, ?_, ?_, ?_, ?_, ?_, ?_, ?_, ?_, ?_, trivial⟩ ?_
  · exact .moveC (.inl rfl) (.inl rfl) rfl (fun a w' hC hs => (hs 4 (by kernel_rfl)))
  · exact .value (.inl rfl) (by intro T e; cases e) rfl rfl (fun a w' hC hs hl => by
      have e0 : a.eval (.tmp 121) = (.int .i64 0) := (hl 121 (by kernel_rfl) (by kernel_rfl))
      simp only [execOp, e0]
      simp only [Act.eval]
      simp [go_sem] <;> rfl)
  · exact .move (.inl rfl) (.inl rfl) rfl (by kernel_rfl) (by kernel_rfl) rfl
  · exact .moveC (.inr ⟨2, true, 123, by decide, rfl, rfl, rfl⟩) (.inl rfl) rfl (fun a w' hC hs => (hs 6 (by kernel_rfl)))
  · exact .value (.inr ⟨2, true, 123, by decide, rfl, rfl, rfl⟩) (by intro T e; cases e) rfl rfl (fun a w' hC hs hl => by
      have e0 : a.eval (.tmp 124) = (.int .i64 0) := (hl 124 (by kernel_rfl) (by kernel_rfl))
      simp only [execOp, e0]
      simp only [Act.eval]
      simp [go_sem] <;> rfl)
  · exact .pick (b := true) (.inl rfl) rfl rfl (fun a w' hC hs hl => ⟨(hl 123 (by kernel_rfl) (by kernel_rfl)), (hl 125 (by kernel_rfl) (by kernel_rfl))⟩)
  · exact .move (.inl rfl) (.inl rfl) rfl (by kernel_rfl) (by kernel_rfl) rfl
  · exact .moveC (.inr ⟨6, true, 127, by decide, rfl, rfl, rfl⟩) (.inl rfl) rfl (fun a w' hC hs => (hs 8 (by kernel_rfl)))
  · exact .value (.inr ⟨6, true, 127, by decide, rfl, rfl, rfl⟩) (by intro T e; cases e) rfl rfl (fun a w' hC hs hl => by
      have e0 : a.eval (.tmp 128) = (.int .i64 0) := (hl 128 (by kernel_rfl) (by kernel_rfl))
      simp only [execOp, e0]
      simp only [Act.eval]
      simp [go_sem] <;> rfl)
  · exact .pick (b := true) (.inl rfl) rfl rfl (fun a w' hC hs hl => ⟨(hl 127 (by kernel_rfl) (by kernel_rfl)), (hl 129 (by kernel_rfl) (by kernel_rfl))⟩)
  · exact .move (.inl rfl) (.inl rfl) rfl (by kernel_rfl) (by kernel_rfl) rfl
  · exact .moveC (.inr ⟨10, true, 131, by decide, rfl, rfl, rfl⟩) (.inl rfl) rfl (fun a w' hC hs => (hs 10 (by kernel_rfl)))
  · exact .value (.inr ⟨10, true, 131, by decide, rfl, rfl, rfl⟩) (by intro T e; cases e) rfl rfl (fun a w' hC hs hl => by
      have e0 : a.eval (.tmp 132) = (.int .i64 0) := (hl 132 (by kernel_rfl) (by kernel_rfl))
      simp only [execOp, e0]
      simp only [Act.eval]
      simp [go_sem] <;> rfl)
  · exact .pick (b := true) (.inl rfl) rfl rfl (fun a w' hC hs hl => ⟨(hl 131 (by kernel_rfl) (by kernel_rfl)), (hl 133 (by kernel_rfl) (by kernel_rfl))⟩)
  · exact .move (.inl rfl) (.inl rfl) rfl (by kernel_rfl) (by kernel_rfl) rfl
  · exact .moveC (.inr ⟨14, true, 135, by decide, rfl, rfl, rfl⟩) (.inl rfl) rfl (fun a w' hC hs => (hs 12 (by kernel_rfl)))
  · exact .value (.inr ⟨14, true, 135, by decide, rfl, rfl, rfl⟩) (by intro T e; cases e) rfl rfl (fun a w' hC hs hl => by
      have e0 : a.eval (.tmp 136) = (.int .i64 0) := (hl 136 (by kernel_rfl) (by kernel_rfl))
      simp only [execOp, e0]
      simp only [Act.eval]
      simp [go_sem] <;> rfl)
  · exact .pick (b := true) (.inl rfl) rfl rfl (fun a w' hC hs hl => ⟨(hl 135 (by kernel_rfl) (by kernel_rfl)), (hl 137 (by kernel_rfl) (by kernel_rfl))⟩)
  · exact .move (.inl rfl) (.inl rfl) rfl (by kernel_rfl) (by kernel_rfl) rfl
  · exact .load (.agg #[.bool b15, .slice A15 n15 c15, .slice D15 m15 k15]) (.inr ⟨18, true, 139, by decide, rfl, rfl, rfl⟩) rfl rfl (fun a w' hC hs hl => by rw [show a.eval (.tmp 5) = (.pointer (some ⟨w8.heap.size, 0, none⟩) : Value) from (hs 5 (by kernel_rfl))]; exact ⟨ld_Rat_ ((K15.out.below' hC).at_ 0 rfl) ((K15.out.below' hC).at_ 1 rfl) ((K15.out.below' hC).at_ 2 rfl), X15.out⟩)
  · exact .load (.agg #[.bool b16, .slice A16 n16 c16, .slice D16 m16 k16]) (.inr ⟨18, true, 139, by decide, rfl, rfl, rfl⟩) rfl rfl (fun a w' hC hs hl => by rw [show a.eval (.tmp 7) = (.pointer (some ⟨w9.heap.size, 0, none⟩) : Value) from (hs 7 (by kernel_rfl))]; exact ⟨ld_Rat_ ((K16.out.below' hC).at_ 0 rfl) ((K16.out.below' hC).at_ 1 rfl) ((K16.out.below' hC).at_ 2 rfl), X16.out⟩)
  · exact .fieldAddr (.inr ⟨18, true, 139, by decide, rfl, rfl, rfl⟩) rfl rfl rfl (fun a w' hC hs hl => by rw [show a.eval (.tmp 1) = (.pointer (some ⟨w.heap.size, 0, none⟩) : Value) from (hs 1 (by kernel_rfl))]; simp [go_sem])
  · exact .load (.agg #[.bool b4, .slice A4 n4 c4, .slice D4 m4 k4]) (.inr ⟨18, true, 139, by decide, rfl, rfl, rfl⟩) rfl rfl (fun a w' hC hs hl => by rw [show a.eval (.tmp 142) = (.pointer (some ⟨w.heap.size, 3, none⟩) : Value) from (hl 142 (by kernel_rfl) (by kernel_rfl))]; exact ⟨ld_Rat_ ((K0.out.below' hC).at_ 3 rfl) ((K0.out.below' hC).at_ 4 rfl) ((K0.out.below' hC).at_ 5 rfl), a4V.out⟩)
  · exact .load (.agg #[.bool b17, .slice A17 n17 c17, .slice D17 m17 k17]) (.inr ⟨18, true, 139, by decide, rfl, rfl, rfl⟩) rfl rfl (fun a w' hC hs hl => by rw [show a.eval (.tmp 9) = (.pointer (some ⟨w10.heap.size, 0, none⟩) : Value) from (hs 9 (by kernel_rfl))]; exact ⟨ld_Rat_ ((K17.out.below' hC).at_ 0 rfl) ((K17.out.below' hC).at_ 1 rfl) ((K17.out.below' hC).at_ 2 rfl), X17.out⟩)
  · exact .call (.inr ⟨18, true, 139, by decide, rfl, rfl, rfl⟩) rfl rfl fn_rMul (fun a w' hC hs hl => rMul_C (RCan.arg (RCan.below (hl 143 (by kernel_rfl) (by kernel_rfl)) hC) (S4.out.up (by decide))) (RCan.arg (RCan.below (hl 144 (by kernel_rfl) (by kernel_rfl)) hC) (Q4_.out.up (by decide))) (T.out.below (b0.out.trans (hC.mono b0.out.size))))
  · exact .call (.inr ⟨18, true, 139, by decide, rfl, rfl, rfl⟩) rfl rfl fn_rAdd (fun a w' hC hs hl => rAdd_C (RCan.arg (RCan.below (hl 141 (by kernel_rfl) (by kernel_rfl)) hC) (Q3_.out.up (by decide))) (RCan.arg (hl 145 (by kernel_rfl) (by kernel_rfl)) (Q7_.out.up (by decide))) (T.out.below (b0.out.trans (hC.mono b0.out.size))))
  · exact .call (.inr ⟨18, true, 139, by decide, rfl, rfl, rfl⟩) rfl rfl fn_rSameRat (fun a w' hC hs hl => rSame_yes (RCan.below (hl 140 (by kernel_rfl) (by kernel_rfl)) hC) (hl 146 (by kernel_rfl) (by kernel_rfl)) true (decide_eq_true (dot_axpy _ _ _ _ (by rw [E1.out, E2.out]) (by rw [E1.out, E3.out]))))
  · exact .pick (b := true) (.inl rfl) rfl rfl (fun a w' hC hs hl => ⟨(hl 139 (by kernel_rfl) (by kernel_rfl)), (hl 147 (by kernel_rfl) (by kernel_rfl))⟩)
  · exact .move (.inl rfl) (.inl rfl) rfl (by kernel_rfl) (by kernel_rfl) rfl
  · exact .load (.agg #[.bool b18, .slice A18 n18 c18, .slice D18 m18 k18]) (.inr ⟨28, true, 149, by decide, rfl, rfl, rfl⟩) rfl rfl (fun a w' hC hs hl => by rw [show a.eval (.tmp 11) = (.pointer (some ⟨g18, 0, none⟩) : Value) from (hs 11 (by kernel_rfl))]; exact ⟨ld_Rat_ ((K18.out.below' hC).at_ 0 rfl) ((K18.out.below' hC).at_ 1 rfl) ((K18.out.below' hC).at_ 2 rfl), X18.out⟩)
  · exact .fieldAddr (.inr ⟨28, true, 149, by decide, rfl, rfl, rfl⟩) rfl rfl rfl (fun a w' hC hs hl => by rw [show a.eval (.tmp 1) = (.pointer (some ⟨w.heap.size, 0, none⟩) : Value) from (hs 1 (by kernel_rfl))]; simp [go_sem])
  · exact .load (.agg #[.bool b4, .slice A4 n4 c4, .slice D4 m4 k4]) (.inr ⟨28, true, 149, by decide, rfl, rfl, rfl⟩) rfl rfl (fun a w' hC hs hl => by rw [show a.eval (.tmp 151) = (.pointer (some ⟨w.heap.size, 3, none⟩) : Value) from (hl 151 (by kernel_rfl) (by kernel_rfl))]; exact ⟨ld_Rat_ ((K0.out.below' hC).at_ 3 rfl) ((K0.out.below' hC).at_ 4 rfl) ((K0.out.below' hC).at_ 5 rfl), a4V.out⟩)
  · exact .load (.agg #[.bool b17, .slice A17 n17 c17, .slice D17 m17 k17]) (.inr ⟨28, true, 149, by decide, rfl, rfl, rfl⟩) rfl rfl (fun a w' hC hs hl => by rw [show a.eval (.tmp 9) = (.pointer (some ⟨w10.heap.size, 0, none⟩) : Value) from (hs 9 (by kernel_rfl))]; exact ⟨ld_Rat_ ((K17.out.below' hC).at_ 0 rfl) ((K17.out.below' hC).at_ 1 rfl) ((K17.out.below' hC).at_ 2 rfl), X17.out⟩)
  · exact .call (.inr ⟨28, true, 149, by decide, rfl, rfl, rfl⟩) rfl rfl fn_rMul (fun a w' hC hs hl => rMul_C (RCan.arg (RCan.below (hl 152 (by kernel_rfl) (by kernel_rfl)) hC) (S4.out.up (by decide))) (RCan.arg (RCan.below (hl 153 (by kernel_rfl) (by kernel_rfl)) hC) (Q4_.out.up (by decide))) (T.out.below (b0.out.trans (hC.mono b0.out.size))))
  · exact .call (.inr ⟨28, true, 149, by decide, rfl, rfl, rfl⟩) rfl rfl fn_rSameRat (fun a w' hC hs hl => rSame_yes (RCan.below (hl 150 (by kernel_rfl) (by kernel_rfl)) hC) (hl 154 (by kernel_rfl) (by kernel_rfl)) true (decide_eq_true (dot_scale _ _ _)))
  · exact .pick (b := true) (.inl rfl) rfl rfl (fun a w' hC hs hl => ⟨(hl 149 (by kernel_rfl) (by kernel_rfl)), (hl 155 (by kernel_rfl) (by kernel_rfl))⟩)
  · exact .move (.inl rfl) (.inr rfl) rfl (by kernel_rfl) (by kernel_rfl) rfl
  intro f w99 hC hF _
  have f0 : f 2 = .bool true := hF 2 (by kernel_rfl)
  clear hF
  simp only [patch, List.drop]
  have B9 := hide (b0.out.trans (hC.mono b0.out.size))
  clear hC
  rw [f0]
  try change wpList _ _ _ [] _ _
  go_wp2
  exact opq_end hR ⟨rfl, B9⟩
end Go.Proofs.YthnhcbdecgkacaaGreatDoor
