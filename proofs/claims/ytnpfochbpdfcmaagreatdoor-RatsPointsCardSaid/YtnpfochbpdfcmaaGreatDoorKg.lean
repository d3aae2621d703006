/- rats: Floor, Text; great of one, two, three. -/
import Derived.Test.YtnpfochbpdfcmaaGreatDoorKf
set_option linter.unusedVariables false
set_option linter.unusedSimpArgs false
set_option maxRecDepth 100000
namespace Go.Proofs.YtnpfochbpdfcmaaGreatDoor
open Go.RowKit

theorem rgreat1 {w : World} {b1 : Bool} {A1 D1 : Option Addr} {n1 c1 m1 k1 : Nat} {t : TypeId} {g : Nat} (hg : w.heap.size = g) (K : Nat) (hK : K ≤ 1000) (l1 : n1 ≤ 70368744177664) (l1' : m1 ≤ 70368744177664) (r : Bool) (hr : decide (K < n1 + m1) = r) :
    Calls Tryz.prog 18 #[.int .i64 (K : Nat), .slice (some ⟨g, 0, none⟩) 1 1] (w.alloc (.cells #[.bool b1, .slice A1 n1 c1, .slice D1 m1 k1] t)) fun e w' => ∃ u, e = .returned u ∧ Below (w.alloc (.cells #[.bool b1, .slice A1 n1 c1, .slice D1 m1 k1] t)).heap.size (w.alloc (.cells #[.bool b1, .slice A1 n1 c1, .slice D1 m1 k1] t)) w' ∧ u = .bool r := by
  subst hg
  have B := Blk.new w t #[.bool b1, .slice A1 n1 c1, .slice D1 m1 k1]
  have := rgreat_ok (w.alloc (.cells #[.bool b1, .slice A1 n1 c1, .slice D1 m1 k1] t)) w.heap.size K hK [((A1, n1, c1), (D1, m1, k1))] (fun j x hx => by
    rw [B.cell, B.cell]
    match j, hx with
    | 0, hx => cases hx; exact ⟨rfl, rfl⟩) (by
    intro x hx
    simp only [List.mem_cons, List.not_mem_nil, or_false] at hx
    rcases hx with rfl
    · exact ⟨l1, l1'⟩) (by simp)
  exact this.mono fun e w' ⟨h1, h2⟩ => ⟨_, h1, h2.out, by rw [← hr]; simp⟩
theorem rgreat2 {w : World} {b1 : Bool} {A1 D1 : Option Addr} {n1 c1 m1 k1 : Nat} {b2 : Bool} {A2 D2 : Option Addr} {n2 c2 m2 k2 : Nat} {t : TypeId} {g : Nat} (hg : w.heap.size = g) (K : Nat) (hK : K ≤ 1000) (l1 : n1 ≤ 70368744177664) (l1' : m1 ≤ 70368744177664) (l2 : n2 ≤ 70368744177664) (l2' : m2 ≤ 70368744177664) (r : Bool) (hr : (decide (K < n1 + m1) || decide (K < n2 + m2)) = r) :
    Calls Tryz.prog 18 #[.int .i64 (K : Nat), .slice (some ⟨g, 0, none⟩) 2 2] (w.alloc (.cells #[.bool b1, .slice A1 n1 c1, .slice D1 m1 k1, .bool b2, .slice A2 n2 c2, .slice D2 m2 k2] t)) fun e w' => ∃ u, e = .returned u ∧ Below (w.alloc (.cells #[.bool b1, .slice A1 n1 c1, .slice D1 m1 k1, .bool b2, .slice A2 n2 c2, .slice D2 m2 k2] t)).heap.size (w.alloc (.cells #[.bool b1, .slice A1 n1 c1, .slice D1 m1 k1, .bool b2, .slice A2 n2 c2, .slice D2 m2 k2] t)) w' ∧ u = .bool r := by
  subst hg
  have B := Blk.new w t #[.bool b1, .slice A1 n1 c1, .slice D1 m1 k1, .bool b2, .slice A2 n2 c2, .slice D2 m2 k2]
  have := rgreat_ok (w.alloc (.cells #[.bool b1, .slice A1 n1 c1, .slice D1 m1 k1, .bool b2, .slice A2 n2 c2, .slice D2 m2 k2] t)) w.heap.size K hK [((A1, n1, c1), (D1, m1, k1)), ((A2, n2, c2), (D2, m2, k2))] (fun j x hx => by
    rw [B.cell, B.cell]
    match j, hx with
    | 0, hx => cases hx; exact ⟨rfl, rfl⟩
    | 1, hx => cases hx; exact ⟨rfl, rfl⟩) (by
    intro x hx
    simp only [List.mem_cons, List.not_mem_nil, or_false] at hx
    rcases hx with rfl | rfl
    · exact ⟨l1, l1'⟩
    · exact ⟨l2, l2'⟩) (by simp)
  exact this.mono fun e w' ⟨h1, h2⟩ => ⟨_, h1, h2.out, by rw [← hr]; simp⟩
theorem rgreat3 {w : World} {b1 : Bool} {A1 D1 : Option Addr} {n1 c1 m1 k1 : Nat} {b2 : Bool} {A2 D2 : Option Addr} {n2 c2 m2 k2 : Nat} {b3 : Bool} {A3 D3 : Option Addr} {n3 c3 m3 k3 : Nat} {t : TypeId} {g : Nat} (hg : w.heap.size = g) (K : Nat) (hK : K ≤ 1000) (l1 : n1 ≤ 70368744177664) (l1' : m1 ≤ 70368744177664) (l2 : n2 ≤ 70368744177664) (l2' : m2 ≤ 70368744177664) (l3 : n3 ≤ 70368744177664) (l3' : m3 ≤ 70368744177664) (r : Bool) (hr : (decide (K < n1 + m1) || (decide (K < n2 + m2) || decide (K < n3 + m3))) = r) :
    Calls Tryz.prog 18 #[.int .i64 (K : Nat), .slice (some ⟨g, 0, none⟩) 3 3] (w.alloc (.cells #[.bool b1, .slice A1 n1 c1, .slice D1 m1 k1, .bool b2, .slice A2 n2 c2, .slice D2 m2 k2, .bool b3, .slice A3 n3 c3, .slice D3 m3 k3] t)) fun e w' => ∃ u, e = .returned u ∧ Below (w.alloc (.cells #[.bool b1, .slice A1 n1 c1, .slice D1 m1 k1, .bool b2, .slice A2 n2 c2, .slice D2 m2 k2, .bool b3, .slice A3 n3 c3, .slice D3 m3 k3] t)).heap.size (w.alloc (.cells #[.bool b1, .slice A1 n1 c1, .slice D1 m1 k1, .bool b2, .slice A2 n2 c2, .slice D2 m2 k2, .bool b3, .slice A3 n3 c3, .slice D3 m3 k3] t)) w' ∧ u = .bool r := by
  subst hg
  have B := Blk.new w t #[.bool b1, .slice A1 n1 c1, .slice D1 m1 k1, .bool b2, .slice A2 n2 c2, .slice D2 m2 k2, .bool b3, .slice A3 n3 c3, .slice D3 m3 k3]
  have := rgreat_ok (w.alloc (.cells #[.bool b1, .slice A1 n1 c1, .slice D1 m1 k1, .bool b2, .slice A2 n2 c2, .slice D2 m2 k2, .bool b3, .slice A3 n3 c3, .slice D3 m3 k3] t)) w.heap.size K hK [((A1, n1, c1), (D1, m1, k1)), ((A2, n2, c2), (D2, m2, k2)), ((A3, n3, c3), (D3, m3, k3))] (fun j x hx => by
    rw [B.cell, B.cell]
    match j, hx with
    | 0, hx => cases hx; exact ⟨rfl, rfl⟩
    | 1, hx => cases hx; exact ⟨rfl, rfl⟩
    | 2, hx => cases hx; exact ⟨rfl, rfl⟩) (by
    intro x hx
    simp only [List.mem_cons, List.not_mem_nil, or_false] at hx
    rcases hx with rfl | rfl | rfl
    · exact ⟨l1, l1'⟩
    · exact ⟨l2, l2'⟩
    · exact ⟨l3, l3'⟩) (by simp)
  exact this.mono fun e w' ⟨h1, h2⟩ => ⟨_, h1, h2.out, by rw [← hr]; simp⟩
theorem floor_nn {q : Rat} (h : decide (q.num < 0) = false) : q.floor = ((q.num.natAbs / q.den : Nat) : Int) := by
  rw [floor_parts, if_neg (by simpa using h)]
theorem floor_n0 {q : Rat} (h : decide (q.num < 0) = true) (h0 : q.num.natAbs % q.den = 0) : q.floor = -((q.num.natAbs / q.den : Nat) : Int) := by
  rw [floor_parts, if_pos (by simpa using h), if_pos h0]
theorem floor_n1 {q : Rat} (h : decide (q.num < 0) = true) (h0 : q.num.natAbs % q.den ≠ 0) : q.floor = -((q.num.natAbs / q.den : Nat) : Int) - 1 := by
  rw [floor_parts, if_pos (by simpa using h), if_neg h0]
theorem intR_of_nat {N B : Nat} {w : World} {u : Value} (h : NatR N B w u) (z : Int) (hz : z = (N : Int)) : IntR z B w (.agg #[.bool false, u]) := by
  subst hz
  exact ⟨u, by rw [decide_eq_false (by omega)], by rw [Int.natAbs_natCast]; exact h⟩
theorem intR_of_neg {N B : Nat} {w : World} {u : Value} (h : NatR N B w u) (z : Int) (hz : z = -(N : Int)) (hN : 0 < N) : IntR z B w (.agg #[.bool true, u]) := by
  subst hz
  exact ⟨u, by rw [decide_eq_true (by omega)], by rw [Int.natAbs_neg, Int.natAbs_natCast]; exact h⟩
theorem NatR.len {N B : Nat} {w : World} {A : Option Addr} {n c : Nat} (h : NatR N B w (.slice A n c)) : n = 0 ↔ N = 0 := by
  obtain ⟨A', c', e, _⟩ := h
  cases e
  exact is_zero_len
theorem iOf_C (w : World) (n : Int) (h0 : -9223372036854775808 ≤ n) (h1 : n < 9223372036854775808) :
    Calls Tryz.prog 30 #[.int .i64 n] w fun e w' => ∃ u, e = .returned u ∧ Below w.heap.size w w' ∧ ICan w' u n :=
  (iOf_ok w n h0 h1).mono fun e w' ⟨u, h1, h2, h3⟩ => ⟨u, h1, h2, h3.can⟩
theorem fn_iOf (args : Array Value) (w : World) : (callFunc 30 args).run Tryz.prog w = .ok (.enter 30 args) w := callFunc_enter Tryz.func30 (by kernel_rfl) rfl args w
theorem iSub_R {w : World} {v v' : Value} {x y : Int} (B : Nat) (hB : B ≤ w.heap.size) (h : IArg w v x) (h' : IArg w v' y) :
    Calls Tryz.prog 75 #[v, v'] w fun e w' => ∃ u, e = .returned u ∧ Below w.heap.size w w' ∧ IntR (x - y) B w' u :=
  (iSub_ok h h').mono fun e w' ⟨u, h1, h2, h3⟩ => ⟨u, h1, h2, h3.mono hB⟩
set_option maxHeartbeats 2000000 in
theorem rFloor_P {w : World} {v : Value} {q : Rat} (h : RArg w v q) (hT : Tab w) :
    Calls Tryz.prog 34 #[v] w fun e w' => ∃ u, e = .returned u ∧ Below w.heap.size w w' ∧ IntR q.floor w.heap.size w' u := by
  refine opq fun R hR => ?_
  obtain ⟨b1, A1, n1, c1, D1, m1, k1, rfl⟩ := h.slice
  have S := hide h.size
  replace h := hide h
  have T := hide hT
  clear hT
  have hd := hide q.den_nz
  go_enter Tryz.func34, Tryz.ntmps34
  have b0 := hide (Below.refl w.heap.size w)
  have K1 := hide (Blk.new_at w (w.heap.size) (by simp) 27 #[.bool b1, .slice A1 n1 c1, .slice D1 m1 k1])
  have y := (Below.refl w.heap.size w).alloc (Nat.le_refl _) (.cells #[.bool b1, .slice A1 n1 c1, .slice D1 m1 k1] 27)
  replace b0 := hide (below_tr b0.out y)
  clear y
  have K2 := hide (Blk.new_at (w.alloc (.cells #[.bool b1, .slice A1 n1 c1, .slice D1 m1 k1] 27)) (w.heap.size + 1) (by simp) 25 #[.bool false, .slice none 0 0])
  have y := (Below.refl (w.alloc (.cells #[.bool b1, .slice A1 n1 c1, .slice D1 m1 k1] 27)).heap.size (w.alloc (.cells #[.bool b1, .slice A1 n1 c1, .slice D1 m1 k1] 27))).alloc (Nat.le_refl _) (.cells #[.bool false, .slice none 0 0] 25)
  replace K1 := hide (K1.out.below' y)
  replace b0 := hide (below_tr b0.out y)
  clear y
  go_wp2_with fail
  refine (rof_P h.out b0.out (T.out.below b0.out) w.heap.size b0.out.size).mono ?_
  rintro e w1 ⟨v8, rfl, d0, r8⟩
  replace K1 := hide (K1.out.below' d0)
  replace K2 := hide (K2.out.below' d0)
  replace b0 := hide (below_tr b0.out d0)
  have P1 := hide (r8)
  clear d0
  clear r8
  obtain ⟨b8, A8, n8, c8, D8, m8, k8, rfl⟩ := P1.out.slice
  have f0 : w1.frozen? ⟨w.heap.size, 0, none⟩ = false := K1.out.frozen 0
  have f1 : w1.frozen? ⟨w.heap.size, 1, none⟩ = false := K1.out.frozen 1
  have f2 : w1.frozen? ⟨w.heap.size, 2, none⟩ = false := K1.out.frozen 2
  have K1c0 : w1.cell? ⟨w.heap.size, 0, none⟩ = some (.bool b1) := K1.out.at_ 0 rfl
  have K1c1 : w1.cell? ⟨w.heap.size, 1, none⟩ = some (.slice A1 n1 c1) := K1.out.at_ 1 rfl
  have K1c2 : w1.cell? ⟨w.heap.size, 2, none⟩ = some (.slice D1 m1 k1) := K1.out.at_ 2 rfl
  go_wp2_with fail
  clear K1c0 K1c1 K1c2
  clear f0 f1 f2
  have F : Only (w.heap.size) w1 (((w1.setCell ⟨w.heap.size, 0, none⟩ (.bool b8)).setCell ⟨w.heap.size, 1, none⟩ (.slice A8 n8 c8)).setCell ⟨w.heap.size, 2, none⟩ (.slice D8 m8 k8)) := ((((Only.refl _ _).set _ _).set _ _).set _ _)
  replace P1 := hide (P1.out.only K1.out (by decide) F)
  replace K2 := hide (((K2.out.far (p := ⟨w.heap.size, 0, none⟩) (by first | (simp; done) | (simp; omega)) (.bool b8)).far (p := ⟨w.heap.size, 1, none⟩) (by first | (simp; done) | (simp; omega)) (.slice A8 n8 c8)).far (p := ⟨w.heap.size, 2, none⟩) (by first | (simp; done) | (simp; omega)) (.slice D8 m8 k8))
  have by_ : Hid (Below w.heap.size w (((w1.setCell ⟨w.heap.size, 0, none⟩ (.bool b8)).setCell ⟨w.heap.size, 1, none⟩ (.slice A8 n8 c8)).setCell ⟨w.heap.size, 2, none⟩ (.slice D8 m8 k8))) := (((b0.out.setCell (p := ⟨w.heap.size, 0, none⟩) (by first | exact Nat.le_refl _ | (simp; done) | (simp; omega)) (.bool b8)).setCell (p := ⟨w.heap.size, 1, none⟩) (by first | exact Nat.le_refl _ | (simp; done) | (simp; omega)) (.slice A8 n8 c8)).setCell (p := ⟨w.heap.size, 2, none⟩) (by first | exact Nat.le_refl _ | (simp; done) | (simp; omega)) (.slice D8 m8 k8))
  replace K1 : Hid (Blk (((w1.setCell ⟨w.heap.size, 0, none⟩ (.bool b8)).setCell ⟨w.heap.size, 1, none⟩ (.slice A8 n8 c8)).setCell ⟨w.heap.size, 2, none⟩ (.slice D8 m8 k8)) (w.heap.size) 27 #[.bool b8, .slice A8 n8 c8, .slice D8 m8 k8]) := (((K1.out.set_ 0 (.bool b8)).set_ 1 (.slice A8 n8 c8)).set_ 2 (.slice D8 m8 k8))
  replace b0 := by_
  clear by_ F
  obtain ⟨V1_2, hV⟩ : ∃ V, (((w1.setCell ⟨w.heap.size, 0, none⟩ (.bool b8)).setCell ⟨w.heap.size, 1, none⟩ (.slice A8 n8 c8)).setCell ⟨w.heap.size, 2, none⟩ (.slice D8 m8 k8)) = V := ⟨_, rfl⟩
  rw [hV] at K1 K2 P1 b0
  rw [hV]
  clear hV
  have C := hide (P1.out.can b0.out)
  clear P1
  refine (nDiv_P C.out.num.nat.1 C.out.den (L_up S.out.1 (by decide)) (L_up S.out.2 (by decide)) hd.out).mono ?_
  rintro e w2 ⟨qv, rv_, rfl, d0, qr, rr⟩
  have bz := b0.out.size
  replace K1 := hide (K1.out.below' d0)
  replace K2 := hide (K2.out.below' d0)
  replace C := hide (C.out.below d0)
  replace b0 := hide (below_tr b0.out d0)
  have N1 := hide (qr.mono (B' := w.heap.size) bz)
  have N2 := hide (rr)
  clear d0 bz
  clear qr rr
  obtain ⟨Aq, nq, cq, rfl⟩ := N1.out.slice
  obtain ⟨Ar, nr, cr, rfl⟩ := N2.out.slice
  have lq := hide N1.out.len
  have lr := hide N2.out.len
  have hb := hide C.out.num.nat.2
  clear N2 C
  cases b8
  case false =>
    have Q := hide (intR_of_nat N1.out q.floor (floor_nn hb.out))
    clear N1 lq lr hb
    have K1c0 : w2.cell? ⟨w.heap.size, 0, none⟩ = some (.bool false) := K1.out.at_ 0 rfl
    have K1c1 : w2.cell? ⟨w.heap.size, 1, none⟩ = some (.slice A8 n8 c8) := K1.out.at_ 1 rfl
    have K1c2 : w2.cell? ⟨w.heap.size, 2, none⟩ = some (.slice D8 m8 k8) := K1.out.at_ 2 rfl
    have K6 := hide (Blk.new_at w2 (w2.heap.size) (by simp) 25 #[.bool false, .slice Aq nq cq])
    have y := (Below.refl w2.heap.size w2).alloc (Nat.le_refl _) (.cells #[.bool false, .slice Aq nq cq] 25)
    replace K1 := hide (K1.out.below' y)
    replace K2 := hide (K2.out.below' y)
    replace Q := hide (Q.out.below y)
    replace b0 := hide (below_tr b0.out y)
    clear y
    have K1d0 : (w2.alloc (.cells #[.bool false, .slice Aq nq cq] 25)).cell? ⟨w.heap.size, 0, none⟩ = some (.bool false) := K1.out.at_ 0 rfl
    have K1d1 : (w2.alloc (.cells #[.bool false, .slice Aq nq cq] 25)).cell? ⟨w.heap.size, 1, none⟩ = some (.slice A8 n8 c8) := K1.out.at_ 1 rfl
    have K1d2 : (w2.alloc (.cells #[.bool false, .slice Aq nq cq] 25)).cell? ⟨w.heap.size, 2, none⟩ = some (.slice D8 m8 k8) := K1.out.at_ 2 rfl
    have K2c0 : (w2.alloc (.cells #[.bool false, .slice Aq nq cq] 25)).cell? ⟨w.heap.size + 1, 0, none⟩ = some (.bool false) := K2.out.at_ 0 rfl
    have K2c1 : (w2.alloc (.cells #[.bool false, .slice Aq nq cq] 25)).cell? ⟨w.heap.size + 1, 1, none⟩ = some (.slice none 0 0) := K2.out.at_ 1 rfl
    have p0 : (w2.alloc (.cells #[.bool false, .slice Aq nq cq] 25)).frozen? ⟨w.heap.size + 1, 0, none⟩ = false := K2.out.frozen 0
    have p1 : (w2.alloc (.cells #[.bool false, .slice Aq nq cq] 25)).frozen? ⟨w.heap.size + 1, 1, none⟩ = false := K2.out.frozen 1
    go_wp2
    refine bodyPost_ret (v := .agg #[.bool false, .slice Aq nq cq]) (by simp [results, Tryz.results34, go_sem, K2c0, K2c1, p0, p1]) rfl ?_
    exact opq_end hR ⟨_, rfl, (by (repeat (first | exact b0 | exact Below.refl _ _ | refine Below.setCell ?_ (by first | (simp; done) | (simp; omega)) _ | refine Below.alloc ?_ (by first | (simp; done) | (simp; omega)) _))), Q.out.only K2.out (by decide) (((Only.refl _ _).set _ _).set _ _)⟩
  case true =>
    by_cases hr : nr = 0
    case pos =>
      subst hr
      have hq : 0 < nq := by
        have h1 := lr.out.1 rfl
        have h2 : q.num < 0 := by simpa using hb.out
        have h3 := Nat.div_add_mod q.num.natAbs q.den
        rcases Nat.eq_zero_or_pos nq with h0 | h0
        · have h4 := lq.out.1 h0
          rw [h1, h4] at h3
          omega
        · exact h0
      have Q := hide (intR_of_neg N1.out q.floor (floor_n0 hb.out (lr.out.1 rfl)) (Nat.pos_of_ne_zero (fun e => by have := lq.out.2 e; omega)))
      clear N1 lq lr hb
      have K1c0 : w2.cell? ⟨w.heap.size, 0, none⟩ = some (.bool true) := K1.out.at_ 0 rfl
      have K1c1 : w2.cell? ⟨w.heap.size, 1, none⟩ = some (.slice A8 n8 c8) := K1.out.at_ 1 rfl
      have K1c2 : w2.cell? ⟨w.heap.size, 2, none⟩ = some (.slice D8 m8 k8) := K1.out.at_ 2 rfl
      have K6 := hide (Blk.new_at w2 (w2.heap.size) (by simp) 25 #[.bool true, .slice Aq nq cq])
      have y := (Below.refl w2.heap.size w2).alloc (Nat.le_refl _) (.cells #[.bool true, .slice Aq nq cq] 25)
      replace K1 := hide (K1.out.below' y)
      replace K2 := hide (K2.out.below' y)
      replace Q := hide (Q.out.below y)
      replace b0 := hide (below_tr b0.out y)
      clear y
      have K1d0 : (w2.alloc (.cells #[.bool true, .slice Aq nq cq] 25)).cell? ⟨w.heap.size, 0, none⟩ = some (.bool true) := K1.out.at_ 0 rfl
      have K1d1 : (w2.alloc (.cells #[.bool true, .slice Aq nq cq] 25)).cell? ⟨w.heap.size, 1, none⟩ = some (.slice A8 n8 c8) := K1.out.at_ 1 rfl
      have K1d2 : (w2.alloc (.cells #[.bool true, .slice Aq nq cq] 25)).cell? ⟨w.heap.size, 2, none⟩ = some (.slice D8 m8 k8) := K1.out.at_ 2 rfl
      have K2c0 : (w2.alloc (.cells #[.bool true, .slice Aq nq cq] 25)).cell? ⟨w.heap.size + 1, 0, none⟩ = some (.bool false) := K2.out.at_ 0 rfl
      have K2c1 : (w2.alloc (.cells #[.bool true, .slice Aq nq cq] 25)).cell? ⟨w.heap.size + 1, 1, none⟩ = some (.slice none 0 0) := K2.out.at_ 1 rfl
      have p0 : (w2.alloc (.cells #[.bool true, .slice Aq nq cq] 25)).frozen? ⟨w.heap.size + 1, 0, none⟩ = false := K2.out.frozen 0
      have p1 : (w2.alloc (.cells #[.bool true, .slice Aq nq cq] 25)).frozen? ⟨w.heap.size + 1, 1, none⟩ = false := K2.out.frozen 1
      go_wp2
      refine bodyPost_ret (v := .agg #[.bool true, .slice Aq nq cq]) (by simp [results, Tryz.results34, go_sem, K2c0, K2c1, p0, p1]) rfl ?_
      exact opq_end hR ⟨_, rfl, (by (repeat (first | exact b0 | exact Below.refl _ _ | refine Below.setCell ?_ (by first | (simp; done) | (simp; omega)) _ | refine Below.alloc ?_ (by first | (simp; done) | (simp; omega)) _))), Q.out.only K2.out (by decide) (((Only.refl _ _).set _ _).set _ _)⟩
    have hr' : 0 < nr := by omega
    have ez : Hid (q.floor = -((q.num.natAbs / q.den : Nat) : Int) - 1) := floor_n1 hb.out (fun e => hr (lr.out.2 e))
    have sz : Hid (L (-((q.num.natAbs / q.den : Nat) : Int)).natAbs ≤ 1000000000000) := by
      show _ ≤ _
      rw [Int.natAbs_neg, Int.natAbs_natCast]
      exact L_up (L_div S.out.1) (by decide)
    by_cases hq : nq = 0
    case pos =>
      subst hq
      have Q : Hid (IntR (-((q.num.natAbs / q.den : Nat) : Int)) w.heap.size w2 (.agg #[.bool false, .slice Aq 0 cq])) := intR_of_nat N1.out _ (by rw [lq.out.1 rfl]; rfl)
      generalize -((q.num.natAbs / q.den : Nat) : Int) = z at *
      clear N1 lq lr hb hr
      have K1c0 : w2.cell? ⟨w.heap.size, 0, none⟩ = some (.bool true) := K1.out.at_ 0 rfl
      have K1c1 : w2.cell? ⟨w.heap.size, 1, none⟩ = some (.slice A8 n8 c8) := K1.out.at_ 1 rfl
      have K1c2 : w2.cell? ⟨w.heap.size, 2, none⟩ = some (.slice D8 m8 k8) := K1.out.at_ 2 rfl
      have K6 := hide (Blk.new_at w2 (w2.heap.size) (by simp) 25 #[.bool false, .slice Aq 0 cq])
      have y := (Below.refl w2.heap.size w2).alloc (Nat.le_refl _) (.cells #[.bool false, .slice Aq 0 cq] 25)
      replace K1 := hide (K1.out.below' y)
      replace K2 := hide (K2.out.below' y)
      replace Q := hide (Q.out.below y)
      replace b0 := hide (below_tr b0.out y)
      clear y
      have K1d0 : (w2.alloc (.cells #[.bool false, .slice Aq 0 cq] 25)).cell? ⟨w.heap.size, 0, none⟩ = some (.bool true) := K1.out.at_ 0 rfl
      have K1d1 : (w2.alloc (.cells #[.bool false, .slice Aq 0 cq] 25)).cell? ⟨w.heap.size, 1, none⟩ = some (.slice A8 n8 c8) := K1.out.at_ 1 rfl
      have K1d2 : (w2.alloc (.cells #[.bool false, .slice Aq 0 cq] 25)).cell? ⟨w.heap.size, 2, none⟩ = some (.slice D8 m8 k8) := K1.out.at_ 2 rfl
      go_wp2
      clear K1c0 K1c1 K1c2
      clear K1d0 K1d1 K1d2
      obtain ⟨V2_2, hV⟩ : ∃ V, (w2.alloc (.cells #[.bool false, .slice Aq 0 cq] 25)) = V := ⟨_, rfl⟩
      rw [hV] at K1 K2 Q K6 b0
      rw [hV]
      clear hV
      refine wp_region_facts 3 (fun w' => Below V2_2.heap.size V2_2 w') [(37, (.int0 V2_2 z)), (38, (.int 1)), (39, (.intR (z - 1) w.heap.size))] [false, false, false, false, false, false, false, false, false, false, false, false, false, false, false, false, false, false, false, false, false, false, false, false, false, false, false, false, false, false, false, false, false, false, false, false, false, true, true, true, false] mixed (by kernel_rfl) (by kernel_rfl) (by kernel_rfl) (fun _ _ h hb => h.trans (hb.mono h.size)) ((Below.refl _ _).drew) ⟨?_, ?_, ?_, trivial⟩ ?_
      · exact .load (.agg #[.bool false, .slice Aq 0 cq]) (.inl rfl) rfl rfl (fun a w' hC hs hl => by rw [show a.eval (.tmp 6) = (.pointer (some ⟨w2.heap.size, 0, none⟩) : Value) from (hs 6 (by kernel_rfl))]; exact ⟨ld_Int_ ((K6.out.below' hC).at_ 0 rfl) ((K6.out.below' hC).at_ 1 rfl), Q.out.can⟩)
      · exact .call (.inl rfl) rfl rfl fn_iOf (fun a w' hC hs hl => iOf_C w' 1 (by decide) (by decide))
      · exact .call (.inl rfl) rfl rfl fn_iSub (fun a w' hC hs hl => iSub_R w.heap.size (Nat.le_trans b0.out.size hC.size) (ICan.arg (ICan.below (hl 37 (by kernel_rfl) (by kernel_rfl)) hC) sz.out) (ICan.arg (hl 38 (by kernel_rfl) (by kernel_rfl)) (show L 1 ≤ 1000000000000 from L_up (L_small (by decide)) (by decide))))
      intro f w9 hC hF _
      have R9 : IntR (z - 1) w.heap.size w9 (f 39) := hF 39 (by kernel_rfl)
      clear hF
      simp only [patch, List.drop]
      obtain ⟨b9, A9, n9, c9, e9⟩ := R9.slice
      replace R9 := hide R9
      generalize f 39 = v9 at *
      generalize f 38 = y38 at *
      generalize f 37 = y37 at *
      subst e9
      replace K1 := hide (K1.out.below' hC)
      replace K2 := hide (K2.out.below' hC)
      replace Q := hide (Q.out.below hC)
      replace K6 := hide (K6.out.below' hC)
      replace b0 := hide (b0.out.trans (hC.mono b0.out.size))
      clear hC
      have K2c0 : w9.cell? ⟨w.heap.size + 1, 0, none⟩ = some (.bool false) := K2.out.at_ 0 rfl
      have K2c1 : w9.cell? ⟨w.heap.size + 1, 1, none⟩ = some (.slice none 0 0) := K2.out.at_ 1 rfl
      have p0 : w9.frozen? ⟨w.heap.size + 1, 0, none⟩ = false := K2.out.frozen 0
      have p1 : w9.frozen? ⟨w.heap.size + 1, 1, none⟩ = false := K2.out.frozen 1
      go_wp2
      refine bodyPost_ret (v := .agg #[.bool b9, .slice A9 n9 c9]) (by simp [results, Tryz.results34, go_sem, K2c0, K2c1, p0, p1]) rfl ?_
      exact opq_end hR ⟨_, rfl, (by (repeat (first | exact b0 | exact Below.refl _ _ | refine Below.setCell ?_ (by first | (simp; done) | (simp; omega)) _ | refine Below.alloc ?_ (by first | (simp; done) | (simp; omega)) _))), (by rw [ez.out]; exact R9.out.only K2.out (by decide) (((Only.refl _ _).set _ _).set _ _))⟩
    have hq' : 0 < nq := by omega
    have Q : Hid (IntR (-((q.num.natAbs / q.den : Nat) : Int)) w.heap.size w2 (.agg #[.bool true, .slice Aq nq cq])) := intR_of_neg N1.out _ rfl (Nat.pos_of_ne_zero (fun e => hq (lq.out.2 e)))
    generalize -((q.num.natAbs / q.den : Nat) : Int) = z at *
    clear N1 lq lr hb hr hq
    have K1c0 : w2.cell? ⟨w.heap.size, 0, none⟩ = some (.bool true) := K1.out.at_ 0 rfl
    have K1c1 : w2.cell? ⟨w.heap.size, 1, none⟩ = some (.slice A8 n8 c8) := K1.out.at_ 1 rfl
    have K1c2 : w2.cell? ⟨w.heap.size, 2, none⟩ = some (.slice D8 m8 k8) := K1.out.at_ 2 rfl
    have K6 := hide (Blk.new_at w2 (w2.heap.size) (by simp) 25 #[.bool true, .slice Aq nq cq])
    have y := (Below.refl w2.heap.size w2).alloc (Nat.le_refl _) (.cells #[.bool true, .slice Aq nq cq] 25)
    replace K1 := hide (K1.out.below' y)
    replace K2 := hide (K2.out.below' y)
    replace Q := hide (Q.out.below y)
    replace b0 := hide (below_tr b0.out y)
    clear y
    have K1d0 : (w2.alloc (.cells #[.bool true, .slice Aq nq cq] 25)).cell? ⟨w.heap.size, 0, none⟩ = some (.bool true) := K1.out.at_ 0 rfl
    have K1d1 : (w2.alloc (.cells #[.bool true, .slice Aq nq cq] 25)).cell? ⟨w.heap.size, 1, none⟩ = some (.slice A8 n8 c8) := K1.out.at_ 1 rfl
    have K1d2 : (w2.alloc (.cells #[.bool true, .slice Aq nq cq] 25)).cell? ⟨w.heap.size, 2, none⟩ = some (.slice D8 m8 k8) := K1.out.at_ 2 rfl
    go_wp2
    clear K1c0 K1c1 K1c2
    clear K1d0 K1d1 K1d2
    obtain ⟨V2_2, hV⟩ : ∃ V, (w2.alloc (.cells #[.bool true, .slice Aq nq cq] 25)) = V := ⟨_, rfl⟩
    rw [hV] at K1 K2 Q K6 b0
    rw [hV]
    clear hV
    refine wp_region_facts 3 (fun w' => Below V2_2.heap.size V2_2 w') [(37, (.int0 V2_2 z)), (38, (.int 1)), (39, (.intR (z - 1) w.heap.size))] [false, false, false, false, false, false, false, false, false, false, false, false, false, false, false, false, false, false, false, false, false, false, false, false, false, false, false, false, false, false, false, false, false, false, false, false, false, true, true, true, false] mixed (by kernel_rfl) (by kernel_rfl) (by kernel_rfl) (fun _ _ h hb => h.trans (hb.mono h.size)) ((Below.refl _ _).drew) ⟨?_, ?_, ?_, trivial⟩ ?_
    · exact .load (.agg #[.bool true, .slice Aq nq cq]) (.inl rfl) rfl rfl (fun a w' hC hs hl => by rw [show a.eval (.tmp 6) = (.pointer (some ⟨w2.heap.size, 0, none⟩) : Value) from (hs 6 (by kernel_rfl))]; exact ⟨ld_Int_ ((K6.out.below' hC).at_ 0 rfl) ((K6.out.below' hC).at_ 1 rfl), Q.out.can⟩)
    · exact .call (.inl rfl) rfl rfl fn_iOf (fun a w' hC hs hl => iOf_C w' 1 (by decide) (by decide))
    · exact .call (.inl rfl) rfl rfl fn_iSub (fun a w' hC hs hl => iSub_R w.heap.size (Nat.le_trans b0.out.size hC.size) (ICan.arg (ICan.below (hl 37 (by kernel_rfl) (by kernel_rfl)) hC) sz.out) (ICan.arg (hl 38 (by kernel_rfl) (by kernel_rfl)) (show L 1 ≤ 1000000000000 from L_up (L_small (by decide)) (by decide))))
    intro f w9 hC hF _
    have R9 : IntR (z - 1) w.heap.size w9 (f 39) := hF 39 (by kernel_rfl)
    clear hF
    simp only [patch, List.drop]
    obtain ⟨b9, A9, n9, c9, e9⟩ := R9.slice
    replace R9 := hide R9
    generalize f 39 = v9 at *
    generalize f 38 = y38 at *
    generalize f 37 = y37 at *
    subst e9
    replace K1 := hide (K1.out.below' hC)
    replace K2 := hide (K2.out.below' hC)
    replace Q := hide (Q.out.below hC)
    replace K6 := hide (K6.out.below' hC)
    replace b0 := hide (b0.out.trans (hC.mono b0.out.size))
    clear hC
    have K2c0 : w9.cell? ⟨w.heap.size + 1, 0, none⟩ = some (.bool false) := K2.out.at_ 0 rfl
    have K2c1 : w9.cell? ⟨w.heap.size + 1, 1, none⟩ = some (.slice none 0 0) := K2.out.at_ 1 rfl
    have p0 : w9.frozen? ⟨w.heap.size + 1, 0, none⟩ = false := K2.out.frozen 0
    have p1 : w9.frozen? ⟨w.heap.size + 1, 1, none⟩ = false := K2.out.frozen 1
    go_wp2
    refine bodyPost_ret (v := .agg #[.bool b9, .slice A9 n9 c9]) (by simp [results, Tryz.results34, go_sem, K2c0, K2c1, p0, p1]) rfl ?_
    exact opq_end hR ⟨_, rfl, (by (repeat (first | exact b0 | exact Below.refl _ _ | refine Below.setCell ?_ (by first | (simp; done) | (simp; omega)) _ | refine Below.alloc ?_ (by first | (simp; done) | (simp; omega)) _))), (by rw [ez.out]; exact R9.out.only K2.out (by decide) (((Only.refl _ _).set _ _).set _ _))⟩
/-- A fraction's text. -/
def rtxt (q : Rat) : List Nat := itxt q.num ++ (if q.den = 1 then [] else 47 :: txt q.den)
theorem itxt_len {z : Int} {k : Nat} (h : L z.natAbs ≤ k) : (itxt z).length ≤ 10 * k + 2 := by
  unfold itxt
  have := txt_len h
  split
  · simp only [List.length_cons]; omega
  · omega
set_option maxHeartbeats 2000000 in
theorem rText_P {w : World} {v : Value} {q : Rat} (h : RArg w v q) (hl : H q 1000000) (hT : Tab w) :
    Calls Tryz.prog 19 #[v] w fun e w' => ∃ u, e = .returned u ∧ Below w.heap.size w w' ∧ u = vstr (bts (rtxt q)) := by
  refine opq fun R hR => ?_
  obtain ⟨b1, A1, n1, c1, D1, m1, k1, rfl⟩ := h.slice
  have S := hide hl
  replace h := hide h
  have T := hide hT
  clear hT hl
  have e1 : Hid (q.den = 1 → bts (rtxt q) = bts (itxt q.num)) := fun e => by rw [rtxt, if_pos e, List.append_nil]
  have e2 : Hid (q.den ≠ 1 → bts (rtxt q) = bts (itxt q.num) ++ 47 :: bts (txt q.den)) := fun e => by rw [rtxt, if_neg e, bts_append]; rfl
  have t1 : (bts (itxt q.num)).length ≤ 10000002 := by rw [bts, List.length_map]; exact itxt_len S.out.1
  have t2 : (bts (txt q.den)).length ≤ 10000001 := by rw [bts, List.length_map]; exact txt_len S.out.2
  go_enter Tryz.func19, Tryz.ntmps19
  have b0 := hide (Below.refl w.heap.size w)
  have K1 := hide (Blk.new_at w (w.heap.size) (by simp) 27 #[.bool b1, .slice A1 n1 c1, .slice D1 m1 k1])
  have y := (Below.refl w.heap.size w).alloc (Nat.le_refl _) (.cells #[.bool b1, .slice A1 n1 c1, .slice D1 m1 k1] 27)
  replace b0 := hide (below_tr b0.out y)
  clear y
  go_wp2_with fail
  refine (rof_P h.out b0.out (T.out.below b0.out) w.heap.size b0.out.size).mono ?_
  rintro e w1 ⟨v8, rfl, d0, r8⟩
  replace K1 := hide (K1.out.below' d0)
  replace b0 := hide (below_tr b0.out d0)
  have P1 := hide (r8)
  clear d0
  clear r8
  obtain ⟨b8, A8, n8, c8, D8, m8, k8, rfl⟩ := P1.out.slice
  have f0 : w1.frozen? ⟨w.heap.size, 0, none⟩ = false := K1.out.frozen 0
  have f1 : w1.frozen? ⟨w.heap.size, 1, none⟩ = false := K1.out.frozen 1
  have f2 : w1.frozen? ⟨w.heap.size, 2, none⟩ = false := K1.out.frozen 2
  have K1c0 : w1.cell? ⟨w.heap.size, 0, none⟩ = some (.bool b1) := K1.out.at_ 0 rfl
  have K1c1 : w1.cell? ⟨w.heap.size, 1, none⟩ = some (.slice A1 n1 c1) := K1.out.at_ 1 rfl
  have K1c2 : w1.cell? ⟨w.heap.size, 2, none⟩ = some (.slice D1 m1 k1) := K1.out.at_ 2 rfl
  go_wp2_with fail
  clear K1c0 K1c1 K1c2
  clear f0 f1 f2
  have F : Only (w.heap.size) w1 (((w1.setCell ⟨w.heap.size, 0, none⟩ (.bool b8)).setCell ⟨w.heap.size, 1, none⟩ (.slice A8 n8 c8)).setCell ⟨w.heap.size, 2, none⟩ (.slice D8 m8 k8)) := ((((Only.refl _ _).set _ _).set _ _).set _ _)
  replace P1 := hide (P1.out.only K1.out (by decide) F)
  have by_ : Hid (Below w.heap.size w (((w1.setCell ⟨w.heap.size, 0, none⟩ (.bool b8)).setCell ⟨w.heap.size, 1, none⟩ (.slice A8 n8 c8)).setCell ⟨w.heap.size, 2, none⟩ (.slice D8 m8 k8))) := (((b0.out.setCell (p := ⟨w.heap.size, 0, none⟩) (by first | exact Nat.le_refl _ | (simp; done) | (simp; omega)) (.bool b8)).setCell (p := ⟨w.heap.size, 1, none⟩) (by first | exact Nat.le_refl _ | (simp; done) | (simp; omega)) (.slice A8 n8 c8)).setCell (p := ⟨w.heap.size, 2, none⟩) (by first | exact Nat.le_refl _ | (simp; done) | (simp; omega)) (.slice D8 m8 k8))
  replace K1 : Hid (Blk (((w1.setCell ⟨w.heap.size, 0, none⟩ (.bool b8)).setCell ⟨w.heap.size, 1, none⟩ (.slice A8 n8 c8)).setCell ⟨w.heap.size, 2, none⟩ (.slice D8 m8 k8)) (w.heap.size) 27 #[.bool b8, .slice A8 n8 c8, .slice D8 m8 k8]) := (((K1.out.set_ 0 (.bool b8)).set_ 1 (.slice A8 n8 c8)).set_ 2 (.slice D8 m8 k8))
  replace b0 := by_
  clear by_ F
  obtain ⟨V1_2, hV⟩ : ∃ V, (((w1.setCell ⟨w.heap.size, 0, none⟩ (.bool b8)).setCell ⟨w.heap.size, 1, none⟩ (.slice A8 n8 c8)).setCell ⟨w.heap.size, 2, none⟩ (.slice D8 m8 k8)) = V := ⟨_, rfl⟩
  rw [hV] at K1 P1 b0
  rw [hV]
  clear hV
  have C := hide (P1.out.can b0.out)
  clear P1
  refine (iText_ok (C.out.num.arg (L_up S.out.1 (by decide))) S.out.1).mono ?_
  rintro e w2 ⟨rfl, d0⟩
  replace K1 := hide (K1.out.below' d0.out)
  replace C := hide (C.out.below d0.out)
  replace b0 := hide (below_tr b0.out d0.out)
  clear d0
  have K1c0 : w2.cell? ⟨w.heap.size, 0, none⟩ = some (.bool b8) := K1.out.at_ 0 rfl
  have K1c1 : w2.cell? ⟨w.heap.size, 1, none⟩ = some (.slice A8 n8 c8) := K1.out.at_ 1 rfl
  have K1c2 : w2.cell? ⟨w.heap.size, 2, none⟩ = some (.slice D8 m8 k8) := K1.out.at_ 2 rfl
  by_cases hq : q.den = 1
  case pos =>
    have ef := hide (e1.out hq)
    clear e1 e2 t2
    go_wp2_with fail
    refine (is1_P C.out.den true (by simpa using hq)).mono ?_
    rintro e w3 ⟨_, rfl, d0, rfl⟩
    replace K1 := hide (K1.out.below' d0)
    replace C := hide (C.out.below d0)
    replace b0 := hide (below_tr b0.out d0)
    clear d0
    clear K1c0 K1c1 K1c2
    have K1c0 : w3.cell? ⟨w.heap.size, 0, none⟩ = some (.bool b8) := K1.out.at_ 0 rfl
    have K1c1 : w3.cell? ⟨w.heap.size, 1, none⟩ = some (.slice A8 n8 c8) := K1.out.at_ 1 rfl
    have K1c2 : w3.cell? ⟨w.heap.size, 2, none⟩ = some (.slice D8 m8 k8) := K1.out.at_ 2 rfl
    generalize bts (itxt q.num) = t at *
    go_wp2
    exact opq_end hR ⟨_, rfl, b0.out, by first | (rw [ef.out]; done) | (rw [ef.out]; rfl)⟩
  have ef := hide (e2.out hq)
  clear e1 e2
  go_wp2_with fail
  refine (is1_P C.out.den false (by simpa using hq)).mono ?_
  rintro e w3 ⟨_, rfl, d0, rfl⟩
  replace K1 := hide (K1.out.below' d0)
  replace C := hide (C.out.below d0)
  replace b0 := hide (below_tr b0.out d0)
  clear d0
  clear K1c0 K1c1 K1c2
  have K1c0 : w3.cell? ⟨w.heap.size, 0, none⟩ = some (.bool b8) := K1.out.at_ 0 rfl
  have K1c1 : w3.cell? ⟨w.heap.size, 1, none⟩ = some (.slice A8 n8 c8) := K1.out.at_ 1 rfl
  have K1c2 : w3.cell? ⟨w.heap.size, 2, none⟩ = some (.slice D8 m8 k8) := K1.out.at_ 2 rfl
  go_wp2_with fail
  refine (Text_can C.out.den S.out.2).mono ?_
  rintro e w4 ⟨rfl, d0⟩
  replace K1 := hide (K1.out.below' d0.out)
  replace C := hide (C.out.below d0.out)
  replace b0 := hide (below_tr b0.out d0.out)
  clear d0
  generalize bts (itxt q.num) = t at *
  generalize bts (txt q.den) = t' at *
  go_wp2
  exact opq_end hR ⟨_, rfl, b0.out, by first | (rw [ef.out]; done) | (rw [ef.out]; rfl)⟩
end Go.Proofs.YtnpfochbpdfcmaaGreatDoor
