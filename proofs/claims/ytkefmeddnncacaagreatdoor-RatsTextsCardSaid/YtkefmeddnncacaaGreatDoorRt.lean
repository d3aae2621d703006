/- rats: the document's number, noughts, Floor, Text. -/
import Derived.Test.YtkefmeddnncacaaGreatDoorRr
import Derived.Test.YtkefmeddnncacaaGreatDoorRs
import Derived.Test.YtkefmeddnncacaaGreatDoorBq
set_option linter.unusedVariables false
set_option linter.unusedSimpArgs false
set_option maxRecDepth 100000
namespace Go.Proofs.YtkefmeddnncacaaGreatDoor
open Go.RowKit

theorem ft_assayerref01_Text (args : Array Value) (w : World) : (callFunc 102 args).run Tryz.prog w = .ok (.enter 102 args) w := callFunc_enter Tryz.func102 (by kernel_rfl) rfl args w
theorem ft_assayerref02_Text (args : Array Value) (w : World) : (callFunc 101 args).run Tryz.prog w = .ok (.enter 101 args) w := callFunc_enter Tryz.func101 (by kernel_rfl) rfl args w
set_option maxHeartbeats 1000000 in
theorem knumber_ok (w : World) (s : ByteArray) (hs : s.size ≤ 9223372036854775807) {r : Bool} (hr : isNum (byt s) = r) :
    Calls Tryz.prog 82 #[.string s] w fun e w' => ∃ u, e = .returned u ∧ Below w.heap.size w w' ∧ u = .bool r := by
  subst hr
  refine opq fun R hR => ?_
  have D := hide (kDigits_ok w s hs)
  cases hd : isDigs (byt s)
  case false =>
    rw [hd] at D
    have hn : Hid (isNum (byt s) = false) := by show _ = _; rw [isNum_split, hd]; rfl
    clear hd
    go_enter Tryz.func82, Tryz.ntmps82
    go_wp2_with fail
    refine D.out.mono ?_
    rintro e w1 ⟨rfl, b1⟩
    replace b1 := hide b1
    go_wp2
    exact opq_end hR ⟨_, rfl, b1.out, by rw [hn.out]; rfl⟩
  rw [hd] at D
  have h0 : 0 < s.size := by
    rcases Nat.eq_zero_or_pos s.size with z | z
    · have : byt s = [] := List.eq_nil_of_length_eq_zero (by rw [byt_length]; exact z)
      rw [this] at hd
      exact absurd hd (by decide)
    · exact z
  have hh := hide (byt_head s h0)
  have hl := hide (byt_length s)
  have en : Hid (isNum (byt s) = !(decide (1 < s.size) && decide ((s[0]'h0).toNat = 48))) := by
    show _ = _
    rw [isNum_split, hd, hl.out, hh.out, Bool.true_and]
    congr 2
  clear hd hh
  by_cases h1 : s.size = 1
  · have hn : Hid (isNum (byt s) = true) := by show _ = _; rw [en.out]; simp [h1]
    clear en
    go_enter Tryz.func82, Tryz.ntmps82
    go_wp2_with fail
    refine D.out.mono ?_
    rintro e w1 ⟨rfl, b1⟩
    replace b1 := hide b1
    clear D
    have h1' : ((s.size : Int) == 1) = true := by rw [h1]; rfl
    go_wp2
    exact opq_end hR ⟨_, rfl, b1.out, by rw [hn.out]; rfl⟩
  · have h1' : ((s.size : Int) == 1) = false := by simp; omega
    by_cases h48 : (s[0]'h0).toNat = 48
    all_goals
      have hn := hide en.out
      clear en
      go_enter Tryz.func82, Tryz.ntmps82
      go_wp2_with fail
      refine D.out.mono ?_
      rintro e w1 ⟨rfl, b1⟩
      replace b1 := hide b1
      clear D
    · have h4 : (((s[0]'h0).toNat : Int) == 48) = true := by rw [h48]; rfl
      go_wp2
      exact opq_end hR ⟨_, rfl, b1.out, by rw [hn.out, h48]; simp; omega⟩
    · have h4 : (((s[0]'h0).toNat : Int) == 48) = false := by simp; omega
      go_wp2
      exact opq_end hR ⟨_, rfl, b1.out, by rw [hn.out]; simp [h48]; omega⟩
theorem all_no {l : List Nat} {i : Nat} (h : i < l.length) (hd : l.getD i 0 ≠ 48) : (l.all (· == 48)) = false := by
  rw [getD_lt h] at hd
  exact List.all_eq_false.2 ⟨_, List.getElem_mem h, by simpa using hd⟩
theorem take_all48 {l : List Nat} {i : Nat} (h : i < l.length) (hall : ((l.take i).all (· == 48)) = true) (hd : l.getD i 0 = 48) : ((l.take (i + 1)).all (· == 48)) = true := by
  rw [getD_lt h] at hd
  rw [List.take_succ_eq_append_getElem h, List.all_append, hall]
  simp [hd]
set_option maxHeartbeats 2000000 in
theorem knoughts_ok (w : World) (s : ByteArray) (hs : s.size ≤ 9223372036854775807) {r : Bool} (hr : ((byt s).all (· == 48)) = r) :
    Calls Tryz.prog 84 #[.string s] w fun e w' => ∃ u, e = .returned u ∧ Below w.heap.size w w' ∧ u = .bool r := by
  subst hr
  refine opq fun R hR => ?_
  have hl2 := hide (byt_length s)
  have HG := hide (fun i h => byt_get s i h)
  have HN := hide (fun i (h : i < (byt s).length) => all_no h)
  have HT := hide (fun i (h : i < (byt s).length) => take_all48 h)
  generalize byt s = l at *
  go_enter Tryz.func84, Tryz.ntmps84
  go_wp2
  go_loopw [3] (fun iv wr => ∃ i : Nat, i ≤ s.size ∧ iv = .int .i64 (i : Nat) ∧ Hid (((l.take i).all (· == 48)) = true) ∧ Hid (Below w.heap.size w wr)) (fun iv _ => s.size - (intOf iv).toNat)
  case atStart => exact ⟨0, by omega, rfl, rfl, Below.refl _ _⟩
  case round =>
    obtain ⟨i, hi, rfl, hall, hbel⟩ := hrel
    by_cases hlt : i < s.size
    · have hg := HG.out i hlt
      have h1 := hide (HN.out i (by rw [hl2.out]; exact hlt))
      have h2 := hide (HT.out i (by rw [hl2.out]; exact hlt) hall.out)
      obtain ⟨x, ex⟩ : ∃ x, Hid (l.getD i 0 = x) := ⟨_, hide rfl⟩
      rw [ex.out] at hg h1 h2
      by_cases hd : x = 48
      · have h3 := hide (h2.out hd)
        have q1 : ((x : Int) == 48) = true := by rw [hd]; rfl
        clear h1 h2
        replace hd := hide hd
        go_wp2
        go_roundw
        case rel => exact ⟨i + 1, by omega, by go_num, h3, hbel⟩
        case measure => simp [intOf]; omega
      · have h3 := hide (h1.out hd)
        have q1 : ((x : Int) == 48) = false := by simp; omega
        replace hd := hide hd
        clear h1 h2
        go_wp2
        exact opq_end hR ⟨_, rfl, hbel.out, by rw [h3.out]; rfl⟩
    · obtain rfl : i = s.size := by omega
      have e1 : Hid (l.all (· == 48) = true) := by have := hall.out; rwa [List.take_of_length_le (by rw [hl2.out]; exact Nat.le_refl _)] at this
      go_wp2
      exact opq_end hR ⟨_, rfl, hbel.out, by rw [e1.out]; rfl⟩
theorem kDiv_B {w : World} {v v' : Value} {M N : Nat} (h : Can w v M) (h' : Can w v' N) (s : L M ≤ 4398046511104) (s' : L N ≤ 4398046511104) (hN : N ≠ 0) :
    Calls Tryz.prog 97 #[v, v'] w fun e w' => ∃ q t, e = .returned (.tuple #[q, t, .int .i64 0]) ∧ Below w.heap.size w w' ∧ NatR (M / N) w.heap.size w' q ∧ NatR (M % N) w.heap.size w' t :=
  (kDiv_pos h h' (Nat.le_trans s (by decide)) (Nat.le_trans s' (by decide)) hN).mono fun e w' ⟨q, t, h1, h2, h3, _, h5⟩ => ⟨q, t, h1, h5.out, h2.out, h3.out⟩
theorem krWhole_B {w : World} {v : Value} {p : Rat} (h : RArg w v p) {r : Bool} (hr : decide (p.den = 1) = r) :
    Calls Tryz.prog 17 #[v] w fun e w' => ∃ u, e = .returned u ∧ Below w.heap.size w w' ∧ u = .bool r := (krWhole_P h).mono fun e w' ⟨u, h1, h2, h3⟩ => ⟨u, h1, h2, by rw [h3, hr]⟩
set_option maxHeartbeats 2000000 in
theorem krFloor_P {w : World} {v : Value} {p : Rat} (h : RArg w v p) :
    Calls Tryz.prog 19 #[v] w fun e w' => ∃ u, e = .returned u ∧ Below w.heap.size w w' ∧ IntR p.floor w.heap.size w' u := by
  refine opq fun R hR => ?_
  obtain ⟨b1, A1, n1, c1, D1, m1, k1, rfl⟩ := h.slice
  have S1 := hide h.size
  replace h := hide h
  have hd := hide p.den_nz
  go_enter Tryz.func19, Tryz.ntmps19
  have b0 := hide (Below.refl w.heap.size w)
  have K1 := hide (Blk.new_at w (w.heap.size) (by simp) 27 #[.bool b1, .slice A1 n1 c1, .slice D1 m1 k1])
  have y := (Below.refl w.heap.size w).alloc (Nat.le_refl _) (.cells #[.bool b1, .slice A1 n1 c1, .slice D1 m1 k1] 27)
  replace b0 := hide (below_tr b0.out y)
  clear y
  have K2 := hide (Blk.new_at (w.alloc (.cells #[.bool b1, .slice A1 n1 c1, .slice D1 m1 k1] 27)) (w.heap.size + 1) (by simp) 25 #[.bool false, .slice none 0 0])
  have y := (Below.refl (w.alloc (.cells #[.bool b1, .slice A1 n1 c1, .slice D1 m1 k1] 27)).heap.size (w.alloc (.cells #[.bool b1, .slice A1 n1 c1, .slice D1 m1 k1] 27))).alloc (Nat.le_refl _) (.cells #[.bool false, .slice none 0 0] 25)
  replace K1 := hide (K1.out.below' y)
  replace b0 := hide (below_tr b0.out y)
  clear y
  have K1c0 : ((w.alloc (.cells #[.bool b1, .slice A1 n1 c1, .slice D1 m1 k1] 27)).alloc (.cells #[.bool false, .slice none 0 0] 25)).cell? ⟨w.heap.size, 0, none⟩ = some (.bool b1) := K1.out.at_ 0 rfl
  have K1c1 : ((w.alloc (.cells #[.bool b1, .slice A1 n1 c1, .slice D1 m1 k1] 27)).alloc (.cells #[.bool false, .slice none 0 0] 25)).cell? ⟨w.heap.size, 1, none⟩ = some (.slice A1 n1 c1) := K1.out.at_ 1 rfl
  have K1c2 : ((w.alloc (.cells #[.bool b1, .slice A1 n1 c1, .slice D1 m1 k1] 27)).alloc (.cells #[.bool false, .slice none 0 0] 25)).cell? ⟨w.heap.size, 2, none⟩ = some (.slice D1 m1 k1) := K1.out.at_ 2 rfl
  go_wp2_with fail
  refine (krFit_P h.out b0.out w.heap.size b0.out.size).mono ?_
  rintro e w1 ⟨v7, rfl, d0, r7⟩
  replace K1 := hide (K1.out.below' d0)
  replace K2 := hide (K2.out.below' d0)
  replace b0 := hide (below_tr b0.out d0)
  clear d0
  have P1 := hide r7
  clear r7
  obtain ⟨b7, A7, n7, c7, D7, m7, k7, rfl⟩ := P1.out.slice
  clear K1c0 K1c1 K1c2
  have K1f0 : w1.frozen? ⟨w.heap.size, 0, none⟩ = false := K1.out.frozen 0
  have K1f1 : w1.frozen? ⟨w.heap.size, 1, none⟩ = false := K1.out.frozen 1
  have K1f2 : w1.frozen? ⟨w.heap.size, 2, none⟩ = false := K1.out.frozen 2
  have K1c0 : w1.cell? ⟨w.heap.size, 0, none⟩ = some (.bool b1) := K1.out.at_ 0 rfl
  have K1c1 : w1.cell? ⟨w.heap.size, 1, none⟩ = some (.slice A1 n1 c1) := K1.out.at_ 1 rfl
  have K1c2 : w1.cell? ⟨w.heap.size, 2, none⟩ = some (.slice D1 m1 k1) := K1.out.at_ 2 rfl
  go_wp2_with fail
  clear K1c0 K1c1 K1c2
  clear K1f0 K1f1 K1f2
  have F : Only (w.heap.size) w1 (((w1.setCell ⟨w.heap.size, 0, none⟩ (.bool b7)).setCell ⟨w.heap.size, 1, none⟩ (.slice A7 n7 c7)).setCell ⟨w.heap.size, 2, none⟩ (.slice D7 m7 k7)) := ((((Only.refl _ _).set _ _).set _ _).set _ _)
  replace P1 := hide (P1.out.only K1.out (by decide) F)
  replace K2 := hide (((K2.out.far (p := ⟨w.heap.size, 0, none⟩) (by first | (simp; done) | (simp; omega)) (.bool b7)).far (p := ⟨w.heap.size, 1, none⟩) (by first | (simp; done) | (simp; omega)) (.slice A7 n7 c7)).far (p := ⟨w.heap.size, 2, none⟩) (by first | (simp; done) | (simp; omega)) (.slice D7 m7 k7))
  have by_ : Hid (Below w.heap.size w (((w1.setCell ⟨w.heap.size, 0, none⟩ (.bool b7)).setCell ⟨w.heap.size, 1, none⟩ (.slice A7 n7 c7)).setCell ⟨w.heap.size, 2, none⟩ (.slice D7 m7 k7))) := (((b0.out.setCell (p := ⟨w.heap.size, 0, none⟩) (by first | exact Nat.le_refl _ | (simp; done) | (simp; omega)) (.bool b7)).setCell (p := ⟨w.heap.size, 1, none⟩) (by first | exact Nat.le_refl _ | (simp; done) | (simp; omega)) (.slice A7 n7 c7)).setCell (p := ⟨w.heap.size, 2, none⟩) (by first | exact Nat.le_refl _ | (simp; done) | (simp; omega)) (.slice D7 m7 k7))
  replace K1 : Hid (Blk (((w1.setCell ⟨w.heap.size, 0, none⟩ (.bool b7)).setCell ⟨w.heap.size, 1, none⟩ (.slice A7 n7 c7)).setCell ⟨w.heap.size, 2, none⟩ (.slice D7 m7 k7)) (w.heap.size) 27 #[.bool b7, .slice A7 n7 c7, .slice D7 m7 k7]) := (((K1.out.set_ 0 (.bool b7)).set_ 1 (.slice A7 n7 c7)).set_ 2 (.slice D7 m7 k7))
  replace b0 := by_
  clear by_ F
  obtain ⟨V1_2, hV⟩ : ∃ V, (((w1.setCell ⟨w.heap.size, 0, none⟩ (.bool b7)).setCell ⟨w.heap.size, 1, none⟩ (.slice A7 n7 c7)).setCell ⟨w.heap.size, 2, none⟩ (.slice D7 m7 k7)) = V := ⟨_, rfl⟩
  rw [hV] at K1 K2 P1 b0
  rw [hV]
  clear hV
  have C := hide (P1.out.can b0.out)
  clear P1
  refine (kDiv_B C.out.num.nat.1 C.out.den (L_up S1.out.1 (by decide)) (L_up S1.out.2 (by decide)) hd.out).mono ?_
  rintro e w2 ⟨qv, rv_, rfl, d0, qr, rr⟩
  have bz := b0.out.size
  replace K1 := hide (K1.out.below' d0)
  replace K2 := hide (K2.out.below' d0)
  replace C := hide (C.out.below d0)
  replace b0 := hide (below_tr b0.out d0)
  have N1 := hide (qr.mono (B' := w.heap.size) bz)
  have N2 := hide (rr)
  clear d0 bz
  clear qr rr
  obtain ⟨Aq, nq, cq, rfl⟩ := N1.out.slice
  obtain ⟨Ar, nr, cr, rfl⟩ := N2.out.slice
  have lq := hide N1.out.len
  have lr := hide N2.out.len
  have hb := hide C.out.num.nat.2
  clear N2 C
  cases b7
  case false =>
    have K1c0 : w2.cell? ⟨w.heap.size, 0, none⟩ = some (.bool false) := K1.out.at_ 0 rfl
    have K1c1 : w2.cell? ⟨w.heap.size, 1, none⟩ = some (.slice A7 n7 c7) := K1.out.at_ 1 rfl
    have K1c2 : w2.cell? ⟨w.heap.size, 2, none⟩ = some (.slice D7 m7 k7) := K1.out.at_ 2 rfl
    go_wp2_with fail
    refine (qsigned_R (z := p.floor) (b := false) N1.out (by rw [floor_nn hb.out]; generalize p.num.natAbs / p.den = M; omega) (by rw [floor_nn hb.out]; generalize p.num.natAbs / p.den = M; simp)).mono ?_
    rintro e w3 ⟨A3, n3, c3, s3, rfl, d0, f3⟩
    replace K1 := hide (K1.out.below' d0)
    replace K2 := hide (K2.out.below' d0)
    replace N1 := hide (N1.out.below d0)
    replace b0 := hide (below_tr b0.out d0)
    have F3 := hide (f3)
    clear d0
    clear f3
    clear K1c0 K1c1 K1c2
    have K2c0 : w3.cell? ⟨w.heap.size + 1, 0, none⟩ = some (.bool false) := K2.out.at_ 0 rfl
    have K2c1 : w3.cell? ⟨w.heap.size + 1, 1, none⟩ = some (.slice none 0 0) := K2.out.at_ 1 rfl
    have p0 : w3.frozen? ⟨w.heap.size + 1, 0, none⟩ = false := K2.out.frozen 0
    have p1 : w3.frozen? ⟨w.heap.size + 1, 1, none⟩ = false := K2.out.frozen 1
    go_wp2
    refine bodyPost_ret (v := .agg #[.bool s3, .slice A3 n3 c3]) (by simp [results, Tryz.results19, go_sem, K2c0, K2c1, p0, p1]) rfl ?_
    exact opq_end hR ⟨_, rfl, (by (repeat (first | exact b0 | exact Below.refl _ _ | refine Below.setCell ?_ (by first | (simp; done) | (simp; omega)) _ | refine Below.alloc ?_ (by first | (simp; done) | (simp; omega)) _))), F3.out.only K2.out (by decide) (((Only.refl _ _).set _ _).set _ _)⟩
  case true =>
    by_cases hr : nr = 0
    case pos =>
      subst hr
      have e1 := hide (floor_n0 hb.out (lr.out.1 rfl))
      have K1c0 : w2.cell? ⟨w.heap.size, 0, none⟩ = some (.bool true) := K1.out.at_ 0 rfl
      have K1c1 : w2.cell? ⟨w.heap.size, 1, none⟩ = some (.slice A7 n7 c7) := K1.out.at_ 1 rfl
      have K1c2 : w2.cell? ⟨w.heap.size, 2, none⟩ = some (.slice D7 m7 k7) := K1.out.at_ 2 rfl
      go_wp2_with fail
      refine (qsigned_R (z := p.floor) (b := true) N1.out (by rw [e1.out]; generalize p.num.natAbs / p.den = M; omega) (by rw [e1.out, Bool.true_and, decide_eq_decide]; generalize p.num.natAbs / p.den = M; omega)).mono ?_
      rintro e w3 ⟨A3, n3, c3, s3, rfl, d0, f3⟩
      replace K1 := hide (K1.out.below' d0)
      replace K2 := hide (K2.out.below' d0)
      replace N1 := hide (N1.out.below d0)
      replace b0 := hide (below_tr b0.out d0)
      have F3 := hide (f3)
      clear d0
      clear f3
      clear K1c0 K1c1 K1c2
      have K2c0 : w3.cell? ⟨w.heap.size + 1, 0, none⟩ = some (.bool false) := K2.out.at_ 0 rfl
      have K2c1 : w3.cell? ⟨w.heap.size + 1, 1, none⟩ = some (.slice none 0 0) := K2.out.at_ 1 rfl
      have p0 : w3.frozen? ⟨w.heap.size + 1, 0, none⟩ = false := K2.out.frozen 0
      have p1 : w3.frozen? ⟨w.heap.size + 1, 1, none⟩ = false := K2.out.frozen 1
      go_wp2
      refine bodyPost_ret (v := .agg #[.bool s3, .slice A3 n3 c3]) (by simp [results, Tryz.results19, go_sem, K2c0, K2c1, p0, p1]) rfl ?_
      exact opq_end hR ⟨_, rfl, (by (repeat (first | exact b0 | exact Below.refl _ _ | refine Below.setCell ?_ (by first | (simp; done) | (simp; omega)) _ | refine Below.alloc ?_ (by first | (simp; done) | (simp; omega)) _))), F3.out.only K2.out (by decide) (((Only.refl _ _).set _ _).set _ _)⟩
    have hr' : 0 < nr := by omega
    have e1 : Hid (p.floor = -((p.num.natAbs / p.den : Nat) : Int) - 1) := floor_n1 hb.out (fun e => hr (lr.out.2 e))
    have sz : Hid (L (p.num.natAbs / p.den) ≤ 1000000000000) := L_up (L_div S1.out.1) (by decide)
    have K1c0 : w2.cell? ⟨w.heap.size, 0, none⟩ = some (.bool true) := K1.out.at_ 0 rfl
    have K1c1 : w2.cell? ⟨w.heap.size, 1, none⟩ = some (.slice A7 n7 c7) := K1.out.at_ 1 rfl
    have K1c2 : w2.cell? ⟨w.heap.size, 2, none⟩ = some (.slice D7 m7 k7) := K1.out.at_ 2 rfl
    have x0 := hide (lit_at w2 (w2.heap.size) (by simp) [1] 1 rfl (is32d (by decide)) (by decide) (by decide))
    have y := (Below.refl w2.heap.size w2).alloc (Nat.le_refl _) (.cells (cellsOf .u32 [1]) T32)
    replace K1 := hide (K1.out.below' y)
    replace K2 := hide (K2.out.below' y)
    replace N1 := hide (N1.out.below y)
    replace b0 := hide (below_tr b0.out y)
    clear y
    go_wp2_with fail
    refine (kAdd_F w.heap.size b0.out.size N1.out.can x0.out (Nat.le_trans sz.out (by decide)) (show L 1 ≤ _ from L_up (L_small (by decide)) (by decide))).mono ?_
    rintro e w3 ⟨u8, rfl, d0, r8⟩
    replace K1 := hide (K1.out.below' d0)
    replace K2 := hide (K2.out.below' d0)
    replace N1 := hide (N1.out.below d0)
    replace x0 := hide (x0.out.below d0)
    replace b0 := hide (below_tr b0.out d0)
    have N8 := hide (r8)
    clear d0
    clear r8 x0
    obtain ⟨A8, n8, c8, rfl⟩ := N8.out.slice
    clear K1c0 K1c1 K1c2
    have K1c0 : w3.cell? ⟨w.heap.size, 0, none⟩ = some (.bool true) := K1.out.at_ 0 rfl
    have K1c1 : w3.cell? ⟨w.heap.size, 1, none⟩ = some (.slice A7 n7 c7) := K1.out.at_ 1 rfl
    have K1c2 : w3.cell? ⟨w.heap.size, 2, none⟩ = some (.slice D7 m7 k7) := K1.out.at_ 2 rfl
    go_wp2_with fail
    refine (qsigned_R (z := p.floor) (b := true) N8.out (by rw [e1.out]; generalize p.num.natAbs / p.den = M; omega) (by rw [e1.out, Bool.true_and, decide_eq_decide]; generalize p.num.natAbs / p.den = M; omega)).mono ?_
    rintro e w4 ⟨A3, n3, c3, s3, rfl, d0, f3⟩
    replace K1 := hide (K1.out.below' d0)
    replace K2 := hide (K2.out.below' d0)
    replace N1 := hide (N1.out.below d0)
    replace N8 := hide (N8.out.below d0)
    replace b0 := hide (below_tr b0.out d0)
    have F3 := hide (f3)
    clear d0
    clear f3
    clear K1c0 K1c1 K1c2
    have K2c0 : w4.cell? ⟨w.heap.size + 1, 0, none⟩ = some (.bool false) := K2.out.at_ 0 rfl
    have K2c1 : w4.cell? ⟨w.heap.size + 1, 1, none⟩ = some (.slice none 0 0) := K2.out.at_ 1 rfl
    have p0 : w4.frozen? ⟨w.heap.size + 1, 0, none⟩ = false := K2.out.frozen 0
    have p1 : w4.frozen? ⟨w.heap.size + 1, 1, none⟩ = false := K2.out.frozen 1
    go_wp2
    refine bodyPost_ret (v := .agg #[.bool s3, .slice A3 n3 c3]) (by simp [results, Tryz.results19, go_sem, K2c0, K2c1, p0, p1]) rfl ?_
    exact opq_end hR ⟨_, rfl, (by (repeat (first | exact b0 | exact Below.refl _ _ | refine Below.setCell ?_ (by first | (simp; done) | (simp; omega)) _ | refine Below.alloc ?_ (by first | (simp; done) | (simp; omega)) _))), F3.out.only K2.out (by decide) (((Only.refl _ _).set _ _).set _ _)⟩
def rtxB (p : Rat) : ByteArray := ⟨(bts (rtxt p)).toArray⟩
theorem rtxB_one {p : Rat} (h : p.den = 1) : rtxB p = itxB p.num := by unfold rtxB itxB; rw [rtxt, if_pos h, List.append_nil]
theorem rtxB_more {p : Rat} (h : p.den ≠ 1) : rtxB p = itxB p.num ++ ⟨#[47]⟩ ++ txtB p.den := by
  unfold rtxB itxB txtB
  rw [rtxt, if_neg h, bts_append]
  rw [ByteArray.ext_iff]
  simp [bts]
theorem kTextV {w : World} {v : Value} {N : Nat} (h : Can w v N) (hl : L N ≤ 1000) {t : ByteArray} (ht : txtB N = t) :
    Calls Tryz.prog 102 #[v] w fun e w' => ∃ u, e = .returned u ∧ Below w.heap.size w w' ∧ u = .string t := (kText_can h (by omega)).mono fun e w' ⟨q1, q2⟩ => ⟨_, q1, q2.out, by rw [← ht]; rfl⟩
theorem itxB_len {z : Int} (h : L z.natAbs ≤ 1000) : (itxB z).size ≤ 20000 := by
  have h1 : (itxt z).length ≤ 10002 := by
    have := txt_len h
    unfold itxt
    split
    · simp only [List.length_cons]; omega
    · omega
  show (bts (itxt z)).toArray.size ≤ _
  rw [List.size_toArray, bts, List.length_map]; omega
theorem txtB_len {N : Nat} (h : L N ≤ 1000) : (txtB N).size ≤ 20000 := by
  have := txt_len h
  show (bts (txt N)).toArray.size ≤ _
  rw [List.size_toArray, bts, List.length_map]; omega
set_option maxHeartbeats 2000000 in
theorem krText_P {w : World} {v : Value} {p : Rat} (h : RArg w v p) (hl : H p 1000) :
    Calls Tryz.prog 21 #[v] w fun e w' => ∃ u, e = .returned u ∧ Below w.heap.size w w' ∧ u = .string (rtxB p) := by
  refine opq fun R hR => ?_
  obtain ⟨b1, A1, n1, c1, D1, m1, k1, rfl⟩ := h.slice
  have S1 := hide hl
  clear hl
  replace h := hide h
  go_enter Tryz.func21, Tryz.ntmps21
  have b0 := hide (Below.refl w.heap.size w)
  have K1 := hide (Blk.new_at w (w.heap.size) (by simp) 27 #[.bool b1, .slice A1 n1 c1, .slice D1 m1 k1])
  have y := (Below.refl w.heap.size w).alloc (Nat.le_refl _) (.cells #[.bool b1, .slice A1 n1 c1, .slice D1 m1 k1] 27)
  replace b0 := hide (below_tr b0.out y)
  clear y
  have K1c0 : (w.alloc (.cells #[.bool b1, .slice A1 n1 c1, .slice D1 m1 k1] 27)).cell? ⟨w.heap.size, 0, none⟩ = some (.bool b1) := K1.out.at_ 0 rfl
  have K1c1 : (w.alloc (.cells #[.bool b1, .slice A1 n1 c1, .slice D1 m1 k1] 27)).cell? ⟨w.heap.size, 1, none⟩ = some (.slice A1 n1 c1) := K1.out.at_ 1 rfl
  have K1c2 : (w.alloc (.cells #[.bool b1, .slice A1 n1 c1, .slice D1 m1 k1] 27)).cell? ⟨w.heap.size, 2, none⟩ = some (.slice D1 m1 k1) := K1.out.at_ 2 rfl
  go_wp2_with fail
  refine (krFit_P h.out b0.out w.heap.size b0.out.size).mono ?_
  rintro e w1 ⟨v7, rfl, d0, r7⟩
  replace K1 := hide (K1.out.below' d0)
  replace b0 := hide (below_tr b0.out d0)
  clear d0
  have P1 := hide r7
  clear r7
  obtain ⟨b7, A7, n7, c7, D7, m7, k7, rfl⟩ := P1.out.slice
  clear K1c0 K1c1 K1c2
  have K1f0 : w1.frozen? ⟨w.heap.size, 0, none⟩ = false := K1.out.frozen 0
  have K1f1 : w1.frozen? ⟨w.heap.size, 1, none⟩ = false := K1.out.frozen 1
  have K1f2 : w1.frozen? ⟨w.heap.size, 2, none⟩ = false := K1.out.frozen 2
  have K1c0 : w1.cell? ⟨w.heap.size, 0, none⟩ = some (.bool b1) := K1.out.at_ 0 rfl
  have K1c1 : w1.cell? ⟨w.heap.size, 1, none⟩ = some (.slice A1 n1 c1) := K1.out.at_ 1 rfl
  have K1c2 : w1.cell? ⟨w.heap.size, 2, none⟩ = some (.slice D1 m1 k1) := K1.out.at_ 2 rfl
  go_wp2_with fail
  clear K1c0 K1c1 K1c2
  clear K1f0 K1f1 K1f2
  have F : Only (w.heap.size) w1 (((w1.setCell ⟨w.heap.size, 0, none⟩ (.bool b7)).setCell ⟨w.heap.size, 1, none⟩ (.slice A7 n7 c7)).setCell ⟨w.heap.size, 2, none⟩ (.slice D7 m7 k7)) := ((((Only.refl _ _).set _ _).set _ _).set _ _)
  replace P1 := hide (P1.out.only K1.out (by decide) F)
  have by_ : Hid (Below w.heap.size w (((w1.setCell ⟨w.heap.size, 0, none⟩ (.bool b7)).setCell ⟨w.heap.size, 1, none⟩ (.slice A7 n7 c7)).setCell ⟨w.heap.size, 2, none⟩ (.slice D7 m7 k7))) := (((b0.out.setCell (p := ⟨w.heap.size, 0, none⟩) (by first | exact Nat.le_refl _ | (simp; done) | (simp; omega)) (.bool b7)).setCell (p := ⟨w.heap.size, 1, none⟩) (by first | exact Nat.le_refl _ | (simp; done) | (simp; omega)) (.slice A7 n7 c7)).setCell (p := ⟨w.heap.size, 2, none⟩) (by first | exact Nat.le_refl _ | (simp; done) | (simp; omega)) (.slice D7 m7 k7))
  replace K1 : Hid (Blk (((w1.setCell ⟨w.heap.size, 0, none⟩ (.bool b7)).setCell ⟨w.heap.size, 1, none⟩ (.slice A7 n7 c7)).setCell ⟨w.heap.size, 2, none⟩ (.slice D7 m7 k7)) (w.heap.size) 27 #[.bool b7, .slice A7 n7 c7, .slice D7 m7 k7]) := (((K1.out.set_ 0 (.bool b7)).set_ 1 (.slice A7 n7 c7)).set_ 2 (.slice D7 m7 k7))
  replace b0 := by_
  clear by_ F
  obtain ⟨V1_1, hV⟩ : ∃ V, (((w1.setCell ⟨w.heap.size, 0, none⟩ (.bool b7)).setCell ⟨w.heap.size, 1, none⟩ (.slice A7 n7 c7)).setCell ⟨w.heap.size, 2, none⟩ (.slice D7 m7 k7)) = V := ⟨_, rfl⟩
  rw [hV] at K1 P1 b0
  rw [hV]
  clear hV
  have C := hide (P1.out.can b0.out)
  clear P1
  obtain ⟨dn, hdn⟩ : ∃ r, Hid (decide (p.den = 1) = r) := ⟨_, rfl⟩
  have K1c0 : V1_1.cell? ⟨w.heap.size, 0, none⟩ = some (.bool b7) := K1.out.at_ 0 rfl
  have K1c1 : V1_1.cell? ⟨w.heap.size, 1, none⟩ = some (.slice A7 n7 c7) := K1.out.at_ 1 rfl
  have K1c2 : V1_1.cell? ⟨w.heap.size, 2, none⟩ = some (.slice D7 m7 k7) := K1.out.at_ 2 rfl
  go_wp2_with fail
  refine (krWhole_B (C.out.arg (S1.out.up (by decide))) hdn.out).mono ?_
  rintro e w2 ⟨_, rfl, d0, rfl⟩
  replace K1 := hide (K1.out.below' d0)
  replace C := hide (C.out.below d0)
  replace b0 := hide (below_tr b0.out d0)
  clear d0
  clear K1c0 K1c1 K1c2
  cases dn
  case true =>
    have ef := hide (rtxB_one (p := p) (by simpa using hdn.out))
    have K1c0 : w2.cell? ⟨w.heap.size, 0, none⟩ = some (.bool b7) := K1.out.at_ 0 rfl
    have K1c1 : w2.cell? ⟨w.heap.size, 1, none⟩ = some (.slice A7 n7 c7) := K1.out.at_ 1 rfl
    have K1c2 : w2.cell? ⟨w.heap.size, 2, none⟩ = some (.slice D7 m7 k7) := K1.out.at_ 2 rfl
    go_wp2_with fail
    refine (iq_Text (ICan.arg C.out.num (L_up S1.out.1 (by decide))) S1.out.1).mono ?_
    rintro e w3 ⟨rfl, d0⟩
    replace K1 := hide (K1.out.below' d0.out)
    replace C := hide (C.out.below d0.out)
    replace b0 := hide (below_tr b0.out d0.out)
    clear d0
    go_wp2
    exact opq_end hR ⟨_, rfl, b0.out, by rw [ef.out]; rfl⟩
  case false =>
    have ef := hide (rtxB_more (p := p) (by simpa using hdn.out))
    obtain ⟨ta, hta⟩ : ∃ t, Hid (itxB p.num = t) := ⟨_, rfl⟩
    obtain ⟨tb, htb⟩ : ∃ t, Hid (txtB p.den = t) := ⟨_, rfl⟩
    have la := itxB_len S1.out.1
    have lb := txtB_len S1.out.2
    rw [hta.out] at la
    rw [htb.out] at lb
    rw [hta.out, htb.out] at ef
    have K1c0 : w2.cell? ⟨w.heap.size, 0, none⟩ = some (.bool b7) := K1.out.at_ 0 rfl
    have K1c1 : w2.cell? ⟨w.heap.size, 1, none⟩ = some (.slice A7 n7 c7) := K1.out.at_ 1 rfl
    have K1c2 : w2.cell? ⟨w.heap.size, 2, none⟩ = some (.slice D7 m7 k7) := K1.out.at_ 2 rfl
    go_wp2_with fail
    clear K1c0 K1c1 K1c2
    refine wp_region_facts 9 (fun w' => Below w2.heap.size w2 w') [(10, .eq ((.pointer (some ⟨w.heap.size, 0, none⟩) : Value))), (11, .eq (.agg #[.bool b7, .slice A7 n7 c7])), (12, .eq (.string ta)), (13, .eq (.string (ta ++ ⟨#[47]⟩))), (14, .eq ((.pointer (some ⟨w.heap.size, 2, none⟩) : Value))), (15, .eq (.slice D7 m7 k7)), (16, .eq (.string tb)), (17, .eq (.string (ta ++ ⟨#[47]⟩ ++ tb))), (2, .eq (.string (ta ++ ⟨#[47]⟩ ++ tb)))] [false, false, true, false, false, false, false, false, false, false, true, true, true, true, true, true, true, true] mixed (by kernel_rfl) (by kernel_rfl) (by kernel_rfl) (fun _ _ h hb => h.trans (hb.mono h.size)) ((Below.refl _ _).drew) ⟨?_, ?_, ?_, ?_, ?_, ?_, ?_, ?_, ?_, trivial⟩ ?_
    · exact .fieldAddr (.inl rfl) rfl rfl rfl (fun a w' hC hs hl => by rw [show a.eval (.tmp 1) = (.pointer (some ⟨w.heap.size, 0, none⟩) : Value) from (hs 1 (by kernel_rfl))]; exact fa_Rat0_)
    · exact .load (.agg #[.bool b7, .slice A7 n7 c7]) (.inl rfl) rfl rfl (fun a w' hC hs hl => by rw [show a.eval (.tmp 10) = (.pointer (some ⟨w.heap.size, 0, none⟩) : Value) from (hl 10 (by kernel_rfl) (by kernel_rfl))]; exact ⟨ld_Int_ ((K1.out.below' hC).at_ 0 rfl) ((K1.out.below' hC).at_ 1 rfl), rfl⟩)
    · exact .call (.inl rfl) rfl rfl ft_assayerref02_Text (fun a w' hC hs hl => by
        show Calls _ _ #[a.eval (.tmp 11)] _ _
        rw [show a.eval (.tmp 11) = (.agg #[.bool b7, .slice A7 n7 c7] : Value) from (hl 11 (by kernel_rfl) (by kernel_rfl))]
        exact iq_TextV (ICan.arg (C.out.num.below hC) (L_up S1.out.1 (by decide))) S1.out.1 hta.out)
    · exact .value (.inl rfl) (by intro T e; cases e) rfl rfl (fun a w' hC hs hl => by
        have e0 : a.eval (.tmp 12) = (.string ta) := (hl 12 (by kernel_rfl) (by kernel_rfl))
        simp only [execOp, e0]
        simp only [Act.eval]
        have l1 := la
        have l2 := lb
        simp [go_sem] <;> omega)
    · exact .fieldAddr (.inl rfl) rfl rfl rfl (fun a w' hC hs hl => by rw [show a.eval (.tmp 1) = (.pointer (some ⟨w.heap.size, 0, none⟩) : Value) from (hs 1 (by kernel_rfl))]; exact fa_Rat1_)
    · exact .load (.slice D7 m7 k7) (.inl rfl) rfl rfl (fun a w' hC hs hl => by rw [show a.eval (.tmp 14) = (.pointer (some ⟨w.heap.size, 2, none⟩) : Value) from (hl 14 (by kernel_rfl) (by kernel_rfl))]; exact ⟨ld_Nat ((K1.out.below' hC).at_ 2 rfl), rfl⟩)
    · exact .call (.inl rfl) rfl rfl ft_assayerref01_Text (fun a w' hC hs hl => by
        show Calls _ _ #[a.eval (.tmp 15)] _ _
        rw [show a.eval (.tmp 15) = (.slice D7 m7 k7 : Value) from (hl 15 (by kernel_rfl) (by kernel_rfl))]
        exact kTextV (C.out.den.below hC) S1.out.2 htb.out)
    · exact .value (.inl rfl) (by intro T e; cases e) rfl rfl (fun a w' hC hs hl => by
        have e0 : a.eval (.tmp 13) = (.string (ta ++ ⟨#[47]⟩)) := (hl 13 (by kernel_rfl) (by kernel_rfl))
        have e1 : a.eval (.tmp 16) = (.string tb) := (hl 16 (by kernel_rfl) (by kernel_rfl))
        simp only [execOp, e0, e1]
        skip
        have l1 := la
        have l2 := lb
        simp [go_sem] <;> omega)
    · exact .move (.inl rfl) (.inr rfl) rfl (by kernel_rfl) (by kernel_rfl) rfl
    intro f w9 hC hF _
    have fz := hide (hF 2 (by kernel_rfl) : f 2 = .string (ta ++ ⟨#[47]⟩ ++ tb))
    clear hF
    simp only [patch, List.drop]
    replace b0 := hide (b0.out.trans (hC.mono b0.out.size))
    clear hC
    go_wp2
    exact opq_end hR ⟨_, rfl, b0.out, by rw [ef.out]; exact fz.out⟩
end Go.Proofs.YtkefmeddnncacaaGreatDoor
