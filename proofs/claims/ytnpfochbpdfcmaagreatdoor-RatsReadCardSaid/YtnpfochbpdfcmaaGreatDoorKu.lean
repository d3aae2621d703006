/- the laws of rats: RatsRead. -/
import Derived.Test.YtnpfochbpdfcmaaGreatDoorKl
set_option linter.unusedVariables false
set_option linter.unusedSimpArgs false
set_option maxRecDepth 100000
namespace Go.Proofs.YtnpfochbpdfcmaaGreatDoor
open Go.RowKit

set_option maxHeartbeats 8000000 in
theorem RatsRead_ok (w : World) (b1 : Bool) (A1 : Option Addr) (n1 c1 : Nat) (xs1 : List Nat) (D1 : Option Addr) (m1 k1 : Nat) (ys1 : List Nat) (s : ByteArray) (h1 : Rd w A1 n1 xs1) (i1 : Is32 xs1) (l1 : n1 ≤ c1) (t1 : n1 ≤ 70368744177664) (h1' : Rd w D1 m1 ys1) (i1' : Is32 ys1) (l1' : m1 ≤ k1) (t1' : m1 ≤ 70368744177664) (hs : s.size ≤ 9223372036854775807) (hT : Tab w) (hM : MaxL w) :
    Calls Tryz.prog 3 #[.agg #[.bool b1, .slice A1 n1 c1, .slice D1 m1 k1], .string s] w fun e w' => e = .returned (.bool true) ∧ Hid (Below w.heap.size w w') := by
  refine opq fun R hR => ?_
  have T := hide hT
  have M := hide hM
  clear hT hM
  replace h1 := hide h1
  replace i1 := hide i1
  replace h1' := hide h1'
  replace i1' := hide i1'
  go_enter Tryz.func3, Tryz.ntmps3
  have b0 := hide (Below.refl w.heap.size w)
  have K1 := hide (Blk.new_at w (w.heap.size) (by simp) 27 #[.bool b1, .slice A1 n1 c1, .slice D1 m1 k1])
  have y := (Below.refl w.heap.size w).alloc (Nat.le_refl _) (.cells #[.bool b1, .slice A1 n1 c1, .slice D1 m1 k1] 27)
  replace b0 := hide (below_tr b0.out y)
  clear y
  go_wp2_with fail
  refine (ralive_P _ (T.out.below b0.out) (M.out.below b0.out)).mono ?_
  rintro e w1 ⟨_, rfl, d0, rfl⟩
  replace K1 := hide (K1.out.below' d0)
  replace b0 := hide (below_tr b0.out d0)
  clear d0
  have K1c0 : w1.cell? ⟨w.heap.size, 0, none⟩ = some (.bool b1) := K1.out.at_ 0 rfl
  have K1c1 : w1.cell? ⟨w.heap.size, 1, none⟩ = some (.slice A1 n1 c1) := K1.out.at_ 1 rfl
  have K1c2 : w1.cell? ⟨w.heap.size, 2, none⟩ = some (.slice D1 m1 k1) := K1.out.at_ 2 rfl
  by_cases gg : 60 < n1 + m1
  case pos =>
    have y := (Below.refl w1.heap.size w1).alloc (Nat.le_refl _) (.cells #[.bool b1, .slice A1 n1 c1, .slice D1 m1 k1] 27)
    replace K1 := hide (K1.out.below' y)
    replace b0 := hide (below_tr b0.out y)
    clear y
    go_wp2_with fail
    refine (rgreat1 (w := w1) rfl 60 (by decide) t1 t1' true (by simp; omega)).mono ?_
    rintro e w2 ⟨_, rfl, d0, rfl⟩
    replace K1 := hide (K1.out.below' d0)
    replace b0 := hide (below_tr b0.out d0)
    clear d0
    go_wp2_with fail
    refine (ralive_P _ (T.out.below b0.out) (M.out.below b0.out)).mono ?_
    rintro e w3 ⟨_, rfl, d0, rfl⟩
    replace K1 := hide (K1.out.below' d0)
    replace b0 := hide (below_tr b0.out d0)
    clear d0
    go_wp2
    exact opq_end hR ⟨rfl, b0⟩
  have y := (Below.refl w1.heap.size w1).alloc (Nat.le_refl _) (.cells #[.bool b1, .slice A1 n1 c1, .slice D1 m1 k1] 27)
  replace K1 := hide (K1.out.below' y)
  replace b0 := hide (below_tr b0.out y)
  clear y
  go_wp2_with fail
  refine (rgreat1 (w := w1) rfl 60 (by decide) t1 t1' false (by simp; omega)).mono ?_
  rintro e w2 ⟨_, rfl, d0, rfl⟩
  replace K1 := hide (K1.out.below' d0)
  replace b0 := hide (below_tr b0.out d0)
  clear d0
  clear K1c0 K1c1 K1c2
  have K1c0 : w2.cell? ⟨w.heap.size, 0, none⟩ = some (.bool b1) := K1.out.at_ 0 rfl
  have K1c1 : w2.cell? ⟨w.heap.size, 1, none⟩ = some (.slice A1 n1 c1) := K1.out.at_ 1 rfl
  have K1c2 : w2.cell? ⟨w.heap.size, 2, none⟩ = some (.slice D1 m1 k1) := K1.out.at_ 2 rfl
  by_cases gs : 2000 < s.size
  case pos =>
    go_wp2_with fail
    refine (ralive_P _ (T.out.below b0.out) (M.out.below b0.out)).mono ?_
    rintro e w3 ⟨_, rfl, d0, rfl⟩
    replace K1 := hide (K1.out.below' d0)
    replace b0 := hide (below_tr b0.out d0)
    clear d0
    go_wp2
    exact opq_end hR ⟨rfl, b0⟩
  have P1 := hide (rprt_of b1 h1.out i1.out l1 (by omega) h1'.out i1'.out l1' (by omega))
  have S1 : Hid (H (rv b1 xs1 ys1) 60) := H_rv i1.out i1'.out (by rw [h1.out.1]; omega) (by rw [h1'.out.1]; omega) (by decide)
  have a1 := hide (P1.out.arg (by rw [h1.out.1]; omega) (by rw [h1'.out.1]; omega))
  obtain ⟨t, et, tl, tb⟩ := rtxt_bytes _ S1.out
  replace et := hide et
  replace tl := hide tl
  clear h1 i1 h1' i1' gg
  go_wp2_with fail
  refine (rText_S (a1.out.below b0.out) (S1.out.up (by decide)) (T.out.below b0.out) t et.out).mono ?_
  rintro e w3 ⟨_, rfl, d0, rfl⟩
  replace K1 := hide (K1.out.below' d0)
  replace b0 := hide (below_tr b0.out d0)
  clear d0
  clear K1c0 K1c1 K1c2
  by_cases r1 : rok b1 xs1 ys1 = false
  case pos =>
    have e0 : rv b1 xs1 ys1 = 0 := rv_no r1
    rw [e0, rtxt_zero] at et
    have et2 : t = ⟨#[48]⟩ := n_byt_inj' (by rw [et.out]; rfl)
    subst et2
    clear et tl
    go_wp2_with fail
    refine (rParse_yes (s := ⟨#[48]⟩) (by decide) (T.out.below b0.out) (M.out.below b0.out) 0 (by decide +kernel)).mono ?_
    rintro e w4 ⟨v6, rfl, d0, r6⟩
    replace K1 := hide (K1.out.below' d0)
    replace b0 := hide (below_tr b0.out d0)
    have B := hide (r6.can)
    clear d0
    clear r6
    obtain ⟨b6, A6, n6, c6, D6, m6, k6, rfl⟩ := B.out.slice
    have K1c0 : w4.cell? ⟨w.heap.size, 0, none⟩ = some (.bool b1) := K1.out.at_ 0 rfl
    have K1c1 : w4.cell? ⟨w.heap.size, 1, none⟩ = some (.slice A1 n1 c1) := K1.out.at_ 1 rfl
    have K1c2 : w4.cell? ⟨w.heap.size, 2, none⟩ = some (.slice D1 m1 k1) := K1.out.at_ 2 rfl
    have K6 := hide (Blk.new_at w4 (w4.heap.size) (by simp) 27 #[.bool b6, .slice A6 n6 c6, .slice D6 m6 k6])
    have y := (Below.refl w4.heap.size w4).alloc (Nat.le_refl _) (.cells #[.bool b6, .slice A6 n6 c6, .slice D6 m6 k6] 27)
    replace K1 := hide (K1.out.below' y)
    replace B := hide (B.out.below y)
    replace b0 := hide (below_tr b0.out y)
    clear y
    have K1d0 : (w4.alloc (.cells #[.bool b6, .slice A6 n6 c6, .slice D6 m6 k6] 27)).cell? ⟨w.heap.size, 0, none⟩ = some (.bool b1) := K1.out.at_ 0 rfl
    have K1d1 : (w4.alloc (.cells #[.bool b6, .slice A6 n6 c6, .slice D6 m6 k6] 27)).cell? ⟨w.heap.size, 1, none⟩ = some (.slice A1 n1 c1) := K1.out.at_ 1 rfl
    have K1d2 : (w4.alloc (.cells #[.bool b6, .slice A6 n6 c6, .slice D6 m6 k6] 27)).cell? ⟨w.heap.size, 2, none⟩ = some (.slice D1 m1 k1) := K1.out.at_ 2 rfl
    go_wp2_with fail
    refine (rCheck_P (P1.out.below b0.out) (T.out.below b0.out) false r1).mono ?_
    rintro e w5 ⟨_, rfl, d0, rfl⟩
    replace K1 := hide (K1.out.below' d0)
    replace B := hide (B.out.below d0)
    replace K6 := hide (K6.out.below' d0)
    replace b0 := hide (below_tr b0.out d0)
    clear d0
    clear K1c0 K1c1 K1c2
    clear K1d0 K1d1 K1d2
    have K1c0 : w5.cell? ⟨w.heap.size, 0, none⟩ = some (.bool b1) := K1.out.at_ 0 rfl
    have K1c1 : w5.cell? ⟨w.heap.size, 1, none⟩ = some (.slice A1 n1 c1) := K1.out.at_ 1 rfl
    have K1c2 : w5.cell? ⟨w.heap.size, 2, none⟩ = some (.slice D1 m1 k1) := K1.out.at_ 2 rfl
    go_wp2_with fail
    refine (rCheck_P (P1.out.below b0.out) (T.out.below b0.out) false r1).mono ?_
    rintro e w6 ⟨_, rfl, d0, rfl⟩
    replace K1 := hide (K1.out.below' d0)
    replace B := hide (B.out.below d0)
    replace K6 := hide (K6.out.below' d0)
    replace b0 := hide (below_tr b0.out d0)
    clear d0
    clear K1c0 K1c1 K1c2
    rcases er : rmake (isgn (byt s)).1 (rsplit (isgn (byt s)).2) with c | e
    case inr =>
      replace er := hide er
      go_wp2_with fail
      refine (rParse_no (s := s) (by omega) (T.out.below b0.out) (M.out.below b0.out) e er.out).mono ?_
      rintro e w7 ⟨rfl, d0⟩
      replace K1 := hide (K1.out.below' d0)
      replace B := hide (B.out.below d0)
      replace K6 := hide (K6.out.below' d0)
      replace b0 := hide (below_tr b0.out d0)
      clear d0
      have K8 := hide (Blk.new_at w7 (w7.heap.size) (by simp) 27 #[.bool false, .slice none 0 0, .slice none 0 0])
      have y := (Below.refl w7.heap.size w7).alloc (Nat.le_refl _) (.cells #[.bool false, .slice none 0 0, .slice none 0 0] 27)
      replace K1 := hide (K1.out.below' y)
      replace B := hide (B.out.below y)
      replace K6 := hide (K6.out.below' y)
      replace b0 := hide (below_tr b0.out y)
      clear y
      rcases rmake_code er.out with q | q
      · subst q
        go_wp2
        exact opq_end hR ⟨rfl, b0⟩
      · subst q
        go_wp2
        exact opq_end hR ⟨rfl, b0⟩
    obtain ⟨L1, L2, SC⟩ := rmake_ok er
    replace SC := hide SC
    replace er := hide er
    obtain ⟨u, eu, ul, ub⟩ := rtxt_bytes c SC.out
    replace eu := hide eu
    have ep : Hid (rmake (isgn (byt u)).1 (rsplit (isgn (byt u)).2) = .inl c) := by show _ = _; rw [eu.out, parse_rtxt, if_neg (by omega)]
    clear ul L1 L2
    go_wp2_with fail
    refine (rParse_yes (s := s) (by omega) (T.out.below b0.out) (M.out.below b0.out) c er.out).mono ?_
    rintro e w7 ⟨v8, rfl, d0, r8⟩
    replace K1 := hide (K1.out.below' d0)
    replace B := hide (B.out.below d0)
    replace K6 := hide (K6.out.below' d0)
    replace b0 := hide (below_tr b0.out d0)
    have C := hide (r8.can)
    clear d0
    clear r8
    obtain ⟨b8, A8, n8, c8, D8, m8, k8, rfl⟩ := C.out.slice
    have K8 := hide (Blk.new_at w7 (w7.heap.size) (by simp) 27 #[.bool b8, .slice A8 n8 c8, .slice D8 m8 k8])
    have y := (Below.refl w7.heap.size w7).alloc (Nat.le_refl _) (.cells #[.bool b8, .slice A8 n8 c8, .slice D8 m8 k8] 27)
    replace K1 := hide (K1.out.below' y)
    replace B := hide (B.out.below y)
    replace K6 := hide (K6.out.below' y)
    replace C := hide (C.out.below y)
    replace b0 := hide (below_tr b0.out y)
    clear y
    have K8c0 : (w7.alloc (.cells #[.bool b8, .slice A8 n8 c8, .slice D8 m8 k8] 27)).cell? ⟨w7.heap.size, 0, none⟩ = some (.bool b8) := K8.out.at_ 0 rfl
    have K8c1 : (w7.alloc (.cells #[.bool b8, .slice A8 n8 c8, .slice D8 m8 k8] 27)).cell? ⟨w7.heap.size, 1, none⟩ = some (.slice A8 n8 c8) := K8.out.at_ 1 rfl
    have K8c2 : (w7.alloc (.cells #[.bool b8, .slice A8 n8 c8, .slice D8 m8 k8] 27)).cell? ⟨w7.heap.size, 2, none⟩ = some (.slice D8 m8 k8) := K8.out.at_ 2 rfl
    go_wp2_with fail
    refine (rText_S (C.out.arg (SC.out.up (by decide))) (SC.out.up (by decide)) (T.out.below b0.out) u eu.out).mono ?_
    rintro e w8 ⟨_, rfl, d0, rfl⟩
    replace K1 := hide (K1.out.below' d0)
    replace B := hide (B.out.below d0)
    replace K6 := hide (K6.out.below' d0)
    replace C := hide (C.out.below d0)
    replace K8 := hide (K8.out.below' d0)
    replace b0 := hide (below_tr b0.out d0)
    clear d0
    clear K8c0 K8c1 K8c2
    have K8c0 : w8.cell? ⟨w7.heap.size, 0, none⟩ = some (.bool b8) := K8.out.at_ 0 rfl
    have K8c1 : w8.cell? ⟨w7.heap.size, 1, none⟩ = some (.slice A8 n8 c8) := K8.out.at_ 1 rfl
    have K8c2 : w8.cell? ⟨w7.heap.size, 2, none⟩ = some (.slice D8 m8 k8) := K8.out.at_ 2 rfl
    go_wp2_with fail
    refine (rParse_yes (s := u) (by omega) (T.out.below b0.out) (M.out.below b0.out) c ep.out).mono ?_
    rintro e w9 ⟨v9, rfl, d0, r9⟩
    replace K1 := hide (K1.out.below' d0)
    replace B := hide (B.out.below d0)
    replace K6 := hide (K6.out.below' d0)
    replace C := hide (C.out.below d0)
    replace K8 := hide (K8.out.below' d0)
    replace b0 := hide (below_tr b0.out d0)
    have E := hide (r9.can)
    clear d0
    clear r9
    obtain ⟨b9, A9, n9, c9, D9, m9, k9, rfl⟩ := E.out.slice
    clear K8c0 K8c1 K8c2
    have K8c0 : w9.cell? ⟨w7.heap.size, 0, none⟩ = some (.bool b8) := K8.out.at_ 0 rfl
    have K8c1 : w9.cell? ⟨w7.heap.size, 1, none⟩ = some (.slice A8 n8 c8) := K8.out.at_ 1 rfl
    have K8c2 : w9.cell? ⟨w7.heap.size, 2, none⟩ = some (.slice D8 m8 k8) := K8.out.at_ 2 rfl
    have K11 := hide (Blk.new_at w9 (w9.heap.size) (by simp) 27 #[.bool b9, .slice A9 n9 c9, .slice D9 m9 k9])
    have y := (Below.refl w9.heap.size w9).alloc (Nat.le_refl _) (.cells #[.bool b9, .slice A9 n9 c9, .slice D9 m9 k9] 27)
    replace K1 := hide (K1.out.below' y)
    replace B := hide (B.out.below y)
    replace K6 := hide (K6.out.below' y)
    replace C := hide (C.out.below y)
    replace K8 := hide (K8.out.below' y)
    replace E := hide (E.out.below y)
    replace b0 := hide (below_tr b0.out y)
    clear y
    have K8d0 : (w9.alloc (.cells #[.bool b9, .slice A9 n9 c9, .slice D9 m9 k9] 27)).cell? ⟨w7.heap.size, 0, none⟩ = some (.bool b8) := K8.out.at_ 0 rfl
    have K8d1 : (w9.alloc (.cells #[.bool b9, .slice A9 n9 c9, .slice D9 m9 k9] 27)).cell? ⟨w7.heap.size, 1, none⟩ = some (.slice A8 n8 c8) := K8.out.at_ 1 rfl
    have K8d2 : (w9.alloc (.cells #[.bool b9, .slice A9 n9 c9, .slice D9 m9 k9] 27)).cell? ⟨w7.heap.size, 2, none⟩ = some (.slice D8 m8 k8) := K8.out.at_ 2 rfl
    go_wp2_with fail
    refine (rCheck_can C.out (SC.out.up (by decide)) (T.out.below b0.out)).mono ?_
    rintro e w10 ⟨_, rfl, d0, rfl⟩
    replace K1 := hide (K1.out.below' d0)
    replace B := hide (B.out.below d0)
    replace K6 := hide (K6.out.below' d0)
    replace C := hide (C.out.below d0)
    replace K8 := hide (K8.out.below' d0)
    replace E := hide (E.out.below d0)
    replace K11 := hide (K11.out.below' d0)
    replace b0 := hide (below_tr b0.out d0)
    clear d0
    clear K8c0 K8c1 K8c2
    clear K8d0 K8d1 K8d2
    have K8c0 : w10.cell? ⟨w7.heap.size, 0, none⟩ = some (.bool b8) := K8.out.at_ 0 rfl
    have K8c1 : w10.cell? ⟨w7.heap.size, 1, none⟩ = some (.slice A8 n8 c8) := K8.out.at_ 1 rfl
    have K8c2 : w10.cell? ⟨w7.heap.size, 2, none⟩ = some (.slice D8 m8 k8) := K8.out.at_ 2 rfl
    have K11c0 : w10.cell? ⟨w9.heap.size, 0, none⟩ = some (.bool b9) := K11.out.at_ 0 rfl
    have K11c1 : w10.cell? ⟨w9.heap.size, 1, none⟩ = some (.slice A9 n9 c9) := K11.out.at_ 1 rfl
    have K11c2 : w10.cell? ⟨w9.heap.size, 2, none⟩ = some (.slice D9 m9 k9) := K11.out.at_ 2 rfl
    go_wp2_with fail
    refine (rsame_yes C.out E.out rfl).mono ?_
    rintro e w11 ⟨_, rfl, d0, rfl⟩
    replace K1 := hide (K1.out.below' d0)
    replace B := hide (B.out.below d0)
    replace K6 := hide (K6.out.below' d0)
    replace C := hide (C.out.below d0)
    replace K8 := hide (K8.out.below' d0)
    replace E := hide (E.out.below d0)
    replace K11 := hide (K11.out.below' d0)
    replace b0 := hide (below_tr b0.out d0)
    clear d0
    clear K8c0 K8c1 K8c2 K11c0 K11c1 K11c2
    have K8c0 : w11.cell? ⟨w7.heap.size, 0, none⟩ = some (.bool b8) := K8.out.at_ 0 rfl
    have K8c1 : w11.cell? ⟨w7.heap.size, 1, none⟩ = some (.slice A8 n8 c8) := K8.out.at_ 1 rfl
    have K8c2 : w11.cell? ⟨w7.heap.size, 2, none⟩ = some (.slice D8 m8 k8) := K8.out.at_ 2 rfl
    have K11c0 : w11.cell? ⟨w9.heap.size, 0, none⟩ = some (.bool b9) := K11.out.at_ 0 rfl
    have K11c1 : w11.cell? ⟨w9.heap.size, 1, none⟩ = some (.slice A9 n9 c9) := K11.out.at_ 1 rfl
    have K11c2 : w11.cell? ⟨w9.heap.size, 2, none⟩ = some (.slice D9 m9 k9) := K11.out.at_ 2 rfl
    go_wp2_with fail
    refine (rText_S (E.out.arg (SC.out.up (by decide))) (SC.out.up (by decide)) (T.out.below b0.out) u eu.out).mono ?_
    rintro e w12 ⟨_, rfl, d0, rfl⟩
    replace K1 := hide (K1.out.below' d0)
    replace B := hide (B.out.below d0)
    replace K6 := hide (K6.out.below' d0)
    replace C := hide (C.out.below d0)
    replace K8 := hide (K8.out.below' d0)
    replace E := hide (E.out.below d0)
    replace K11 := hide (K11.out.below' d0)
    replace b0 := hide (below_tr b0.out d0)
    clear d0
    clear K8c0 K8c1 K8c2 K11c0 K11c1 K11c2
    go_wp2
    exact opq_end hR ⟨ret_bool (by simp), b0⟩
  replace r1 : rok b1 xs1 ys1 = true := by simpa using r1
  have C1 := hide (P1.out.can r1)
  generalize hx : rv b1 xs1 ys1 = x at *
  clear hx
  by_cases p0 : 200 < t.size
  case pos =>
    have tl2 := tl.out
    rcases ez : rmake (isgn (byt t)).1 (rsplit (isgn (byt t)).2) with c0 | e
    case inr =>
      replace ez := hide ez
      go_wp2_with fail
      refine (rParse_no (s := t) (by omega) (T.out.below b0.out) (M.out.below b0.out) e ez.out).mono ?_
      rintro e w4 ⟨rfl, d0⟩
      replace K1 := hide (K1.out.below' d0)
      replace b0 := hide (below_tr b0.out d0)
      clear d0
      have K1c0 : w4.cell? ⟨w.heap.size, 0, none⟩ = some (.bool b1) := K1.out.at_ 0 rfl
      have K1c1 : w4.cell? ⟨w.heap.size, 1, none⟩ = some (.slice A1 n1 c1) := K1.out.at_ 1 rfl
      have K1c2 : w4.cell? ⟨w.heap.size, 2, none⟩ = some (.slice D1 m1 k1) := K1.out.at_ 2 rfl
      have K6 := hide (Blk.new_at w4 (w4.heap.size) (by simp) 27 #[.bool false, .slice none 0 0, .slice none 0 0])
      have y := (Below.refl w4.heap.size w4).alloc (Nat.le_refl _) (.cells #[.bool false, .slice none 0 0, .slice none 0 0] 27)
      replace K1 := hide (K1.out.below' y)
      replace b0 := hide (below_tr b0.out y)
      clear y
      have K1d0 : (w4.alloc (.cells #[.bool false, .slice none 0 0, .slice none 0 0] 27)).cell? ⟨w.heap.size, 0, none⟩ = some (.bool b1) := K1.out.at_ 0 rfl
      have K1d1 : (w4.alloc (.cells #[.bool false, .slice none 0 0, .slice none 0 0] 27)).cell? ⟨w.heap.size, 1, none⟩ = some (.slice A1 n1 c1) := K1.out.at_ 1 rfl
      have K1d2 : (w4.alloc (.cells #[.bool false, .slice none 0 0, .slice none 0 0] 27)).cell? ⟨w.heap.size, 2, none⟩ = some (.slice D1 m1 k1) := K1.out.at_ 2 rfl
      go_wp2_with fail
      refine (rCheck_P (P1.out.below b0.out) (T.out.below b0.out) true r1).mono ?_
      rintro e w5 ⟨_, rfl, d0, rfl⟩
      replace K1 := hide (K1.out.below' d0)
      replace K6 := hide (K6.out.below' d0)
      replace b0 := hide (below_tr b0.out d0)
      clear d0
      clear K1c0 K1c1 K1c2
      clear K1d0 K1d1 K1d2
      have K1c0 : w5.cell? ⟨w.heap.size, 0, none⟩ = some (.bool b1) := K1.out.at_ 0 rfl
      have K1c1 : w5.cell? ⟨w.heap.size, 1, none⟩ = some (.slice A1 n1 c1) := K1.out.at_ 1 rfl
      have K1c2 : w5.cell? ⟨w.heap.size, 2, none⟩ = some (.slice D1 m1 k1) := K1.out.at_ 2 rfl
      go_wp2_with fail
      refine (rCheck_P (P1.out.below b0.out) (T.out.below b0.out) true r1).mono ?_
      rintro e w6 ⟨_, rfl, d0, rfl⟩
      replace K1 := hide (K1.out.below' d0)
      replace K6 := hide (K6.out.below' d0)
      replace b0 := hide (below_tr b0.out d0)
      clear d0
      clear K1c0 K1c1 K1c2
      rcases er : rmake (isgn (byt s)).1 (rsplit (isgn (byt s)).2) with c | e
      case inr =>
        replace er := hide er
        go_wp2_with fail
        refine (rParse_no (s := s) (by omega) (T.out.below b0.out) (M.out.below b0.out) e er.out).mono ?_
        rintro e w7 ⟨rfl, d0⟩
        replace K1 := hide (K1.out.below' d0)
        replace K6 := hide (K6.out.below' d0)
        replace b0 := hide (below_tr b0.out d0)
        clear d0
        have K8 := hide (Blk.new_at w7 (w7.heap.size) (by simp) 27 #[.bool false, .slice none 0 0, .slice none 0 0])
        have y := (Below.refl w7.heap.size w7).alloc (Nat.le_refl _) (.cells #[.bool false, .slice none 0 0, .slice none 0 0] 27)
        replace K1 := hide (K1.out.below' y)
        replace K6 := hide (K6.out.below' y)
        replace b0 := hide (below_tr b0.out y)
        clear y
        rcases rmake_code er.out with q | q
        · subst q
          go_wp2
          exact opq_end hR ⟨rfl, b0⟩
        · subst q
          go_wp2
          exact opq_end hR ⟨rfl, b0⟩
      obtain ⟨L1, L2, SC⟩ := rmake_ok er
      replace SC := hide SC
      replace er := hide er
      obtain ⟨u, eu, ul, ub⟩ := rtxt_bytes c SC.out
      replace eu := hide eu
      have ep : Hid (rmake (isgn (byt u)).1 (rsplit (isgn (byt u)).2) = .inl c) := by show _ = _; rw [eu.out, parse_rtxt, if_neg (by omega)]
      clear ul L1 L2
      go_wp2_with fail
      refine (rParse_yes (s := s) (by omega) (T.out.below b0.out) (M.out.below b0.out) c er.out).mono ?_
      rintro e w7 ⟨v8, rfl, d0, r8⟩
      replace K1 := hide (K1.out.below' d0)
      replace K6 := hide (K6.out.below' d0)
      replace b0 := hide (below_tr b0.out d0)
      have C := hide (r8.can)
      clear d0
      clear r8
      obtain ⟨b8, A8, n8, c8, D8, m8, k8, rfl⟩ := C.out.slice
      have K8 := hide (Blk.new_at w7 (w7.heap.size) (by simp) 27 #[.bool b8, .slice A8 n8 c8, .slice D8 m8 k8])
      have y := (Below.refl w7.heap.size w7).alloc (Nat.le_refl _) (.cells #[.bool b8, .slice A8 n8 c8, .slice D8 m8 k8] 27)
      replace K1 := hide (K1.out.below' y)
      replace K6 := hide (K6.out.below' y)
      replace C := hide (C.out.below y)
      replace b0 := hide (below_tr b0.out y)
      clear y
      have K8c0 : (w7.alloc (.cells #[.bool b8, .slice A8 n8 c8, .slice D8 m8 k8] 27)).cell? ⟨w7.heap.size, 0, none⟩ = some (.bool b8) := K8.out.at_ 0 rfl
      have K8c1 : (w7.alloc (.cells #[.bool b8, .slice A8 n8 c8, .slice D8 m8 k8] 27)).cell? ⟨w7.heap.size, 1, none⟩ = some (.slice A8 n8 c8) := K8.out.at_ 1 rfl
      have K8c2 : (w7.alloc (.cells #[.bool b8, .slice A8 n8 c8, .slice D8 m8 k8] 27)).cell? ⟨w7.heap.size, 2, none⟩ = some (.slice D8 m8 k8) := K8.out.at_ 2 rfl
      go_wp2_with fail
      refine (rText_S (C.out.arg (SC.out.up (by decide))) (SC.out.up (by decide)) (T.out.below b0.out) u eu.out).mono ?_
      rintro e w8 ⟨_, rfl, d0, rfl⟩
      replace K1 := hide (K1.out.below' d0)
      replace K6 := hide (K6.out.below' d0)
      replace C := hide (C.out.below d0)
      replace K8 := hide (K8.out.below' d0)
      replace b0 := hide (below_tr b0.out d0)
      clear d0
      clear K8c0 K8c1 K8c2
      have K8c0 : w8.cell? ⟨w7.heap.size, 0, none⟩ = some (.bool b8) := K8.out.at_ 0 rfl
      have K8c1 : w8.cell? ⟨w7.heap.size, 1, none⟩ = some (.slice A8 n8 c8) := K8.out.at_ 1 rfl
      have K8c2 : w8.cell? ⟨w7.heap.size, 2, none⟩ = some (.slice D8 m8 k8) := K8.out.at_ 2 rfl
      go_wp2_with fail
      refine (rParse_yes (s := u) (by omega) (T.out.below b0.out) (M.out.below b0.out) c ep.out).mono ?_
      rintro e w9 ⟨v9, rfl, d0, r9⟩
      replace K1 := hide (K1.out.below' d0)
      replace K6 := hide (K6.out.below' d0)
      replace C := hide (C.out.below d0)
      replace K8 := hide (K8.out.below' d0)
      replace b0 := hide (below_tr b0.out d0)
      have E := hide (r9.can)
      clear d0
      clear r9
      obtain ⟨b9, A9, n9, c9, D9, m9, k9, rfl⟩ := E.out.slice
      clear K8c0 K8c1 K8c2
      have K8c0 : w9.cell? ⟨w7.heap.size, 0, none⟩ = some (.bool b8) := K8.out.at_ 0 rfl
      have K8c1 : w9.cell? ⟨w7.heap.size, 1, none⟩ = some (.slice A8 n8 c8) := K8.out.at_ 1 rfl
      have K8c2 : w9.cell? ⟨w7.heap.size, 2, none⟩ = some (.slice D8 m8 k8) := K8.out.at_ 2 rfl
      have K11 := hide (Blk.new_at w9 (w9.heap.size) (by simp) 27 #[.bool b9, .slice A9 n9 c9, .slice D9 m9 k9])
      have y := (Below.refl w9.heap.size w9).alloc (Nat.le_refl _) (.cells #[.bool b9, .slice A9 n9 c9, .slice D9 m9 k9] 27)
      replace K1 := hide (K1.out.below' y)
      replace K6 := hide (K6.out.below' y)
      replace C := hide (C.out.below y)
      replace K8 := hide (K8.out.below' y)
      replace E := hide (E.out.below y)
      replace b0 := hide (below_tr b0.out y)
      clear y
      have K8d0 : (w9.alloc (.cells #[.bool b9, .slice A9 n9 c9, .slice D9 m9 k9] 27)).cell? ⟨w7.heap.size, 0, none⟩ = some (.bool b8) := K8.out.at_ 0 rfl
      have K8d1 : (w9.alloc (.cells #[.bool b9, .slice A9 n9 c9, .slice D9 m9 k9] 27)).cell? ⟨w7.heap.size, 1, none⟩ = some (.slice A8 n8 c8) := K8.out.at_ 1 rfl
      have K8d2 : (w9.alloc (.cells #[.bool b9, .slice A9 n9 c9, .slice D9 m9 k9] 27)).cell? ⟨w7.heap.size, 2, none⟩ = some (.slice D8 m8 k8) := K8.out.at_ 2 rfl
      go_wp2_with fail
      refine (rCheck_can C.out (SC.out.up (by decide)) (T.out.below b0.out)).mono ?_
      rintro e w10 ⟨_, rfl, d0, rfl⟩
      replace K1 := hide (K1.out.below' d0)
      replace K6 := hide (K6.out.below' d0)
      replace C := hide (C.out.below d0)
      replace K8 := hide (K8.out.below' d0)
      replace E := hide (E.out.below d0)
      replace K11 := hide (K11.out.below' d0)
      replace b0 := hide (below_tr b0.out d0)
      clear d0
      clear K8c0 K8c1 K8c2
      clear K8d0 K8d1 K8d2
      have K8c0 : w10.cell? ⟨w7.heap.size, 0, none⟩ = some (.bool b8) := K8.out.at_ 0 rfl
      have K8c1 : w10.cell? ⟨w7.heap.size, 1, none⟩ = some (.slice A8 n8 c8) := K8.out.at_ 1 rfl
      have K8c2 : w10.cell? ⟨w7.heap.size, 2, none⟩ = some (.slice D8 m8 k8) := K8.out.at_ 2 rfl
      have K11c0 : w10.cell? ⟨w9.heap.size, 0, none⟩ = some (.bool b9) := K11.out.at_ 0 rfl
      have K11c1 : w10.cell? ⟨w9.heap.size, 1, none⟩ = some (.slice A9 n9 c9) := K11.out.at_ 1 rfl
      have K11c2 : w10.cell? ⟨w9.heap.size, 2, none⟩ = some (.slice D9 m9 k9) := K11.out.at_ 2 rfl
      go_wp2_with fail
      refine (rsame_yes C.out E.out rfl).mono ?_
      rintro e w11 ⟨_, rfl, d0, rfl⟩
      replace K1 := hide (K1.out.below' d0)
      replace K6 := hide (K6.out.below' d0)
      replace C := hide (C.out.below d0)
      replace K8 := hide (K8.out.below' d0)
      replace E := hide (E.out.below d0)
      replace K11 := hide (K11.out.below' d0)
      replace b0 := hide (below_tr b0.out d0)
      clear d0
      clear K8c0 K8c1 K8c2 K11c0 K11c1 K11c2
      have K8c0 : w11.cell? ⟨w7.heap.size, 0, none⟩ = some (.bool b8) := K8.out.at_ 0 rfl
      have K8c1 : w11.cell? ⟨w7.heap.size, 1, none⟩ = some (.slice A8 n8 c8) := K8.out.at_ 1 rfl
      have K8c2 : w11.cell? ⟨w7.heap.size, 2, none⟩ = some (.slice D8 m8 k8) := K8.out.at_ 2 rfl
      have K11c0 : w11.cell? ⟨w9.heap.size, 0, none⟩ = some (.bool b9) := K11.out.at_ 0 rfl
      have K11c1 : w11.cell? ⟨w9.heap.size, 1, none⟩ = some (.slice A9 n9 c9) := K11.out.at_ 1 rfl
      have K11c2 : w11.cell? ⟨w9.heap.size, 2, none⟩ = some (.slice D9 m9 k9) := K11.out.at_ 2 rfl
      go_wp2_with fail
      refine (rText_S (E.out.arg (SC.out.up (by decide))) (SC.out.up (by decide)) (T.out.below b0.out) u eu.out).mono ?_
      rintro e w12 ⟨_, rfl, d0, rfl⟩
      replace K1 := hide (K1.out.below' d0)
      replace K6 := hide (K6.out.below' d0)
      replace C := hide (C.out.below d0)
      replace K8 := hide (K8.out.below' d0)
      replace E := hide (E.out.below d0)
      replace K11 := hide (K11.out.below' d0)
      replace b0 := hide (below_tr b0.out d0)
      clear d0
      clear K8c0 K8c1 K8c2 K11c0 K11c1 K11c2
      go_wp2
      exact opq_end hR ⟨ret_bool (by simp), b0⟩
    replace ez := hide ez
    go_wp2_with fail
    refine (rParse_yes (s := t) (by omega) (T.out.below b0.out) (M.out.below b0.out) c0 ez.out).mono ?_
    rintro e w4 ⟨v6, rfl, d0, r6⟩
    replace K1 := hide (K1.out.below' d0)
    replace b0 := hide (below_tr b0.out d0)
    have B := hide (r6.can)
    clear d0
    clear r6
    obtain ⟨b6, A6, n6, c6, D6, m6, k6, rfl⟩ := B.out.slice
    have K1c0 : w4.cell? ⟨w.heap.size, 0, none⟩ = some (.bool b1) := K1.out.at_ 0 rfl
    have K1c1 : w4.cell? ⟨w.heap.size, 1, none⟩ = some (.slice A1 n1 c1) := K1.out.at_ 1 rfl
    have K1c2 : w4.cell? ⟨w.heap.size, 2, none⟩ = some (.slice D1 m1 k1) := K1.out.at_ 2 rfl
    have K6 := hide (Blk.new_at w4 (w4.heap.size) (by simp) 27 #[.bool b6, .slice A6 n6 c6, .slice D6 m6 k6])
    have y := (Below.refl w4.heap.size w4).alloc (Nat.le_refl _) (.cells #[.bool b6, .slice A6 n6 c6, .slice D6 m6 k6] 27)
    replace K1 := hide (K1.out.below' y)
    replace B := hide (B.out.below y)
    replace b0 := hide (below_tr b0.out y)
    clear y
    have K1d0 : (w4.alloc (.cells #[.bool b6, .slice A6 n6 c6, .slice D6 m6 k6] 27)).cell? ⟨w.heap.size, 0, none⟩ = some (.bool b1) := K1.out.at_ 0 rfl
    have K1d1 : (w4.alloc (.cells #[.bool b6, .slice A6 n6 c6, .slice D6 m6 k6] 27)).cell? ⟨w.heap.size, 1, none⟩ = some (.slice A1 n1 c1) := K1.out.at_ 1 rfl
    have K1d2 : (w4.alloc (.cells #[.bool b6, .slice A6 n6 c6, .slice D6 m6 k6] 27)).cell? ⟨w.heap.size, 2, none⟩ = some (.slice D1 m1 k1) := K1.out.at_ 2 rfl
    go_wp2_with fail
    refine (rCheck_P (P1.out.below b0.out) (T.out.below b0.out) true r1).mono ?_
    rintro e w5 ⟨_, rfl, d0, rfl⟩
    replace K1 := hide (K1.out.below' d0)
    replace B := hide (B.out.below d0)
    replace K6 := hide (K6.out.below' d0)
    replace b0 := hide (below_tr b0.out d0)
    clear d0
    clear K1c0 K1c1 K1c2
    clear K1d0 K1d1 K1d2
    have K1c0 : w5.cell? ⟨w.heap.size, 0, none⟩ = some (.bool b1) := K1.out.at_ 0 rfl
    have K1c1 : w5.cell? ⟨w.heap.size, 1, none⟩ = some (.slice A1 n1 c1) := K1.out.at_ 1 rfl
    have K1c2 : w5.cell? ⟨w.heap.size, 2, none⟩ = some (.slice D1 m1 k1) := K1.out.at_ 2 rfl
    go_wp2_with fail
    refine (rCheck_P (P1.out.below b0.out) (T.out.below b0.out) true r1).mono ?_
    rintro e w6 ⟨_, rfl, d0, rfl⟩
    replace K1 := hide (K1.out.below' d0)
    replace B := hide (B.out.below d0)
    replace K6 := hide (K6.out.below' d0)
    replace b0 := hide (below_tr b0.out d0)
    clear d0
    clear K1c0 K1c1 K1c2
    rcases er : rmake (isgn (byt s)).1 (rsplit (isgn (byt s)).2) with c | e
    case inr =>
      replace er := hide er
      go_wp2_with fail
      refine (rParse_no (s := s) (by omega) (T.out.below b0.out) (M.out.below b0.out) e er.out).mono ?_
      rintro e w7 ⟨rfl, d0⟩
      replace K1 := hide (K1.out.below' d0)
      replace B := hide (B.out.below d0)
      replace K6 := hide (K6.out.below' d0)
      replace b0 := hide (below_tr b0.out d0)
      clear d0
      have K8 := hide (Blk.new_at w7 (w7.heap.size) (by simp) 27 #[.bool false, .slice none 0 0, .slice none 0 0])
      have y := (Below.refl w7.heap.size w7).alloc (Nat.le_refl _) (.cells #[.bool false, .slice none 0 0, .slice none 0 0] 27)
      replace K1 := hide (K1.out.below' y)
      replace B := hide (B.out.below y)
      replace K6 := hide (K6.out.below' y)
      replace b0 := hide (below_tr b0.out y)
      clear y
      rcases rmake_code er.out with q | q
      · subst q
        go_wp2
        exact opq_end hR ⟨rfl, b0⟩
      · subst q
        go_wp2
        exact opq_end hR ⟨rfl, b0⟩
    obtain ⟨L1, L2, SC⟩ := rmake_ok er
    replace SC := hide SC
    replace er := hide er
    obtain ⟨u, eu, ul, ub⟩ := rtxt_bytes c SC.out
    replace eu := hide eu
    have ep : Hid (rmake (isgn (byt u)).1 (rsplit (isgn (byt u)).2) = .inl c) := by show _ = _; rw [eu.out, parse_rtxt, if_neg (by omega)]
    clear ul L1 L2
    go_wp2_with fail
    refine (rParse_yes (s := s) (by omega) (T.out.below b0.out) (M.out.below b0.out) c er.out).mono ?_
    rintro e w7 ⟨v8, rfl, d0, r8⟩
    replace K1 := hide (K1.out.below' d0)
    replace B := hide (B.out.below d0)
    replace K6 := hide (K6.out.below' d0)
    replace b0 := hide (below_tr b0.out d0)
    have C := hide (r8.can)
    clear d0
    clear r8
    obtain ⟨b8, A8, n8, c8, D8, m8, k8, rfl⟩ := C.out.slice
    have K8 := hide (Blk.new_at w7 (w7.heap.size) (by simp) 27 #[.bool b8, .slice A8 n8 c8, .slice D8 m8 k8])
    have y := (Below.refl w7.heap.size w7).alloc (Nat.le_refl _) (.cells #[.bool b8, .slice A8 n8 c8, .slice D8 m8 k8] 27)
    replace K1 := hide (K1.out.below' y)
    replace B := hide (B.out.below y)
    replace K6 := hide (K6.out.below' y)
    replace C := hide (C.out.below y)
    replace b0 := hide (below_tr b0.out y)
    clear y
    have K8c0 : (w7.alloc (.cells #[.bool b8, .slice A8 n8 c8, .slice D8 m8 k8] 27)).cell? ⟨w7.heap.size, 0, none⟩ = some (.bool b8) := K8.out.at_ 0 rfl
    have K8c1 : (w7.alloc (.cells #[.bool b8, .slice A8 n8 c8, .slice D8 m8 k8] 27)).cell? ⟨w7.heap.size, 1, none⟩ = some (.slice A8 n8 c8) := K8.out.at_ 1 rfl
    have K8c2 : (w7.alloc (.cells #[.bool b8, .slice A8 n8 c8, .slice D8 m8 k8] 27)).cell? ⟨w7.heap.size, 2, none⟩ = some (.slice D8 m8 k8) := K8.out.at_ 2 rfl
    go_wp2_with fail
    refine (rText_S (C.out.arg (SC.out.up (by decide))) (SC.out.up (by decide)) (T.out.below b0.out) u eu.out).mono ?_
    rintro e w8 ⟨_, rfl, d0, rfl⟩
    replace K1 := hide (K1.out.below' d0)
    replace B := hide (B.out.below d0)
    replace K6 := hide (K6.out.below' d0)
    replace C := hide (C.out.below d0)
    replace K8 := hide (K8.out.below' d0)
    replace b0 := hide (below_tr b0.out d0)
    clear d0
    clear K8c0 K8c1 K8c2
    have K8c0 : w8.cell? ⟨w7.heap.size, 0, none⟩ = some (.bool b8) := K8.out.at_ 0 rfl
    have K8c1 : w8.cell? ⟨w7.heap.size, 1, none⟩ = some (.slice A8 n8 c8) := K8.out.at_ 1 rfl
    have K8c2 : w8.cell? ⟨w7.heap.size, 2, none⟩ = some (.slice D8 m8 k8) := K8.out.at_ 2 rfl
    go_wp2_with fail
    refine (rParse_yes (s := u) (by omega) (T.out.below b0.out) (M.out.below b0.out) c ep.out).mono ?_
    rintro e w9 ⟨v9, rfl, d0, r9⟩
    replace K1 := hide (K1.out.below' d0)
    replace B := hide (B.out.below d0)
    replace K6 := hide (K6.out.below' d0)
    replace C := hide (C.out.below d0)
    replace K8 := hide (K8.out.below' d0)
    replace b0 := hide (below_tr b0.out d0)
    have E := hide (r9.can)
    clear d0
    clear r9
    obtain ⟨b9, A9, n9, c9, D9, m9, k9, rfl⟩ := E.out.slice
    clear K8c0 K8c1 K8c2
    have K8c0 : w9.cell? ⟨w7.heap.size, 0, none⟩ = some (.bool b8) := K8.out.at_ 0 rfl
    have K8c1 : w9.cell? ⟨w7.heap.size, 1, none⟩ = some (.slice A8 n8 c8) := K8.out.at_ 1 rfl
    have K8c2 : w9.cell? ⟨w7.heap.size, 2, none⟩ = some (.slice D8 m8 k8) := K8.out.at_ 2 rfl
    have K11 := hide (Blk.new_at w9 (w9.heap.size) (by simp) 27 #[.bool b9, .slice A9 n9 c9, .slice D9 m9 k9])
    have y := (Below.refl w9.heap.size w9).alloc (Nat.le_refl _) (.cells #[.bool b9, .slice A9 n9 c9, .slice D9 m9 k9] 27)
    replace K1 := hide (K1.out.below' y)
    replace B := hide (B.out.below y)
    replace K6 := hide (K6.out.below' y)
    replace C := hide (C.out.below y)
    replace K8 := hide (K8.out.below' y)
    replace E := hide (E.out.below y)
    replace b0 := hide (below_tr b0.out y)
    clear y
    have K8d0 : (w9.alloc (.cells #[.bool b9, .slice A9 n9 c9, .slice D9 m9 k9] 27)).cell? ⟨w7.heap.size, 0, none⟩ = some (.bool b8) := K8.out.at_ 0 rfl
    have K8d1 : (w9.alloc (.cells #[.bool b9, .slice A9 n9 c9, .slice D9 m9 k9] 27)).cell? ⟨w7.heap.size, 1, none⟩ = some (.slice A8 n8 c8) := K8.out.at_ 1 rfl
    have K8d2 : (w9.alloc (.cells #[.bool b9, .slice A9 n9 c9, .slice D9 m9 k9] 27)).cell? ⟨w7.heap.size, 2, none⟩ = some (.slice D8 m8 k8) := K8.out.at_ 2 rfl
    go_wp2_with fail
    refine (rCheck_can C.out (SC.out.up (by decide)) (T.out.below b0.out)).mono ?_
    rintro e w10 ⟨_, rfl, d0, rfl⟩
    replace K1 := hide (K1.out.below' d0)
    replace B := hide (B.out.below d0)
    replace K6 := hide (K6.out.below' d0)
    replace C := hide (C.out.below d0)
    replace K8 := hide (K8.out.below' d0)
    replace E := hide (E.out.below d0)
    replace K11 := hide (K11.out.below' d0)
    replace b0 := hide (below_tr b0.out d0)
    clear d0
    clear K8c0 K8c1 K8c2
    clear K8d0 K8d1 K8d2
    have K8c0 : w10.cell? ⟨w7.heap.size, 0, none⟩ = some (.bool b8) := K8.out.at_ 0 rfl
    have K8c1 : w10.cell? ⟨w7.heap.size, 1, none⟩ = some (.slice A8 n8 c8) := K8.out.at_ 1 rfl
    have K8c2 : w10.cell? ⟨w7.heap.size, 2, none⟩ = some (.slice D8 m8 k8) := K8.out.at_ 2 rfl
    have K11c0 : w10.cell? ⟨w9.heap.size, 0, none⟩ = some (.bool b9) := K11.out.at_ 0 rfl
    have K11c1 : w10.cell? ⟨w9.heap.size, 1, none⟩ = some (.slice A9 n9 c9) := K11.out.at_ 1 rfl
    have K11c2 : w10.cell? ⟨w9.heap.size, 2, none⟩ = some (.slice D9 m9 k9) := K11.out.at_ 2 rfl
    go_wp2_with fail
    refine (rsame_yes C.out E.out rfl).mono ?_
    rintro e w11 ⟨_, rfl, d0, rfl⟩
    replace K1 := hide (K1.out.below' d0)
    replace B := hide (B.out.below d0)
    replace K6 := hide (K6.out.below' d0)
    replace C := hide (C.out.below d0)
    replace K8 := hide (K8.out.below' d0)
    replace E := hide (E.out.below d0)
    replace K11 := hide (K11.out.below' d0)
    replace b0 := hide (below_tr b0.out d0)
    clear d0
    clear K8c0 K8c1 K8c2 K11c0 K11c1 K11c2
    have K8c0 : w11.cell? ⟨w7.heap.size, 0, none⟩ = some (.bool b8) := K8.out.at_ 0 rfl
    have K8c1 : w11.cell? ⟨w7.heap.size, 1, none⟩ = some (.slice A8 n8 c8) := K8.out.at_ 1 rfl
    have K8c2 : w11.cell? ⟨w7.heap.size, 2, none⟩ = some (.slice D8 m8 k8) := K8.out.at_ 2 rfl
    have K11c0 : w11.cell? ⟨w9.heap.size, 0, none⟩ = some (.bool b9) := K11.out.at_ 0 rfl
    have K11c1 : w11.cell? ⟨w9.heap.size, 1, none⟩ = some (.slice A9 n9 c9) := K11.out.at_ 1 rfl
    have K11c2 : w11.cell? ⟨w9.heap.size, 2, none⟩ = some (.slice D9 m9 k9) := K11.out.at_ 2 rfl
    go_wp2_with fail
    refine (rText_S (E.out.arg (SC.out.up (by decide))) (SC.out.up (by decide)) (T.out.below b0.out) u eu.out).mono ?_
    rintro e w12 ⟨_, rfl, d0, rfl⟩
    replace K1 := hide (K1.out.below' d0)
    replace B := hide (B.out.below d0)
    replace K6 := hide (K6.out.below' d0)
    replace C := hide (C.out.below d0)
    replace K8 := hide (K8.out.below' d0)
    replace E := hide (E.out.below d0)
    replace K11 := hide (K11.out.below' d0)
    replace b0 := hide (below_tr b0.out d0)
    clear d0
    clear K8c0 K8c1 K8c2 K11c0 K11c1 K11c2
    go_wp2
    exact opq_end hR ⟨ret_bool (by simp), b0⟩
  have ez : Hid (rmake (isgn (byt t)).1 (rsplit (isgn (byt t)).2) = .inl x) := by show _ = _; rw [et.out]; exact parse_short (by rw [← tl.out]; omega)
  go_wp2_with fail
  refine (rParse_yes (s := t) (by omega) (T.out.below b0.out) (M.out.below b0.out) x ez.out).mono ?_
  rintro e w4 ⟨v6, rfl, d0, r6⟩
  replace K1 := hide (K1.out.below' d0)
  replace b0 := hide (below_tr b0.out d0)
  have B := hide (r6.can)
  clear d0
  clear r6
  obtain ⟨b6, A6, n6, c6, D6, m6, k6, rfl⟩ := B.out.slice
  have K1c0 : w4.cell? ⟨w.heap.size, 0, none⟩ = some (.bool b1) := K1.out.at_ 0 rfl
  have K1c1 : w4.cell? ⟨w.heap.size, 1, none⟩ = some (.slice A1 n1 c1) := K1.out.at_ 1 rfl
  have K1c2 : w4.cell? ⟨w.heap.size, 2, none⟩ = some (.slice D1 m1 k1) := K1.out.at_ 2 rfl
  have K6 := hide (Blk.new_at w4 (w4.heap.size) (by simp) 27 #[.bool b6, .slice A6 n6 c6, .slice D6 m6 k6])
  have y := (Below.refl w4.heap.size w4).alloc (Nat.le_refl _) (.cells #[.bool b6, .slice A6 n6 c6, .slice D6 m6 k6] 27)
  replace K1 := hide (K1.out.below' y)
  replace B := hide (B.out.below y)
  replace b0 := hide (below_tr b0.out y)
  clear y
  have K1d0 : (w4.alloc (.cells #[.bool b6, .slice A6 n6 c6, .slice D6 m6 k6] 27)).cell? ⟨w.heap.size, 0, none⟩ = some (.bool b1) := K1.out.at_ 0 rfl
  have K1d1 : (w4.alloc (.cells #[.bool b6, .slice A6 n6 c6, .slice D6 m6 k6] 27)).cell? ⟨w.heap.size, 1, none⟩ = some (.slice A1 n1 c1) := K1.out.at_ 1 rfl
  have K1d2 : (w4.alloc (.cells #[.bool b6, .slice A6 n6 c6, .slice D6 m6 k6] 27)).cell? ⟨w.heap.size, 2, none⟩ = some (.slice D1 m1 k1) := K1.out.at_ 2 rfl
  go_wp2_with fail
  refine (rCheck_P (P1.out.below b0.out) (T.out.below b0.out) true r1).mono ?_
  rintro e w5 ⟨_, rfl, d0, rfl⟩
  replace K1 := hide (K1.out.below' d0)
  replace B := hide (B.out.below d0)
  replace K6 := hide (K6.out.below' d0)
  replace b0 := hide (below_tr b0.out d0)
  clear d0
  clear K1c0 K1c1 K1c2
  clear K1d0 K1d1 K1d2
  have K1c0 : w5.cell? ⟨w.heap.size, 0, none⟩ = some (.bool b1) := K1.out.at_ 0 rfl
  have K1c1 : w5.cell? ⟨w.heap.size, 1, none⟩ = some (.slice A1 n1 c1) := K1.out.at_ 1 rfl
  have K1c2 : w5.cell? ⟨w.heap.size, 2, none⟩ = some (.slice D1 m1 k1) := K1.out.at_ 2 rfl
  go_wp2_with fail
  refine (rCheck_P (P1.out.below b0.out) (T.out.below b0.out) true r1).mono ?_
  rintro e w6 ⟨_, rfl, d0, rfl⟩
  replace K1 := hide (K1.out.below' d0)
  replace B := hide (B.out.below d0)
  replace K6 := hide (K6.out.below' d0)
  replace b0 := hide (below_tr b0.out d0)
  clear d0
  clear K1c0 K1c1 K1c2
  have K1c0 : w6.cell? ⟨w.heap.size, 0, none⟩ = some (.bool b1) := K1.out.at_ 0 rfl
  have K1c1 : w6.cell? ⟨w.heap.size, 1, none⟩ = some (.slice A1 n1 c1) := K1.out.at_ 1 rfl
  have K1c2 : w6.cell? ⟨w.heap.size, 2, none⟩ = some (.slice D1 m1 k1) := K1.out.at_ 2 rfl
  have K6c0 : w6.cell? ⟨w4.heap.size, 0, none⟩ = some (.bool b6) := K6.out.at_ 0 rfl
  have K6c1 : w6.cell? ⟨w4.heap.size, 1, none⟩ = some (.slice A6 n6 c6) := K6.out.at_ 1 rfl
  have K6c2 : w6.cell? ⟨w4.heap.size, 2, none⟩ = some (.slice D6 m6 k6) := K6.out.at_ 2 rfl
  go_wp2_with fail
  refine (rsame_yes B.out (C1.out.below b0.out) rfl).mono ?_
  rintro e w7 ⟨_, rfl, d0, rfl⟩
  replace K1 := hide (K1.out.below' d0)
  replace B := hide (B.out.below d0)
  replace K6 := hide (K6.out.below' d0)
  replace b0 := hide (below_tr b0.out d0)
  clear d0
  clear K1c0 K1c1 K1c2 K6c0 K6c1 K6c2
  rcases er : rmake (isgn (byt s)).1 (rsplit (isgn (byt s)).2) with c | e
  case inr =>
    replace er := hide er
    go_wp2_with fail
    refine (rParse_no (s := s) (by omega) (T.out.below b0.out) (M.out.below b0.out) e er.out).mono ?_
    rintro e w8 ⟨rfl, d0⟩
    replace K1 := hide (K1.out.below' d0)
    replace B := hide (B.out.below d0)
    replace K6 := hide (K6.out.below' d0)
    replace b0 := hide (below_tr b0.out d0)
    clear d0
    have K8 := hide (Blk.new_at w8 (w8.heap.size) (by simp) 27 #[.bool false, .slice none 0 0, .slice none 0 0])
    have y := (Below.refl w8.heap.size w8).alloc (Nat.le_refl _) (.cells #[.bool false, .slice none 0 0, .slice none 0 0] 27)
    replace K1 := hide (K1.out.below' y)
    replace B := hide (B.out.below y)
    replace K6 := hide (K6.out.below' y)
    replace b0 := hide (below_tr b0.out y)
    clear y
    rcases rmake_code er.out with q | q
    · subst q
      go_wp2
      exact opq_end hR ⟨rfl, b0⟩
    · subst q
      go_wp2
      exact opq_end hR ⟨rfl, b0⟩
  obtain ⟨L1, L2, SC⟩ := rmake_ok er
  replace SC := hide SC
  replace er := hide er
  obtain ⟨u, eu, ul, ub⟩ := rtxt_bytes c SC.out
  replace eu := hide eu
  have ep : Hid (rmake (isgn (byt u)).1 (rsplit (isgn (byt u)).2) = .inl c) := by show _ = _; rw [eu.out, parse_rtxt, if_neg (by omega)]
  clear ul L1 L2
  go_wp2_with fail
  refine (rParse_yes (s := s) (by omega) (T.out.below b0.out) (M.out.below b0.out) c er.out).mono ?_
  rintro e w8 ⟨v8, rfl, d0, r8⟩
  replace K1 := hide (K1.out.below' d0)
  replace B := hide (B.out.below d0)
  replace K6 := hide (K6.out.below' d0)
  replace b0 := hide (below_tr b0.out d0)
  have C := hide (r8.can)
  clear d0
  clear r8
  obtain ⟨b8, A8, n8, c8, D8, m8, k8, rfl⟩ := C.out.slice
  have K8 := hide (Blk.new_at w8 (w8.heap.size) (by simp) 27 #[.bool b8, .slice A8 n8 c8, .slice D8 m8 k8])
  have y := (Below.refl w8.heap.size w8).alloc (Nat.le_refl _) (.cells #[.bool b8, .slice A8 n8 c8, .slice D8 m8 k8] 27)
  replace K1 := hide (K1.out.below' y)
  replace B := hide (B.out.below y)
  replace K6 := hide (K6.out.below' y)
  replace C := hide (C.out.below y)
  replace b0 := hide (below_tr b0.out y)
  clear y
  have K8c0 : (w8.alloc (.cells #[.bool b8, .slice A8 n8 c8, .slice D8 m8 k8] 27)).cell? ⟨w8.heap.size, 0, none⟩ = some (.bool b8) := K8.out.at_ 0 rfl
  have K8c1 : (w8.alloc (.cells #[.bool b8, .slice A8 n8 c8, .slice D8 m8 k8] 27)).cell? ⟨w8.heap.size, 1, none⟩ = some (.slice A8 n8 c8) := K8.out.at_ 1 rfl
  have K8c2 : (w8.alloc (.cells #[.bool b8, .slice A8 n8 c8, .slice D8 m8 k8] 27)).cell? ⟨w8.heap.size, 2, none⟩ = some (.slice D8 m8 k8) := K8.out.at_ 2 rfl
  go_wp2_with fail
  refine (rText_S (C.out.arg (SC.out.up (by decide))) (SC.out.up (by decide)) (T.out.below b0.out) u eu.out).mono ?_
  rintro e w9 ⟨_, rfl, d0, rfl⟩
  replace K1 := hide (K1.out.below' d0)
  replace B := hide (B.out.below d0)
  replace K6 := hide (K6.out.below' d0)
  replace C := hide (C.out.below d0)
  replace K8 := hide (K8.out.below' d0)
  replace b0 := hide (below_tr b0.out d0)
  clear d0
  clear K8c0 K8c1 K8c2
  have K8c0 : w9.cell? ⟨w8.heap.size, 0, none⟩ = some (.bool b8) := K8.out.at_ 0 rfl
  have K8c1 : w9.cell? ⟨w8.heap.size, 1, none⟩ = some (.slice A8 n8 c8) := K8.out.at_ 1 rfl
  have K8c2 : w9.cell? ⟨w8.heap.size, 2, none⟩ = some (.slice D8 m8 k8) := K8.out.at_ 2 rfl
  go_wp2_with fail
  refine (rParse_yes (s := u) (by omega) (T.out.below b0.out) (M.out.below b0.out) c ep.out).mono ?_
  rintro e w10 ⟨v9, rfl, d0, r9⟩
  replace K1 := hide (K1.out.below' d0)
  replace B := hide (B.out.below d0)
  replace K6 := hide (K6.out.below' d0)
  replace C := hide (C.out.below d0)
  replace K8 := hide (K8.out.below' d0)
  replace b0 := hide (below_tr b0.out d0)
  have E := hide (r9.can)
  clear d0
  clear r9
  obtain ⟨b9, A9, n9, c9, D9, m9, k9, rfl⟩ := E.out.slice
  clear K8c0 K8c1 K8c2
  have K8c0 : w10.cell? ⟨w8.heap.size, 0, none⟩ = some (.bool b8) := K8.out.at_ 0 rfl
  have K8c1 : w10.cell? ⟨w8.heap.size, 1, none⟩ = some (.slice A8 n8 c8) := K8.out.at_ 1 rfl
  have K8c2 : w10.cell? ⟨w8.heap.size, 2, none⟩ = some (.slice D8 m8 k8) := K8.out.at_ 2 rfl
  have K11 := hide (Blk.new_at w10 (w10.heap.size) (by simp) 27 #[.bool b9, .slice A9 n9 c9, .slice D9 m9 k9])
  have y := (Below.refl w10.heap.size w10).alloc (Nat.le_refl _) (.cells #[.bool b9, .slice A9 n9 c9, .slice D9 m9 k9] 27)
  replace K1 := hide (K1.out.below' y)
  replace B := hide (B.out.below y)
  replace K6 := hide (K6.out.below' y)
  replace C := hide (C.out.below y)
  replace K8 := hide (K8.out.below' y)
  replace E := hide (E.out.below y)
  replace b0 := hide (below_tr b0.out y)
  clear y
  have K8d0 : (w10.alloc (.cells #[.bool b9, .slice A9 n9 c9, .slice D9 m9 k9] 27)).cell? ⟨w8.heap.size, 0, none⟩ = some (.bool b8) := K8.out.at_ 0 rfl
  have K8d1 : (w10.alloc (.cells #[.bool b9, .slice A9 n9 c9, .slice D9 m9 k9] 27)).cell? ⟨w8.heap.size, 1, none⟩ = some (.slice A8 n8 c8) := K8.out.at_ 1 rfl
  have K8d2 : (w10.alloc (.cells #[.bool b9, .slice A9 n9 c9, .slice D9 m9 k9] 27)).cell? ⟨w8.heap.size, 2, none⟩ = some (.slice D8 m8 k8) := K8.out.at_ 2 rfl
  go_wp2_with fail
  refine (rCheck_can C.out (SC.out.up (by decide)) (T.out.below b0.out)).mono ?_
  rintro e w11 ⟨_, rfl, d0, rfl⟩
  replace K1 := hide (K1.out.below' d0)
  replace B := hide (B.out.below d0)
  replace K6 := hide (K6.out.below' d0)
  replace C := hide (C.out.below d0)
  replace K8 := hide (K8.out.below' d0)
  replace E := hide (E.out.below d0)
  replace K11 := hide (K11.out.below' d0)
  replace b0 := hide (below_tr b0.out d0)
  clear d0
  clear K8c0 K8c1 K8c2
  clear K8d0 K8d1 K8d2
  have K8c0 : w11.cell? ⟨w8.heap.size, 0, none⟩ = some (.bool b8) := K8.out.at_ 0 rfl
  have K8c1 : w11.cell? ⟨w8.heap.size, 1, none⟩ = some (.slice A8 n8 c8) := K8.out.at_ 1 rfl
  have K8c2 : w11.cell? ⟨w8.heap.size, 2, none⟩ = some (.slice D8 m8 k8) := K8.out.at_ 2 rfl
  have K11c0 : w11.cell? ⟨w10.heap.size, 0, none⟩ = some (.bool b9) := K11.out.at_ 0 rfl
  have K11c1 : w11.cell? ⟨w10.heap.size, 1, none⟩ = some (.slice A9 n9 c9) := K11.out.at_ 1 rfl
  have K11c2 : w11.cell? ⟨w10.heap.size, 2, none⟩ = some (.slice D9 m9 k9) := K11.out.at_ 2 rfl
  go_wp2_with fail
  refine (rsame_yes C.out E.out rfl).mono ?_
  rintro e w12 ⟨_, rfl, d0, rfl⟩
  replace K1 := hide (K1.out.below' d0)
  replace B := hide (B.out.below d0)
  replace K6 := hide (K6.out.below' d0)
  replace C := hide (C.out.below d0)
  replace K8 := hide (K8.out.below' d0)
  replace E := hide (E.out.below d0)
  replace K11 := hide (K11.out.below' d0)
  replace b0 := hide (below_tr b0.out d0)
  clear d0
  clear K8c0 K8c1 K8c2 K11c0 K11c1 K11c2
  have K8c0 : w12.cell? ⟨w8.heap.size, 0, none⟩ = some (.bool b8) := K8.out.at_ 0 rfl
  have K8c1 : w12.cell? ⟨w8.heap.size, 1, none⟩ = some (.slice A8 n8 c8) := K8.out.at_ 1 rfl
  have K8c2 : w12.cell? ⟨w8.heap.size, 2, none⟩ = some (.slice D8 m8 k8) := K8.out.at_ 2 rfl
  have K11c0 : w12.cell? ⟨w10.heap.size, 0, none⟩ = some (.bool b9) := K11.out.at_ 0 rfl
  have K11c1 : w12.cell? ⟨w10.heap.size, 1, none⟩ = some (.slice A9 n9 c9) := K11.out.at_ 1 rfl
  have K11c2 : w12.cell? ⟨w10.heap.size, 2, none⟩ = some (.slice D9 m9 k9) := K11.out.at_ 2 rfl
  go_wp2_with fail
  refine (rText_S (E.out.arg (SC.out.up (by decide))) (SC.out.up (by decide)) (T.out.below b0.out) u eu.out).mono ?_
  rintro e w13 ⟨_, rfl, d0, rfl⟩
  replace K1 := hide (K1.out.below' d0)
  replace B := hide (B.out.below d0)
  replace K6 := hide (K6.out.below' d0)
  replace C := hide (C.out.below d0)
  replace K8 := hide (K8.out.below' d0)
  replace E := hide (E.out.below d0)
  replace K11 := hide (K11.out.below' d0)
  replace b0 := hide (below_tr b0.out d0)
  clear d0
  clear K8c0 K8c1 K8c2 K11c0 K11c1 K11c2
  go_wp2
  exact opq_end hR ⟨ret_bool (by simp), b0⟩
end Go.Proofs.YtnpfochbpdfcmaaGreatDoor
