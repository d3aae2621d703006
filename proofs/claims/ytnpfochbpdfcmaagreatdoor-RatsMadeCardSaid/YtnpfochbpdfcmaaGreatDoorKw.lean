/- the laws of rats: RatsMade. -/
import Derived.Test.YtnpfochbpdfcmaaGreatDoorKm
set_option linter.unusedVariables false
set_option linter.unusedSimpArgs false
set_option maxRecDepth 100000
namespace Go.Proofs.YtnpfochbpdfcmaaGreatDoor
open Go.RowKit

theorem iprt_raw {w : World} {A : Option Addr} {n c : Nat} {xs : List Nat} (b : Bool) (h : Rd w A n xs) (h32 : Is32 xs) (hc : n ≤ c) (hn : n ≤ 4398046511104) : IPrt w (.agg #[.bool b, .slice A n c]) b xs := ⟨_, rfl, A, n, c, rfl, hc, hn, h, h32⟩
theorem cmpI0 {z : Int} (h : z ≠ 0) : ∃ s : Int, Hid (cmpI z 0 = s) ∧ (s == 0) = false ∧ (s != 0) = true := by
  rcases Int.lt_trichotomy z 0 with h1 | h1 | h1
  · exact ⟨-1, cmpI_lt h1, rfl, rfl⟩
  · exact absurd h1 h
  · exact ⟨1, cmpI_gt h1, rfl, rfl⟩
set_option maxHeartbeats 8000000 in
theorem RatsMade_ok (w : World) (b1 : Bool) (A1 : Option Addr) (n1 c1 : Nat) (xs1 : List Nat) (b2 : Bool) (A2 : Option Addr) (n2 c2 : Nat) (xs2 : List Nat) (b3 : Bool) (A3 : Option Addr) (n3 c3 : Nat) (xs3 : List Nat) (h1 : Rd w A1 n1 xs1) (i1 : Is32 xs1) (l1 : n1 ≤ c1) (h2 : Rd w A2 n2 xs2) (i2 : Is32 xs2) (l2 : n2 ≤ c2) (h3 : Rd w A3 n3 xs3) (i3 : Is32 xs3) (l3 : n3 ≤ c3) (hT : Tab w) (hM : MaxL w) :
    Calls Tryz.prog 6 #[.agg #[.bool b1, .slice A1 n1 c1], .agg #[.bool b2, .slice A2 n2 c2], .agg #[.bool b3, .slice A3 n3 c3]] w fun e w' => e = .returned (.bool true) ∧ Hid (Below w.heap.size w w') := by
  refine opq fun R hR => ?_
  have T := hide hT
  have M := hide hM
  clear hT hM
  replace h1 := hide h1
  replace i1 := hide i1
  replace h2 := hide h2
  replace i2 := hide i2
  replace h3 := hide h3
  replace i3 := hide i3
  go_enter Tryz.func6, Tryz.ntmps6
  have b0 := hide (Below.refl w.heap.size w)
  have K1 := hide (Blk.new_at w (w.heap.size) (by simp) 25 #[.bool b1, .slice A1 n1 c1])
  have y := (Below.refl w.heap.size w).alloc (Nat.le_refl _) (.cells #[.bool b1, .slice A1 n1 c1] 25)
  replace b0 := hide (below_tr b0.out y)
  clear y
  have K2 := hide (Blk.new_at (w.alloc (.cells #[.bool b1, .slice A1 n1 c1] 25)) (w.heap.size + 1) (by simp) 25 #[.bool b2, .slice A2 n2 c2])
  have y := (Below.refl (w.alloc (.cells #[.bool b1, .slice A1 n1 c1] 25)).heap.size (w.alloc (.cells #[.bool b1, .slice A1 n1 c1] 25))).alloc (Nat.le_refl _) (.cells #[.bool b2, .slice A2 n2 c2] 25)
  replace K1 := hide (K1.out.below' y)
  replace b0 := hide (below_tr b0.out y)
  clear y
  have K3 := hide (Blk.new_at ((w.alloc (.cells #[.bool b1, .slice A1 n1 c1] 25)).alloc (.cells #[.bool b2, .slice A2 n2 c2] 25)) (w.heap.size + 1 + 1) (by simp) 25 #[.bool b3, .slice A3 n3 c3])
  have y := (Below.refl ((w.alloc (.cells #[.bool b1, .slice A1 n1 c1] 25)).alloc (.cells #[.bool b2, .slice A2 n2 c2] 25)).heap.size ((w.alloc (.cells #[.bool b1, .slice A1 n1 c1] 25)).alloc (.cells #[.bool b2, .slice A2 n2 c2] 25))).alloc (Nat.le_refl _) (.cells #[.bool b3, .slice A3 n3 c3] 25)
  replace K1 := hide (K1.out.below' y)
  replace K2 := hide (K2.out.below' y)
  replace b0 := hide (below_tr b0.out y)
  clear y
  go_wp2_with fail
  refine (ralive_P _ (T.out.below b0.out) (M.out.below b0.out)).mono ?_
  rintro e w1 ⟨_, rfl, d0, rfl⟩
  replace K1 := hide (K1.out.below' d0)
  replace K2 := hide (K2.out.below' d0)
  replace K3 := hide (K3.out.below' d0)
  replace b0 := hide (below_tr b0.out d0)
  clear d0
  have K1c0 : w1.cell? ⟨w.heap.size, 0, none⟩ = some (.bool b1) := K1.out.at_ 0 rfl
  have K1c1 : w1.cell? ⟨w.heap.size, 1, none⟩ = some (.slice A1 n1 c1) := K1.out.at_ 1 rfl
  have K2c0 : w1.cell? ⟨w.heap.size + 1, 0, none⟩ = some (.bool b2) := K2.out.at_ 0 rfl
  have K2c1 : w1.cell? ⟨w.heap.size + 1, 1, none⟩ = some (.slice A2 n2 c2) := K2.out.at_ 1 rfl
  have K3c0 : w1.cell? ⟨w.heap.size + 1 + 1, 0, none⟩ = some (.bool b3) := K3.out.at_ 0 rfl
  have K3c1 : w1.cell? ⟨w.heap.size + 1 + 1, 1, none⟩ = some (.slice A3 n3 c3) := K3.out.at_ 1 rfl
  by_cases g1 : 20 < n1
  case pos =>
    go_wp2_with fail
    refine (ralive_P _ (T.out.below b0.out) (M.out.below b0.out)).mono ?_
    rintro e w2 ⟨_, rfl, d0, rfl⟩
    replace K1 := hide (K1.out.below' d0)
    replace K2 := hide (K2.out.below' d0)
    replace K3 := hide (K3.out.below' d0)
    replace b0 := hide (below_tr b0.out d0)
    clear d0
    go_wp2
    exact opq_end hR ⟨rfl, b0⟩
  by_cases g2 : 20 < n2
  case pos =>
    go_wp2_with fail
    refine (ralive_P _ (T.out.below b0.out) (M.out.below b0.out)).mono ?_
    rintro e w2 ⟨_, rfl, d0, rfl⟩
    replace K1 := hide (K1.out.below' d0)
    replace K2 := hide (K2.out.below' d0)
    replace K3 := hide (K3.out.below' d0)
    replace b0 := hide (below_tr b0.out d0)
    clear d0
    go_wp2
    exact opq_end hR ⟨rfl, b0⟩
  by_cases g3 : 20 < n3
  case pos =>
    go_wp2_with fail
    refine (ralive_P _ (T.out.below b0.out) (M.out.below b0.out)).mono ?_
    rintro e w2 ⟨_, rfl, d0, rfl⟩
    replace K1 := hide (K1.out.below' d0)
    replace K2 := hide (K2.out.below' d0)
    replace K3 := hide (K3.out.below' d0)
    replace b0 := hide (below_tr b0.out d0)
    clear d0
    go_wp2
    exact opq_end hR ⟨rfl, b0⟩
  have P1 := hide (iprt_raw b1 h1.out i1.out l1 (by omega))
  have S1 : Hid (L (iv b1 xs1).natAbs ≤ 20) := Nat.le_trans (iv_L i1.out) (by rw [h1.out.1]; omega)
  have P2 := hide (iprt_raw b2 h2.out i2.out l2 (by omega))
  have S2 : Hid (L (iv b2 xs2).natAbs ≤ 20) := Nat.le_trans (iv_L i2.out) (by rw [h2.out.1]; omega)
  have P3 := hide (iprt_raw b3 h3.out i3.out l3 (by omega))
  have S3 : Hid (L (iv b3 xs3).natAbs ≤ 20) := Nat.le_trans (iv_L i3.out) (by rw [h3.out.1]; omega)
  by_cases r1 : iok b1 xs1 = false
  case pos =>
    go_wp2_with fail
    refine (iCheck_P (P1.out.below b0.out) false r1).mono ?_
    rintro e w2 ⟨_, rfl, d0, rfl⟩
    replace K1 := hide (K1.out.below' d0)
    replace K2 := hide (K2.out.below' d0)
    replace K3 := hide (K3.out.below' d0)
    replace b0 := hide (below_tr b0.out d0)
    clear d0
    go_wp2_with fail
    refine (ralive_P _ (T.out.below b0.out) (M.out.below b0.out)).mono ?_
    rintro e w3 ⟨_, rfl, d0, rfl⟩
    replace K1 := hide (K1.out.below' d0)
    replace K2 := hide (K2.out.below' d0)
    replace K3 := hide (K3.out.below' d0)
    replace b0 := hide (below_tr b0.out d0)
    clear d0
    go_wp2
    exact opq_end hR ⟨rfl, b0⟩
  replace r1 : iok b1 xs1 = true := by simpa using r1
  go_wp2_with fail
  refine (iCheck_P (P1.out.below b0.out) true r1).mono ?_
  rintro e w2 ⟨_, rfl, d0, rfl⟩
  replace K1 := hide (K1.out.below' d0)
  replace K2 := hide (K2.out.below' d0)
  replace K3 := hide (K3.out.below' d0)
  replace b0 := hide (below_tr b0.out d0)
  clear d0
  clear K1c0 K1c1 K2c0 K2c1 K3c0 K3c1
  have K1c0 : w2.cell? ⟨w.heap.size, 0, none⟩ = some (.bool b1) := K1.out.at_ 0 rfl
  have K1c1 : w2.cell? ⟨w.heap.size, 1, none⟩ = some (.slice A1 n1 c1) := K1.out.at_ 1 rfl
  have K2c0 : w2.cell? ⟨w.heap.size + 1, 0, none⟩ = some (.bool b2) := K2.out.at_ 0 rfl
  have K2c1 : w2.cell? ⟨w.heap.size + 1, 1, none⟩ = some (.slice A2 n2 c2) := K2.out.at_ 1 rfl
  have K3c0 : w2.cell? ⟨w.heap.size + 1 + 1, 0, none⟩ = some (.bool b3) := K3.out.at_ 0 rfl
  have K3c1 : w2.cell? ⟨w.heap.size + 1 + 1, 1, none⟩ = some (.slice A3 n3 c3) := K3.out.at_ 1 rfl
  by_cases r2 : iok b2 xs2 = false
  case pos =>
    go_wp2_with fail
    refine (iCheck_P (P2.out.below b0.out) false r2).mono ?_
    rintro e w3 ⟨_, rfl, d0, rfl⟩
    replace K1 := hide (K1.out.below' d0)
    replace K2 := hide (K2.out.below' d0)
    replace K3 := hide (K3.out.below' d0)
    replace b0 := hide (below_tr b0.out d0)
    clear d0
    go_wp2_with fail
    refine (ralive_P _ (T.out.below b0.out) (M.out.below b0.out)).mono ?_
    rintro e w4 ⟨_, rfl, d0, rfl⟩
    replace K1 := hide (K1.out.below' d0)
    replace K2 := hide (K2.out.below' d0)
    replace K3 := hide (K3.out.below' d0)
    replace b0 := hide (below_tr b0.out d0)
    clear d0
    go_wp2
    exact opq_end hR ⟨rfl, b0⟩
  replace r2 : iok b2 xs2 = true := by simpa using r2
  go_wp2_with fail
  refine (iCheck_P (P2.out.below b0.out) true r2).mono ?_
  rintro e w3 ⟨_, rfl, d0, rfl⟩
  replace K1 := hide (K1.out.below' d0)
  replace K2 := hide (K2.out.below' d0)
  replace K3 := hide (K3.out.below' d0)
  replace b0 := hide (below_tr b0.out d0)
  clear d0
  clear K1c0 K1c1 K2c0 K2c1 K3c0 K3c1
  have K1c0 : w3.cell? ⟨w.heap.size, 0, none⟩ = some (.bool b1) := K1.out.at_ 0 rfl
  have K1c1 : w3.cell? ⟨w.heap.size, 1, none⟩ = some (.slice A1 n1 c1) := K1.out.at_ 1 rfl
  have K2c0 : w3.cell? ⟨w.heap.size + 1, 0, none⟩ = some (.bool b2) := K2.out.at_ 0 rfl
  have K2c1 : w3.cell? ⟨w.heap.size + 1, 1, none⟩ = some (.slice A2 n2 c2) := K2.out.at_ 1 rfl
  have K3c0 : w3.cell? ⟨w.heap.size + 1 + 1, 0, none⟩ = some (.bool b3) := K3.out.at_ 0 rfl
  have K3c1 : w3.cell? ⟨w.heap.size + 1 + 1, 1, none⟩ = some (.slice A3 n3 c3) := K3.out.at_ 1 rfl
  by_cases r3 : iok b3 xs3 = false
  case pos =>
    go_wp2_with fail
    refine (iCheck_P (P3.out.below b0.out) false r3).mono ?_
    rintro e w4 ⟨_, rfl, d0, rfl⟩
    replace K1 := hide (K1.out.below' d0)
    replace K2 := hide (K2.out.below' d0)
    replace K3 := hide (K3.out.below' d0)
    replace b0 := hide (below_tr b0.out d0)
    clear d0
    go_wp2_with fail
    refine (ralive_P _ (T.out.below b0.out) (M.out.below b0.out)).mono ?_
    rintro e w5 ⟨_, rfl, d0, rfl⟩
    replace K1 := hide (K1.out.below' d0)
    replace K2 := hide (K2.out.below' d0)
    replace K3 := hide (K3.out.below' d0)
    replace b0 := hide (below_tr b0.out d0)
    clear d0
    go_wp2
    exact opq_end hR ⟨rfl, b0⟩
  replace r3 : iok b3 xs3 = true := by simpa using r3
  go_wp2_with fail
  refine (iCheck_P (P3.out.below b0.out) true r3).mono ?_
  rintro e w4 ⟨_, rfl, d0, rfl⟩
  replace K1 := hide (K1.out.below' d0)
  replace K2 := hide (K2.out.below' d0)
  replace K3 := hide (K3.out.below' d0)
  replace b0 := hide (below_tr b0.out d0)
  clear d0
  clear K1c0 K1c1 K2c0 K2c1 K3c0 K3c1
  have K1c0 : w4.cell? ⟨w.heap.size, 0, none⟩ = some (.bool b1) := K1.out.at_ 0 rfl
  have K1c1 : w4.cell? ⟨w.heap.size, 1, none⟩ = some (.slice A1 n1 c1) := K1.out.at_ 1 rfl
  have K2c0 : w4.cell? ⟨w.heap.size + 1, 0, none⟩ = some (.bool b2) := K2.out.at_ 0 rfl
  have K2c1 : w4.cell? ⟨w.heap.size + 1, 1, none⟩ = some (.slice A2 n2 c2) := K2.out.at_ 1 rfl
  have K3c0 : w4.cell? ⟨w.heap.size + 1 + 1, 0, none⟩ = some (.bool b3) := K3.out.at_ 0 rfl
  have K3c1 : w4.cell? ⟨w.heap.size + 1 + 1, 1, none⟩ = some (.slice A3 n3 c3) := K3.out.at_ 1 rfl
  have a1 := hide (P1.out.can r1)
  clear P1 h1 i1 r1
  generalize iv b1 xs1 = x at *
  have a2 := hide (P2.out.can r2)
  clear P2 h2 i2 r2
  generalize iv b2 xs2 = y at *
  have a3 := hide (P3.out.can r3)
  clear P3 h3 i3 r3
  generalize iv b3 xs3 = z at *
  clear K1c0 K1c1 K2c0 K2c1 K3c0 K3c1
  by_cases hy : y = 0
  case pos =>
    replace hy := hide hy
    have K1c0 : w4.cell? ⟨w.heap.size, 0, none⟩ = some (.bool b1) := K1.out.at_ 0 rfl
    have K1c1 : w4.cell? ⟨w.heap.size, 1, none⟩ = some (.slice A1 n1 c1) := K1.out.at_ 1 rfl
    have K2c0 : w4.cell? ⟨w.heap.size + 1, 0, none⟩ = some (.bool b2) := K2.out.at_ 0 rfl
    have K2c1 : w4.cell? ⟨w.heap.size + 1, 1, none⟩ = some (.slice A2 n2 c2) := K2.out.at_ 1 rfl
    have K3c0 : w4.cell? ⟨w.heap.size + 1 + 1, 0, none⟩ = some (.bool b3) := K3.out.at_ 0 rfl
    have K3c1 : w4.cell? ⟨w.heap.size + 1 + 1, 1, none⟩ = some (.slice A3 n3 c3) := K3.out.at_ 1 rfl
    go_wp2_with fail
    refine (rMake_zero (a1.out.below b0.out) (a2.out.below b0.out) (L_up S1.out (by decide)) (L_up S2.out (by decide)) hy.out (T.out.below b0.out)).mono ?_
    rintro e w5 ⟨rfl, d0⟩
    replace K1 := hide (K1.out.below' d0)
    replace K2 := hide (K2.out.below' d0)
    replace K3 := hide (K3.out.below' d0)
    replace b0 := hide (below_tr b0.out d0)
    clear d0
    clear K1c0 K1c1 K2c0 K2c1 K3c0 K3c1
    have K7 := hide (Blk.new_at w5 (w5.heap.size) (by simp) 27 #[.bool false, .slice none 0 0, .slice none 0 0])
    have y := (Below.refl w5.heap.size w5).alloc (Nat.le_refl _) (.cells #[.bool false, .slice none 0 0, .slice none 0 0] 27)
    replace K1 := hide (K1.out.below' y)
    replace K2 := hide (K2.out.below' y)
    replace K3 := hide (K3.out.below' y)
    replace b0 := hide (below_tr b0.out y)
    clear y
    go_wp2
    obtain ⟨V1_5, hV⟩ : ∃ V, (w5.alloc (.cells #[.bool false, .slice none 0 0, .slice none 0 0] 27)) = V := ⟨_, rfl⟩
    rw [hV] at K1 K2 K3 K7 b0
    rw [hV]
    clear hV
    refine RR.wp_region_R 12 V1_5 9 65 [(58, (.int0 w x)), (59, (.int0 w z)), (60, (.intR (x * z) V1_5.heap.size)), (61, (.int0 w y)), (62, (.int0 w z)), (63, (.intR (y * z) V1_5.heap.size)), (64, .eq (.tuple #[.agg #[.bool false, .slice none 0 0, .slice none 0 0], .int .i64 10])), (57, .eq (.tuple #[.agg #[.bool false, .slice none 0 0, .slice none 0 0], .int .i64 10])), (65, .eq (.agg #[.bool false, .slice none 0 0, .slice none 0 0])), (66, .eq (.int .i64 10)), (9, (.var TR 3))] [false, false, false, false, false, false, false, false, false, true, false, false, false, false, false, false, false, false, false, false, false, false, false, false, false, false, false, false, false, false, false, false, false, false, false, false, false, false, false, false, false, false, false, false, false, false, false, false, false, false, false, false, false, false, false, false, false, true, true, true, true, true, true, true, true, true, true, false, false, false, false, false, false, false, false, false, false, false, false, false, false, false, false, false, false, false, false, false, false, false, false, false, false, false, false, false, false, false, false, false, false, false, false, false, false, false, false, false, false, false, false, false, false, false, false, false, false, false, false, false, false, false, false, false, false, false, false, false, false, false, false, false] mixed (by kernel_rfl) (by kernel_rfl) (by kernel_rfl) (Below.refl _ _).drew (by kernel_rfl) (by kernel_rfl) (by kernel_rfl) ⟨?_, ?_, ?_, ?_, ?_, ?_, ?_, ?_, ?_, ?_, ?_, ?_, trivial⟩ ?_
    · exact (.inl ⟨rfl, .load (.agg #[.bool b1, .slice A1 n1 c1]) (.inl rfl) rfl rfl (fun a w' hC hs hl => by rw [show a.eval (.tmp 3) = (.pointer (some ⟨w.heap.size, 0, none⟩) : Value) from (hs 3 (by kernel_rfl))]; exact ⟨ld_Int_ ((K1.out.below' hC).at_ 0 rfl) ((K1.out.below' hC).at_ 1 rfl), a1.out⟩)⟩)
    · exact (.inl ⟨rfl, .load (.agg #[.bool b3, .slice A3 n3 c3]) (.inl rfl) rfl rfl (fun a w' hC hs hl => by rw [show a.eval (.tmp 5) = (.pointer (some ⟨w.heap.size + 1 + 1, 0, none⟩) : Value) from (hs 5 (by kernel_rfl))]; exact ⟨ld_Int_ ((K3.out.below' hC).at_ 0 rfl) ((K3.out.below' hC).at_ 1 rfl), a3.out⟩)⟩)
    · exact (.inl ⟨rfl, .call (.inl rfl) rfl rfl fn_iMul (fun a w' hC hs hl => iMul_R _ hC.size (ICan.arg (ICan.below (hl 58 (by kernel_rfl) (by kernel_rfl)) (b0.out.trans (hC.mono b0.out.size))) (L_up S1.out (by decide))) (ICan.arg (ICan.below (hl 59 (by kernel_rfl) (by kernel_rfl)) (b0.out.trans (hC.mono b0.out.size))) (L_up S3.out (by decide))))⟩)
    · exact (.inl ⟨rfl, .load (.agg #[.bool b2, .slice A2 n2 c2]) (.inl rfl) rfl rfl (fun a w' hC hs hl => by rw [show a.eval (.tmp 4) = (.pointer (some ⟨w.heap.size + 1, 0, none⟩) : Value) from (hs 4 (by kernel_rfl))]; exact ⟨ld_Int_ ((K2.out.below' hC).at_ 0 rfl) ((K2.out.below' hC).at_ 1 rfl), a2.out⟩)⟩)
    · exact (.inl ⟨rfl, .load (.agg #[.bool b3, .slice A3 n3 c3]) (.inl rfl) rfl rfl (fun a w' hC hs hl => by rw [show a.eval (.tmp 5) = (.pointer (some ⟨w.heap.size + 1 + 1, 0, none⟩) : Value) from (hs 5 (by kernel_rfl))]; exact ⟨ld_Int_ ((K3.out.below' hC).at_ 0 rfl) ((K3.out.below' hC).at_ 1 rfl), a3.out⟩)⟩)
    · exact (.inl ⟨rfl, .call (.inl rfl) rfl rfl fn_iMul (fun a w' hC hs hl => iMul_R _ hC.size (ICan.arg (ICan.below (hl 61 (by kernel_rfl) (by kernel_rfl)) (b0.out.trans (hC.mono b0.out.size))) (L_up S2.out (by decide))) (ICan.arg (ICan.below (hl 62 (by kernel_rfl) (by kernel_rfl)) (b0.out.trans (hC.mono b0.out.size))) (L_up S3.out (by decide))))⟩)
    · exact (.inl ⟨rfl, .call (.inl rfl) rfl rfl fn_rMake (fun a w' hC hs hl => rMake_Z (IntR.can (hl 60 (by kernel_rfl) (by kernel_rfl))) (L_up (Z_mul S1.out S3.out (Nat.le_refl _)) (by decide)) (IntR.can (hl 63 (by kernel_rfl) (by kernel_rfl))) (L_up (Z_mul S2.out S3.out (Nat.le_refl _)) (by decide)) (T.out.below (b0.out.trans (hC.mono b0.out.size))) (by rw [hy.out, Int.zero_mul]))⟩)
    · exact (.inl ⟨rfl, .move (.inl rfl) (.inl rfl) rfl (by kernel_rfl) (by kernel_rfl) rfl⟩)
    · exact (.inl ⟨rfl, .value (.inl rfl) (by intro T e; cases e) rfl rfl (fun a w' hC hs hl => by
        have e0 : a.eval (.tmp 57) = (.tuple #[.agg #[.bool false, .slice none 0 0, .slice none 0 0], .int .i64 10]) := (hl 57 (by kernel_rfl) (by kernel_rfl))
        simp only [execOp, e0]
        skip
        simp [go_sem] <;> rfl)⟩)
    · exact (.inl ⟨rfl, .value (.inl rfl) (by intro T e; cases e) rfl rfl (fun a w' hC hs hl => by
        have e0 : a.eval (.tmp 57) = (.tuple #[.agg #[.bool false, .slice none 0 0, .slice none 0 0], .int .i64 10]) := (hl 57 (by kernel_rfl) (by kernel_rfl))
        simp only [execOp, e0]
        skip
        simp [go_sem] <;> rfl)⟩)
    · exact (.inl ⟨rfl, .alloc (.agg #[.bool false, .slice none 0 0, .slice none 0 0]) (.inl rfl) rfl rfl (fun a w' hC => ⟨run_alloc_Rat _ _ _ _ _ _ _, _, _, rfl, hC.size, Blk.new _ _ _, rfl⟩)⟩)
    · exact (.storeR (fun v w h => by cases h; exact ⟨_, _, _, _, _, _, _, rfl⟩) rfl rfl rfl (by kernel_rfl) (by kernel_rfl) (by kernel_rfl) (by kernel_rfl) rfl)
    intro f w6 hC hF _ hE
    obtain ⟨g9, b9, A9, n9, c9, D9, m9, k9, ep, lp, er, K9⟩ := hE
    have f66 : f 66 = .int .i64 10 := hF 66 (by kernel_rfl)
    replace K9 := hide K9
    clear hF lp
    simp only [patch, List.drop]
    rw [f66]
    clear f66
    generalize f 58 = y58_ at *
    generalize f 59 = y59_ at *
    generalize f 60 = y60_ at *
    generalize f 61 = y61_ at *
    generalize f 62 = y62_ at *
    generalize f 63 = y63_ at *
    generalize f 64 = y64_ at *
    generalize f 57 = y57_ at *
    generalize f 65 = y65_ at *
    generalize f 9 = y9_ at *
    subst er ep
    replace K1 := hide (K1.out.below' hC)
    replace K2 := hide (K2.out.below' hC)
    replace K3 := hide (K3.out.below' hC)
    replace K7 := hide (K7.out.below' hC)
    replace b0 := hide (b0.out.trans (hC.mono b0.out.size))
    clear hC
    have K1c0 : w6.cell? ⟨w.heap.size, 0, none⟩ = some (.bool b1) := K1.out.at_ 0 rfl
    have K1c1 : w6.cell? ⟨w.heap.size, 1, none⟩ = some (.slice A1 n1 c1) := K1.out.at_ 1 rfl
    have K2c0 : w6.cell? ⟨w.heap.size + 1, 0, none⟩ = some (.bool b2) := K2.out.at_ 0 rfl
    have K2c1 : w6.cell? ⟨w.heap.size + 1, 1, none⟩ = some (.slice A2 n2 c2) := K2.out.at_ 1 rfl
    have K3c0 : w6.cell? ⟨w.heap.size + 1 + 1, 0, none⟩ = some (.bool b3) := K3.out.at_ 0 rfl
    have K3c1 : w6.cell? ⟨w.heap.size + 1 + 1, 1, none⟩ = some (.slice A3 n3 c3) := K3.out.at_ 1 rfl
    go_wp2_with fail
    refine (iSign_P ((a2.out.below b0.out).arg (L_up S2.out (by decide))) 0 (by rw [hy.out]; rfl)).mono ?_
    rintro e w7 ⟨_, rfl, d0, rfl⟩
    replace K1 := hide (K1.out.below' d0)
    replace K2 := hide (K2.out.below' d0)
    replace K3 := hide (K3.out.below' d0)
    replace K7 := hide (K7.out.below' d0)
    replace K9 := hide (K9.out.below' d0)
    replace b0 := hide (below_tr b0.out d0)
    clear d0
    clear K1c0 K1c1 K2c0 K2c1 K3c0 K3c1
    go_wp2
    exact opq_end hR ⟨rfl, b0⟩
  obtain ⟨s, hs, hs0, _⟩ := cmpI0 hy
  replace hy := hide hy
  by_cases hz : z = 0
  case pos =>
    replace hz := hide hz
    have K1c0 : w4.cell? ⟨w.heap.size, 0, none⟩ = some (.bool b1) := K1.out.at_ 0 rfl
    have K1c1 : w4.cell? ⟨w.heap.size, 1, none⟩ = some (.slice A1 n1 c1) := K1.out.at_ 1 rfl
    have K2c0 : w4.cell? ⟨w.heap.size + 1, 0, none⟩ = some (.bool b2) := K2.out.at_ 0 rfl
    have K2c1 : w4.cell? ⟨w.heap.size + 1, 1, none⟩ = some (.slice A2 n2 c2) := K2.out.at_ 1 rfl
    have K3c0 : w4.cell? ⟨w.heap.size + 1 + 1, 0, none⟩ = some (.bool b3) := K3.out.at_ 0 rfl
    have K3c1 : w4.cell? ⟨w.heap.size + 1 + 1, 1, none⟩ = some (.slice A3 n3 c3) := K3.out.at_ 1 rfl
    go_wp2_with fail
    refine (rMake_ok (a1.out.below b0.out) (a2.out.below b0.out) (L_up S1.out (by decide)) (L_up S2.out (by decide)) hy.out (T.out.below b0.out)).mono ?_
    rintro e w5 ⟨v7, rfl, d0, r7⟩
    replace K1 := hide (K1.out.below' d0)
    replace K2 := hide (K2.out.below' d0)
    replace K3 := hide (K3.out.below' d0)
    replace b0 := hide (below_tr b0.out d0)
    have X := hide (r7.can)
    clear d0
    clear r7
    obtain ⟨b7, A7, n7, c7, D7, m7, k7, rfl⟩ := X.out.slice
    clear K1c0 K1c1 K2c0 K2c1 K3c0 K3c1
    have K7 := hide (Blk.new_at w5 (w5.heap.size) (by simp) 27 #[.bool b7, .slice A7 n7 c7, .slice D7 m7 k7])
    have y := (Below.refl w5.heap.size w5).alloc (Nat.le_refl _) (.cells #[.bool b7, .slice A7 n7 c7, .slice D7 m7 k7] 27)
    replace K1 := hide (K1.out.below' y)
    replace K2 := hide (K2.out.below' y)
    replace K3 := hide (K3.out.below' y)
    replace X := hide (X.out.below y)
    replace b0 := hide (below_tr b0.out y)
    clear y
    have HX : Hid (H (Rat.divInt x y) 20) := H_make S1.out S2.out (by decide)
    go_wp2
    obtain ⟨V1_5, hV⟩ : ∃ V, (w5.alloc (.cells #[.bool b7, .slice A7 n7 c7, .slice D7 m7 k7] 27)) = V := ⟨_, rfl⟩
    rw [hV] at K1 K2 K3 X K7 b0
    rw [hV]
    clear hV
    refine RR.wp_region_R 12 V1_5 9 65 [(58, (.int0 w x)), (59, (.int0 w z)), (60, (.intR (x * z) V1_5.heap.size)), (61, (.int0 w y)), (62, (.int0 w z)), (63, (.intR (y * z) V1_5.heap.size)), (64, .eq (.tuple #[.agg #[.bool false, .slice none 0 0, .slice none 0 0], .int .i64 10])), (57, .eq (.tuple #[.agg #[.bool false, .slice none 0 0, .slice none 0 0], .int .i64 10])), (65, .eq (.agg #[.bool false, .slice none 0 0, .slice none 0 0])), (66, .eq (.int .i64 10)), (9, (.var TR 3))] [false, false, false, false, false, false, false, false, false, true, false, false, false, false, false, false, false, false, false, false, false, false, false, false, false, false, false, false, false, false, false, false, false, false, false, false, false, false, false, false, false, false, false, false, false, false, false, false, false, false, false, false, false, false, false, false, false, true, true, true, true, true, true, true, true, true, true, false, false, false, false, false, false, false, false, false, false, false, false, false, false, false, false, false, false, false, false, false, false, false, false, false, false, false, false, false, false, false, false, false, false, false, false, false, false, false, false, false, false, false, false, false, false, false, false, false, false, false, false, false, false, false, false, false, false, false, false, false, false, false, false, false] mixed (by kernel_rfl) (by kernel_rfl) (by kernel_rfl) (Below.refl _ _).drew (by kernel_rfl) (by kernel_rfl) (by kernel_rfl) ⟨?_, ?_, ?_, ?_, ?_, ?_, ?_, ?_, ?_, ?_, ?_, ?_, trivial⟩ ?_
    · exact (.inl ⟨rfl, .load (.agg #[.bool b1, .slice A1 n1 c1]) (.inl rfl) rfl rfl (fun a w' hC hs hl => by rw [show a.eval (.tmp 3) = (.pointer (some ⟨w.heap.size, 0, none⟩) : Value) from (hs 3 (by kernel_rfl))]; exact ⟨ld_Int_ ((K1.out.below' hC).at_ 0 rfl) ((K1.out.below' hC).at_ 1 rfl), a1.out⟩)⟩)
    · exact (.inl ⟨rfl, .load (.agg #[.bool b3, .slice A3 n3 c3]) (.inl rfl) rfl rfl (fun a w' hC hs hl => by rw [show a.eval (.tmp 5) = (.pointer (some ⟨w.heap.size + 1 + 1, 0, none⟩) : Value) from (hs 5 (by kernel_rfl))]; exact ⟨ld_Int_ ((K3.out.below' hC).at_ 0 rfl) ((K3.out.below' hC).at_ 1 rfl), a3.out⟩)⟩)
    · exact (.inl ⟨rfl, .call (.inl rfl) rfl rfl fn_iMul (fun a w' hC hs hl => iMul_R _ hC.size (ICan.arg (ICan.below (hl 58 (by kernel_rfl) (by kernel_rfl)) (b0.out.trans (hC.mono b0.out.size))) (L_up S1.out (by decide))) (ICan.arg (ICan.below (hl 59 (by kernel_rfl) (by kernel_rfl)) (b0.out.trans (hC.mono b0.out.size))) (L_up S3.out (by decide))))⟩)
    · exact (.inl ⟨rfl, .load (.agg #[.bool b2, .slice A2 n2 c2]) (.inl rfl) rfl rfl (fun a w' hC hs hl => by rw [show a.eval (.tmp 4) = (.pointer (some ⟨w.heap.size + 1, 0, none⟩) : Value) from (hs 4 (by kernel_rfl))]; exact ⟨ld_Int_ ((K2.out.below' hC).at_ 0 rfl) ((K2.out.below' hC).at_ 1 rfl), a2.out⟩)⟩)
    · exact (.inl ⟨rfl, .load (.agg #[.bool b3, .slice A3 n3 c3]) (.inl rfl) rfl rfl (fun a w' hC hs hl => by rw [show a.eval (.tmp 5) = (.pointer (some ⟨w.heap.size + 1 + 1, 0, none⟩) : Value) from (hs 5 (by kernel_rfl))]; exact ⟨ld_Int_ ((K3.out.below' hC).at_ 0 rfl) ((K3.out.below' hC).at_ 1 rfl), a3.out⟩)⟩)
    · exact (.inl ⟨rfl, .call (.inl rfl) rfl rfl fn_iMul (fun a w' hC hs hl => iMul_R _ hC.size (ICan.arg (ICan.below (hl 61 (by kernel_rfl) (by kernel_rfl)) (b0.out.trans (hC.mono b0.out.size))) (L_up S2.out (by decide))) (ICan.arg (ICan.below (hl 62 (by kernel_rfl) (by kernel_rfl)) (b0.out.trans (hC.mono b0.out.size))) (L_up S3.out (by decide))))⟩)
    · exact (.inl ⟨rfl, .call (.inl rfl) rfl rfl fn_rMake (fun a w' hC hs hl => rMake_Z (IntR.can (hl 60 (by kernel_rfl) (by kernel_rfl))) (L_up (Z_mul S1.out S3.out (Nat.le_refl _)) (by decide)) (IntR.can (hl 63 (by kernel_rfl) (by kernel_rfl))) (L_up (Z_mul S2.out S3.out (Nat.le_refl _)) (by decide)) (T.out.below (b0.out.trans (hC.mono b0.out.size))) (by rw [hz.out, Int.mul_zero]))⟩)
    · exact (.inl ⟨rfl, .move (.inl rfl) (.inl rfl) rfl (by kernel_rfl) (by kernel_rfl) rfl⟩)
    · exact (.inl ⟨rfl, .value (.inl rfl) (by intro T e; cases e) rfl rfl (fun a w' hC hs hl => by
        have e0 : a.eval (.tmp 57) = (.tuple #[.agg #[.bool false, .slice none 0 0, .slice none 0 0], .int .i64 10]) := (hl 57 (by kernel_rfl) (by kernel_rfl))
        simp only [execOp, e0]
        skip
        simp [go_sem] <;> rfl)⟩)
    · exact (.inl ⟨rfl, .value (.inl rfl) (by intro T e; cases e) rfl rfl (fun a w' hC hs hl => by
        have e0 : a.eval (.tmp 57) = (.tuple #[.agg #[.bool false, .slice none 0 0, .slice none 0 0], .int .i64 10]) := (hl 57 (by kernel_rfl) (by kernel_rfl))
        simp only [execOp, e0]
        skip
        simp [go_sem] <;> rfl)⟩)
    · exact (.inl ⟨rfl, .alloc (.agg #[.bool false, .slice none 0 0, .slice none 0 0]) (.inl rfl) rfl rfl (fun a w' hC => ⟨run_alloc_Rat _ _ _ _ _ _ _, _, _, rfl, hC.size, Blk.new _ _ _, rfl⟩)⟩)
    · exact (.storeR (fun v w h => by cases h; exact ⟨_, _, _, _, _, _, _, rfl⟩) rfl rfl rfl (by kernel_rfl) (by kernel_rfl) (by kernel_rfl) (by kernel_rfl) rfl)
    intro f w6 hC hF _ hE
    obtain ⟨g9, b9, A9, n9, c9, D9, m9, k9, ep, lp, er, K9⟩ := hE
    have f66 : f 66 = .int .i64 10 := hF 66 (by kernel_rfl)
    replace K9 := hide K9
    clear hF lp
    simp only [patch, List.drop]
    rw [f66]
    clear f66
    generalize f 58 = y58_ at *
    generalize f 59 = y59_ at *
    generalize f 60 = y60_ at *
    generalize f 61 = y61_ at *
    generalize f 62 = y62_ at *
    generalize f 63 = y63_ at *
    generalize f 64 = y64_ at *
    generalize f 57 = y57_ at *
    generalize f 65 = y65_ at *
    generalize f 9 = y9_ at *
    subst er ep
    replace K1 := hide (K1.out.below' hC)
    replace K2 := hide (K2.out.below' hC)
    replace K3 := hide (K3.out.below' hC)
    replace X := hide (X.out.below hC)
    replace K7 := hide (K7.out.below' hC)
    replace b0 := hide (b0.out.trans (hC.mono b0.out.size))
    clear hC
    have K1c0 : w6.cell? ⟨w.heap.size, 0, none⟩ = some (.bool b1) := K1.out.at_ 0 rfl
    have K1c1 : w6.cell? ⟨w.heap.size, 1, none⟩ = some (.slice A1 n1 c1) := K1.out.at_ 1 rfl
    have K2c0 : w6.cell? ⟨w.heap.size + 1, 0, none⟩ = some (.bool b2) := K2.out.at_ 0 rfl
    have K2c1 : w6.cell? ⟨w.heap.size + 1, 1, none⟩ = some (.slice A2 n2 c2) := K2.out.at_ 1 rfl
    have K3c0 : w6.cell? ⟨w.heap.size + 1 + 1, 0, none⟩ = some (.bool b3) := K3.out.at_ 0 rfl
    have K3c1 : w6.cell? ⟨w.heap.size + 1 + 1, 1, none⟩ = some (.slice A3 n3 c3) := K3.out.at_ 1 rfl
    go_wp2_with fail
    refine (iSign_P ((a2.out.below b0.out).arg (L_up S2.out (by decide))) s hs.out).mono ?_
    rintro e w7 ⟨_, rfl, d0, rfl⟩
    replace K1 := hide (K1.out.below' d0)
    replace K2 := hide (K2.out.below' d0)
    replace K3 := hide (K3.out.below' d0)
    replace X := hide (X.out.below d0)
    replace K7 := hide (K7.out.below' d0)
    replace K9 := hide (K9.out.below' d0)
    replace b0 := hide (below_tr b0.out d0)
    clear d0
    clear K1c0 K1c1 K2c0 K2c1 K3c0 K3c1
    go_wp2
    refine RR.wp_region_R 8 w7 11 80 [(77, (.int0 w y)), (78, (.intR 1 w7.heap.size)), (79, (.tupE (.ratR (Rat.divInt y 1) w7.heap.size) (.int .i64 0))), (76, (.tupE (.ratR (Rat.divInt y 1) w7.heap.size) (.int .i64 0))), (80, (.ratR (Rat.divInt y 1) w7.heap.size)), (81, .eq ((.int .i64 0))), (11, (.var TR 3))] [false, false, false, false, false, false, false, false, false, false, false, true, false, false, false, false, false, false, false, false, false, false, false, false, false, false, false, false, false, false, false, false, false, false, false, false, false, false, false, false, false, false, false, false, false, false, false, false, false, false, false, false, false, false, false, false, false, false, false, false, false, false, false, false, false, false, false, false, false, false, false, false, false, false, false, false, true, true, true, true, true, true, false, false, false, false, false, false, false, false, false, false, false, false, false, false, false, false, false, false, false, false, false, false, false, false, false, false, false, false, false, false, false, false, false, false, false, false, false, false, false, false, false, false, false, false, false, false, false, false, false, false] mixed (by kernel_rfl) (by kernel_rfl) (by kernel_rfl) (Below.refl _ _).drew (by kernel_rfl) (by kernel_rfl) (by kernel_rfl) ⟨?_, ?_, ?_, ?_, ?_, ?_, ?_, ?_, trivial⟩ ?_
    · exact (.inl ⟨rfl, .load (.agg #[.bool b2, .slice A2 n2 c2]) (.inl rfl) rfl rfl (fun a w' hC hs hl => by rw [show a.eval (.tmp 4) = (.pointer (some ⟨w.heap.size + 1, 0, none⟩) : Value) from (hs 4 (by kernel_rfl))]; exact ⟨ld_Int_ ((K2.out.below' hC).at_ 0 rfl) ((K2.out.below' hC).at_ 1 rfl), a2.out⟩)⟩)
    · exact (.inl ⟨rfl, .call (.inl rfl) rfl rfl fn_iOf (fun a w' hC hs hl => RR.iOf_R w' _ hC.size 1 (by decide) (by decide))⟩)
    · exact (.inl ⟨rfl, .call (.inl rfl) rfl rfl fn_rMake (fun a w' hC hs hl => RR.rMake_T _ hC.size (ICan.below (hl 77 (by kernel_rfl) (by kernel_rfl)) (b0.out.trans (hC.mono b0.out.size))) (L_up S2.out (by decide)) (IntR.can (hl 78 (by kernel_rfl) (by kernel_rfl))) one_L (T.out.below (b0.out.trans (hC.mono b0.out.size))) (by decide))⟩)
    · exact (.inl ⟨rfl, .move (.inl rfl) (.inl rfl) rfl (by kernel_rfl) (by kernel_rfl) rfl⟩)
    · exact (.inl ⟨rfl, .make (.inl rfl) (by intro T e; cases e) rfl (fun a w' hC hs hl => by
      obtain ⟨u, e, h⟩ := (hl 76 (by kernel_rfl) (by kernel_rfl))
      have e' : a.tmps[76]?.getD undef = _ := (by simp [Act.eval] : _ = a.eval (.tmp 76)).trans e
      exact ⟨u, by simp [execOp, go_sem, e'], h⟩)⟩)
    · exact (.inl ⟨rfl, .make (.inl rfl) (by intro T e; cases e) rfl (fun a w' hC hs hl => by
      obtain ⟨u, e, h⟩ := (hl 76 (by kernel_rfl) (by kernel_rfl))
      have e' : a.tmps[76]?.getD undef = _ := (by simp [Act.eval] : _ = a.eval (.tmp 76)).trans e
      exact ⟨_, by simp [execOp, go_sem, e'], rfl⟩)⟩)
    · exact (.inl ⟨rfl, .alloc (.agg #[.bool false, .slice none 0 0, .slice none 0 0]) (.inl rfl) rfl rfl (fun a w' hC => ⟨run_alloc_Rat _ _ _ _ _ _ _, _, _, rfl, hC.size, Blk.new _ _ _, rfl⟩)⟩)
    · exact (.storeR (fun v w h => RatR.slice h) rfl rfl rfl (by kernel_rfl) (by kernel_rfl) (by kernel_rfl) (by kernel_rfl) rfl)
    intro f w8 hC hF _ hE
    obtain ⟨g11, b11, A11, n11, c11, D11, m11, k11, ep, lp, er, K11⟩ := hE
    have f81 : f 81 = (.int .i64 0) := hF 81 (by kernel_rfl)
    have fr : RatR (Rat.divInt y 1) w7.heap.size w8 (f 80) := hF 80 (by kernel_rfl)
    rw [er] at fr
    have D := hide fr.can
    clear fr
    replace K11 := hide K11
    clear hF lp
    simp only [patch, List.drop]
    rw [f81]
    clear f81
    generalize f 77 = y77_ at *
    generalize f 78 = y78_ at *
    generalize f 79 = y79_ at *
    generalize f 76 = y76_ at *
    generalize f 80 = y80_ at *
    generalize f 11 = y11_ at *
    subst er ep
    replace K1 := hide (K1.out.below' hC)
    replace K2 := hide (K2.out.below' hC)
    replace K3 := hide (K3.out.below' hC)
    replace X := hide (X.out.below hC)
    replace K7 := hide (K7.out.below' hC)
    replace K9 := hide (K9.out.below' hC)
    replace b0 := hide (b0.out.trans (hC.mono b0.out.size))
    clear hC
    have HD : Hid (H (Rat.divInt y 1) 20) := H_make S2.out (L_up (L_small (by decide)) (by decide)) (by decide)
    go_wp2
    refine RR.wp_region_R 8 w8 13 86 [(83, (.int0 w x)), (84, (.intR 1 w8.heap.size)), (85, (.tupE (.ratR (Rat.divInt x 1) w8.heap.size) (.int .i64 0))), (82, (.tupE (.ratR (Rat.divInt x 1) w8.heap.size) (.int .i64 0))), (86, (.ratR (Rat.divInt x 1) w8.heap.size)), (87, .eq ((.int .i64 0))), (13, (.var TR 3))] [false, false, false, false, false, false, false, false, false, false, false, false, false, true, false, false, false, false, false, false, false, false, false, false, false, false, false, false, false, false, false, false, false, false, false, false, false, false, false, false, false, false, false, false, false, false, false, false, false, false, false, false, false, false, false, false, false, false, false, false, false, false, false, false, false, false, false, false, false, false, false, false, false, false, false, false, false, false, false, false, false, false, true, true, true, true, true, true, false, false, false, false, false, false, false, false, false, false, false, false, false, false, false, false, false, false, false, false, false, false, false, false, false, false, false, false, false, false, false, false, false, false, false, false, false, false, false, false, false, false, false, false] mixed (by kernel_rfl) (by kernel_rfl) (by kernel_rfl) (Below.refl _ _).drew (by kernel_rfl) (by kernel_rfl) (by kernel_rfl) ⟨?_, ?_, ?_, ?_, ?_, ?_, ?_, ?_, trivial⟩ ?_
    · exact (.inl ⟨rfl, .load (.agg #[.bool b1, .slice A1 n1 c1]) (.inl rfl) rfl rfl (fun a w' hC hs hl => by rw [show a.eval (.tmp 3) = (.pointer (some ⟨w.heap.size, 0, none⟩) : Value) from (hs 3 (by kernel_rfl))]; exact ⟨ld_Int_ ((K1.out.below' hC).at_ 0 rfl) ((K1.out.below' hC).at_ 1 rfl), a1.out⟩)⟩)
    · exact (.inl ⟨rfl, .call (.inl rfl) rfl rfl fn_iOf (fun a w' hC hs hl => RR.iOf_R w' _ hC.size 1 (by decide) (by decide))⟩)
    · exact (.inl ⟨rfl, .call (.inl rfl) rfl rfl fn_rMake (fun a w' hC hs hl => RR.rMake_T _ hC.size (ICan.below (hl 83 (by kernel_rfl) (by kernel_rfl)) (b0.out.trans (hC.mono b0.out.size))) (L_up S1.out (by decide)) (IntR.can (hl 84 (by kernel_rfl) (by kernel_rfl))) one_L (T.out.below (b0.out.trans (hC.mono b0.out.size))) (by decide))⟩)
    · exact (.inl ⟨rfl, .move (.inl rfl) (.inl rfl) rfl (by kernel_rfl) (by kernel_rfl) rfl⟩)
    · exact (.inl ⟨rfl, .make (.inl rfl) (by intro T e; cases e) rfl (fun a w' hC hs hl => by
      obtain ⟨u, e, h⟩ := (hl 82 (by kernel_rfl) (by kernel_rfl))
      have e' : a.tmps[82]?.getD undef = _ := (by simp [Act.eval] : _ = a.eval (.tmp 82)).trans e
      exact ⟨u, by simp [execOp, go_sem, e'], h⟩)⟩)
    · exact (.inl ⟨rfl, .make (.inl rfl) (by intro T e; cases e) rfl (fun a w' hC hs hl => by
      obtain ⟨u, e, h⟩ := (hl 82 (by kernel_rfl) (by kernel_rfl))
      have e' : a.tmps[82]?.getD undef = _ := (by simp [Act.eval] : _ = a.eval (.tmp 82)).trans e
      exact ⟨_, by simp [execOp, go_sem, e'], rfl⟩)⟩)
    · exact (.inl ⟨rfl, .alloc (.agg #[.bool false, .slice none 0 0, .slice none 0 0]) (.inl rfl) rfl rfl (fun a w' hC => ⟨run_alloc_Rat _ _ _ _ _ _ _, _, _, rfl, hC.size, Blk.new _ _ _, rfl⟩)⟩)
    · exact (.storeR (fun v w h => RatR.slice h) rfl rfl rfl (by kernel_rfl) (by kernel_rfl) (by kernel_rfl) (by kernel_rfl) rfl)
    intro f w9 hC hF _ hE
    obtain ⟨g13, b13, A13, n13, c13, D13, m13, k13, ep, lp, er, K13⟩ := hE
    have f87 : f 87 = (.int .i64 0) := hF 87 (by kernel_rfl)
    have fr : RatR (Rat.divInt x 1) w8.heap.size w9 (f 86) := hF 86 (by kernel_rfl)
    rw [er] at fr
    have N := hide fr.can
    clear fr
    replace K13 := hide K13
    clear hF lp
    simp only [patch, List.drop]
    rw [f87]
    clear f87
    generalize f 83 = y83_ at *
    generalize f 84 = y84_ at *
    generalize f 85 = y85_ at *
    generalize f 82 = y82_ at *
    generalize f 86 = y86_ at *
    generalize f 13 = y13_ at *
    subst er ep
    replace K1 := hide (K1.out.below' hC)
    replace K2 := hide (K2.out.below' hC)
    replace K3 := hide (K3.out.below' hC)
    replace X := hide (X.out.below hC)
    replace K7 := hide (K7.out.below' hC)
    replace K9 := hide (K9.out.below' hC)
    replace K11 := hide (K11.out.below' hC)
    replace D := hide (D.out.below hC)
    replace b0 := hide (b0.out.trans (hC.mono b0.out.size))
    clear hC
    have HN : Hid (H (Rat.divInt x 1) 20) := H_make S1.out (L_up (L_small (by decide)) (by decide)) (by decide)
    go_wp2
    have Q1_ : Hid (H (((Rat.divInt x y) * (Rat.divInt y 1))) 40) := H_mul HX.out HD.out (by decide)
    refine wp_region_facts 23 (fun w' => Below w9.heap.size w9 w') [(88, .eq (.int .i64 (0))), (89, .eq (.bool false)), (90, .eq (.bool false)), (91, .eq (.int .i64 (0))), (92, .eq (.bool false)), (93, .eq (.bool false)), (94, .eq (.bool false)), (95, .eq (.int .i64 (0))), (96, .eq (.bool false)), (97, .eq (.bool false)), (98, .eq (.bool false)), (99, (.rat0 w9 (Rat.divInt x y))), (100, .eq (.bool true)), (101, .eq (.bool false)), (102, .eq (.bool false)), (103, .eq (.bool false)), (104, (.rat0 w9 (Rat.divInt x y))), (105, (.rat0 w9 (Rat.divInt y 1))), (106, (.rat ((Rat.divInt x y) * (Rat.divInt y 1)))), (107, (.rat0 w9 (Rat.divInt x 1))), (108, .eq (.bool true)), (109, .eq (.bool false)), (110, .eq (.bool false))] [false, false, false, false, false, false, false, false, false, false, false, false, false, false, false, false, false, false, false, false, false, false, false, false, false, false, false, false, false, false, false, false, false, false, false, false, false, false, false, false, false, false, false, false, false, false, false, false, false, false, false, false, false, false, false, false, false, false, false, false, false, false, false, false, false, false, false, false, false, false, false, false, false, false, false, false, false, false, false, false, false, false, false, false, false, false, false, false, true, true, true, true, true, true, true, true, true, true, true, true, true, true, true, true, true, true, true, true, true, true, true, false, false, false, false, false, false, false, false, false, false, false, false, false, false, false, false, false, false, false, false, false] mixed (by kernel_rfl) (by kernel_rfl) (by kernel_rfl) (fun _ _ h hb => h.trans (hb.mono h.size)) ((Below.refl _ _).drew) ⟨?_, ?_, ?_, ?_, ?_, ?_, ?_, ?_, ?_, ?_, ?_, ?_, ?_, ?_, ?_, ?_, ?_, ?_, ?_, ?_, ?_, ?_, ?_, trivial⟩ ?_
    · exact .moveC (.inl rfl) (.inl rfl) rfl (fun a w' hC hs => (hs 8 (by kernel_rfl)))
    · exact .value (.inl rfl) (by intro T e; cases e) rfl rfl (fun a w' hC hs hl => by
        have e0 : a.eval (.tmp 88) = (.int .i64 (0)) := (hl 88 (by kernel_rfl) (by kernel_rfl))
        simp only [execOp, e0]
        simp only [Act.eval]
        simp [go_sem] <;> rfl)
    · exact .move (.inl rfl) (.inl rfl) rfl (by kernel_rfl) (by kernel_rfl) rfl
    · exact .moveC (.inr ⟨2, false, 90, by decide, rfl, rfl, rfl⟩) (.inl rfl) rfl (fun a w' hC hs => (hs 12 (by kernel_rfl)))
    · exact .value (.inr ⟨2, false, 90, by decide, rfl, rfl, rfl⟩) (by intro T e; cases e) rfl rfl (fun a w' hC hs hl => by
        have e0 : a.eval (.tmp 91) = (.int .i64 (0)) := (hl 91 (by kernel_rfl) (by kernel_rfl))
        simp only [execOp, e0]
        simp only [Act.eval]
        simp [go_sem] <;> rfl)
    · exact .pick (b := false) (.inl rfl) rfl rfl (fun a w' hC hs hl => ⟨(hl 90 (by kernel_rfl) (by kernel_rfl)), (hl 92 (by kernel_rfl) (by kernel_rfl))⟩)
    · exact .move (.inl rfl) (.inl rfl) rfl (by kernel_rfl) (by kernel_rfl) rfl
    · exact .moveC (.inr ⟨6, false, 94, by decide, rfl, rfl, rfl⟩) (.inl rfl) rfl (fun a w' hC hs => (hs 14 (by kernel_rfl)))
    · exact .value (.inr ⟨6, false, 94, by decide, rfl, rfl, rfl⟩) (by intro T e; cases e) rfl rfl (fun a w' hC hs hl => by
        have e0 : a.eval (.tmp 95) = (.int .i64 (0)) := (hl 95 (by kernel_rfl) (by kernel_rfl))
        simp only [execOp, e0]
        simp only [Act.eval]
        simp [go_sem] <;> rfl)
    · exact .pick (b := false) (.inl rfl) rfl rfl (fun a w' hC hs hl => ⟨(hl 94 (by kernel_rfl) (by kernel_rfl)), (hl 96 (by kernel_rfl) (by kernel_rfl))⟩)
    · exact .move (.inl rfl) (.inl rfl) rfl (by kernel_rfl) (by kernel_rfl) rfl
    · exact .load (.agg #[.bool b7, .slice A7 n7 c7, .slice D7 m7 k7]) (.inr ⟨10, false, 98, by decide, rfl, rfl, rfl⟩) rfl rfl (fun a w' hC hs hl => by rw [show a.eval (.tmp 7) = (.pointer (some ⟨w5.heap.size, 0, none⟩) : Value) from (hs 7 (by kernel_rfl))]; exact ⟨ld_Rat_ ((K7.out.below' hC).at_ 0 rfl) ((K7.out.below' hC).at_ 1 rfl) ((K7.out.below' hC).at_ 2 rfl), X.out⟩)
    · exact .call (.inr ⟨10, false, 98, by decide, rfl, rfl, rfl⟩) rfl rfl fn_rCheck (fun a w' hC hs hl => rCheck_can (RCan.below (hl 99 (by kernel_rfl) (by kernel_rfl)) hC) (HX.out.up (by decide)) (T.out.below (b0.out.trans (hC.mono b0.out.size))))
    · exact .value (.inr ⟨10, false, 98, by decide, rfl, rfl, rfl⟩) (by intro T e; cases e) rfl rfl (fun a w' hC hs hl => by
        have e0 : a.eval (.tmp 100) = (.bool true) := (hl 100 (by kernel_rfl) (by kernel_rfl))
        simp only [execOp, e0]
        skip
        simp [go_sem] <;> rfl)
    · exact .pick (b := false) (.inl rfl) rfl rfl (fun a w' hC hs hl => ⟨(hl 98 (by kernel_rfl) (by kernel_rfl)), (hl 101 (by kernel_rfl) (by kernel_rfl))⟩)
    · exact .move (.inl rfl) (.inl rfl) rfl (by kernel_rfl) (by kernel_rfl) rfl
    · exact .load (.agg #[.bool b7, .slice A7 n7 c7, .slice D7 m7 k7]) (.inr ⟨15, false, 103, by decide, rfl, rfl, rfl⟩) rfl rfl (fun a w' hC hs hl => by rw [show a.eval (.tmp 7) = (.pointer (some ⟨w5.heap.size, 0, none⟩) : Value) from (hs 7 (by kernel_rfl))]; exact ⟨ld_Rat_ ((K7.out.below' hC).at_ 0 rfl) ((K7.out.below' hC).at_ 1 rfl) ((K7.out.below' hC).at_ 2 rfl), X.out⟩)
    · exact .load (.agg #[.bool b11, .slice A11 n11 c11, .slice D11 m11 k11]) (.inr ⟨15, false, 103, by decide, rfl, rfl, rfl⟩) rfl rfl (fun a w' hC hs hl => by rw [show a.eval (.tmp 11) = (.pointer (some ⟨g11, 0, none⟩) : Value) from (hs 11 (by kernel_rfl))]; exact ⟨ld_Rat_ ((K11.out.below' hC).at_ 0 rfl) ((K11.out.below' hC).at_ 1 rfl) ((K11.out.below' hC).at_ 2 rfl), D.out⟩)
    · exact .call (.inr ⟨15, false, 103, by decide, rfl, rfl, rfl⟩) rfl rfl fn_rMul (fun a w' hC hs hl => rMul_C (RCan.arg (RCan.below (hl 104 (by kernel_rfl) (by kernel_rfl)) hC) (HX.out.up (by decide))) (RCan.arg (RCan.below (hl 105 (by kernel_rfl) (by kernel_rfl)) hC) (HD.out.up (by decide))) (T.out.below (b0.out.trans (hC.mono b0.out.size))))
    · exact .load (.agg #[.bool b13, .slice A13 n13 c13, .slice D13 m13 k13]) (.inr ⟨15, false, 103, by decide, rfl, rfl, rfl⟩) rfl rfl (fun a w' hC hs hl => by rw [show a.eval (.tmp 13) = (.pointer (some ⟨g13, 0, none⟩) : Value) from (hs 13 (by kernel_rfl))]; exact ⟨ld_Rat_ ((K13.out.below' hC).at_ 0 rfl) ((K13.out.below' hC).at_ 1 rfl) ((K13.out.below' hC).at_ 2 rfl), N.out⟩)
    · exact .call (.inr ⟨15, false, 103, by decide, rfl, rfl, rfl⟩) rfl rfl fn_rsame (fun a w' hC hs hl => rsame_yes (hl 106 (by kernel_rfl) (by kernel_rfl)) (RCan.below (hl 107 (by kernel_rfl) (by kernel_rfl)) hC) (make_mul hy.out))
    · exact .value (.inr ⟨15, false, 103, by decide, rfl, rfl, rfl⟩) (by intro T e; cases e) rfl rfl (fun a w' hC hs hl => by
        have e0 : a.eval (.tmp 108) = (.bool true) := (hl 108 (by kernel_rfl) (by kernel_rfl))
        simp only [execOp, e0]
        skip
        simp [go_sem] <;> rfl)
    · exact .pick (b := false) (.inl rfl) rfl rfl (fun a w' hC hs hl => ⟨(hl 103 (by kernel_rfl) (by kernel_rfl)), (hl 109 (by kernel_rfl) (by kernel_rfl))⟩)
    intro f w10 hC hF _
    have f0 : f 110 = .bool false := hF 110 (by kernel_rfl)
    clear hF
    simp only [patch, List.drop]
    rw [f0]
    clear f0
    generalize f 88 = y88_ at *
    generalize f 89 = y89_ at *
    generalize f 90 = y90_ at *
    generalize f 91 = y91_ at *
    generalize f 92 = y92_ at *
    generalize f 93 = y93_ at *
    generalize f 94 = y94_ at *
    generalize f 95 = y95_ at *
    generalize f 96 = y96_ at *
    generalize f 97 = y97_ at *
    generalize f 98 = y98_ at *
    generalize f 99 = y99_ at *
    generalize f 100 = y100_ at *
    generalize f 101 = y101_ at *
    generalize f 102 = y102_ at *
    generalize f 103 = y103_ at *
    generalize f 104 = y104_ at *
    generalize f 105 = y105_ at *
    generalize f 106 = y106_ at *
    generalize f 107 = y107_ at *
    generalize f 108 = y108_ at *
    generalize f 109 = y109_ at *
    replace K1 := hide (K1.out.below' hC)
    replace K2 := hide (K2.out.below' hC)
    replace K3 := hide (K3.out.below' hC)
    replace X := hide (X.out.below hC)
    replace K7 := hide (K7.out.below' hC)
    replace K9 := hide (K9.out.below' hC)
    replace K11 := hide (K11.out.below' hC)
    replace D := hide (D.out.below hC)
    replace K13 := hide (K13.out.below' hC)
    replace N := hide (N.out.below hC)
    replace b0 := hide (b0.out.trans (hC.mono b0.out.size))
    clear hC
    have K1c0 : w10.cell? ⟨w.heap.size, 0, none⟩ = some (.bool b1) := K1.out.at_ 0 rfl
    have K1c1 : w10.cell? ⟨w.heap.size, 1, none⟩ = some (.slice A1 n1 c1) := K1.out.at_ 1 rfl
    have K2c0 : w10.cell? ⟨w.heap.size + 1, 0, none⟩ = some (.bool b2) := K2.out.at_ 0 rfl
    have K2c1 : w10.cell? ⟨w.heap.size + 1, 1, none⟩ = some (.slice A2 n2 c2) := K2.out.at_ 1 rfl
    have K3c0 : w10.cell? ⟨w.heap.size + 1 + 1, 0, none⟩ = some (.bool b3) := K3.out.at_ 0 rfl
    have K3c1 : w10.cell? ⟨w.heap.size + 1 + 1, 1, none⟩ = some (.slice A3 n3 c3) := K3.out.at_ 1 rfl
    have K7c0 : w10.cell? ⟨w5.heap.size, 0, none⟩ = some (.bool b7) := K7.out.at_ 0 rfl
    have K7c1 : w10.cell? ⟨w5.heap.size, 1, none⟩ = some (.slice A7 n7 c7) := K7.out.at_ 1 rfl
    have K7c2 : w10.cell? ⟨w5.heap.size, 2, none⟩ = some (.slice D7 m7 k7) := K7.out.at_ 2 rfl
    have K9c0 : w10.cell? ⟨g9, 0, none⟩ = some (.bool b9) := K9.out.at_ 0 rfl
    have K9c1 : w10.cell? ⟨g9, 1, none⟩ = some (.slice A9 n9 c9) := K9.out.at_ 1 rfl
    have K9c2 : w10.cell? ⟨g9, 2, none⟩ = some (.slice D9 m9 k9) := K9.out.at_ 2 rfl
    go_wp2_with fail
    refine (iSign_P ((a3.out.below b0.out).arg (L_up S3.out (by decide))) 0 (by rw [hz.out]; rfl)).mono ?_
    rintro e w11 ⟨_, rfl, d0, rfl⟩
    replace K1 := hide (K1.out.below' d0)
    replace K2 := hide (K2.out.below' d0)
    replace K3 := hide (K3.out.below' d0)
    replace X := hide (X.out.below d0)
    replace K7 := hide (K7.out.below' d0)
    replace K9 := hide (K9.out.below' d0)
    replace K11 := hide (K11.out.below' d0)
    replace D := hide (D.out.below d0)
    replace K13 := hide (K13.out.below' d0)
    replace N := hide (N.out.below d0)
    replace b0 := hide (below_tr b0.out d0)
    clear d0
    clear K1c0 K1c1 K2c0 K2c1 K3c0 K3c1 K7c0 K7c1 K7c2 K9c0 K9c1 K9c2
    go_wp2
    exact opq_end hR ⟨rfl, b0⟩
  obtain ⟨r, hr, hr0, hr1⟩ := cmpI0 hz
  replace hz := hide hz
  have K1c0 : w4.cell? ⟨w.heap.size, 0, none⟩ = some (.bool b1) := K1.out.at_ 0 rfl
  have K1c1 : w4.cell? ⟨w.heap.size, 1, none⟩ = some (.slice A1 n1 c1) := K1.out.at_ 1 rfl
  have K2c0 : w4.cell? ⟨w.heap.size + 1, 0, none⟩ = some (.bool b2) := K2.out.at_ 0 rfl
  have K2c1 : w4.cell? ⟨w.heap.size + 1, 1, none⟩ = some (.slice A2 n2 c2) := K2.out.at_ 1 rfl
  have K3c0 : w4.cell? ⟨w.heap.size + 1 + 1, 0, none⟩ = some (.bool b3) := K3.out.at_ 0 rfl
  have K3c1 : w4.cell? ⟨w.heap.size + 1 + 1, 1, none⟩ = some (.slice A3 n3 c3) := K3.out.at_ 1 rfl
  go_wp2_with fail
  refine (rMake_ok (a1.out.below b0.out) (a2.out.below b0.out) (L_up S1.out (by decide)) (L_up S2.out (by decide)) hy.out (T.out.below b0.out)).mono ?_
  rintro e w5 ⟨v7, rfl, d0, r7⟩
  replace K1 := hide (K1.out.below' d0)
  replace K2 := hide (K2.out.below' d0)
  replace K3 := hide (K3.out.below' d0)
  replace b0 := hide (below_tr b0.out d0)
  have X := hide (r7.can)
  clear d0
  clear r7
  obtain ⟨b7, A7, n7, c7, D7, m7, k7, rfl⟩ := X.out.slice
  clear K1c0 K1c1 K2c0 K2c1 K3c0 K3c1
  have K7 := hide (Blk.new_at w5 (w5.heap.size) (by simp) 27 #[.bool b7, .slice A7 n7 c7, .slice D7 m7 k7])
  have y := (Below.refl w5.heap.size w5).alloc (Nat.le_refl _) (.cells #[.bool b7, .slice A7 n7 c7, .slice D7 m7 k7] 27)
  replace K1 := hide (K1.out.below' y)
  replace K2 := hide (K2.out.below' y)
  replace K3 := hide (K3.out.below' y)
  replace X := hide (X.out.below y)
  replace b0 := hide (below_tr b0.out y)
  clear y
  have HX : Hid (H (Rat.divInt x y) 20) := H_make S1.out S2.out (by decide)
  go_wp2
  obtain ⟨V1_5, hV⟩ : ∃ V, (w5.alloc (.cells #[.bool b7, .slice A7 n7 c7, .slice D7 m7 k7] 27)) = V := ⟨_, rfl⟩
  rw [hV] at K1 K2 K3 X K7 b0
  rw [hV]
  clear hV
  refine RR.wp_region_R 12 V1_5 9 65 [(58, (.int0 w x)), (59, (.int0 w z)), (60, (.intR (x * z) V1_5.heap.size)), (61, (.int0 w y)), (62, (.int0 w z)), (63, (.intR (y * z) V1_5.heap.size)), (64, (.tupE (.ratR (Rat.divInt (x * z) (y * z)) V1_5.heap.size) (.int .i64 0))), (57, (.tupE (.ratR (Rat.divInt (x * z) (y * z)) V1_5.heap.size) (.int .i64 0))), (65, (.ratR (Rat.divInt (x * z) (y * z)) V1_5.heap.size)), (66, .eq ((.int .i64 0))), (9, (.var TR 3))] [false, false, false, false, false, false, false, false, false, true, false, false, false, false, false, false, false, false, false, false, false, false, false, false, false, false, false, false, false, false, false, false, false, false, false, false, false, false, false, false, false, false, false, false, false, false, false, false, false, false, false, false, false, false, false, false, false, true, true, true, true, true, true, true, true, true, true, false, false, false, false, false, false, false, false, false, false, false, false, false, false, false, false, false, false, false, false, false, false, false, false, false, false, false, false, false, false, false, false, false, false, false, false, false, false, false, false, false, false, false, false, false, false, false, false, false, false, false, false, false, false, false, false, false, false, false, false, false, false, false, false, false] mixed (by kernel_rfl) (by kernel_rfl) (by kernel_rfl) (Below.refl _ _).drew (by kernel_rfl) (by kernel_rfl) (by kernel_rfl) ⟨?_, ?_, ?_, ?_, ?_, ?_, ?_, ?_, ?_, ?_, ?_, ?_, trivial⟩ ?_
  · exact (.inl ⟨rfl, .load (.agg #[.bool b1, .slice A1 n1 c1]) (.inl rfl) rfl rfl (fun a w' hC hs hl => by rw [show a.eval (.tmp 3) = (.pointer (some ⟨w.heap.size, 0, none⟩) : Value) from (hs 3 (by kernel_rfl))]; exact ⟨ld_Int_ ((K1.out.below' hC).at_ 0 rfl) ((K1.out.below' hC).at_ 1 rfl), a1.out⟩)⟩)
  · exact (.inl ⟨rfl, .load (.agg #[.bool b3, .slice A3 n3 c3]) (.inl rfl) rfl rfl (fun a w' hC hs hl => by rw [show a.eval (.tmp 5) = (.pointer (some ⟨w.heap.size + 1 + 1, 0, none⟩) : Value) from (hs 5 (by kernel_rfl))]; exact ⟨ld_Int_ ((K3.out.below' hC).at_ 0 rfl) ((K3.out.below' hC).at_ 1 rfl), a3.out⟩)⟩)
  · exact (.inl ⟨rfl, .call (.inl rfl) rfl rfl fn_iMul (fun a w' hC hs hl => iMul_R _ hC.size (ICan.arg (ICan.below (hl 58 (by kernel_rfl) (by kernel_rfl)) (b0.out.trans (hC.mono b0.out.size))) (L_up S1.out (by decide))) (ICan.arg (ICan.below (hl 59 (by kernel_rfl) (by kernel_rfl)) (b0.out.trans (hC.mono b0.out.size))) (L_up S3.out (by decide))))⟩)
  · exact (.inl ⟨rfl, .load (.agg #[.bool b2, .slice A2 n2 c2]) (.inl rfl) rfl rfl (fun a w' hC hs hl => by rw [show a.eval (.tmp 4) = (.pointer (some ⟨w.heap.size + 1, 0, none⟩) : Value) from (hs 4 (by kernel_rfl))]; exact ⟨ld_Int_ ((K2.out.below' hC).at_ 0 rfl) ((K2.out.below' hC).at_ 1 rfl), a2.out⟩)⟩)
  · exact (.inl ⟨rfl, .load (.agg #[.bool b3, .slice A3 n3 c3]) (.inl rfl) rfl rfl (fun a w' hC hs hl => by rw [show a.eval (.tmp 5) = (.pointer (some ⟨w.heap.size + 1 + 1, 0, none⟩) : Value) from (hs 5 (by kernel_rfl))]; exact ⟨ld_Int_ ((K3.out.below' hC).at_ 0 rfl) ((K3.out.below' hC).at_ 1 rfl), a3.out⟩)⟩)
  · exact (.inl ⟨rfl, .call (.inl rfl) rfl rfl fn_iMul (fun a w' hC hs hl => iMul_R _ hC.size (ICan.arg (ICan.below (hl 61 (by kernel_rfl) (by kernel_rfl)) (b0.out.trans (hC.mono b0.out.size))) (L_up S2.out (by decide))) (ICan.arg (ICan.below (hl 62 (by kernel_rfl) (by kernel_rfl)) (b0.out.trans (hC.mono b0.out.size))) (L_up S3.out (by decide))))⟩)
  · exact (.inl ⟨rfl, .call (.inl rfl) rfl rfl fn_rMake (fun a w' hC hs hl => RR.rMake_T _ hC.size (IntR.can (hl 60 (by kernel_rfl) (by kernel_rfl))) (L_up (Z_mul S1.out S3.out (Nat.le_refl _)) (by decide)) (IntR.can (hl 63 (by kernel_rfl) (by kernel_rfl))) (L_up (Z_mul S2.out S3.out (Nat.le_refl _)) (by decide)) (T.out.below (b0.out.trans (hC.mono b0.out.size))) (Int.mul_ne_zero hy.out hz.out))⟩)
  · exact (.inl ⟨rfl, .move (.inl rfl) (.inl rfl) rfl (by kernel_rfl) (by kernel_rfl) rfl⟩)
  · exact (.inl ⟨rfl, .make (.inl rfl) (by intro T e; cases e) rfl (fun a w' hC hs hl => by
      obtain ⟨u, e, h⟩ := (hl 57 (by kernel_rfl) (by kernel_rfl))
      have e' : a.tmps[57]?.getD undef = _ := (by simp [Act.eval] : _ = a.eval (.tmp 57)).trans e
      exact ⟨u, by simp [execOp, go_sem, e'], h⟩)⟩)
  · exact (.inl ⟨rfl, .make (.inl rfl) (by intro T e; cases e) rfl (fun a w' hC hs hl => by
      obtain ⟨u, e, h⟩ := (hl 57 (by kernel_rfl) (by kernel_rfl))
      have e' : a.tmps[57]?.getD undef = _ := (by simp [Act.eval] : _ = a.eval (.tmp 57)).trans e
      exact ⟨_, by simp [execOp, go_sem, e'], rfl⟩)⟩)
  · exact (.inl ⟨rfl, .alloc (.agg #[.bool false, .slice none 0 0, .slice none 0 0]) (.inl rfl) rfl rfl (fun a w' hC => ⟨run_alloc_Rat _ _ _ _ _ _ _, _, _, rfl, hC.size, Blk.new _ _ _, rfl⟩)⟩)
  · exact (.storeR (fun v w h => RatR.slice h) rfl rfl rfl (by kernel_rfl) (by kernel_rfl) (by kernel_rfl) (by kernel_rfl) rfl)
  intro f w6 hC hF _ hE
  obtain ⟨g9, b9, A9, n9, c9, D9, m9, k9, ep, lp, er, K9⟩ := hE
  have f66 : f 66 = (.int .i64 0) := hF 66 (by kernel_rfl)
  have fr : RatR (Rat.divInt (x * z) (y * z)) V1_5.heap.size w6 (f 65) := hF 65 (by kernel_rfl)
  rw [er] at fr
  have Y := hide fr.can
  clear fr
  replace K9 := hide K9
  clear hF lp
  simp only [patch, List.drop]
  rw [f66]
  clear f66
  generalize f 58 = y58_ at *
  generalize f 59 = y59_ at *
  generalize f 60 = y60_ at *
  generalize f 61 = y61_ at *
  generalize f 62 = y62_ at *
  generalize f 63 = y63_ at *
  generalize f 64 = y64_ at *
  generalize f 57 = y57_ at *
  generalize f 65 = y65_ at *
  generalize f 9 = y9_ at *
  subst er ep
  replace K1 := hide (K1.out.below' hC)
  replace K2 := hide (K2.out.below' hC)
  replace K3 := hide (K3.out.below' hC)
  replace X := hide (X.out.below hC)
  replace K7 := hide (K7.out.below' hC)
  replace b0 := hide (b0.out.trans (hC.mono b0.out.size))
  clear hC
  have HY : Hid (H (Rat.divInt (x * z) (y * z)) 40) := H_make (Z_mul S1.out S3.out (by decide)) (Z_mul S2.out S3.out (by decide)) (by decide)
  have K1c0 : w6.cell? ⟨w.heap.size, 0, none⟩ = some (.bool b1) := K1.out.at_ 0 rfl
  have K1c1 : w6.cell? ⟨w.heap.size, 1, none⟩ = some (.slice A1 n1 c1) := K1.out.at_ 1 rfl
  have K2c0 : w6.cell? ⟨w.heap.size + 1, 0, none⟩ = some (.bool b2) := K2.out.at_ 0 rfl
  have K2c1 : w6.cell? ⟨w.heap.size + 1, 1, none⟩ = some (.slice A2 n2 c2) := K2.out.at_ 1 rfl
  have K3c0 : w6.cell? ⟨w.heap.size + 1 + 1, 0, none⟩ = some (.bool b3) := K3.out.at_ 0 rfl
  have K3c1 : w6.cell? ⟨w.heap.size + 1 + 1, 1, none⟩ = some (.slice A3 n3 c3) := K3.out.at_ 1 rfl
  go_wp2_with fail
  refine (iSign_P ((a2.out.below b0.out).arg (L_up S2.out (by decide))) s hs.out).mono ?_
  rintro e w7 ⟨_, rfl, d0, rfl⟩
  replace K1 := hide (K1.out.below' d0)
  replace K2 := hide (K2.out.below' d0)
  replace K3 := hide (K3.out.below' d0)
  replace X := hide (X.out.below d0)
  replace K7 := hide (K7.out.below' d0)
  replace K9 := hide (K9.out.below' d0)
  replace Y := hide (Y.out.below d0)
  replace b0 := hide (below_tr b0.out d0)
  clear d0
  clear K1c0 K1c1 K2c0 K2c1 K3c0 K3c1
  go_wp2
  refine RR.wp_region_R 8 w7 11 80 [(77, (.int0 w y)), (78, (.intR 1 w7.heap.size)), (79, (.tupE (.ratR (Rat.divInt y 1) w7.heap.size) (.int .i64 0))), (76, (.tupE (.ratR (Rat.divInt y 1) w7.heap.size) (.int .i64 0))), (80, (.ratR (Rat.divInt y 1) w7.heap.size)), (81, .eq ((.int .i64 0))), (11, (.var TR 3))] [false, false, false, false, false, false, false, false, false, false, false, true, false, false, false, false, false, false, false, false, false, false, false, false, false, false, false, false, false, false, false, false, false, false, false, false, false, false, false, false, false, false, false, false, false, false, false, false, false, false, false, false, false, false, false, false, false, false, false, false, false, false, false, false, false, false, false, false, false, false, false, false, false, false, false, false, true, true, true, true, true, true, false, false, false, false, false, false, false, false, false, false, false, false, false, false, false, false, false, false, false, false, false, false, false, false, false, false, false, false, false, false, false, false, false, false, false, false, false, false, false, false, false, false, false, false, false, false, false, false, false, false] mixed (by kernel_rfl) (by kernel_rfl) (by kernel_rfl) (Below.refl _ _).drew (by kernel_rfl) (by kernel_rfl) (by kernel_rfl) ⟨?_, ?_, ?_, ?_, ?_, ?_, ?_, ?_, trivial⟩ ?_
  · exact (.inl ⟨rfl, .load (.agg #[.bool b2, .slice A2 n2 c2]) (.inl rfl) rfl rfl (fun a w' hC hs hl => by rw [show a.eval (.tmp 4) = (.pointer (some ⟨w.heap.size + 1, 0, none⟩) : Value) from (hs 4 (by kernel_rfl))]; exact ⟨ld_Int_ ((K2.out.below' hC).at_ 0 rfl) ((K2.out.below' hC).at_ 1 rfl), a2.out⟩)⟩)
  · exact (.inl ⟨rfl, .call (.inl rfl) rfl rfl fn_iOf (fun a w' hC hs hl => RR.iOf_R w' _ hC.size 1 (by decide) (by decide))⟩)
  · exact (.inl ⟨rfl, .call (.inl rfl) rfl rfl fn_rMake (fun a w' hC hs hl => RR.rMake_T _ hC.size (ICan.below (hl 77 (by kernel_rfl) (by kernel_rfl)) (b0.out.trans (hC.mono b0.out.size))) (L_up S2.out (by decide)) (IntR.can (hl 78 (by kernel_rfl) (by kernel_rfl))) one_L (T.out.below (b0.out.trans (hC.mono b0.out.size))) (by decide))⟩)
  · exact (.inl ⟨rfl, .move (.inl rfl) (.inl rfl) rfl (by kernel_rfl) (by kernel_rfl) rfl⟩)
  · exact (.inl ⟨rfl, .make (.inl rfl) (by intro T e; cases e) rfl (fun a w' hC hs hl => by
      obtain ⟨u, e, h⟩ := (hl 76 (by kernel_rfl) (by kernel_rfl))
      have e' : a.tmps[76]?.getD undef = _ := (by simp [Act.eval] : _ = a.eval (.tmp 76)).trans e
      exact ⟨u, by simp [execOp, go_sem, e'], h⟩)⟩)
  · exact (.inl ⟨rfl, .make (.inl rfl) (by intro T e; cases e) rfl (fun a w' hC hs hl => by
      obtain ⟨u, e, h⟩ := (hl 76 (by kernel_rfl) (by kernel_rfl))
      have e' : a.tmps[76]?.getD undef = _ := (by simp [Act.eval] : _ = a.eval (.tmp 76)).trans e
      exact ⟨_, by simp [execOp, go_sem, e'], rfl⟩)⟩)
  · exact (.inl ⟨rfl, .alloc (.agg #[.bool false, .slice none 0 0, .slice none 0 0]) (.inl rfl) rfl rfl (fun a w' hC => ⟨run_alloc_Rat _ _ _ _ _ _ _, _, _, rfl, hC.size, Blk.new _ _ _, rfl⟩)⟩)
  · exact (.storeR (fun v w h => RatR.slice h) rfl rfl rfl (by kernel_rfl) (by kernel_rfl) (by kernel_rfl) (by kernel_rfl) rfl)
  intro f w8 hC hF _ hE
  obtain ⟨g11, b11, A11, n11, c11, D11, m11, k11, ep, lp, er, K11⟩ := hE
  have f81 : f 81 = (.int .i64 0) := hF 81 (by kernel_rfl)
  have fr : RatR (Rat.divInt y 1) w7.heap.size w8 (f 80) := hF 80 (by kernel_rfl)
  rw [er] at fr
  have D := hide fr.can
  clear fr
  replace K11 := hide K11
  clear hF lp
  simp only [patch, List.drop]
  rw [f81]
  clear f81
  generalize f 77 = y77_ at *
  generalize f 78 = y78_ at *
  generalize f 79 = y79_ at *
  generalize f 76 = y76_ at *
  generalize f 80 = y80_ at *
  generalize f 11 = y11_ at *
  subst er ep
  replace K1 := hide (K1.out.below' hC)
  replace K2 := hide (K2.out.below' hC)
  replace K3 := hide (K3.out.below' hC)
  replace X := hide (X.out.below hC)
  replace K7 := hide (K7.out.below' hC)
  replace K9 := hide (K9.out.below' hC)
  replace Y := hide (Y.out.below hC)
  replace b0 := hide (b0.out.trans (hC.mono b0.out.size))
  clear hC
  have HD : Hid (H (Rat.divInt y 1) 20) := H_make S2.out (L_up (L_small (by decide)) (by decide)) (by decide)
  go_wp2
  refine RR.wp_region_R 8 w8 13 86 [(83, (.int0 w x)), (84, (.intR 1 w8.heap.size)), (85, (.tupE (.ratR (Rat.divInt x 1) w8.heap.size) (.int .i64 0))), (82, (.tupE (.ratR (Rat.divInt x 1) w8.heap.size) (.int .i64 0))), (86, (.ratR (Rat.divInt x 1) w8.heap.size)), (87, .eq ((.int .i64 0))), (13, (.var TR 3))] [false, false, false, false, false, false, false, false, false, false, false, false, false, true, false, false, false, false, false, false, false, false, false, false, false, false, false, false, false, false, false, false, false, false, false, false, false, false, false, false, false, false, false, false, false, false, false, false, false, false, false, false, false, false, false, false, false, false, false, false, false, false, false, false, false, false, false, false, false, false, false, false, false, false, false, false, false, false, false, false, false, false, true, true, true, true, true, true, false, false, false, false, false, false, false, false, false, false, false, false, false, false, false, false, false, false, false, false, false, false, false, false, false, false, false, false, false, false, false, false, false, false, false, false, false, false, false, false, false, false, false, false] mixed (by kernel_rfl) (by kernel_rfl) (by kernel_rfl) (Below.refl _ _).drew (by kernel_rfl) (by kernel_rfl) (by kernel_rfl) ⟨?_, ?_, ?_, ?_, ?_, ?_, ?_, ?_, trivial⟩ ?_
  · exact (.inl ⟨rfl, .load (.agg #[.bool b1, .slice A1 n1 c1]) (.inl rfl) rfl rfl (fun a w' hC hs hl => by rw [show a.eval (.tmp 3) = (.pointer (some ⟨w.heap.size, 0, none⟩) : Value) from (hs 3 (by kernel_rfl))]; exact ⟨ld_Int_ ((K1.out.below' hC).at_ 0 rfl) ((K1.out.below' hC).at_ 1 rfl), a1.out⟩)⟩)
  · exact (.inl ⟨rfl, .call (.inl rfl) rfl rfl fn_iOf (fun a w' hC hs hl => RR.iOf_R w' _ hC.size 1 (by decide) (by decide))⟩)
  · exact (.inl ⟨rfl, .call (.inl rfl) rfl rfl fn_rMake (fun a w' hC hs hl => RR.rMake_T _ hC.size (ICan.below (hl 83 (by kernel_rfl) (by kernel_rfl)) (b0.out.trans (hC.mono b0.out.size))) (L_up S1.out (by decide)) (IntR.can (hl 84 (by kernel_rfl) (by kernel_rfl))) one_L (T.out.below (b0.out.trans (hC.mono b0.out.size))) (by decide))⟩)
  · exact (.inl ⟨rfl, .move (.inl rfl) (.inl rfl) rfl (by kernel_rfl) (by kernel_rfl) rfl⟩)
  · exact (.inl ⟨rfl, .make (.inl rfl) (by intro T e; cases e) rfl (fun a w' hC hs hl => by
      obtain ⟨u, e, h⟩ := (hl 82 (by kernel_rfl) (by kernel_rfl))
      have e' : a.tmps[82]?.getD undef = _ := (by simp [Act.eval] : _ = a.eval (.tmp 82)).trans e
      exact ⟨u, by simp [execOp, go_sem, e'], h⟩)⟩)
  · exact (.inl ⟨rfl, .make (.inl rfl) (by intro T e; cases e) rfl (fun a w' hC hs hl => by
      obtain ⟨u, e, h⟩ := (hl 82 (by kernel_rfl) (by kernel_rfl))
      have e' : a.tmps[82]?.getD undef = _ := (by simp [Act.eval] : _ = a.eval (.tmp 82)).trans e
      exact ⟨_, by simp [execOp, go_sem, e'], rfl⟩)⟩)
  · exact (.inl ⟨rfl, .alloc (.agg #[.bool false, .slice none 0 0, .slice none 0 0]) (.inl rfl) rfl rfl (fun a w' hC => ⟨run_alloc_Rat _ _ _ _ _ _ _, _, _, rfl, hC.size, Blk.new _ _ _, rfl⟩)⟩)
  · exact (.storeR (fun v w h => RatR.slice h) rfl rfl rfl (by kernel_rfl) (by kernel_rfl) (by kernel_rfl) (by kernel_rfl) rfl)
  intro f w9 hC hF _ hE
  obtain ⟨g13, b13, A13, n13, c13, D13, m13, k13, ep, lp, er, K13⟩ := hE
  have f87 : f 87 = (.int .i64 0) := hF 87 (by kernel_rfl)
  have fr : RatR (Rat.divInt x 1) w8.heap.size w9 (f 86) := hF 86 (by kernel_rfl)
  rw [er] at fr
  have N := hide fr.can
  clear fr
  replace K13 := hide K13
  clear hF lp
  simp only [patch, List.drop]
  rw [f87]
  clear f87
  generalize f 83 = y83_ at *
  generalize f 84 = y84_ at *
  generalize f 85 = y85_ at *
  generalize f 82 = y82_ at *
  generalize f 86 = y86_ at *
  generalize f 13 = y13_ at *
  subst er ep
  replace K1 := hide (K1.out.below' hC)
  replace K2 := hide (K2.out.below' hC)
  replace K3 := hide (K3.out.below' hC)
  replace X := hide (X.out.below hC)
  replace K7 := hide (K7.out.below' hC)
  replace K9 := hide (K9.out.below' hC)
  replace Y := hide (Y.out.below hC)
  replace K11 := hide (K11.out.below' hC)
  replace D := hide (D.out.below hC)
  replace b0 := hide (b0.out.trans (hC.mono b0.out.size))
  clear hC
  have HN : Hid (H (Rat.divInt x 1) 20) := H_make S1.out (L_up (L_small (by decide)) (by decide)) (by decide)
  go_wp2
  have Q1_ : Hid (H (((Rat.divInt x y) * (Rat.divInt y 1))) 40) := H_mul HX.out HD.out (by decide)
  refine wp_region_facts 23 (fun w' => Below w9.heap.size w9 w') [(88, .eq (.int .i64 (0))), (89, .eq (.bool false)), (90, .eq (.bool false)), (91, .eq (.int .i64 (0))), (92, .eq (.bool false)), (93, .eq (.bool false)), (94, .eq (.bool false)), (95, .eq (.int .i64 (0))), (96, .eq (.bool false)), (97, .eq (.bool false)), (98, .eq (.bool false)), (99, (.rat0 w9 (Rat.divInt x y))), (100, .eq (.bool true)), (101, .eq (.bool false)), (102, .eq (.bool false)), (103, .eq (.bool false)), (104, (.rat0 w9 (Rat.divInt x y))), (105, (.rat0 w9 (Rat.divInt y 1))), (106, (.rat ((Rat.divInt x y) * (Rat.divInt y 1)))), (107, (.rat0 w9 (Rat.divInt x 1))), (108, .eq (.bool true)), (109, .eq (.bool false)), (110, .eq (.bool false))] [false, false, false, false, false, false, false, false, false, false, false, false, false, false, false, false, false, false, false, false, false, false, false, false, false, false, false, false, false, false, false, false, false, false, false, false, false, false, false, false, false, false, false, false, false, false, false, false, false, false, false, false, false, false, false, false, false, false, false, false, false, false, false, false, false, false, false, false, false, false, false, false, false, false, false, false, false, false, false, false, false, false, false, false, false, false, false, false, true, true, true, true, true, true, true, true, true, true, true, true, true, true, true, true, true, true, true, true, true, true, true, false, false, false, false, false, false, false, false, false, false, false, false, false, false, false, false, false, false, false, false, false] mixed (by kernel_rfl) (by kernel_rfl) (by kernel_rfl) (fun _ _ h hb => h.trans (hb.mono h.size)) ((Below.refl _ _).drew) ⟨?_, ?_, ?_, ?_, ?_, ?_, ?_, ?_, ?_, ?_, ?_, ?_, ?_, ?_, ?_, ?_, ?_, ?_, ?_, ?_, ?_, ?_, ?_, trivial⟩ ?_
  · exact .moveC (.inl rfl) (.inl rfl) rfl (fun a w' hC hs => (hs 8 (by kernel_rfl)))
  · exact .value (.inl rfl) (by intro T e; cases e) rfl rfl (fun a w' hC hs hl => by
      have e0 : a.eval (.tmp 88) = (.int .i64 (0)) := (hl 88 (by kernel_rfl) (by kernel_rfl))
      simp only [execOp, e0]
      simp only [Act.eval]
      simp [go_sem] <;> rfl)
  · exact .move (.inl rfl) (.inl rfl) rfl (by kernel_rfl) (by kernel_rfl) rfl
  · exact .moveC (.inr ⟨2, false, 90, by decide, rfl, rfl, rfl⟩) (.inl rfl) rfl (fun a w' hC hs => (hs 12 (by kernel_rfl)))
  · exact .value (.inr ⟨2, false, 90, by decide, rfl, rfl, rfl⟩) (by intro T e; cases e) rfl rfl (fun a w' hC hs hl => by
      have e0 : a.eval (.tmp 91) = (.int .i64 (0)) := (hl 91 (by kernel_rfl) (by kernel_rfl))
      simp only [execOp, e0]
      simp only [Act.eval]
      simp [go_sem] <;> rfl)
  · exact .pick (b := false) (.inl rfl) rfl rfl (fun a w' hC hs hl => ⟨(hl 90 (by kernel_rfl) (by kernel_rfl)), (hl 92 (by kernel_rfl) (by kernel_rfl))⟩)
  · exact .move (.inl rfl) (.inl rfl) rfl (by kernel_rfl) (by kernel_rfl) rfl
  · exact .moveC (.inr ⟨6, false, 94, by decide, rfl, rfl, rfl⟩) (.inl rfl) rfl (fun a w' hC hs => (hs 14 (by kernel_rfl)))
  · exact .value (.inr ⟨6, false, 94, by decide, rfl, rfl, rfl⟩) (by intro T e; cases e) rfl rfl (fun a w' hC hs hl => by
      have e0 : a.eval (.tmp 95) = (.int .i64 (0)) := (hl 95 (by kernel_rfl) (by kernel_rfl))
      simp only [execOp, e0]
      simp only [Act.eval]
      simp [go_sem] <;> rfl)
  · exact .pick (b := false) (.inl rfl) rfl rfl (fun a w' hC hs hl => ⟨(hl 94 (by kernel_rfl) (by kernel_rfl)), (hl 96 (by kernel_rfl) (by kernel_rfl))⟩)
  · exact .move (.inl rfl) (.inl rfl) rfl (by kernel_rfl) (by kernel_rfl) rfl
  · exact .load (.agg #[.bool b7, .slice A7 n7 c7, .slice D7 m7 k7]) (.inr ⟨10, false, 98, by decide, rfl, rfl, rfl⟩) rfl rfl (fun a w' hC hs hl => by rw [show a.eval (.tmp 7) = (.pointer (some ⟨w5.heap.size, 0, none⟩) : Value) from (hs 7 (by kernel_rfl))]; exact ⟨ld_Rat_ ((K7.out.below' hC).at_ 0 rfl) ((K7.out.below' hC).at_ 1 rfl) ((K7.out.below' hC).at_ 2 rfl), X.out⟩)
  · exact .call (.inr ⟨10, false, 98, by decide, rfl, rfl, rfl⟩) rfl rfl fn_rCheck (fun a w' hC hs hl => rCheck_can (RCan.below (hl 99 (by kernel_rfl) (by kernel_rfl)) hC) (HX.out.up (by decide)) (T.out.below (b0.out.trans (hC.mono b0.out.size))))
  · exact .value (.inr ⟨10, false, 98, by decide, rfl, rfl, rfl⟩) (by intro T e; cases e) rfl rfl (fun a w' hC hs hl => by
      have e0 : a.eval (.tmp 100) = (.bool true) := (hl 100 (by kernel_rfl) (by kernel_rfl))
      simp only [execOp, e0]
      skip
      simp [go_sem] <;> rfl)
  · exact .pick (b := false) (.inl rfl) rfl rfl (fun a w' hC hs hl => ⟨(hl 98 (by kernel_rfl) (by kernel_rfl)), (hl 101 (by kernel_rfl) (by kernel_rfl))⟩)
  · exact .move (.inl rfl) (.inl rfl) rfl (by kernel_rfl) (by kernel_rfl) rfl
  · exact .load (.agg #[.bool b7, .slice A7 n7 c7, .slice D7 m7 k7]) (.inr ⟨15, false, 103, by decide, rfl, rfl, rfl⟩) rfl rfl (fun a w' hC hs hl => by rw [show a.eval (.tmp 7) = (.pointer (some ⟨w5.heap.size, 0, none⟩) : Value) from (hs 7 (by kernel_rfl))]; exact ⟨ld_Rat_ ((K7.out.below' hC).at_ 0 rfl) ((K7.out.below' hC).at_ 1 rfl) ((K7.out.below' hC).at_ 2 rfl), X.out⟩)
  · exact .load (.agg #[.bool b11, .slice A11 n11 c11, .slice D11 m11 k11]) (.inr ⟨15, false, 103, by decide, rfl, rfl, rfl⟩) rfl rfl (fun a w' hC hs hl => by rw [show a.eval (.tmp 11) = (.pointer (some ⟨g11, 0, none⟩) : Value) from (hs 11 (by kernel_rfl))]; exact ⟨ld_Rat_ ((K11.out.below' hC).at_ 0 rfl) ((K11.out.below' hC).at_ 1 rfl) ((K11.out.below' hC).at_ 2 rfl), D.out⟩)
  · exact .call (.inr ⟨15, false, 103, by decide, rfl, rfl, rfl⟩) rfl rfl fn_rMul (fun a w' hC hs hl => rMul_C (RCan.arg (RCan.below (hl 104 (by kernel_rfl) (by kernel_rfl)) hC) (HX.out.up (by decide))) (RCan.arg (RCan.below (hl 105 (by kernel_rfl) (by kernel_rfl)) hC) (HD.out.up (by decide))) (T.out.below (b0.out.trans (hC.mono b0.out.size))))
  · exact .load (.agg #[.bool b13, .slice A13 n13 c13, .slice D13 m13 k13]) (.inr ⟨15, false, 103, by decide, rfl, rfl, rfl⟩) rfl rfl (fun a w' hC hs hl => by rw [show a.eval (.tmp 13) = (.pointer (some ⟨g13, 0, none⟩) : Value) from (hs 13 (by kernel_rfl))]; exact ⟨ld_Rat_ ((K13.out.below' hC).at_ 0 rfl) ((K13.out.below' hC).at_ 1 rfl) ((K13.out.below' hC).at_ 2 rfl), N.out⟩)
  · exact .call (.inr ⟨15, false, 103, by decide, rfl, rfl, rfl⟩) rfl rfl fn_rsame (fun a w' hC hs hl => rsame_yes (hl 106 (by kernel_rfl) (by kernel_rfl)) (RCan.below (hl 107 (by kernel_rfl) (by kernel_rfl)) hC) (make_mul hy.out))
  · exact .value (.inr ⟨15, false, 103, by decide, rfl, rfl, rfl⟩) (by intro T e; cases e) rfl rfl (fun a w' hC hs hl => by
      have e0 : a.eval (.tmp 108) = (.bool true) := (hl 108 (by kernel_rfl) (by kernel_rfl))
      simp only [execOp, e0]
      skip
      simp [go_sem] <;> rfl)
  · exact .pick (b := false) (.inl rfl) rfl rfl (fun a w' hC hs hl => ⟨(hl 103 (by kernel_rfl) (by kernel_rfl)), (hl 109 (by kernel_rfl) (by kernel_rfl))⟩)
  intro f w10 hC hF _
  have f0 : f 110 = .bool false := hF 110 (by kernel_rfl)
  clear hF
  simp only [patch, List.drop]
  rw [f0]
  clear f0
  generalize f 88 = y88_ at *
  generalize f 89 = y89_ at *
  generalize f 90 = y90_ at *
  generalize f 91 = y91_ at *
  generalize f 92 = y92_ at *
  generalize f 93 = y93_ at *
  generalize f 94 = y94_ at *
  generalize f 95 = y95_ at *
  generalize f 96 = y96_ at *
  generalize f 97 = y97_ at *
  generalize f 98 = y98_ at *
  generalize f 99 = y99_ at *
  generalize f 100 = y100_ at *
  generalize f 101 = y101_ at *
  generalize f 102 = y102_ at *
  generalize f 103 = y103_ at *
  generalize f 104 = y104_ at *
  generalize f 105 = y105_ at *
  generalize f 106 = y106_ at *
  generalize f 107 = y107_ at *
  generalize f 108 = y108_ at *
  generalize f 109 = y109_ at *
  replace K1 := hide (K1.out.below' hC)
  replace K2 := hide (K2.out.below' hC)
  replace K3 := hide (K3.out.below' hC)
  replace X := hide (X.out.below hC)
  replace K7 := hide (K7.out.below' hC)
  replace K9 := hide (K9.out.below' hC)
  replace Y := hide (Y.out.below hC)
  replace K11 := hide (K11.out.below' hC)
  replace D := hide (D.out.below hC)
  replace K13 := hide (K13.out.below' hC)
  replace N := hide (N.out.below hC)
  replace b0 := hide (b0.out.trans (hC.mono b0.out.size))
  clear hC
  have K1c0 : w10.cell? ⟨w.heap.size, 0, none⟩ = some (.bool b1) := K1.out.at_ 0 rfl
  have K1c1 : w10.cell? ⟨w.heap.size, 1, none⟩ = some (.slice A1 n1 c1) := K1.out.at_ 1 rfl
  have K2c0 : w10.cell? ⟨w.heap.size + 1, 0, none⟩ = some (.bool b2) := K2.out.at_ 0 rfl
  have K2c1 : w10.cell? ⟨w.heap.size + 1, 1, none⟩ = some (.slice A2 n2 c2) := K2.out.at_ 1 rfl
  have K3c0 : w10.cell? ⟨w.heap.size + 1 + 1, 0, none⟩ = some (.bool b3) := K3.out.at_ 0 rfl
  have K3c1 : w10.cell? ⟨w.heap.size + 1 + 1, 1, none⟩ = some (.slice A3 n3 c3) := K3.out.at_ 1 rfl
  have K7c0 : w10.cell? ⟨w5.heap.size, 0, none⟩ = some (.bool b7) := K7.out.at_ 0 rfl
  have K7c1 : w10.cell? ⟨w5.heap.size, 1, none⟩ = some (.slice A7 n7 c7) := K7.out.at_ 1 rfl
  have K7c2 : w10.cell? ⟨w5.heap.size, 2, none⟩ = some (.slice D7 m7 k7) := K7.out.at_ 2 rfl
  have K9c0 : w10.cell? ⟨g9, 0, none⟩ = some (.bool b9) := K9.out.at_ 0 rfl
  have K9c1 : w10.cell? ⟨g9, 1, none⟩ = some (.slice A9 n9 c9) := K9.out.at_ 1 rfl
  have K9c2 : w10.cell? ⟨g9, 2, none⟩ = some (.slice D9 m9 k9) := K9.out.at_ 2 rfl
  go_wp2_with fail
  refine (iSign_P ((a3.out.below b0.out).arg (L_up S3.out (by decide))) r hr.out).mono ?_
  rintro e w11 ⟨_, rfl, d0, rfl⟩
  replace K1 := hide (K1.out.below' d0)
  replace K2 := hide (K2.out.below' d0)
  replace K3 := hide (K3.out.below' d0)
  replace X := hide (X.out.below d0)
  replace K7 := hide (K7.out.below' d0)
  replace K9 := hide (K9.out.below' d0)
  replace Y := hide (Y.out.below d0)
  replace K11 := hide (K11.out.below' d0)
  replace D := hide (D.out.below d0)
  replace K13 := hide (K13.out.below' d0)
  replace N := hide (N.out.below d0)
  replace b0 := hide (below_tr b0.out d0)
  clear d0
  clear K1c0 K1c1 K2c0 K2c1 K3c0 K3c1 K7c0 K7c1 K7c2 K9c0 K9c1 K9c2
  have K1c0 : w11.cell? ⟨w.heap.size, 0, none⟩ = some (.bool b1) := K1.out.at_ 0 rfl
  have K1c1 : w11.cell? ⟨w.heap.size, 1, none⟩ = some (.slice A1 n1 c1) := K1.out.at_ 1 rfl
  have K2c0 : w11.cell? ⟨w.heap.size + 1, 0, none⟩ = some (.bool b2) := K2.out.at_ 0 rfl
  have K2c1 : w11.cell? ⟨w.heap.size + 1, 1, none⟩ = some (.slice A2 n2 c2) := K2.out.at_ 1 rfl
  have K3c0 : w11.cell? ⟨w.heap.size + 1 + 1, 0, none⟩ = some (.bool b3) := K3.out.at_ 0 rfl
  have K3c1 : w11.cell? ⟨w.heap.size + 1 + 1, 1, none⟩ = some (.slice A3 n3 c3) := K3.out.at_ 1 rfl
  have K7c0 : w11.cell? ⟨w5.heap.size, 0, none⟩ = some (.bool b7) := K7.out.at_ 0 rfl
  have K7c1 : w11.cell? ⟨w5.heap.size, 1, none⟩ = some (.slice A7 n7 c7) := K7.out.at_ 1 rfl
  have K7c2 : w11.cell? ⟨w5.heap.size, 2, none⟩ = some (.slice D7 m7 k7) := K7.out.at_ 2 rfl
  have K9c0 : w11.cell? ⟨g9, 0, none⟩ = some (.bool b9) := K9.out.at_ 0 rfl
  have K9c1 : w11.cell? ⟨g9, 1, none⟩ = some (.slice A9 n9 c9) := K9.out.at_ 1 rfl
  have K9c2 : w11.cell? ⟨g9, 2, none⟩ = some (.slice D9 m9 k9) := K9.out.at_ 2 rfl
  go_wp2_with fail
  refine (iSign_P ((a3.out.below b0.out).arg (L_up S3.out (by decide))) r hr.out).mono ?_
  rintro e w12 ⟨_, rfl, d0, rfl⟩
  replace K1 := hide (K1.out.below' d0)
  replace K2 := hide (K2.out.below' d0)
  replace K3 := hide (K3.out.below' d0)
  replace X := hide (X.out.below d0)
  replace K7 := hide (K7.out.below' d0)
  replace K9 := hide (K9.out.below' d0)
  replace Y := hide (Y.out.below d0)
  replace K11 := hide (K11.out.below' d0)
  replace D := hide (D.out.below d0)
  replace K13 := hide (K13.out.below' d0)
  replace N := hide (N.out.below d0)
  replace b0 := hide (below_tr b0.out d0)
  clear d0
  clear K1c0 K1c1 K2c0 K2c1 K3c0 K3c1 K7c0 K7c1 K7c2 K9c0 K9c1 K9c2
  have K1c0 : w12.cell? ⟨w.heap.size, 0, none⟩ = some (.bool b1) := K1.out.at_ 0 rfl
  have K1c1 : w12.cell? ⟨w.heap.size, 1, none⟩ = some (.slice A1 n1 c1) := K1.out.at_ 1 rfl
  have K2c0 : w12.cell? ⟨w.heap.size + 1, 0, none⟩ = some (.bool b2) := K2.out.at_ 0 rfl
  have K2c1 : w12.cell? ⟨w.heap.size + 1, 1, none⟩ = some (.slice A2 n2 c2) := K2.out.at_ 1 rfl
  have K3c0 : w12.cell? ⟨w.heap.size + 1 + 1, 0, none⟩ = some (.bool b3) := K3.out.at_ 0 rfl
  have K3c1 : w12.cell? ⟨w.heap.size + 1 + 1, 1, none⟩ = some (.slice A3 n3 c3) := K3.out.at_ 1 rfl
  have K7c0 : w12.cell? ⟨w5.heap.size, 0, none⟩ = some (.bool b7) := K7.out.at_ 0 rfl
  have K7c1 : w12.cell? ⟨w5.heap.size, 1, none⟩ = some (.slice A7 n7 c7) := K7.out.at_ 1 rfl
  have K7c2 : w12.cell? ⟨w5.heap.size, 2, none⟩ = some (.slice D7 m7 k7) := K7.out.at_ 2 rfl
  have K9c0 : w12.cell? ⟨g9, 0, none⟩ = some (.bool b9) := K9.out.at_ 0 rfl
  have K9c1 : w12.cell? ⟨g9, 1, none⟩ = some (.slice A9 n9 c9) := K9.out.at_ 1 rfl
  have K9c2 : w12.cell? ⟨g9, 2, none⟩ = some (.slice D9 m9 k9) := K9.out.at_ 2 rfl
  go_wp2_with fail
  refine (rsame_yes X.out Y.out (Rat.divInt_mul_right hz.out).symm).mono ?_
  rintro e w13 ⟨_, rfl, d0, rfl⟩
  replace K1 := hide (K1.out.below' d0)
  replace K2 := hide (K2.out.below' d0)
  replace K3 := hide (K3.out.below' d0)
  replace X := hide (X.out.below d0)
  replace K7 := hide (K7.out.below' d0)
  replace K9 := hide (K9.out.below' d0)
  replace Y := hide (Y.out.below d0)
  replace K11 := hide (K11.out.below' d0)
  replace D := hide (D.out.below d0)
  replace K13 := hide (K13.out.below' d0)
  replace N := hide (N.out.below d0)
  replace b0 := hide (below_tr b0.out d0)
  clear d0
  clear K1c0 K1c1 K2c0 K2c1 K3c0 K3c1 K7c0 K7c1 K7c2 K9c0 K9c1 K9c2
  go_wp2
  exact opq_end hR ⟨rfl, b0⟩
end Go.Proofs.YtnpfochbpdfcmaaGreatDoor
