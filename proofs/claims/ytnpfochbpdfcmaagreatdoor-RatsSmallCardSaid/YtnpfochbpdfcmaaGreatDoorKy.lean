/- the laws of rats: RatsSmall. -/
import Derived.Test.YtnpfochbpdfcmaaGreatDoorKz
set_option linter.unusedVariables false
set_option linter.unusedSimpArgs false
set_option maxRecDepth 100000
namespace Go.Proofs.YtnpfochbpdfcmaaGreatDoor
open Go.RowKit

theorem fn_rOf_ (args : Array Value) (w : World) : (callFunc 38 args).run Tryz.prog w = .ok (.enter 38 args) w := callFunc_enter Tryz.func38 (by kernel_rfl) rfl args w
theorem rOf_C (w : World) (n : Int) (h0 : -9223372036854775808 ≤ n) (h1 : n < 9223372036854775808) :
    Calls Tryz.prog 38 #[.int .i64 n] w fun e w' => ∃ u, e = .returned u ∧ Below w.heap.size w w' ∧ RCan w' u ((n : Int) : Rat) :=
  (rOf_P w n h0 h1).mono fun e w' ⟨u, h1, h2, h3⟩ => ⟨u, h1, h2, h3.can⟩
theorem wrap_in (n : Int) (h : n.natAbs < 9223372036854775808) : IntKind.i64.wrap n = n := by rw [IntKind.wrap_i64]; omega
set_option maxHeartbeats 8000000 in
theorem RatsSmall_ok (w : World) (m n : Int) (pu pv : Nat) (hm : -32768 ≤ m) (hm' : m < 32768) (hn : -32768 ≤ n) (hn' : n < 32768) (hu : pu < 65536) (hv : pv < 65536) (hT : Tab w) (hM : MaxL w) :
    Calls Tryz.prog 9 #[.int .i16 m, .int .i16 n, .agg #[.int .u16 (pu : Nat), .int .u16 (pv : Nat)]] w fun e w' => e = .returned (.bool true) ∧ Hid (Below w.heap.size w w') := by
  refine opq fun R hR => ?_
  have T := hide hT
  have M := hide hM
  clear hT hM
  obtain ⟨p, hp, hp1, hp2⟩ : ∃ p : Int, (pu : Int) + 1 = p ∧ 1 ≤ p ∧ p ≤ 65536 := ⟨_, rfl, by omega, by omega⟩
  obtain ⟨q, hq, hq1, hq2⟩ : ∃ q : Int, (pv : Int) + 1 = q ∧ 1 ≤ q ∧ q ≤ 65536 := ⟨_, rfl, by omega, by omega⟩
  have B := hide (show (m * q).natAbs ≤ 32768 * 65536 ∧ (n * p).natAbs ≤ 32768 * 65536 ∧ (p * q).natAbs ≤ 65536 * 65536 ∧ (m * n).natAbs ≤ 32768 * 32768 from ⟨prod_b (by omega) (by omega), prod_b (by omega) (by omega), prod_b (by omega) (by omega), prod_b (by omega) (by omega)⟩)
  have W1 := hide (show IntKind.i64.wrap (m * q) = m * q from wrap_in _ (by have := B.out; omega))
  have W2 := hide (show IntKind.i64.wrap (n * p) = n * p from wrap_in _ (by have := B.out; omega))
  have W2' := hide (show IntKind.i64.wrap (p * n) = p * n from wrap_in _ (by have := B.out; rw [Int.mul_comm]; omega))
  have W3 := hide (show IntKind.i64.wrap (p * q) = p * q from wrap_in _ (by have := B.out; omega))
  have W4 := hide (show IntKind.i64.wrap (m * n) = m * n from wrap_in _ (by have := B.out; omega))
  have W5 := hide (show IntKind.i64.wrap (m * q + n * p) = m * q + n * p from wrap_in _ (by have := B.out; omega))
  have P1 := hide (show 1 ≤ p * q from by have := Int.mul_le_mul (c := p) (d := q) hp1 hq1 (by omega) (by omega); omega)
  have LX : Hid (H (Rat.divInt m p) 1) := H_make (L_small (by omega)) (L_small (by omega)) (Nat.le_refl _)
  have LY : Hid (H (Rat.divInt n q) 1) := H_make (L_small (by omega)) (L_small (by omega)) (Nat.le_refl _)
  obtain ⟨d, hd, d1, d2⟩ : ∃ d : Int, m.tdiv p = d ∧ -32768 ≤ d ∧ d ≤ 32768 := ⟨_, rfl, by have := Int.natAbs_tdiv_le_natAbs m p; omega, by have := Int.natAbs_tdiv_le_natAbs m p; omega⟩
  obtain ⟨r, hr, r1, r2⟩ : ∃ r : Int, m.tmod p = r ∧ -65536 ≤ r ∧ r ≤ 65536 := ⟨_, rfl, by have := Int.lt_tmod_of_pos m (show 0 < p by omega); omega, by have := Int.tmod_lt_of_pos m (show 0 < p by omega); omega⟩
  have hd' := hide hd
  have hr' := hide hr
  have wd : IntKind.i64.wrap d = d := wrap_in _ (by omega)
  have wr : IntKind.i64.wrap r = r := wrap_in _ (by omega)
  have hp0 : (p == 0) = false := by simp; omega
  go_enter Tryz.func9, Tryz.ntmps9
  have b0 := hide (Below.refl w.heap.size w)
  have K5 := hide (Blk.new_at w (w.heap.size) (by simp) 54 #[.int .u16 (pu : Nat), .int .u16 (pv : Nat)])
  have y := (Below.refl w.heap.size w).alloc (Nat.le_refl _) (.cells #[.int .u16 (pu : Nat), .int .u16 (pv : Nat)] 54)
  replace b0 := hide (below_tr b0.out y)
  clear y
  have K5c0 : (w.alloc (.cells #[.int .u16 (pu : Nat), .int .u16 (pv : Nat)] 54)).cell? ⟨w.heap.size, 0, none⟩ = some (.int .u16 (pu : Nat)) := K5.out.at_ 0 rfl
  have K5c1 : (w.alloc (.cells #[.int .u16 (pu : Nat), .int .u16 (pv : Nat)] 54)).cell? ⟨w.heap.size, 1, none⟩ = some (.int .u16 (pv : Nat)) := K5.out.at_ 1 rfl
  go_wp2_with fail
  refine (rlof_C _ m p (by omega) (by omega) (by omega) (by omega) (by omega) (T.out.below b0.out)).mono ?_
  rintro e w1 ⟨v11, rfl, d0, r11⟩
  replace K5 := hide (K5.out.below' d0)
  replace b0 := hide (below_tr b0.out d0)
  have X := hide (r11)
  clear d0
  clear r11
  obtain ⟨b11, A11, n11, c11, D11, m11, k11, rfl⟩ := X.out.slice
  clear K5c0 K5c1
  have K11 := hide (Blk.new_at w1 (w1.heap.size) (by simp) 27 #[.bool b11, .slice A11 n11 c11, .slice D11 m11 k11])
  have y := (Below.refl w1.heap.size w1).alloc (Nat.le_refl _) (.cells #[.bool b11, .slice A11 n11 c11, .slice D11 m11 k11] 27)
  replace K5 := hide (K5.out.below' y)
  replace X := hide (X.out.below y)
  replace b0 := hide (below_tr b0.out y)
  clear y
  go_wp2_with fail
  refine (rlof_C _ n q (by omega) (by omega) (by omega) (by omega) (by omega) (T.out.below b0.out)).mono ?_
  rintro e w2 ⟨v12, rfl, d0, r12⟩
  replace K5 := hide (K5.out.below' d0)
  replace X := hide (X.out.below d0)
  replace K11 := hide (K11.out.below' d0)
  replace b0 := hide (below_tr b0.out d0)
  have Y := hide (r12)
  clear d0
  clear r12
  obtain ⟨b12, A12, n12, c12, D12, m12, k12, rfl⟩ := Y.out.slice
  obtain ⟨lb, hlb⟩ : ∃ l : Bool, Hid (decide (m * q < n * p) = l) := ⟨_, rfl⟩
  obtain ⟨cc, hcc⟩ : ∃ c : Int, Hid (cmpQ (Rat.divInt m p) (Rat.divInt n q) = c) := ⟨_, rfl⟩
  have hlc := hide (small_cmp hp1 hq1 hlb.out hcc.out)
  obtain ⟨wb, hwb⟩ : ∃ b : Bool, Hid ((r == 0) = b) := ⟨_, rfl⟩
  have hww : Hid (decide ((Rat.divInt m p).den = 1) = wb) := by
    show _ = _
    rw [small_whole hp1, hr'.out, hwb.out]
  have hp0' := hide (show ¬ p = 0 by omega)
  have hr2 := hr'
  have wr' := hide wr
  by_cases g : r < 0
  case pos =>
    obtain ⟨z, hz⟩ : ∃ z : Int, d - 1 = z := ⟨_, rfl⟩
    have hfl : Hid (m / p = z) := by
      show _ = _
      have e := floor_neg hp1 (by rw [hr'.out]; exact g)
      rw [hd'.out] at e
      rw [← e, hz]
    have wz : IntKind.i64.wrap z = z := wrap_in _ (by omega)
    by_cases hn0 : n = 0
    case pos =>
      replace hn0 := hide hn0
      have K11d0 : w2.cell? ⟨w1.heap.size, 0, none⟩ = some (.bool b11) := K11.out.at_ 0 rfl
      have K11d1 : w2.cell? ⟨w1.heap.size, 1, none⟩ = some (.slice A11 n11 c11) := K11.out.at_ 1 rfl
      have K11d2 : w2.cell? ⟨w1.heap.size, 2, none⟩ = some (.slice D11 m11 k11) := K11.out.at_ 2 rfl
      have K12 := hide (Blk.new_at w2 (w2.heap.size) (by simp) 27 #[.bool b12, .slice A12 n12 c12, .slice D12 m12 k12])
      have y := (Below.refl w2.heap.size w2).alloc (Nat.le_refl _) (.cells #[.bool b12, .slice A12 n12 c12, .slice D12 m12 k12] 27)
      replace K5 := hide (K5.out.below' y)
      replace X := hide (X.out.below y)
      replace K11 := hide (K11.out.below' y)
      replace Y := hide (Y.out.below y)
      replace b0 := hide (below_tr b0.out y)
      clear y
      have K11c0 : (w2.alloc (.cells #[.bool b12, .slice A12 n12 c12, .slice D12 m12 k12] 27)).cell? ⟨w1.heap.size, 0, none⟩ = some (.bool b11) := K11.out.at_ 0 rfl
      have K11c1 : (w2.alloc (.cells #[.bool b12, .slice A12 n12 c12, .slice D12 m12 k12] 27)).cell? ⟨w1.heap.size, 1, none⟩ = some (.slice A11 n11 c11) := K11.out.at_ 1 rfl
      have K11c2 : (w2.alloc (.cells #[.bool b12, .slice A12 n12 c12, .slice D12 m12 k12] 27)).cell? ⟨w1.heap.size, 2, none⟩ = some (.slice D11 m11 k11) := K11.out.at_ 2 rfl
      have K12c0 : (w2.alloc (.cells #[.bool b12, .slice A12 n12 c12, .slice D12 m12 k12] 27)).cell? ⟨w2.heap.size, 0, none⟩ = some (.bool b12) := K12.out.at_ 0 rfl
      have K12c1 : (w2.alloc (.cells #[.bool b12, .slice A12 n12 c12, .slice D12 m12 k12] 27)).cell? ⟨w2.heap.size, 1, none⟩ = some (.slice A12 n12 c12) := K12.out.at_ 1 rfl
      have K12c2 : (w2.alloc (.cells #[.bool b12, .slice A12 n12 c12, .slice D12 m12 k12] 27)).cell? ⟨w2.heap.size, 2, none⟩ = some (.slice D12 m12 k12) := K12.out.at_ 2 rfl
      go_wp2_with fail
      refine (rFloor_P (X.out.arg (LX.out.up (by decide))) (T.out.below b0.out)).mono ?_
      rintro e w3 ⟨v47, rfl, d0, r47⟩
      replace K5 := hide (K5.out.below' d0)
      replace X := hide (X.out.below d0)
      replace K11 := hide (K11.out.below' d0)
      replace Y := hide (Y.out.below d0)
      replace K12 := hide (K12.out.below' d0)
      replace b0 := hide (below_tr b0.out d0)
      have N := hide (r47.can)
      clear d0
      clear K11d0 K11d1 K11d2
      clear K11c0 K11c1 K11c2 K12c0 K12c1 K12c2
      clear r47
      rw [small_floor hp1] at N
      rw [hfl.out] at N
      have K11c0 : w3.cell? ⟨w1.heap.size, 0, none⟩ = some (.bool b11) := K11.out.at_ 0 rfl
      have K11c1 : w3.cell? ⟨w1.heap.size, 1, none⟩ = some (.slice A11 n11 c11) := K11.out.at_ 1 rfl
      have K11c2 : w3.cell? ⟨w1.heap.size, 2, none⟩ = some (.slice D11 m11 k11) := K11.out.at_ 2 rfl
      have K12c0 : w3.cell? ⟨w2.heap.size, 0, none⟩ = some (.bool b12) := K12.out.at_ 0 rfl
      have K12c1 : w3.cell? ⟨w2.heap.size, 1, none⟩ = some (.slice A12 n12 c12) := K12.out.at_ 1 rfl
      have K12c2 : w3.cell? ⟨w2.heap.size, 2, none⟩ = some (.slice D12 m12 k12) := K12.out.at_ 2 rfl
      go_wp2_with fail
      refine (iBack_in N.out (L_up (L_small (by omega)) (by decide)) (by omega) (by omega)).mono ?_
      rintro e w4 ⟨rfl, d0⟩
      replace K5 := hide (K5.out.below' d0)
      replace X := hide (X.out.below d0)
      replace K11 := hide (K11.out.below' d0)
      replace Y := hide (Y.out.below d0)
      replace K12 := hide (K12.out.below' d0)
      replace N := hide (N.out.below d0)
      replace b0 := hide (below_tr b0.out d0)
      clear d0
      clear K11c0 K11c1 K11c2 K12c0 K12c1 K12c2
      clear N
      have K11c0 : w4.cell? ⟨w1.heap.size, 0, none⟩ = some (.bool b11) := K11.out.at_ 0 rfl
      have K11c1 : w4.cell? ⟨w1.heap.size, 1, none⟩ = some (.slice A11 n11 c11) := K11.out.at_ 1 rfl
      have K11c2 : w4.cell? ⟨w1.heap.size, 2, none⟩ = some (.slice D11 m11 k11) := K11.out.at_ 2 rfl
      have K12c0 : w4.cell? ⟨w2.heap.size, 0, none⟩ = some (.bool b12) := K12.out.at_ 0 rfl
      have K12c1 : w4.cell? ⟨w2.heap.size, 1, none⟩ = some (.slice A12 n12 c12) := K12.out.at_ 1 rfl
      have K12c2 : w4.cell? ⟨w2.heap.size, 2, none⟩ = some (.slice D12 m12 k12) := K12.out.at_ 2 rfl
      go_wp2_with fail
      refine (rDiv_zero X.out (LX.out.up (by decide)) Y.out (LY.out.up (by decide)) (T.out.below b0.out) (by rw [hn0.out]; exact small_zero)).mono ?_
      rintro e w5 ⟨rfl, d0⟩
      replace K5 := hide (K5.out.below' d0)
      replace X := hide (X.out.below d0)
      replace K11 := hide (K11.out.below' d0)
      replace Y := hide (Y.out.below d0)
      replace K12 := hide (K12.out.below' d0)
      replace b0 := hide (below_tr b0.out d0)
      clear d0
      clear K11c0 K11c1 K11c2 K12c0 K12c1 K12c2
      have K16 := hide (Blk.new_at w5 (w5.heap.size) (by simp) 27 #[.bool false, .slice none 0 0, .slice none 0 0])
      have y := (Below.refl w5.heap.size w5).alloc (Nat.le_refl _) (.cells #[.bool false, .slice none 0 0, .slice none 0 0] 27)
      replace K5 := hide (K5.out.below' y)
      replace X := hide (X.out.below y)
      replace K11 := hide (K11.out.below' y)
      replace Y := hide (Y.out.below y)
      replace K12 := hide (K12.out.below' y)
      replace b0 := hide (below_tr b0.out y)
      clear y
      go_wp2
      obtain ⟨V1_5, hV⟩ : ∃ V, (w5.alloc (.cells #[.bool false, .slice none 0 0, .slice none 0 0] 27)) = V := ⟨_, rfl⟩
      rw [hV] at K5 X K11 Y K12 K16 b0
      rw [hV]
      clear hV
      clear hp hq hd hr hp0 wd wr
      refine wp_region_facts 26 (fun w' => Below V1_5.heap.size V1_5 w') [(57, .eq (.int .i64 n)), (58, .eq (.bool false)), (59, .eq (.bool false)), (60, .eq (undef)), (61, .eq (undef)), (62, .eq (undef)), (63, .eq (undef)), (64, .eq (undef)), (65, .eq (undef)), (66, .eq (undef)), (67, .eq (undef)), (68, .eq (undef)), (69, .eq (undef)), (70, .eq (undef)), (71, .eq (undef)), (72, .eq (undef)), (73, .eq (undef)), (74, .eq (Go.Value.bool false)), (75, .eq (Go.Value.bool false)), (76, .eq (.int .i64 n)), (77, .eq (.bool true)), (78, .eq (.bool true)), (79, .eq (.int .i64 (10))), (80, .eq (.bool false)), (81, .eq (.bool false)), (82, .eq (.bool false))] [false, false, false, false, false, false, false, false, false, false, false, false, false, false, false, false, false, false, false, false, false, false, false, false, false, false, false, false, false, false, false, false, false, false, false, false, false, false, false, false, false, false, false, false, false, false, false, false, false, false, false, false, false, false, false, false, false, true, true, true, true, true, true, true, true, true, true, true, true, true, true, true, true, true, true, true, true, true, true, true, true, true, true, false, false, false, false, false, false, false, false, false, false, false, false, false, false, false, false, false, false, false, false, false, false, false, false, false, false, false, false, false, false, false, false, false, false, false, false, false, false, false, false, false, false, false, false, false, false, false, false, false, false, false, false, false, false, false, false, false, false, false, false, false, false, false, false, false, false, false, false, false, false] mixed (by kernel_rfl) (by kernel_rfl) (by kernel_rfl) (fun _ _ h hb => h.trans (hb.mono h.size)) ((Below.refl _ _).drew) ⟨?_, ?_, ?_, ?_, ?_, ?_, ?_, ?_, ?_, ?_, ?_, ?_, ?_, ?_, ?_, ?_, ?_, ?_, ?_, ?_, ?_, ?_, ?_, ?_, ?_, ?_, trivial⟩ ?_
      · exact .moveC (.inl rfl) (.inl rfl) rfl (fun a w' hC hs => (hs 8 (by kernel_rfl)))
      · exact .value (.inl rfl) (by intro T e; cases e) rfl rfl (fun a w' hC hs hl => by
          have e0 : a.eval (.tmp 57) = (.int .i64 n) := (hl 57 (by kernel_rfl) (by kernel_rfl))
          simp only [execOp, e0]
          simp only [Act.eval]
          simp [go_sem, hn0.out])
      · exact .move (.inl rfl) (.inl rfl) rfl (by kernel_rfl) (by kernel_rfl) rfl
      · exact .skip ⟨2, false, 59, by decide, rfl, rfl, rfl⟩ (fun _ e => by cases e; exact .inl rfl)
      · exact .skip ⟨2, false, 59, by decide, rfl, rfl, rfl⟩ (fun _ e => by cases e; exact .inl rfl)
      · exact .skip ⟨2, false, 59, by decide, rfl, rfl, rfl⟩ (fun _ e => by cases e; exact .inl rfl)
      · exact .skipU ⟨5, false, 62, by decide, rfl, rfl, rfl⟩ (fun _ e => by cases e; exact .inl rfl)
      · exact .skipU ⟨5, false, 62, by decide, rfl, rfl, rfl⟩ (fun _ e => by cases e; exact .inl rfl)
      · exact .skipU ⟨5, false, 62, by decide, rfl, rfl, rfl⟩ (fun _ e => by cases e; exact .inl rfl)
      · exact .skipU ⟨5, false, 62, by decide, rfl, rfl, rfl⟩ (fun _ e => by cases e; exact .inl rfl)
      · exact .skipU ⟨5, false, 62, by decide, rfl, rfl, rfl⟩ (fun _ e => by cases e; exact .inl rfl)
      · exact .skipU ⟨5, false, 62, by decide, rfl, rfl, rfl⟩ (fun _ e => by cases e; exact .inl rfl)
      · exact .skipU ⟨5, false, 62, by decide, rfl, rfl, rfl⟩ (fun _ e => by cases e; exact .inl rfl)
      · exact .skipU ⟨5, false, 62, by decide, rfl, rfl, rfl⟩ (fun _ e => by cases e; exact .inl rfl)
      · exact .skipU ⟨5, false, 62, by decide, rfl, rfl, rfl⟩ (fun _ e => by cases e; exact .inl rfl)
      · exact .skipU ⟨5, false, 62, by decide, rfl, rfl, rfl⟩ (fun _ e => by cases e; exact .inl rfl)
      · exact .skip ⟨2, false, 59, by decide, rfl, rfl, rfl⟩ (fun _ e => by cases e; exact .inl rfl)
      · exact .pick (b := false) (.inl rfl) rfl rfl (fun a w' hC hs hl => ⟨(hl 59 (by kernel_rfl) (by kernel_rfl)), rfl⟩)
      · exact .move (.inl rfl) (.inl rfl) rfl (by kernel_rfl) (by kernel_rfl) rfl
      · exact .moveC (.inr ⟨18, false, 75, by decide, rfl, rfl, rfl⟩) (.inl rfl) rfl (fun a w' hC hs => (hs 8 (by kernel_rfl)))
      · exact .value (.inr ⟨18, false, 75, by decide, rfl, rfl, rfl⟩) (by intro T e; cases e) rfl rfl (fun a w' hC hs hl => by
          have e0 : a.eval (.tmp 76) = (.int .i64 n) := (hl 76 (by kernel_rfl) (by kernel_rfl))
          simp only [execOp, e0]
          simp only [Act.eval]
          simp [go_sem, hn0.out])
      · exact .move (.inr ⟨18, false, 75, by decide, rfl, rfl, rfl⟩) (.inl rfl) rfl (by kernel_rfl) (by kernel_rfl) rfl
      · exact .moveC (.inr ⟨21, true, 78, by decide, rfl, rfl, rfl⟩) (.inl rfl) rfl (fun a w' hC hs => (hs 17 (by kernel_rfl)))
      · exact .value (.inr ⟨21, true, 78, by decide, rfl, rfl, rfl⟩) (by intro T e; cases e) rfl rfl (fun a w' hC hs hl => by
          have e0 : a.eval (.tmp 79) = (.int .i64 (10)) := (hl 79 (by kernel_rfl) (by kernel_rfl))
          simp only [execOp, e0]
          simp only [Act.eval]
          simp [go_sem] <;> rfl)
      · exact .pick (b := true) (.inr ⟨18, false, 75, by decide, rfl, rfl, rfl⟩) rfl rfl (fun a w' hC hs hl => ⟨(hl 78 (by kernel_rfl) (by kernel_rfl)), (hl 80 (by kernel_rfl) (by kernel_rfl))⟩)
      · exact .pick (b := false) (.inl rfl) rfl rfl (fun a w' hC hs hl => ⟨(hl 75 (by kernel_rfl) (by kernel_rfl)), (hl 81 (by kernel_rfl) (by kernel_rfl))⟩)
      intro f w6 hC hF _
      have f0 : f 82 = .bool false := hF 82 (by kernel_rfl)
      clear hF
      simp only [patch, List.drop]
      rw [f0]
      clear f0
      generalize f 57 = y57_ at *
      generalize f 58 = y58_ at *
      generalize f 59 = y59_ at *
      generalize f 60 = y60_ at *
      generalize f 61 = y61_ at *
      generalize f 62 = y62_ at *
      generalize f 63 = y63_ at *
      generalize f 64 = y64_ at *
      generalize f 65 = y65_ at *
      generalize f 66 = y66_ at *
      generalize f 67 = y67_ at *
      generalize f 68 = y68_ at *
      generalize f 69 = y69_ at *
      generalize f 70 = y70_ at *
      generalize f 71 = y71_ at *
      generalize f 72 = y72_ at *
      generalize f 73 = y73_ at *
      generalize f 74 = y74_ at *
      generalize f 75 = y75_ at *
      generalize f 76 = y76_ at *
      generalize f 77 = y77_ at *
      generalize f 78 = y78_ at *
      generalize f 79 = y79_ at *
      generalize f 80 = y80_ at *
      generalize f 81 = y81_ at *
      replace K5 := hide (K5.out.below' hC)
      replace X := hide (X.out.below hC)
      replace K11 := hide (K11.out.below' hC)
      replace Y := hide (Y.out.below hC)
      replace K12 := hide (K12.out.below' hC)
      replace K16 := hide (K16.out.below' hC)
      replace b0 := hide (b0.out.trans (hC.mono b0.out.size))
      clear hC
      go_wp2
      have Q1_ : Hid (H (((Rat.divInt m p) + (Rat.divInt n q))) 3) := H_add LX.out LY.out (by decide)
      have Q2_ : Hid (H (((Rat.divInt m p) * (Rat.divInt n q))) 2) := H_mul LX.out LY.out (by decide)
      refine wp_region_facts 71 (fun w' => Below w6.heap.size w6 w') [(83, .eq (.bool true)), (84, .eq (.bool true)), (85, (.rat0 w6 (Rat.divInt m p))), (86, (.rat0 w6 (Rat.divInt n q))), (87, (.rat ((Rat.divInt m p) + (Rat.divInt n q)))), (88, .eq (.int .i64 m)), (89, .eq (.int .i64 q)), (90, .eq (.int .i64 (m * q))), (91, .eq (.int .i64 n)), (92, .eq (.int .i64 p)), (93, .eq (.int .i64 (n * p))), (94, .eq (.int .i64 (m * q + n * p))), (95, .eq (.int .i64 p)), (96, .eq (.int .i64 q)), (97, .eq (.int .i64 (p * q))), (98, (.rat (Rat.divInt (m * q + n * p) (p * q)))), (99, .eq (.bool true)), (100, .eq (.bool true)), (101, .eq (.bool true)), (102, (.rat0 w6 (Rat.divInt m p))), (103, (.rat0 w6 (Rat.divInt n q))), (104, (.rat ((Rat.divInt m p) * (Rat.divInt n q)))), (105, .eq (.int .i64 m)), (106, .eq (.int .i64 n)), (107, .eq (.int .i64 (m * n))), (108, .eq (.int .i64 p)), (109, .eq (.int .i64 q)), (110, .eq (.int .i64 (p * q))), (111, (.rat (Rat.divInt (m * n) (p * q)))), (112, .eq (.bool true)), (113, .eq (.bool true)), (114, .eq (.bool true)), (115, (.rat0 w6 (Rat.divInt m p))), (116, (.rat0 w6 (Rat.divInt n q))), (117, .eq (.int .i64 (cc))), (118, .eq (.bool lb)), (119, .eq (.int .i64 m)), (120, .eq (.int .i64 q)), (121, .eq (.int .i64 (m * q))), (122, .eq (.int .i64 n)), (123, .eq (.int .i64 p)), (124, .eq (.int .i64 (n * p))), (125, .eq (.bool lb)), (126, .eq (.bool true)), (127, .eq (.bool true)), (128, .eq (.bool true)), (129, .eq (.int .i64 (0))), (130, .eq (.bool true)), (131, .eq (.bool true)), (132, .eq (.bool true)), (133, .eq (.int .i64 z)), (134, .eq (.int .i64 z)), (135, .eq (.bool true)), (136, .eq (.bool true)), (137, .eq (.bool true)), (138, (.rat0 w6 (Rat.divInt m p))), (139, .eq (.bool wb)), (140, .eq (.int .i64 m)), (141, .eq (.int .i64 p)), (142, .eq (.int .i64 r)), (143, .eq (.bool wb)), (144, .eq (.bool true)), (145, .eq (.bool true)), (146, .eq (.bool true)), (147, .eq (.int .i64 m)), (148, (.rat ((m : Int) : Rat))), (149, .eq (.int .i64 m)), (150, (.rat (Rat.divInt m 1))), (151, .eq (.bool true)), (152, .eq (.bool true)), (6, .eq (.bool true))] [false, false, false, false, false, false, true, false, false, false, false, false, false, false, false, false, false, false, false, false, false, false, false, false, false, false, false, false, false, false, false, false, false, false, false, false, false, false, false, false, false, false, false, false, false, false, false, false, false, false, false, false, false, false, false, false, false, false, false, false, false, false, false, false, false, false, false, false, false, false, false, false, false, false, false, false, false, false, false, false, false, false, false, true, true, true, true, true, true, true, true, true, true, true, true, true, true, true, true, true, true, true, true, true, true, true, true, true, true, true, true, true, true, true, true, true, true, true, true, true, true, true, true, true, true, true, true, true, true, true, true, true, true, true, true, true, true, true, true, true, true, true, true, true, true, true, true, true, true, true, true, true, true] mixed (by kernel_rfl) (by kernel_rfl) (by kernel_rfl) (fun _ _ h hb => h.trans (hb.mono h.size)) ((Below.refl _ _).drew) ⟨?_, ?_, ?_, ?_, ?_, ?_, ?_, ?_, ?_, ?_, ?_, ?_, ?_, ?_, ?_, ?_, ?_, ?_, ?_, ?_, ?_, ?_, ?_, ?_, ?_, ?_, ?_, ?_, ?_, ?_, ?_, ?_, ?_, ?_, ?_, ?_, ?_, ?_, ?_, ?_, ?_, ?_, ?_, ?_, ?_, ?_, ?_, ?_, ?_, ?_, ?_, ?_, ?_, ?_, ?_, ?_, ?_, ?_, ?_, ?_, ?_, ?_, ?_, ?_, ?_, ?_, ?_, ?_, ?_, ?_, ?_, trivial⟩ ?_
      · exact .call (.inl rfl) rfl rfl fn_ralive (fun a w' hC hs hl => ralive_P _ (T.out.below (b0.out.trans (hC.mono b0.out.size))) (M.out.below (b0.out.trans (hC.mono b0.out.size))))
      · exact .move (.inl rfl) (.inl rfl) rfl (by kernel_rfl) (by kernel_rfl) rfl
      · exact .load (.agg #[.bool b11, .slice A11 n11 c11, .slice D11 m11 k11]) (.inr ⟨1, true, 84, by decide, rfl, rfl, rfl⟩) rfl rfl (fun a w' hC hs hl => by rw [show a.eval (.tmp 11) = (.pointer (some ⟨w1.heap.size, 0, none⟩) : Value) from (hs 11 (by kernel_rfl))]; exact ⟨ld_Rat_ ((K11.out.below' hC).at_ 0 rfl) ((K11.out.below' hC).at_ 1 rfl) ((K11.out.below' hC).at_ 2 rfl), X.out⟩)
      · exact .load (.agg #[.bool b12, .slice A12 n12 c12, .slice D12 m12 k12]) (.inr ⟨1, true, 84, by decide, rfl, rfl, rfl⟩) rfl rfl (fun a w' hC hs hl => by rw [show a.eval (.tmp 12) = (.pointer (some ⟨w2.heap.size, 0, none⟩) : Value) from (hs 12 (by kernel_rfl))]; exact ⟨ld_Rat_ ((K12.out.below' hC).at_ 0 rfl) ((K12.out.below' hC).at_ 1 rfl) ((K12.out.below' hC).at_ 2 rfl), Y.out⟩)
      · exact .call (.inr ⟨1, true, 84, by decide, rfl, rfl, rfl⟩) rfl rfl fn_rAdd (fun a w' hC hs hl => rAdd_C (RCan.arg (RCan.below (hl 85 (by kernel_rfl) (by kernel_rfl)) hC) (LX.out.up (by decide))) (RCan.arg (RCan.below (hl 86 (by kernel_rfl) (by kernel_rfl)) hC) (LY.out.up (by decide))) (T.out.below (b0.out.trans (hC.mono b0.out.size))))
      · exact .moveC (.inr ⟨1, true, 84, by decide, rfl, rfl, rfl⟩) (.inl rfl) rfl (fun a w' hC hs => (hs 7 (by kernel_rfl)))
      · exact .moveC (.inr ⟨1, true, 84, by decide, rfl, rfl, rfl⟩) (.inl rfl) rfl (fun a w' hC hs => (hs 10 (by kernel_rfl)))
      · exact .value (.inr ⟨1, true, 84, by decide, rfl, rfl, rfl⟩) (by intro T e; cases e) rfl rfl (fun a w' hC hs hl => by
          have e0 : a.eval (.tmp 88) = (.int .i64 m) := (hl 88 (by kernel_rfl) (by kernel_rfl))
          have e1 : a.eval (.tmp 89) = (.int .i64 q) := (hl 89 (by kernel_rfl) (by kernel_rfl))
          simp only [execOp, e0, e1]
          skip
          simp [go_sem, W1.out])
      · exact .moveC (.inr ⟨1, true, 84, by decide, rfl, rfl, rfl⟩) (.inl rfl) rfl (fun a w' hC hs => (hs 8 (by kernel_rfl)))
      · exact .moveC (.inr ⟨1, true, 84, by decide, rfl, rfl, rfl⟩) (.inl rfl) rfl (fun a w' hC hs => (hs 9 (by kernel_rfl)))
      · exact .value (.inr ⟨1, true, 84, by decide, rfl, rfl, rfl⟩) (by intro T e; cases e) rfl rfl (fun a w' hC hs hl => by
          have e0 : a.eval (.tmp 91) = (.int .i64 n) := (hl 91 (by kernel_rfl) (by kernel_rfl))
          have e1 : a.eval (.tmp 92) = (.int .i64 p) := (hl 92 (by kernel_rfl) (by kernel_rfl))
          simp only [execOp, e0, e1]
          skip
          simp [go_sem, W2.out])
      · exact .value (.inr ⟨1, true, 84, by decide, rfl, rfl, rfl⟩) (by intro T e; cases e) rfl rfl (fun a w' hC hs hl => by
          have e0 : a.eval (.tmp 90) = (.int .i64 (m * q)) := (hl 90 (by kernel_rfl) (by kernel_rfl))
          have e1 : a.eval (.tmp 93) = (.int .i64 (n * p)) := (hl 93 (by kernel_rfl) (by kernel_rfl))
          simp only [execOp, e0, e1]
          skip
          simp [go_sem, W5.out])
      · exact .moveC (.inr ⟨1, true, 84, by decide, rfl, rfl, rfl⟩) (.inl rfl) rfl (fun a w' hC hs => (hs 9 (by kernel_rfl)))
      · exact .moveC (.inr ⟨1, true, 84, by decide, rfl, rfl, rfl⟩) (.inl rfl) rfl (fun a w' hC hs => (hs 10 (by kernel_rfl)))
      · exact .value (.inr ⟨1, true, 84, by decide, rfl, rfl, rfl⟩) (by intro T e; cases e) rfl rfl (fun a w' hC hs hl => by
          have e0 : a.eval (.tmp 95) = (.int .i64 p) := (hl 95 (by kernel_rfl) (by kernel_rfl))
          have e1 : a.eval (.tmp 96) = (.int .i64 q) := (hl 96 (by kernel_rfl) (by kernel_rfl))
          simp only [execOp, e0, e1]
          skip
          simp [go_sem, W3.out])
      · exact .call (.inr ⟨1, true, 84, by decide, rfl, rfl, rfl⟩) rfl rfl fn_rlof (fun a w' hC hs hl => by
        show Calls Tryz.prog _ #[a.eval (.tmp 94), a.eval (.tmp 97)] w' _
        rw [show a.eval (.tmp 94) = .int .i64 (m * q + n * p) from (hl 94 (by kernel_rfl) (by kernel_rfl)), show a.eval (.tmp 97) = .int .i64 (p * q) from (hl 97 (by kernel_rfl) (by kernel_rfl))]
        exact rlof_C w' (m * q + n * p) (p * q) (by have := B.out; have := P1.out; omega) (by have := B.out; have := P1.out; omega) (by have := B.out; have := P1.out; omega) (by have := B.out; have := P1.out; omega) (by have := B.out; have := P1.out; omega) (T.out.below (b0.out.trans (hC.mono b0.out.size))))
      · exact .call (.inr ⟨1, true, 84, by decide, rfl, rfl, rfl⟩) rfl rfl fn_rsame (fun a w' hC hs hl => rsame_yes (hl 87 (by kernel_rfl) (by kernel_rfl)) (hl 98 (by kernel_rfl) (by kernel_rfl)) (small_add hp1 hq1))
      · exact .pick (b := true) (.inl rfl) rfl rfl (fun a w' hC hs hl => ⟨(hl 84 (by kernel_rfl) (by kernel_rfl)), (hl 99 (by kernel_rfl) (by kernel_rfl))⟩)
      · exact .move (.inl rfl) (.inl rfl) rfl (by kernel_rfl) (by kernel_rfl) rfl
      · exact .load (.agg #[.bool b11, .slice A11 n11 c11, .slice D11 m11 k11]) (.inr ⟨18, true, 101, by decide, rfl, rfl, rfl⟩) rfl rfl (fun a w' hC hs hl => by rw [show a.eval (.tmp 11) = (.pointer (some ⟨w1.heap.size, 0, none⟩) : Value) from (hs 11 (by kernel_rfl))]; exact ⟨ld_Rat_ ((K11.out.below' hC).at_ 0 rfl) ((K11.out.below' hC).at_ 1 rfl) ((K11.out.below' hC).at_ 2 rfl), X.out⟩)
      · exact .load (.agg #[.bool b12, .slice A12 n12 c12, .slice D12 m12 k12]) (.inr ⟨18, true, 101, by decide, rfl, rfl, rfl⟩) rfl rfl (fun a w' hC hs hl => by rw [show a.eval (.tmp 12) = (.pointer (some ⟨w2.heap.size, 0, none⟩) : Value) from (hs 12 (by kernel_rfl))]; exact ⟨ld_Rat_ ((K12.out.below' hC).at_ 0 rfl) ((K12.out.below' hC).at_ 1 rfl) ((K12.out.below' hC).at_ 2 rfl), Y.out⟩)
      · exact .call (.inr ⟨18, true, 101, by decide, rfl, rfl, rfl⟩) rfl rfl fn_rMul (fun a w' hC hs hl => rMul_C (RCan.arg (RCan.below (hl 102 (by kernel_rfl) (by kernel_rfl)) hC) (LX.out.up (by decide))) (RCan.arg (RCan.below (hl 103 (by kernel_rfl) (by kernel_rfl)) hC) (LY.out.up (by decide))) (T.out.below (b0.out.trans (hC.mono b0.out.size))))
      · exact .moveC (.inr ⟨18, true, 101, by decide, rfl, rfl, rfl⟩) (.inl rfl) rfl (fun a w' hC hs => (hs 7 (by kernel_rfl)))
      · exact .moveC (.inr ⟨18, true, 101, by decide, rfl, rfl, rfl⟩) (.inl rfl) rfl (fun a w' hC hs => (hs 8 (by kernel_rfl)))
      · exact .value (.inr ⟨18, true, 101, by decide, rfl, rfl, rfl⟩) (by intro T e; cases e) rfl rfl (fun a w' hC hs hl => by
          have e0 : a.eval (.tmp 105) = (.int .i64 m) := (hl 105 (by kernel_rfl) (by kernel_rfl))
          have e1 : a.eval (.tmp 106) = (.int .i64 n) := (hl 106 (by kernel_rfl) (by kernel_rfl))
          simp only [execOp, e0, e1]
          skip
          simp [go_sem, W4.out])
      · exact .moveC (.inr ⟨18, true, 101, by decide, rfl, rfl, rfl⟩) (.inl rfl) rfl (fun a w' hC hs => (hs 9 (by kernel_rfl)))
      · exact .moveC (.inr ⟨18, true, 101, by decide, rfl, rfl, rfl⟩) (.inl rfl) rfl (fun a w' hC hs => (hs 10 (by kernel_rfl)))
      · exact .value (.inr ⟨18, true, 101, by decide, rfl, rfl, rfl⟩) (by intro T e; cases e) rfl rfl (fun a w' hC hs hl => by
          have e0 : a.eval (.tmp 108) = (.int .i64 p) := (hl 108 (by kernel_rfl) (by kernel_rfl))
          have e1 : a.eval (.tmp 109) = (.int .i64 q) := (hl 109 (by kernel_rfl) (by kernel_rfl))
          simp only [execOp, e0, e1]
          skip
          simp [go_sem, W3.out])
      · exact .call (.inr ⟨18, true, 101, by decide, rfl, rfl, rfl⟩) rfl rfl fn_rlof (fun a w' hC hs hl => by
        show Calls Tryz.prog _ #[a.eval (.tmp 107), a.eval (.tmp 110)] w' _
        rw [show a.eval (.tmp 107) = .int .i64 (m * n) from (hl 107 (by kernel_rfl) (by kernel_rfl)), show a.eval (.tmp 110) = .int .i64 (p * q) from (hl 110 (by kernel_rfl) (by kernel_rfl))]
        exact rlof_C w' (m * n) (p * q) (by have := B.out; have := P1.out; omega) (by have := B.out; have := P1.out; omega) (by have := B.out; have := P1.out; omega) (by have := B.out; have := P1.out; omega) (by have := B.out; have := P1.out; omega) (T.out.below (b0.out.trans (hC.mono b0.out.size))))
      · exact .call (.inr ⟨18, true, 101, by decide, rfl, rfl, rfl⟩) rfl rfl fn_rsame (fun a w' hC hs hl => rsame_yes (hl 104 (by kernel_rfl) (by kernel_rfl)) (hl 111 (by kernel_rfl) (by kernel_rfl)) (small_mul))
      · exact .pick (b := true) (.inl rfl) rfl rfl (fun a w' hC hs hl => ⟨(hl 101 (by kernel_rfl) (by kernel_rfl)), (hl 112 (by kernel_rfl) (by kernel_rfl))⟩)
      · exact .move (.inl rfl) (.inl rfl) rfl (by kernel_rfl) (by kernel_rfl) rfl
      · exact .load (.agg #[.bool b11, .slice A11 n11 c11, .slice D11 m11 k11]) (.inr ⟨31, true, 114, by decide, rfl, rfl, rfl⟩) rfl rfl (fun a w' hC hs hl => by rw [show a.eval (.tmp 11) = (.pointer (some ⟨w1.heap.size, 0, none⟩) : Value) from (hs 11 (by kernel_rfl))]; exact ⟨ld_Rat_ ((K11.out.below' hC).at_ 0 rfl) ((K11.out.below' hC).at_ 1 rfl) ((K11.out.below' hC).at_ 2 rfl), X.out⟩)
      · exact .load (.agg #[.bool b12, .slice A12 n12 c12, .slice D12 m12 k12]) (.inr ⟨31, true, 114, by decide, rfl, rfl, rfl⟩) rfl rfl (fun a w' hC hs hl => by rw [show a.eval (.tmp 12) = (.pointer (some ⟨w2.heap.size, 0, none⟩) : Value) from (hs 12 (by kernel_rfl))]; exact ⟨ld_Rat_ ((K12.out.below' hC).at_ 0 rfl) ((K12.out.below' hC).at_ 1 rfl) ((K12.out.below' hC).at_ 2 rfl), Y.out⟩)
      · exact .call (.inr ⟨31, true, 114, by decide, rfl, rfl, rfl⟩) rfl rfl fn_rCmp (fun a w' hC hs hl => rCmp_eq (RCan.arg (RCan.below (hl 115 (by kernel_rfl) (by kernel_rfl)) hC) (LX.out.up (by decide))) (RCan.arg (RCan.below (hl 116 (by kernel_rfl) (by kernel_rfl)) hC) (LY.out.up (by decide))) (T.out.below (b0.out.trans (hC.mono b0.out.size))) (cc) (hcc.out))
      · exact .value (.inr ⟨31, true, 114, by decide, rfl, rfl, rfl⟩) (by intro T e; cases e) rfl rfl (fun a w' hC hs hl => by
          have e0 : a.eval (.tmp 117) = (.int .i64 (cc)) := (hl 117 (by kernel_rfl) (by kernel_rfl))
          simp only [execOp, e0]
          simp only [Act.eval]
          simp [go_sem, hlc.out])
      · exact .moveC (.inr ⟨31, true, 114, by decide, rfl, rfl, rfl⟩) (.inl rfl) rfl (fun a w' hC hs => (hs 7 (by kernel_rfl)))
      · exact .moveC (.inr ⟨31, true, 114, by decide, rfl, rfl, rfl⟩) (.inl rfl) rfl (fun a w' hC hs => (hs 10 (by kernel_rfl)))
      · exact .value (.inr ⟨31, true, 114, by decide, rfl, rfl, rfl⟩) (by intro T e; cases e) rfl rfl (fun a w' hC hs hl => by
          have e0 : a.eval (.tmp 119) = (.int .i64 m) := (hl 119 (by kernel_rfl) (by kernel_rfl))
          have e1 : a.eval (.tmp 120) = (.int .i64 q) := (hl 120 (by kernel_rfl) (by kernel_rfl))
          simp only [execOp, e0, e1]
          skip
          simp [go_sem, W1.out])
      · exact .moveC (.inr ⟨31, true, 114, by decide, rfl, rfl, rfl⟩) (.inl rfl) rfl (fun a w' hC hs => (hs 8 (by kernel_rfl)))
      · exact .moveC (.inr ⟨31, true, 114, by decide, rfl, rfl, rfl⟩) (.inl rfl) rfl (fun a w' hC hs => (hs 9 (by kernel_rfl)))
      · exact .value (.inr ⟨31, true, 114, by decide, rfl, rfl, rfl⟩) (by intro T e; cases e) rfl rfl (fun a w' hC hs hl => by
          have e0 : a.eval (.tmp 122) = (.int .i64 n) := (hl 122 (by kernel_rfl) (by kernel_rfl))
          have e1 : a.eval (.tmp 123) = (.int .i64 p) := (hl 123 (by kernel_rfl) (by kernel_rfl))
          simp only [execOp, e0, e1]
          skip
          simp [go_sem, W2.out])
      · exact .value (.inr ⟨31, true, 114, by decide, rfl, rfl, rfl⟩) (by intro T e; cases e) rfl rfl (fun a w' hC hs hl => by
          have e0 : a.eval (.tmp 121) = (.int .i64 (m * q)) := (hl 121 (by kernel_rfl) (by kernel_rfl))
          have e1 : a.eval (.tmp 124) = (.int .i64 (n * p)) := (hl 124 (by kernel_rfl) (by kernel_rfl))
          simp only [execOp, e0, e1]
          skip
          simp [go_sem, hlb.out])
      · exact .value (.inr ⟨31, true, 114, by decide, rfl, rfl, rfl⟩) (by intro T e; cases e) rfl rfl (fun a w' hC hs hl => by
          have e0 : a.eval (.tmp 118) = (.bool lb) := (hl 118 (by kernel_rfl) (by kernel_rfl))
          have e1 : a.eval (.tmp 125) = (.bool lb) := (hl 125 (by kernel_rfl) (by kernel_rfl))
          simp only [execOp, e0, e1]
          skip
          simp [go_sem] <;> rfl)
      · exact .pick (b := true) (.inl rfl) rfl rfl (fun a w' hC hs hl => ⟨(hl 114 (by kernel_rfl) (by kernel_rfl)), (hl 126 (by kernel_rfl) (by kernel_rfl))⟩)
      · exact .move (.inl rfl) (.inl rfl) rfl (by kernel_rfl) (by kernel_rfl) rfl
      · exact .moveC (.inr ⟨45, true, 128, by decide, rfl, rfl, rfl⟩) (.inl rfl) rfl (fun a w' hC hs => (hs 15 (by kernel_rfl)))
      · exact .value (.inr ⟨45, true, 128, by decide, rfl, rfl, rfl⟩) (by intro T e; cases e) rfl rfl (fun a w' hC hs hl => by
          have e0 : a.eval (.tmp 129) = (.int .i64 (0)) := (hl 129 (by kernel_rfl) (by kernel_rfl))
          simp only [execOp, e0]
          simp only [Act.eval]
          simp [go_sem] <;> rfl)
      · exact .pick (b := true) (.inl rfl) rfl rfl (fun a w' hC hs hl => ⟨(hl 128 (by kernel_rfl) (by kernel_rfl)), (hl 130 (by kernel_rfl) (by kernel_rfl))⟩)
      · exact .move (.inl rfl) (.inl rfl) rfl (by kernel_rfl) (by kernel_rfl) rfl
      · exact .moveC (.inr ⟨49, true, 132, by decide, rfl, rfl, rfl⟩) (.inl rfl) rfl (fun a w' hC hs => (hs 14 (by kernel_rfl)))
      · exact .moveC (.inr ⟨49, true, 132, by decide, rfl, rfl, rfl⟩) (.inl rfl) rfl (fun a w' hC hs => (hs 13 (by kernel_rfl)))
      · exact .value (.inr ⟨49, true, 132, by decide, rfl, rfl, rfl⟩) (by intro T e; cases e) rfl rfl (fun a w' hC hs hl => by
          have e0 : a.eval (.tmp 133) = (.int .i64 z) := (hl 133 (by kernel_rfl) (by kernel_rfl))
          have e1 : a.eval (.tmp 134) = (.int .i64 z) := (hl 134 (by kernel_rfl) (by kernel_rfl))
          simp only [execOp, e0, e1]
          skip
          simp [go_sem] <;> rfl)
      · exact .pick (b := true) (.inl rfl) rfl rfl (fun a w' hC hs hl => ⟨(hl 132 (by kernel_rfl) (by kernel_rfl)), (hl 135 (by kernel_rfl) (by kernel_rfl))⟩)
      · exact .move (.inl rfl) (.inl rfl) rfl (by kernel_rfl) (by kernel_rfl) rfl
      · exact .load (.agg #[.bool b11, .slice A11 n11 c11, .slice D11 m11 k11]) (.inr ⟨54, true, 137, by decide, rfl, rfl, rfl⟩) rfl rfl (fun a w' hC hs hl => by rw [show a.eval (.tmp 11) = (.pointer (some ⟨w1.heap.size, 0, none⟩) : Value) from (hs 11 (by kernel_rfl))]; exact ⟨ld_Rat_ ((K11.out.below' hC).at_ 0 rfl) ((K11.out.below' hC).at_ 1 rfl) ((K11.out.below' hC).at_ 2 rfl), X.out⟩)
      · exact .call (.inr ⟨54, true, 137, by decide, rfl, rfl, rfl⟩) rfl rfl fn_rWhole (fun a w' hC hs hl => rWhole_eq (RCan.arg (RCan.below (hl 138 (by kernel_rfl) (by kernel_rfl)) hC) (LX.out.up (by decide))) (T.out.below (b0.out.trans (hC.mono b0.out.size))) wb (hww.out))
      · exact .moveC (.inr ⟨54, true, 137, by decide, rfl, rfl, rfl⟩) (.inl rfl) rfl (fun a w' hC hs => (hs 7 (by kernel_rfl)))
      · exact .moveC (.inr ⟨54, true, 137, by decide, rfl, rfl, rfl⟩) (.inl rfl) rfl (fun a w' hC hs => (hs 9 (by kernel_rfl)))
      · exact .value (.inr ⟨54, true, 137, by decide, rfl, rfl, rfl⟩) (by intro T e; cases e) rfl rfl (fun a w' hC hs hl => by
          have e0 : a.eval (.tmp 140) = (.int .i64 m) := (hl 140 (by kernel_rfl) (by kernel_rfl))
          have e1 : a.eval (.tmp 141) = (.int .i64 p) := (hl 141 (by kernel_rfl) (by kernel_rfl))
          simp only [execOp, e0, e1]
          skip
          simp [go_sem, hp0'.out, hr2.out, wr'.out])
      · exact .value (.inr ⟨54, true, 137, by decide, rfl, rfl, rfl⟩) (by intro T e; cases e) rfl rfl (fun a w' hC hs hl => by
          have e0 : a.eval (.tmp 142) = (.int .i64 r) := (hl 142 (by kernel_rfl) (by kernel_rfl))
          simp only [execOp, e0]
          simp only [Act.eval]
          simp [go_sem, hwb.out])
      · exact .value (.inr ⟨54, true, 137, by decide, rfl, rfl, rfl⟩) (by intro T e; cases e) rfl rfl (fun a w' hC hs hl => by
          have e0 : a.eval (.tmp 139) = (.bool wb) := (hl 139 (by kernel_rfl) (by kernel_rfl))
          have e1 : a.eval (.tmp 143) = (.bool wb) := (hl 143 (by kernel_rfl) (by kernel_rfl))
          simp only [execOp, e0, e1]
          skip
          simp [go_sem] <;> rfl)
      · exact .pick (b := true) (.inl rfl) rfl rfl (fun a w' hC hs hl => ⟨(hl 137 (by kernel_rfl) (by kernel_rfl)), (hl 144 (by kernel_rfl) (by kernel_rfl))⟩)
      · exact .move (.inl rfl) (.inl rfl) rfl (by kernel_rfl) (by kernel_rfl) rfl
      · exact .moveC (.inr ⟨63, true, 146, by decide, rfl, rfl, rfl⟩) (.inl rfl) rfl (fun a w' hC hs => (hs 7 (by kernel_rfl)))
      · exact .call (.inr ⟨63, true, 146, by decide, rfl, rfl, rfl⟩) rfl rfl fn_rOf_ (fun a w' hC hs hl => by
        show Calls Tryz.prog _ #[a.eval (.tmp 147)] w' _
        rw [show a.eval (.tmp 147) = .int .i64 m from (hl 147 (by kernel_rfl) (by kernel_rfl))]
        exact rOf_C w' m (by omega) (by omega))
      · exact .moveC (.inr ⟨63, true, 146, by decide, rfl, rfl, rfl⟩) (.inl rfl) rfl (fun a w' hC hs => (hs 7 (by kernel_rfl)))
      · exact .call (.inr ⟨63, true, 146, by decide, rfl, rfl, rfl⟩) rfl rfl fn_rlof (fun a w' hC hs hl => by
        show Calls Tryz.prog _ #[a.eval (.tmp 149), .int .i64 1] w' _
        rw [show a.eval (.tmp 149) = .int .i64 m from (hl 149 (by kernel_rfl) (by kernel_rfl))]
        exact rlof_C w' m 1 (by have := B.out; have := P1.out; omega) (by have := B.out; have := P1.out; omega) (by have := B.out; have := P1.out; omega) (by have := B.out; have := P1.out; omega) (by decide) (T.out.below (b0.out.trans (hC.mono b0.out.size))))
      · exact .call (.inr ⟨63, true, 146, by decide, rfl, rfl, rfl⟩) rfl rfl fn_rsame (fun a w' hC hs hl => rsame_yes (hl 148 (by kernel_rfl) (by kernel_rfl)) (hl 150 (by kernel_rfl) (by kernel_rfl)) (small_one))
      · exact .pick (b := true) (.inl rfl) rfl rfl (fun a w' hC hs hl => ⟨(hl 146 (by kernel_rfl) (by kernel_rfl)), (hl 151 (by kernel_rfl) (by kernel_rfl))⟩)
      · exact .move (.inl rfl) (.inr rfl) rfl (by kernel_rfl) (by kernel_rfl) rfl
      intro f w99 hC hF _
      have f0 : f 6 = .bool true := hF 6 (by kernel_rfl)
      clear hF
      simp only [patch, List.drop]
      have B9 := hide (b0.out.trans (hC.mono b0.out.size))
      clear hC
      rw [f0]
      try change wpList _ _ _ [] _ _
      go_wp2
      exact opq_end hR ⟨rfl, B9⟩
    replace hn0 := hide hn0
    have K11d0 : w2.cell? ⟨w1.heap.size, 0, none⟩ = some (.bool b11) := K11.out.at_ 0 rfl
    have K11d1 : w2.cell? ⟨w1.heap.size, 1, none⟩ = some (.slice A11 n11 c11) := K11.out.at_ 1 rfl
    have K11d2 : w2.cell? ⟨w1.heap.size, 2, none⟩ = some (.slice D11 m11 k11) := K11.out.at_ 2 rfl
    have K12 := hide (Blk.new_at w2 (w2.heap.size) (by simp) 27 #[.bool b12, .slice A12 n12 c12, .slice D12 m12 k12])
    have y := (Below.refl w2.heap.size w2).alloc (Nat.le_refl _) (.cells #[.bool b12, .slice A12 n12 c12, .slice D12 m12 k12] 27)
    replace K5 := hide (K5.out.below' y)
    replace X := hide (X.out.below y)
    replace K11 := hide (K11.out.below' y)
    replace Y := hide (Y.out.below y)
    replace b0 := hide (below_tr b0.out y)
    clear y
    have K11c0 : (w2.alloc (.cells #[.bool b12, .slice A12 n12 c12, .slice D12 m12 k12] 27)).cell? ⟨w1.heap.size, 0, none⟩ = some (.bool b11) := K11.out.at_ 0 rfl
    have K11c1 : (w2.alloc (.cells #[.bool b12, .slice A12 n12 c12, .slice D12 m12 k12] 27)).cell? ⟨w1.heap.size, 1, none⟩ = some (.slice A11 n11 c11) := K11.out.at_ 1 rfl
    have K11c2 : (w2.alloc (.cells #[.bool b12, .slice A12 n12 c12, .slice D12 m12 k12] 27)).cell? ⟨w1.heap.size, 2, none⟩ = some (.slice D11 m11 k11) := K11.out.at_ 2 rfl
    have K12c0 : (w2.alloc (.cells #[.bool b12, .slice A12 n12 c12, .slice D12 m12 k12] 27)).cell? ⟨w2.heap.size, 0, none⟩ = some (.bool b12) := K12.out.at_ 0 rfl
    have K12c1 : (w2.alloc (.cells #[.bool b12, .slice A12 n12 c12, .slice D12 m12 k12] 27)).cell? ⟨w2.heap.size, 1, none⟩ = some (.slice A12 n12 c12) := K12.out.at_ 1 rfl
    have K12c2 : (w2.alloc (.cells #[.bool b12, .slice A12 n12 c12, .slice D12 m12 k12] 27)).cell? ⟨w2.heap.size, 2, none⟩ = some (.slice D12 m12 k12) := K12.out.at_ 2 rfl
    go_wp2_with fail
    refine (rFloor_P (X.out.arg (LX.out.up (by decide))) (T.out.below b0.out)).mono ?_
    rintro e w3 ⟨v47, rfl, d0, r47⟩
    replace K5 := hide (K5.out.below' d0)
    replace X := hide (X.out.below d0)
    replace K11 := hide (K11.out.below' d0)
    replace Y := hide (Y.out.below d0)
    replace K12 := hide (K12.out.below' d0)
    replace b0 := hide (below_tr b0.out d0)
    have N := hide (r47.can)
    clear d0
    clear K11d0 K11d1 K11d2
    clear K11c0 K11c1 K11c2 K12c0 K12c1 K12c2
    clear r47
    rw [small_floor hp1] at N
    rw [hfl.out] at N
    have K11c0 : w3.cell? ⟨w1.heap.size, 0, none⟩ = some (.bool b11) := K11.out.at_ 0 rfl
    have K11c1 : w3.cell? ⟨w1.heap.size, 1, none⟩ = some (.slice A11 n11 c11) := K11.out.at_ 1 rfl
    have K11c2 : w3.cell? ⟨w1.heap.size, 2, none⟩ = some (.slice D11 m11 k11) := K11.out.at_ 2 rfl
    have K12c0 : w3.cell? ⟨w2.heap.size, 0, none⟩ = some (.bool b12) := K12.out.at_ 0 rfl
    have K12c1 : w3.cell? ⟨w2.heap.size, 1, none⟩ = some (.slice A12 n12 c12) := K12.out.at_ 1 rfl
    have K12c2 : w3.cell? ⟨w2.heap.size, 2, none⟩ = some (.slice D12 m12 k12) := K12.out.at_ 2 rfl
    go_wp2_with fail
    refine (iBack_in N.out (L_up (L_small (by omega)) (by decide)) (by omega) (by omega)).mono ?_
    rintro e w4 ⟨rfl, d0⟩
    replace K5 := hide (K5.out.below' d0)
    replace X := hide (X.out.below d0)
    replace K11 := hide (K11.out.below' d0)
    replace Y := hide (Y.out.below d0)
    replace K12 := hide (K12.out.below' d0)
    replace N := hide (N.out.below d0)
    replace b0 := hide (below_tr b0.out d0)
    clear d0
    clear K11c0 K11c1 K11c2 K12c0 K12c1 K12c2
    clear N
    have K11c0 : w4.cell? ⟨w1.heap.size, 0, none⟩ = some (.bool b11) := K11.out.at_ 0 rfl
    have K11c1 : w4.cell? ⟨w1.heap.size, 1, none⟩ = some (.slice A11 n11 c11) := K11.out.at_ 1 rfl
    have K11c2 : w4.cell? ⟨w1.heap.size, 2, none⟩ = some (.slice D11 m11 k11) := K11.out.at_ 2 rfl
    have K12c0 : w4.cell? ⟨w2.heap.size, 0, none⟩ = some (.bool b12) := K12.out.at_ 0 rfl
    have K12c1 : w4.cell? ⟨w2.heap.size, 1, none⟩ = some (.slice A12 n12 c12) := K12.out.at_ 1 rfl
    have K12c2 : w4.cell? ⟨w2.heap.size, 2, none⟩ = some (.slice D12 m12 k12) := K12.out.at_ 2 rfl
    go_wp2_with fail
    refine (rDiv_ok X.out (LX.out.up (by decide)) Y.out (LY.out.up (by decide)) (T.out.below b0.out) (small_ne hq1 hn0.out)).mono ?_
    rintro e w5 ⟨v7, rfl, d0, r7⟩
    replace K5 := hide (K5.out.below' d0)
    replace X := hide (X.out.below d0)
    replace K11 := hide (K11.out.below' d0)
    replace Y := hide (Y.out.below d0)
    replace K12 := hide (K12.out.below' d0)
    replace b0 := hide (below_tr b0.out d0)
    have Z := hide (r7.can)
    clear d0
    clear r7
    obtain ⟨b7, A7, n7, c7, D7, m7, k7, rfl⟩ := Z.out.slice
    clear K11c0 K11c1 K11c2 K12c0 K12c1 K12c2
    have K16 := hide (Blk.new_at w5 (w5.heap.size) (by simp) 27 #[.bool b7, .slice A7 n7 c7, .slice D7 m7 k7])
    have y := (Below.refl w5.heap.size w5).alloc (Nat.le_refl _) (.cells #[.bool b7, .slice A7 n7 c7, .slice D7 m7 k7] 27)
    replace K5 := hide (K5.out.below' y)
    replace X := hide (X.out.below y)
    replace K11 := hide (K11.out.below' y)
    replace Y := hide (Y.out.below y)
    replace K12 := hide (K12.out.below' y)
    replace Z := hide (Z.out.below y)
    replace b0 := hide (below_tr b0.out y)
    clear y
    have Q1_ : Hid (H (((Rat.divInt m p) / (Rat.divInt n q))) 2) := H_div LX.out LY.out (by decide) (by decide)
    go_wp2
    obtain ⟨V1_5, hV⟩ : ∃ V, (w5.alloc (.cells #[.bool b7, .slice A7 n7 c7, .slice D7 m7 k7] 27)) = V := ⟨_, rfl⟩
    rw [hV] at K5 X K11 Y K12 Z K16 b0
    rw [hV]
    clear hV
    clear hp hq hd hr hp0 wd wr
    refine wp_region_facts 26 (fun w' => Below V1_5.heap.size V1_5 w') [(57, .eq (.int .i64 n)), (58, .eq (.bool true)), (59, .eq (.bool true)), (60, .eq (.int .i64 (0))), (61, .eq (.bool false)), (62, .eq (.bool false)), (63, (.rat0 V1_5 ((Rat.divInt m p) / (Rat.divInt n q)))), (64, .eq (.int .i64 m)), (65, .eq (.int .i64 q)), (66, .eq (.int .i64 (m * q))), (67, .eq (.int .i64 p)), (68, .eq (.int .i64 n)), (69, .eq (.int .i64 (p * n))), (70, (.rat (Rat.divInt (m * q) (p * n)))), (71, .eq (.bool true)), (72, .eq (.bool false)), (73, .eq (.bool false)), (74, .eq (.bool false)), (75, .eq (.bool false)), (76, .eq (.int .i64 n)), (77, .eq (.bool false)), (78, .eq (.bool false)), (79, .eq (undef)), (80, .eq (undef)), (81, .eq (Go.Value.bool false)), (82, .eq (Go.Value.bool false))] [false, false, false, false, false, false, false, false, false, false, false, false, false, false, false, false, false, false, false, false, false, false, false, false, false, false, false, false, false, false, false, false, false, false, false, false, false, false, false, false, false, false, false, false, false, false, false, false, false, false, false, false, false, false, false, false, false, true, true, true, true, true, true, true, true, true, true, true, true, true, true, true, true, true, true, true, true, true, true, true, true, true, true, false, false, false, false, false, false, false, false, false, false, false, false, false, false, false, false, false, false, false, false, false, false, false, false, false, false, false, false, false, false, false, false, false, false, false, false, false, false, false, false, false, false, false, false, false, false, false, false, false, false, false, false, false, false, false, false, false, false, false, false, false, false, false, false, false, false, false, false, false, false] mixed (by kernel_rfl) (by kernel_rfl) (by kernel_rfl) (fun _ _ h hb => h.trans (hb.mono h.size)) ((Below.refl _ _).drew) ⟨?_, ?_, ?_, ?_, ?_, ?_, ?_, ?_, ?_, ?_, ?_, ?_, ?_, ?_, ?_, ?_, ?_, ?_, ?_, ?_, ?_, ?_, ?_, ?_, ?_, ?_, trivial⟩ ?_
    · exact .moveC (.inl rfl) (.inl rfl) rfl (fun a w' hC hs => (hs 8 (by kernel_rfl)))
    · exact .value (.inl rfl) (by intro T e; cases e) rfl rfl (fun a w' hC hs hl => by
        have e0 : a.eval (.tmp 57) = (.int .i64 n) := (hl 57 (by kernel_rfl) (by kernel_rfl))
        simp only [execOp, e0]
        simp only [Act.eval]
        simp [go_sem, hn0.out])
    · exact .move (.inl rfl) (.inl rfl) rfl (by kernel_rfl) (by kernel_rfl) rfl
    · exact .moveC (.inr ⟨2, true, 59, by decide, rfl, rfl, rfl⟩) (.inl rfl) rfl (fun a w' hC hs => (hs 17 (by kernel_rfl)))
    · exact .value (.inr ⟨2, true, 59, by decide, rfl, rfl, rfl⟩) (by intro T e; cases e) rfl rfl (fun a w' hC hs hl => by
        have e0 : a.eval (.tmp 60) = (.int .i64 (0)) := (hl 60 (by kernel_rfl) (by kernel_rfl))
        simp only [execOp, e0]
        simp only [Act.eval]
        simp [go_sem] <;> rfl)
    · exact .move (.inr ⟨2, true, 59, by decide, rfl, rfl, rfl⟩) (.inl rfl) rfl (by kernel_rfl) (by kernel_rfl) rfl
    · exact .load (.agg #[.bool b7, .slice A7 n7 c7, .slice D7 m7 k7]) (.inr ⟨5, false, 62, by decide, rfl, rfl, rfl⟩) rfl rfl (fun a w' hC hs hl => by rw [show a.eval (.tmp 16) = (.pointer (some ⟨w5.heap.size, 0, none⟩) : Value) from (hs 16 (by kernel_rfl))]; exact ⟨ld_Rat_ ((K16.out.below' hC).at_ 0 rfl) ((K16.out.below' hC).at_ 1 rfl) ((K16.out.below' hC).at_ 2 rfl), Z.out⟩)
    · exact .moveC (.inr ⟨5, false, 62, by decide, rfl, rfl, rfl⟩) (.inl rfl) rfl (fun a w' hC hs => (hs 7 (by kernel_rfl)))
    · exact .moveC (.inr ⟨5, false, 62, by decide, rfl, rfl, rfl⟩) (.inl rfl) rfl (fun a w' hC hs => (hs 10 (by kernel_rfl)))
    · exact .value (.inr ⟨5, false, 62, by decide, rfl, rfl, rfl⟩) (by intro T e; cases e) rfl rfl (fun a w' hC hs hl => by
        have e0 : a.eval (.tmp 64) = (.int .i64 m) := (hl 64 (by kernel_rfl) (by kernel_rfl))
        have e1 : a.eval (.tmp 65) = (.int .i64 q) := (hl 65 (by kernel_rfl) (by kernel_rfl))
        simp only [execOp, e0, e1]
        skip
        simp [go_sem, W1.out])
    · exact .moveC (.inr ⟨5, false, 62, by decide, rfl, rfl, rfl⟩) (.inl rfl) rfl (fun a w' hC hs => (hs 9 (by kernel_rfl)))
    · exact .moveC (.inr ⟨5, false, 62, by decide, rfl, rfl, rfl⟩) (.inl rfl) rfl (fun a w' hC hs => (hs 8 (by kernel_rfl)))
    · exact .value (.inr ⟨5, false, 62, by decide, rfl, rfl, rfl⟩) (by intro T e; cases e) rfl rfl (fun a w' hC hs hl => by
        have e0 : a.eval (.tmp 67) = (.int .i64 p) := (hl 67 (by kernel_rfl) (by kernel_rfl))
        have e1 : a.eval (.tmp 68) = (.int .i64 n) := (hl 68 (by kernel_rfl) (by kernel_rfl))
        simp only [execOp, e0, e1]
        skip
        simp [go_sem, W2'.out])
    · exact .call (.inr ⟨5, false, 62, by decide, rfl, rfl, rfl⟩) rfl rfl fn_rlof (fun a w' hC hs hl => by
        show Calls Tryz.prog _ #[a.eval (.tmp 66), a.eval (.tmp 69)] w' _
        rw [show a.eval (.tmp 66) = .int .i64 (m * q) from (hl 66 (by kernel_rfl) (by kernel_rfl)), show a.eval (.tmp 69) = .int .i64 (p * n) from (hl 69 (by kernel_rfl) (by kernel_rfl))]
        exact rlof_C w' (m * q) (p * n) (by have := B.out; have := P1.out; omega) (by have := B.out; have := P1.out; omega) (by have := B.out; have := Int.mul_comm p n; omega) (by have := B.out; have := Int.mul_comm p n; omega) (Int.mul_ne_zero (by omega) hn0.out) (T.out.below (b0.out.trans (hC.mono b0.out.size))))
    · exact .call (.inr ⟨5, false, 62, by decide, rfl, rfl, rfl⟩) rfl rfl fn_rsame (fun a w' hC hs hl => rsame_yes (RCan.below (hl 63 (by kernel_rfl) (by kernel_rfl)) hC) (hl 70 (by kernel_rfl) (by kernel_rfl)) (small_div hp1 hq1 hn0.out))
    · exact .value (.inr ⟨5, false, 62, by decide, rfl, rfl, rfl⟩) (by intro T e; cases e) rfl rfl (fun a w' hC hs hl => by
        have e0 : a.eval (.tmp 71) = (.bool true) := (hl 71 (by kernel_rfl) (by kernel_rfl))
        simp only [execOp, e0]
        skip
        simp [go_sem] <;> rfl)
    · exact .pick (b := false) (.inr ⟨2, true, 59, by decide, rfl, rfl, rfl⟩) rfl rfl (fun a w' hC hs hl => ⟨(hl 62 (by kernel_rfl) (by kernel_rfl)), (hl 72 (by kernel_rfl) (by kernel_rfl))⟩)
    · exact .pick (b := true) (.inl rfl) rfl rfl (fun a w' hC hs hl => ⟨(hl 59 (by kernel_rfl) (by kernel_rfl)), (hl 73 (by kernel_rfl) (by kernel_rfl))⟩)
    · exact .move (.inl rfl) (.inl rfl) rfl (by kernel_rfl) (by kernel_rfl) rfl
    · exact .moveC (.inr ⟨18, false, 75, by decide, rfl, rfl, rfl⟩) (.inl rfl) rfl (fun a w' hC hs => (hs 8 (by kernel_rfl)))
    · exact .value (.inr ⟨18, false, 75, by decide, rfl, rfl, rfl⟩) (by intro T e; cases e) rfl rfl (fun a w' hC hs hl => by
        have e0 : a.eval (.tmp 76) = (.int .i64 n) := (hl 76 (by kernel_rfl) (by kernel_rfl))
        simp only [execOp, e0]
        simp only [Act.eval]
        simp [go_sem, hn0.out])
    · exact .move (.inr ⟨18, false, 75, by decide, rfl, rfl, rfl⟩) (.inl rfl) rfl (by kernel_rfl) (by kernel_rfl) rfl
    · exact .skip ⟨21, false, 78, by decide, rfl, rfl, rfl⟩ (fun _ e => by cases e; exact .inl rfl)
    · exact .skip ⟨21, false, 78, by decide, rfl, rfl, rfl⟩ (fun _ e => by cases e; exact .inl rfl)
    · exact .pick (b := false) (.inr ⟨18, false, 75, by decide, rfl, rfl, rfl⟩) rfl rfl (fun a w' hC hs hl => ⟨(hl 78 (by kernel_rfl) (by kernel_rfl)), rfl⟩)
    · exact .pick (b := false) (.inl rfl) rfl rfl (fun a w' hC hs hl => ⟨(hl 75 (by kernel_rfl) (by kernel_rfl)), (hl 81 (by kernel_rfl) (by kernel_rfl))⟩)
    intro f w6 hC hF _
    have f0 : f 82 = .bool false := hF 82 (by kernel_rfl)
    clear hF
    simp only [patch, List.drop]
    rw [f0]
    clear f0
    generalize f 57 = y57_ at *
    generalize f 58 = y58_ at *
    generalize f 59 = y59_ at *
    generalize f 60 = y60_ at *
    generalize f 61 = y61_ at *
    generalize f 62 = y62_ at *
    generalize f 63 = y63_ at *
    generalize f 64 = y64_ at *
    generalize f 65 = y65_ at *
    generalize f 66 = y66_ at *
    generalize f 67 = y67_ at *
    generalize f 68 = y68_ at *
    generalize f 69 = y69_ at *
    generalize f 70 = y70_ at *
    generalize f 71 = y71_ at *
    generalize f 72 = y72_ at *
    generalize f 73 = y73_ at *
    generalize f 74 = y74_ at *
    generalize f 75 = y75_ at *
    generalize f 76 = y76_ at *
    generalize f 77 = y77_ at *
    generalize f 78 = y78_ at *
    generalize f 79 = y79_ at *
    generalize f 80 = y80_ at *
    generalize f 81 = y81_ at *
    replace K5 := hide (K5.out.below' hC)
    replace X := hide (X.out.below hC)
    replace K11 := hide (K11.out.below' hC)
    replace Y := hide (Y.out.below hC)
    replace K12 := hide (K12.out.below' hC)
    replace Z := hide (Z.out.below hC)
    replace K16 := hide (K16.out.below' hC)
    replace b0 := hide (b0.out.trans (hC.mono b0.out.size))
    clear hC
    go_wp2
    have Q2_ : Hid (H (((Rat.divInt m p) + (Rat.divInt n q))) 3) := H_add LX.out LY.out (by decide)
    have Q3_ : Hid (H (((Rat.divInt m p) * (Rat.divInt n q))) 2) := H_mul LX.out LY.out (by decide)
    refine wp_region_facts 71 (fun w' => Below w6.heap.size w6 w') [(83, .eq (.bool true)), (84, .eq (.bool true)), (85, (.rat0 w6 (Rat.divInt m p))), (86, (.rat0 w6 (Rat.divInt n q))), (87, (.rat ((Rat.divInt m p) + (Rat.divInt n q)))), (88, .eq (.int .i64 m)), (89, .eq (.int .i64 q)), (90, .eq (.int .i64 (m * q))), (91, .eq (.int .i64 n)), (92, .eq (.int .i64 p)), (93, .eq (.int .i64 (n * p))), (94, .eq (.int .i64 (m * q + n * p))), (95, .eq (.int .i64 p)), (96, .eq (.int .i64 q)), (97, .eq (.int .i64 (p * q))), (98, (.rat (Rat.divInt (m * q + n * p) (p * q)))), (99, .eq (.bool true)), (100, .eq (.bool true)), (101, .eq (.bool true)), (102, (.rat0 w6 (Rat.divInt m p))), (103, (.rat0 w6 (Rat.divInt n q))), (104, (.rat ((Rat.divInt m p) * (Rat.divInt n q)))), (105, .eq (.int .i64 m)), (106, .eq (.int .i64 n)), (107, .eq (.int .i64 (m * n))), (108, .eq (.int .i64 p)), (109, .eq (.int .i64 q)), (110, .eq (.int .i64 (p * q))), (111, (.rat (Rat.divInt (m * n) (p * q)))), (112, .eq (.bool true)), (113, .eq (.bool true)), (114, .eq (.bool true)), (115, (.rat0 w6 (Rat.divInt m p))), (116, (.rat0 w6 (Rat.divInt n q))), (117, .eq (.int .i64 (cc))), (118, .eq (.bool lb)), (119, .eq (.int .i64 m)), (120, .eq (.int .i64 q)), (121, .eq (.int .i64 (m * q))), (122, .eq (.int .i64 n)), (123, .eq (.int .i64 p)), (124, .eq (.int .i64 (n * p))), (125, .eq (.bool lb)), (126, .eq (.bool true)), (127, .eq (.bool true)), (128, .eq (.bool true)), (129, .eq (.int .i64 (0))), (130, .eq (.bool true)), (131, .eq (.bool true)), (132, .eq (.bool true)), (133, .eq (.int .i64 z)), (134, .eq (.int .i64 z)), (135, .eq (.bool true)), (136, .eq (.bool true)), (137, .eq (.bool true)), (138, (.rat0 w6 (Rat.divInt m p))), (139, .eq (.bool wb)), (140, .eq (.int .i64 m)), (141, .eq (.int .i64 p)), (142, .eq (.int .i64 r)), (143, .eq (.bool wb)), (144, .eq (.bool true)), (145, .eq (.bool true)), (146, .eq (.bool true)), (147, .eq (.int .i64 m)), (148, (.rat ((m : Int) : Rat))), (149, .eq (.int .i64 m)), (150, (.rat (Rat.divInt m 1))), (151, .eq (.bool true)), (152, .eq (.bool true)), (6, .eq (.bool true))] [false, false, false, false, false, false, true, false, false, false, false, false, false, false, false, false, false, false, false, false, false, false, false, false, false, false, false, false, false, false, false, false, false, false, false, false, false, false, false, false, false, false, false, false, false, false, false, false, false, false, false, false, false, false, false, false, false, false, false, false, false, false, false, false, false, false, false, false, false, false, false, false, false, false, false, false, false, false, false, false, false, false, false, true, true, true, true, true, true, true, true, true, true, true, true, true, true, true, true, true, true, true, true, true, true, true, true, true, true, true, true, true, true, true, true, true, true, true, true, true, true, true, true, true, true, true, true, true, true, true, true, true, true, true, true, true, true, true, true, true, true, true, true, true, true, true, true, true, true, true, true, true, true] mixed (by kernel_rfl) (by kernel_rfl) (by kernel_rfl) (fun _ _ h hb => h.trans (hb.mono h.size)) ((Below.refl _ _).drew) ⟨?_, ?_, ?_, ?_, ?_, ?_, ?_, ?_, ?_, ?_, ?_, ?_, ?_, ?_, ?_, ?_, ?_, ?_, ?_, ?_, ?_, ?_, ?_, ?_, ?_, ?_, ?_, ?_, ?_, ?_, ?_, ?_, ?_, ?_, ?_, ?_, ?_, ?_, ?_, ?_, ?_, ?_, ?_, ?_, ?_, ?_, ?_, ?_, ?_, ?_, ?_, ?_, ?_, ?_, ?_, ?_, ?_, ?_, ?_, ?_, ?_, ?_, ?_, ?_, ?_, ?_, ?_, ?_, ?_, ?_, ?_, trivial⟩ ?_
    · exact .call (.inl rfl) rfl rfl fn_ralive (fun a w' hC hs hl => ralive_P _ (T.out.below (b0.out.trans (hC.mono b0.out.size))) (M.out.below (b0.out.trans (hC.mono b0.out.size))))
    · exact .move (.inl rfl) (.inl rfl) rfl (by kernel_rfl) (by kernel_rfl) rfl
    · exact .load (.agg #[.bool b11, .slice A11 n11 c11, .slice D11 m11 k11]) (.inr ⟨1, true, 84, by decide, rfl, rfl, rfl⟩) rfl rfl (fun a w' hC hs hl => by rw [show a.eval (.tmp 11) = (.pointer (some ⟨w1.heap.size, 0, none⟩) : Value) from (hs 11 (by kernel_rfl))]; exact ⟨ld_Rat_ ((K11.out.below' hC).at_ 0 rfl) ((K11.out.below' hC).at_ 1 rfl) ((K11.out.below' hC).at_ 2 rfl), X.out⟩)
    · exact .load (.agg #[.bool b12, .slice A12 n12 c12, .slice D12 m12 k12]) (.inr ⟨1, true, 84, by decide, rfl, rfl, rfl⟩) rfl rfl (fun a w' hC hs hl => by rw [show a.eval (.tmp 12) = (.pointer (some ⟨w2.heap.size, 0, none⟩) : Value) from (hs 12 (by kernel_rfl))]; exact ⟨ld_Rat_ ((K12.out.below' hC).at_ 0 rfl) ((K12.out.below' hC).at_ 1 rfl) ((K12.out.below' hC).at_ 2 rfl), Y.out⟩)
    · exact .call (.inr ⟨1, true, 84, by decide, rfl, rfl, rfl⟩) rfl rfl fn_rAdd (fun a w' hC hs hl => rAdd_C (RCan.arg (RCan.below (hl 85 (by kernel_rfl) (by kernel_rfl)) hC) (LX.out.up (by decide))) (RCan.arg (RCan.below (hl 86 (by kernel_rfl) (by kernel_rfl)) hC) (LY.out.up (by decide))) (T.out.below (b0.out.trans (hC.mono b0.out.size))))
    · exact .moveC (.inr ⟨1, true, 84, by decide, rfl, rfl, rfl⟩) (.inl rfl) rfl (fun a w' hC hs => (hs 7 (by kernel_rfl)))
    · exact .moveC (.inr ⟨1, true, 84, by decide, rfl, rfl, rfl⟩) (.inl rfl) rfl (fun a w' hC hs => (hs 10 (by kernel_rfl)))
    · exact .value (.inr ⟨1, true, 84, by decide, rfl, rfl, rfl⟩) (by intro T e; cases e) rfl rfl (fun a w' hC hs hl => by
        have e0 : a.eval (.tmp 88) = (.int .i64 m) := (hl 88 (by kernel_rfl) (by kernel_rfl))
        have e1 : a.eval (.tmp 89) = (.int .i64 q) := (hl 89 (by kernel_rfl) (by kernel_rfl))
        simp only [execOp, e0, e1]
        skip
        simp [go_sem, W1.out])
    · exact .moveC (.inr ⟨1, true, 84, by decide, rfl, rfl, rfl⟩) (.inl rfl) rfl (fun a w' hC hs => (hs 8 (by kernel_rfl)))
    · exact .moveC (.inr ⟨1, true, 84, by decide, rfl, rfl, rfl⟩) (.inl rfl) rfl (fun a w' hC hs => (hs 9 (by kernel_rfl)))
    · exact .value (.inr ⟨1, true, 84, by decide, rfl, rfl, rfl⟩) (by intro T e; cases e) rfl rfl (fun a w' hC hs hl => by
        have e0 : a.eval (.tmp 91) = (.int .i64 n) := (hl 91 (by kernel_rfl) (by kernel_rfl))
        have e1 : a.eval (.tmp 92) = (.int .i64 p) := (hl 92 (by kernel_rfl) (by kernel_rfl))
        simp only [execOp, e0, e1]
        skip
        simp [go_sem, W2.out])
    · exact .value (.inr ⟨1, true, 84, by decide, rfl, rfl, rfl⟩) (by intro T e; cases e) rfl rfl (fun a w' hC hs hl => by
        have e0 : a.eval (.tmp 90) = (.int .i64 (m * q)) := (hl 90 (by kernel_rfl) (by kernel_rfl))
        have e1 : a.eval (.tmp 93) = (.int .i64 (n * p)) := (hl 93 (by kernel_rfl) (by kernel_rfl))
        simp only [execOp, e0, e1]
        skip
        simp [go_sem, W5.out])
    · exact .moveC (.inr ⟨1, true, 84, by decide, rfl, rfl, rfl⟩) (.inl rfl) rfl (fun a w' hC hs => (hs 9 (by kernel_rfl)))
    · exact .moveC (.inr ⟨1, true, 84, by decide, rfl, rfl, rfl⟩) (.inl rfl) rfl (fun a w' hC hs => (hs 10 (by kernel_rfl)))
    · exact .value (.inr ⟨1, true, 84, by decide, rfl, rfl, rfl⟩) (by intro T e; cases e) rfl rfl (fun a w' hC hs hl => by
        have e0 : a.eval (.tmp 95) = (.int .i64 p) := (hl 95 (by kernel_rfl) (by kernel_rfl))
        have e1 : a.eval (.tmp 96) = (.int .i64 q) := (hl 96 (by kernel_rfl) (by kernel_rfl))
        simp only [execOp, e0, e1]
        skip
        simp [go_sem, W3.out])
    · exact .call (.inr ⟨1, true, 84, by decide, rfl, rfl, rfl⟩) rfl rfl fn_rlof (fun a w' hC hs hl => by
        show Calls Tryz.prog _ #[a.eval (.tmp 94), a.eval (.tmp 97)] w' _
        rw [show a.eval (.tmp 94) = .int .i64 (m * q + n * p) from (hl 94 (by kernel_rfl) (by kernel_rfl)), show a.eval (.tmp 97) = .int .i64 (p * q) from (hl 97 (by kernel_rfl) (by kernel_rfl))]
        exact rlof_C w' (m * q + n * p) (p * q) (by have := B.out; have := P1.out; omega) (by have := B.out; have := P1.out; omega) (by have := B.out; have := P1.out; omega) (by have := B.out; have := P1.out; omega) (by have := B.out; have := P1.out; omega) (T.out.below (b0.out.trans (hC.mono b0.out.size))))
    · exact .call (.inr ⟨1, true, 84, by decide, rfl, rfl, rfl⟩) rfl rfl fn_rsame (fun a w' hC hs hl => rsame_yes (hl 87 (by kernel_rfl) (by kernel_rfl)) (hl 98 (by kernel_rfl) (by kernel_rfl)) (small_add hp1 hq1))
    · exact .pick (b := true) (.inl rfl) rfl rfl (fun a w' hC hs hl => ⟨(hl 84 (by kernel_rfl) (by kernel_rfl)), (hl 99 (by kernel_rfl) (by kernel_rfl))⟩)
    · exact .move (.inl rfl) (.inl rfl) rfl (by kernel_rfl) (by kernel_rfl) rfl
    · exact .load (.agg #[.bool b11, .slice A11 n11 c11, .slice D11 m11 k11]) (.inr ⟨18, true, 101, by decide, rfl, rfl, rfl⟩) rfl rfl (fun a w' hC hs hl => by rw [show a.eval (.tmp 11) = (.pointer (some ⟨w1.heap.size, 0, none⟩) : Value) from (hs 11 (by kernel_rfl))]; exact ⟨ld_Rat_ ((K11.out.below' hC).at_ 0 rfl) ((K11.out.below' hC).at_ 1 rfl) ((K11.out.below' hC).at_ 2 rfl), X.out⟩)
    · exact .load (.agg #[.bool b12, .slice A12 n12 c12, .slice D12 m12 k12]) (.inr ⟨18, true, 101, by decide, rfl, rfl, rfl⟩) rfl rfl (fun a w' hC hs hl => by rw [show a.eval (.tmp 12) = (.pointer (some ⟨w2.heap.size, 0, none⟩) : Value) from (hs 12 (by kernel_rfl))]; exact ⟨ld_Rat_ ((K12.out.below' hC).at_ 0 rfl) ((K12.out.below' hC).at_ 1 rfl) ((K12.out.below' hC).at_ 2 rfl), Y.out⟩)
    · exact .call (.inr ⟨18, true, 101, by decide, rfl, rfl, rfl⟩) rfl rfl fn_rMul (fun a w' hC hs hl => rMul_C (RCan.arg (RCan.below (hl 102 (by kernel_rfl) (by kernel_rfl)) hC) (LX.out.up (by decide))) (RCan.arg (RCan.below (hl 103 (by kernel_rfl) (by kernel_rfl)) hC) (LY.out.up (by decide))) (T.out.below (b0.out.trans (hC.mono b0.out.size))))
    · exact .moveC (.inr ⟨18, true, 101, by decide, rfl, rfl, rfl⟩) (.inl rfl) rfl (fun a w' hC hs => (hs 7 (by kernel_rfl)))
    · exact .moveC (.inr ⟨18, true, 101, by decide, rfl, rfl, rfl⟩) (.inl rfl) rfl (fun a w' hC hs => (hs 8 (by kernel_rfl)))
    · exact .value (.inr ⟨18, true, 101, by decide, rfl, rfl, rfl⟩) (by intro T e; cases e) rfl rfl (fun a w' hC hs hl => by
        have e0 : a.eval (.tmp 105) = (.int .i64 m) := (hl 105 (by kernel_rfl) (by kernel_rfl))
        have e1 : a.eval (.tmp 106) = (.int .i64 n) := (hl 106 (by kernel_rfl) (by kernel_rfl))
        simp only [execOp, e0, e1]
        skip
        simp [go_sem, W4.out])
    · exact .moveC (.inr ⟨18, true, 101, by decide, rfl, rfl, rfl⟩) (.inl rfl) rfl (fun a w' hC hs => (hs 9 (by kernel_rfl)))
    · exact .moveC (.inr ⟨18, true, 101, by decide, rfl, rfl, rfl⟩) (.inl rfl) rfl (fun a w' hC hs => (hs 10 (by kernel_rfl)))
    · exact .value (.inr ⟨18, true, 101, by decide, rfl, rfl, rfl⟩) (by intro T e; cases e) rfl rfl (fun a w' hC hs hl => by
        have e0 : a.eval (.tmp 108) = (.int .i64 p) := (hl 108 (by kernel_rfl) (by kernel_rfl))
        have e1 : a.eval (.tmp 109) = (.int .i64 q) := (hl 109 (by kernel_rfl) (by kernel_rfl))
        simp only [execOp, e0, e1]
        skip
        simp [go_sem, W3.out])
    · exact .call (.inr ⟨18, true, 101, by decide, rfl, rfl, rfl⟩) rfl rfl fn_rlof (fun a w' hC hs hl => by
        show Calls Tryz.prog _ #[a.eval (.tmp 107), a.eval (.tmp 110)] w' _
        rw [show a.eval (.tmp 107) = .int .i64 (m * n) from (hl 107 (by kernel_rfl) (by kernel_rfl)), show a.eval (.tmp 110) = .int .i64 (p * q) from (hl 110 (by kernel_rfl) (by kernel_rfl))]
        exact rlof_C w' (m * n) (p * q) (by have := B.out; have := P1.out; omega) (by have := B.out; have := P1.out; omega) (by have := B.out; have := P1.out; omega) (by have := B.out; have := P1.out; omega) (by have := B.out; have := P1.out; omega) (T.out.below (b0.out.trans (hC.mono b0.out.size))))
    · exact .call (.inr ⟨18, true, 101, by decide, rfl, rfl, rfl⟩) rfl rfl fn_rsame (fun a w' hC hs hl => rsame_yes (hl 104 (by kernel_rfl) (by kernel_rfl)) (hl 111 (by kernel_rfl) (by kernel_rfl)) (small_mul))
    · exact .pick (b := true) (.inl rfl) rfl rfl (fun a w' hC hs hl => ⟨(hl 101 (by kernel_rfl) (by kernel_rfl)), (hl 112 (by kernel_rfl) (by kernel_rfl))⟩)
    · exact .move (.inl rfl) (.inl rfl) rfl (by kernel_rfl) (by kernel_rfl) rfl
    · exact .load (.agg #[.bool b11, .slice A11 n11 c11, .slice D11 m11 k11]) (.inr ⟨31, true, 114, by decide, rfl, rfl, rfl⟩) rfl rfl (fun a w' hC hs hl => by rw [show a.eval (.tmp 11) = (.pointer (some ⟨w1.heap.size, 0, none⟩) : Value) from (hs 11 (by kernel_rfl))]; exact ⟨ld_Rat_ ((K11.out.below' hC).at_ 0 rfl) ((K11.out.below' hC).at_ 1 rfl) ((K11.out.below' hC).at_ 2 rfl), X.out⟩)
    · exact .load (.agg #[.bool b12, .slice A12 n12 c12, .slice D12 m12 k12]) (.inr ⟨31, true, 114, by decide, rfl, rfl, rfl⟩) rfl rfl (fun a w' hC hs hl => by rw [show a.eval (.tmp 12) = (.pointer (some ⟨w2.heap.size, 0, none⟩) : Value) from (hs 12 (by kernel_rfl))]; exact ⟨ld_Rat_ ((K12.out.below' hC).at_ 0 rfl) ((K12.out.below' hC).at_ 1 rfl) ((K12.out.below' hC).at_ 2 rfl), Y.out⟩)
    · exact .call (.inr ⟨31, true, 114, by decide, rfl, rfl, rfl⟩) rfl rfl fn_rCmp (fun a w' hC hs hl => rCmp_eq (RCan.arg (RCan.below (hl 115 (by kernel_rfl) (by kernel_rfl)) hC) (LX.out.up (by decide))) (RCan.arg (RCan.below (hl 116 (by kernel_rfl) (by kernel_rfl)) hC) (LY.out.up (by decide))) (T.out.below (b0.out.trans (hC.mono b0.out.size))) (cc) (hcc.out))
    · exact .value (.inr ⟨31, true, 114, by decide, rfl, rfl, rfl⟩) (by intro T e; cases e) rfl rfl (fun a w' hC hs hl => by
        have e0 : a.eval (.tmp 117) = (.int .i64 (cc)) := (hl 117 (by kernel_rfl) (by kernel_rfl))
        simp only [execOp, e0]
        simp only [Act.eval]
        simp [go_sem, hlc.out])
    · exact .moveC (.inr ⟨31, true, 114, by decide, rfl, rfl, rfl⟩) (.inl rfl) rfl (fun a w' hC hs => (hs 7 (by kernel_rfl)))
    · exact .moveC (.inr ⟨31, true, 114, by decide, rfl, rfl, rfl⟩) (.inl rfl) rfl (fun a w' hC hs => (hs 10 (by kernel_rfl)))
    · exact .value (.inr ⟨31, true, 114, by decide, rfl, rfl, rfl⟩) (by intro T e; cases e) rfl rfl (fun a w' hC hs hl => by
        have e0 : a.eval (.tmp 119) = (.int .i64 m) := (hl 119 (by kernel_rfl) (by kernel_rfl))
        have e1 : a.eval (.tmp 120) = (.int .i64 q) := (hl 120 (by kernel_rfl) (by kernel_rfl))
        simp only [execOp, e0, e1]
        skip
        simp [go_sem, W1.out])
    · exact .moveC (.inr ⟨31, true, 114, by decide, rfl, rfl, rfl⟩) (.inl rfl) rfl (fun a w' hC hs => (hs 8 (by kernel_rfl)))
    · exact .moveC (.inr ⟨31, true, 114, by decide, rfl, rfl, rfl⟩) (.inl rfl) rfl (fun a w' hC hs => (hs 9 (by kernel_rfl)))
    · exact .value (.inr ⟨31, true, 114, by decide, rfl, rfl, rfl⟩) (by intro T e; cases e) rfl rfl (fun a w' hC hs hl => by
        have e0 : a.eval (.tmp 122) = (.int .i64 n) := (hl 122 (by kernel_rfl) (by kernel_rfl))
        have e1 : a.eval (.tmp 123) = (.int .i64 p) := (hl 123 (by kernel_rfl) (by kernel_rfl))
        simp only [execOp, e0, e1]
        skip
        simp [go_sem, W2.out])
    · exact .value (.inr ⟨31, true, 114, by decide, rfl, rfl, rfl⟩) (by intro T e; cases e) rfl rfl (fun a w' hC hs hl => by
        have e0 : a.eval (.tmp 121) = (.int .i64 (m * q)) := (hl 121 (by kernel_rfl) (by kernel_rfl))
        have e1 : a.eval (.tmp 124) = (.int .i64 (n * p)) := (hl 124 (by kernel_rfl) (by kernel_rfl))
        simp only [execOp, e0, e1]
        skip
        simp [go_sem, hlb.out])
    · exact .value (.inr ⟨31, true, 114, by decide, rfl, rfl, rfl⟩) (by intro T e; cases e) rfl rfl (fun a w' hC hs hl => by
        have e0 : a.eval (.tmp 118) = (.bool lb) := (hl 118 (by kernel_rfl) (by kernel_rfl))
        have e1 : a.eval (.tmp 125) = (.bool lb) := (hl 125 (by kernel_rfl) (by kernel_rfl))
        simp only [execOp, e0, e1]
        skip
        simp [go_sem] <;> rfl)
    · exact .pick (b := true) (.inl rfl) rfl rfl (fun a w' hC hs hl => ⟨(hl 114 (by kernel_rfl) (by kernel_rfl)), (hl 126 (by kernel_rfl) (by kernel_rfl))⟩)
    · exact .move (.inl rfl) (.inl rfl) rfl (by kernel_rfl) (by kernel_rfl) rfl
    · exact .moveC (.inr ⟨45, true, 128, by decide, rfl, rfl, rfl⟩) (.inl rfl) rfl (fun a w' hC hs => (hs 15 (by kernel_rfl)))
    · exact .value (.inr ⟨45, true, 128, by decide, rfl, rfl, rfl⟩) (by intro T e; cases e) rfl rfl (fun a w' hC hs hl => by
        have e0 : a.eval (.tmp 129) = (.int .i64 (0)) := (hl 129 (by kernel_rfl) (by kernel_rfl))
        simp only [execOp, e0]
        simp only [Act.eval]
        simp [go_sem] <;> rfl)
    · exact .pick (b := true) (.inl rfl) rfl rfl (fun a w' hC hs hl => ⟨(hl 128 (by kernel_rfl) (by kernel_rfl)), (hl 130 (by kernel_rfl) (by kernel_rfl))⟩)
    · exact .move (.inl rfl) (.inl rfl) rfl (by kernel_rfl) (by kernel_rfl) rfl
    · exact .moveC (.inr ⟨49, true, 132, by decide, rfl, rfl, rfl⟩) (.inl rfl) rfl (fun a w' hC hs => (hs 14 (by kernel_rfl)))
    · exact .moveC (.inr ⟨49, true, 132, by decide, rfl, rfl, rfl⟩) (.inl rfl) rfl (fun a w' hC hs => (hs 13 (by kernel_rfl)))
    · exact .value (.inr ⟨49, true, 132, by decide, rfl, rfl, rfl⟩) (by intro T e; cases e) rfl rfl (fun a w' hC hs hl => by
        have e0 : a.eval (.tmp 133) = (.int .i64 z) := (hl 133 (by kernel_rfl) (by kernel_rfl))
        have e1 : a.eval (.tmp 134) = (.int .i64 z) := (hl 134 (by kernel_rfl) (by kernel_rfl))
        simp only [execOp, e0, e1]
        skip
        simp [go_sem] <;> rfl)
    · exact .pick (b := true) (.inl rfl) rfl rfl (fun a w' hC hs hl => ⟨(hl 132 (by kernel_rfl) (by kernel_rfl)), (hl 135 (by kernel_rfl) (by kernel_rfl))⟩)
    · exact .move (.inl rfl) (.inl rfl) rfl (by kernel_rfl) (by kernel_rfl) rfl
    · exact .load (.agg #[.bool b11, .slice A11 n11 c11, .slice D11 m11 k11]) (.inr ⟨54, true, 137, by decide, rfl, rfl, rfl⟩) rfl rfl (fun a w' hC hs hl => by rw [show a.eval (.tmp 11) = (.pointer (some ⟨w1.heap.size, 0, none⟩) : Value) from (hs 11 (by kernel_rfl))]; exact ⟨ld_Rat_ ((K11.out.below' hC).at_ 0 rfl) ((K11.out.below' hC).at_ 1 rfl) ((K11.out.below' hC).at_ 2 rfl), X.out⟩)
    · exact .call (.inr ⟨54, true, 137, by decide, rfl, rfl, rfl⟩) rfl rfl fn_rWhole (fun a w' hC hs hl => rWhole_eq (RCan.arg (RCan.below (hl 138 (by kernel_rfl) (by kernel_rfl)) hC) (LX.out.up (by decide))) (T.out.below (b0.out.trans (hC.mono b0.out.size))) wb (hww.out))
    · exact .moveC (.inr ⟨54, true, 137, by decide, rfl, rfl, rfl⟩) (.inl rfl) rfl (fun a w' hC hs => (hs 7 (by kernel_rfl)))
    · exact .moveC (.inr ⟨54, true, 137, by decide, rfl, rfl, rfl⟩) (.inl rfl) rfl (fun a w' hC hs => (hs 9 (by kernel_rfl)))
    · exact .value (.inr ⟨54, true, 137, by decide, rfl, rfl, rfl⟩) (by intro T e; cases e) rfl rfl (fun a w' hC hs hl => by
        have e0 : a.eval (.tmp 140) = (.int .i64 m) := (hl 140 (by kernel_rfl) (by kernel_rfl))
        have e1 : a.eval (.tmp 141) = (.int .i64 p) := (hl 141 (by kernel_rfl) (by kernel_rfl))
        simp only [execOp, e0, e1]
        skip
        simp [go_sem, hp0'.out, hr2.out, wr'.out])
    · exact .value (.inr ⟨54, true, 137, by decide, rfl, rfl, rfl⟩) (by intro T e; cases e) rfl rfl (fun a w' hC hs hl => by
        have e0 : a.eval (.tmp 142) = (.int .i64 r) := (hl 142 (by kernel_rfl) (by kernel_rfl))
        simp only [execOp, e0]
        simp only [Act.eval]
        simp [go_sem, hwb.out])
    · exact .value (.inr ⟨54, true, 137, by decide, rfl, rfl, rfl⟩) (by intro T e; cases e) rfl rfl (fun a w' hC hs hl => by
        have e0 : a.eval (.tmp 139) = (.bool wb) := (hl 139 (by kernel_rfl) (by kernel_rfl))
        have e1 : a.eval (.tmp 143) = (.bool wb) := (hl 143 (by kernel_rfl) (by kernel_rfl))
        simp only [execOp, e0, e1]
        skip
        simp [go_sem] <;> rfl)
    · exact .pick (b := true) (.inl rfl) rfl rfl (fun a w' hC hs hl => ⟨(hl 137 (by kernel_rfl) (by kernel_rfl)), (hl 144 (by kernel_rfl) (by kernel_rfl))⟩)
    · exact .move (.inl rfl) (.inl rfl) rfl (by kernel_rfl) (by kernel_rfl) rfl
    · exact .moveC (.inr ⟨63, true, 146, by decide, rfl, rfl, rfl⟩) (.inl rfl) rfl (fun a w' hC hs => (hs 7 (by kernel_rfl)))
    · exact .call (.inr ⟨63, true, 146, by decide, rfl, rfl, rfl⟩) rfl rfl fn_rOf_ (fun a w' hC hs hl => by
        show Calls Tryz.prog _ #[a.eval (.tmp 147)] w' _
        rw [show a.eval (.tmp 147) = .int .i64 m from (hl 147 (by kernel_rfl) (by kernel_rfl))]
        exact rOf_C w' m (by omega) (by omega))
    · exact .moveC (.inr ⟨63, true, 146, by decide, rfl, rfl, rfl⟩) (.inl rfl) rfl (fun a w' hC hs => (hs 7 (by kernel_rfl)))
    · exact .call (.inr ⟨63, true, 146, by decide, rfl, rfl, rfl⟩) rfl rfl fn_rlof (fun a w' hC hs hl => by
        show Calls Tryz.prog _ #[a.eval (.tmp 149), .int .i64 1] w' _
        rw [show a.eval (.tmp 149) = .int .i64 m from (hl 149 (by kernel_rfl) (by kernel_rfl))]
        exact rlof_C w' m 1 (by have := B.out; have := P1.out; omega) (by have := B.out; have := P1.out; omega) (by have := B.out; have := P1.out; omega) (by have := B.out; have := P1.out; omega) (by decide) (T.out.below (b0.out.trans (hC.mono b0.out.size))))
    · exact .call (.inr ⟨63, true, 146, by decide, rfl, rfl, rfl⟩) rfl rfl fn_rsame (fun a w' hC hs hl => rsame_yes (hl 148 (by kernel_rfl) (by kernel_rfl)) (hl 150 (by kernel_rfl) (by kernel_rfl)) (small_one))
    · exact .pick (b := true) (.inl rfl) rfl rfl (fun a w' hC hs hl => ⟨(hl 146 (by kernel_rfl) (by kernel_rfl)), (hl 151 (by kernel_rfl) (by kernel_rfl))⟩)
    · exact .move (.inl rfl) (.inr rfl) rfl (by kernel_rfl) (by kernel_rfl) rfl
    intro f w99 hC hF _
    have f0 : f 6 = .bool true := hF 6 (by kernel_rfl)
    clear hF
    simp only [patch, List.drop]
    have B9 := hide (b0.out.trans (hC.mono b0.out.size))
    clear hC
    rw [f0]
    try change wpList _ _ _ [] _ _
    go_wp2
    exact opq_end hR ⟨rfl, B9⟩
  obtain ⟨z, rfl⟩ : ∃ z : Int, z = d := ⟨_, rfl⟩
  have hfl : Hid (m / p = z) := by
    show _ = _
    have e := floor_pz hp1 (by rw [hr'.out]; exact g)
    rw [hd'.out] at e
    rw [← e]
  by_cases hn0 : n = 0
  case pos =>
    replace hn0 := hide hn0
    have K11d0 : w2.cell? ⟨w1.heap.size, 0, none⟩ = some (.bool b11) := K11.out.at_ 0 rfl
    have K11d1 : w2.cell? ⟨w1.heap.size, 1, none⟩ = some (.slice A11 n11 c11) := K11.out.at_ 1 rfl
    have K11d2 : w2.cell? ⟨w1.heap.size, 2, none⟩ = some (.slice D11 m11 k11) := K11.out.at_ 2 rfl
    have K12 := hide (Blk.new_at w2 (w2.heap.size) (by simp) 27 #[.bool b12, .slice A12 n12 c12, .slice D12 m12 k12])
    have y := (Below.refl w2.heap.size w2).alloc (Nat.le_refl _) (.cells #[.bool b12, .slice A12 n12 c12, .slice D12 m12 k12] 27)
    replace K5 := hide (K5.out.below' y)
    replace X := hide (X.out.below y)
    replace K11 := hide (K11.out.below' y)
    replace Y := hide (Y.out.below y)
    replace b0 := hide (below_tr b0.out y)
    clear y
    have K11c0 : (w2.alloc (.cells #[.bool b12, .slice A12 n12 c12, .slice D12 m12 k12] 27)).cell? ⟨w1.heap.size, 0, none⟩ = some (.bool b11) := K11.out.at_ 0 rfl
    have K11c1 : (w2.alloc (.cells #[.bool b12, .slice A12 n12 c12, .slice D12 m12 k12] 27)).cell? ⟨w1.heap.size, 1, none⟩ = some (.slice A11 n11 c11) := K11.out.at_ 1 rfl
    have K11c2 : (w2.alloc (.cells #[.bool b12, .slice A12 n12 c12, .slice D12 m12 k12] 27)).cell? ⟨w1.heap.size, 2, none⟩ = some (.slice D11 m11 k11) := K11.out.at_ 2 rfl
    have K12c0 : (w2.alloc (.cells #[.bool b12, .slice A12 n12 c12, .slice D12 m12 k12] 27)).cell? ⟨w2.heap.size, 0, none⟩ = some (.bool b12) := K12.out.at_ 0 rfl
    have K12c1 : (w2.alloc (.cells #[.bool b12, .slice A12 n12 c12, .slice D12 m12 k12] 27)).cell? ⟨w2.heap.size, 1, none⟩ = some (.slice A12 n12 c12) := K12.out.at_ 1 rfl
    have K12c2 : (w2.alloc (.cells #[.bool b12, .slice A12 n12 c12, .slice D12 m12 k12] 27)).cell? ⟨w2.heap.size, 2, none⟩ = some (.slice D12 m12 k12) := K12.out.at_ 2 rfl
    go_wp2_with fail
    refine (rFloor_P (X.out.arg (LX.out.up (by decide))) (T.out.below b0.out)).mono ?_
    rintro e w3 ⟨v47, rfl, d0, r47⟩
    replace K5 := hide (K5.out.below' d0)
    replace X := hide (X.out.below d0)
    replace K11 := hide (K11.out.below' d0)
    replace Y := hide (Y.out.below d0)
    replace K12 := hide (K12.out.below' d0)
    replace b0 := hide (below_tr b0.out d0)
    have N := hide (r47.can)
    clear d0
    clear K11d0 K11d1 K11d2
    clear K11c0 K11c1 K11c2 K12c0 K12c1 K12c2
    clear r47
    rw [small_floor hp1] at N
    rw [hfl.out] at N
    have K11c0 : w3.cell? ⟨w1.heap.size, 0, none⟩ = some (.bool b11) := K11.out.at_ 0 rfl
    have K11c1 : w3.cell? ⟨w1.heap.size, 1, none⟩ = some (.slice A11 n11 c11) := K11.out.at_ 1 rfl
    have K11c2 : w3.cell? ⟨w1.heap.size, 2, none⟩ = some (.slice D11 m11 k11) := K11.out.at_ 2 rfl
    have K12c0 : w3.cell? ⟨w2.heap.size, 0, none⟩ = some (.bool b12) := K12.out.at_ 0 rfl
    have K12c1 : w3.cell? ⟨w2.heap.size, 1, none⟩ = some (.slice A12 n12 c12) := K12.out.at_ 1 rfl
    have K12c2 : w3.cell? ⟨w2.heap.size, 2, none⟩ = some (.slice D12 m12 k12) := K12.out.at_ 2 rfl
    go_wp2_with fail
    refine (iBack_in N.out (L_up (L_small (by omega)) (by decide)) (by omega) (by omega)).mono ?_
    rintro e w4 ⟨rfl, d0⟩
    replace K5 := hide (K5.out.below' d0)
    replace X := hide (X.out.below d0)
    replace K11 := hide (K11.out.below' d0)
    replace Y := hide (Y.out.below d0)
    replace K12 := hide (K12.out.below' d0)
    replace N := hide (N.out.below d0)
    replace b0 := hide (below_tr b0.out d0)
    clear d0
    clear K11c0 K11c1 K11c2 K12c0 K12c1 K12c2
    clear N
    have K11c0 : w4.cell? ⟨w1.heap.size, 0, none⟩ = some (.bool b11) := K11.out.at_ 0 rfl
    have K11c1 : w4.cell? ⟨w1.heap.size, 1, none⟩ = some (.slice A11 n11 c11) := K11.out.at_ 1 rfl
    have K11c2 : w4.cell? ⟨w1.heap.size, 2, none⟩ = some (.slice D11 m11 k11) := K11.out.at_ 2 rfl
    have K12c0 : w4.cell? ⟨w2.heap.size, 0, none⟩ = some (.bool b12) := K12.out.at_ 0 rfl
    have K12c1 : w4.cell? ⟨w2.heap.size, 1, none⟩ = some (.slice A12 n12 c12) := K12.out.at_ 1 rfl
    have K12c2 : w4.cell? ⟨w2.heap.size, 2, none⟩ = some (.slice D12 m12 k12) := K12.out.at_ 2 rfl
    go_wp2_with fail
    refine (rDiv_zero X.out (LX.out.up (by decide)) Y.out (LY.out.up (by decide)) (T.out.below b0.out) (by rw [hn0.out]; exact small_zero)).mono ?_
    rintro e w5 ⟨rfl, d0⟩
    replace K5 := hide (K5.out.below' d0)
    replace X := hide (X.out.below d0)
    replace K11 := hide (K11.out.below' d0)
    replace Y := hide (Y.out.below d0)
    replace K12 := hide (K12.out.below' d0)
    replace b0 := hide (below_tr b0.out d0)
    clear d0
    clear K11c0 K11c1 K11c2 K12c0 K12c1 K12c2
    have K16 := hide (Blk.new_at w5 (w5.heap.size) (by simp) 27 #[.bool false, .slice none 0 0, .slice none 0 0])
    have y := (Below.refl w5.heap.size w5).alloc (Nat.le_refl _) (.cells #[.bool false, .slice none 0 0, .slice none 0 0] 27)
    replace K5 := hide (K5.out.below' y)
    replace X := hide (X.out.below y)
    replace K11 := hide (K11.out.below' y)
    replace Y := hide (Y.out.below y)
    replace K12 := hide (K12.out.below' y)
    replace b0 := hide (below_tr b0.out y)
    clear y
    go_wp2
    obtain ⟨V1_5, hV⟩ : ∃ V, (w5.alloc (.cells #[.bool false, .slice none 0 0, .slice none 0 0] 27)) = V := ⟨_, rfl⟩
    rw [hV] at K5 X K11 Y K12 K16 b0
    rw [hV]
    clear hV
    clear hp hq hd hr hp0 wd wr
    refine wp_region_facts 26 (fun w' => Below V1_5.heap.size V1_5 w') [(57, .eq (.int .i64 n)), (58, .eq (.bool false)), (59, .eq (.bool false)), (60, .eq (undef)), (61, .eq (undef)), (62, .eq (undef)), (63, .eq (undef)), (64, .eq (undef)), (65, .eq (undef)), (66, .eq (undef)), (67, .eq (undef)), (68, .eq (undef)), (69, .eq (undef)), (70, .eq (undef)), (71, .eq (undef)), (72, .eq (undef)), (73, .eq (undef)), (74, .eq (Go.Value.bool false)), (75, .eq (Go.Value.bool false)), (76, .eq (.int .i64 n)), (77, .eq (.bool true)), (78, .eq (.bool true)), (79, .eq (.int .i64 (10))), (80, .eq (.bool false)), (81, .eq (.bool false)), (82, .eq (.bool false))] [false, false, false, false, false, false, false, false, false, false, false, false, false, false, false, false, false, false, false, false, false, false, false, false, false, false, false, false, false, false, false, false, false, false, false, false, false, false, false, false, false, false, false, false, false, false, false, false, false, false, false, false, false, false, false, false, false, true, true, true, true, true, true, true, true, true, true, true, true, true, true, true, true, true, true, true, true, true, true, true, true, true, true, false, false, false, false, false, false, false, false, false, false, false, false, false, false, false, false, false, false, false, false, false, false, false, false, false, false, false, false, false, false, false, false, false, false, false, false, false, false, false, false, false, false, false, false, false, false, false, false, false, false, false, false, false, false, false, false, false, false, false, false, false, false, false, false, false, false, false, false, false, false] mixed (by kernel_rfl) (by kernel_rfl) (by kernel_rfl) (fun _ _ h hb => h.trans (hb.mono h.size)) ((Below.refl _ _).drew) ⟨?_, ?_, ?_, ?_, ?_, ?_, ?_, ?_, ?_, ?_, ?_, ?_, ?_, ?_, ?_, ?_, ?_, ?_, ?_, ?_, ?_, ?_, ?_, ?_, ?_, ?_, trivial⟩ ?_
    · exact .moveC (.inl rfl) (.inl rfl) rfl (fun a w' hC hs => (hs 8 (by kernel_rfl)))
    · exact .value (.inl rfl) (by intro T e; cases e) rfl rfl (fun a w' hC hs hl => by
        have e0 : a.eval (.tmp 57) = (.int .i64 n) := (hl 57 (by kernel_rfl) (by kernel_rfl))
        simp only [execOp, e0]
        simp only [Act.eval]
        simp [go_sem, hn0.out])
    · exact .move (.inl rfl) (.inl rfl) rfl (by kernel_rfl) (by kernel_rfl) rfl
    · exact .skip ⟨2, false, 59, by decide, rfl, rfl, rfl⟩ (fun _ e => by cases e; exact .inl rfl)
    · exact .skip ⟨2, false, 59, by decide, rfl, rfl, rfl⟩ (fun _ e => by cases e; exact .inl rfl)
    · exact .skip ⟨2, false, 59, by decide, rfl, rfl, rfl⟩ (fun _ e => by cases e; exact .inl rfl)
    · exact .skipU ⟨5, false, 62, by decide, rfl, rfl, rfl⟩ (fun _ e => by cases e; exact .inl rfl)
    · exact .skipU ⟨5, false, 62, by decide, rfl, rfl, rfl⟩ (fun _ e => by cases e; exact .inl rfl)
    · exact .skipU ⟨5, false, 62, by decide, rfl, rfl, rfl⟩ (fun _ e => by cases e; exact .inl rfl)
    · exact .skipU ⟨5, false, 62, by decide, rfl, rfl, rfl⟩ (fun _ e => by cases e; exact .inl rfl)
    · exact .skipU ⟨5, false, 62, by decide, rfl, rfl, rfl⟩ (fun _ e => by cases e; exact .inl rfl)
    · exact .skipU ⟨5, false, 62, by decide, rfl, rfl, rfl⟩ (fun _ e => by cases e; exact .inl rfl)
    · exact .skipU ⟨5, false, 62, by decide, rfl, rfl, rfl⟩ (fun _ e => by cases e; exact .inl rfl)
    · exact .skipU ⟨5, false, 62, by decide, rfl, rfl, rfl⟩ (fun _ e => by cases e; exact .inl rfl)
    · exact .skipU ⟨5, false, 62, by decide, rfl, rfl, rfl⟩ (fun _ e => by cases e; exact .inl rfl)
    · exact .skipU ⟨5, false, 62, by decide, rfl, rfl, rfl⟩ (fun _ e => by cases e; exact .inl rfl)
    · exact .skip ⟨2, false, 59, by decide, rfl, rfl, rfl⟩ (fun _ e => by cases e; exact .inl rfl)
    · exact .pick (b := false) (.inl rfl) rfl rfl (fun a w' hC hs hl => ⟨(hl 59 (by kernel_rfl) (by kernel_rfl)), rfl⟩)
    · exact .move (.inl rfl) (.inl rfl) rfl (by kernel_rfl) (by kernel_rfl) rfl
    · exact .moveC (.inr ⟨18, false, 75, by decide, rfl, rfl, rfl⟩) (.inl rfl) rfl (fun a w' hC hs => (hs 8 (by kernel_rfl)))
    · exact .value (.inr ⟨18, false, 75, by decide, rfl, rfl, rfl⟩) (by intro T e; cases e) rfl rfl (fun a w' hC hs hl => by
        have e0 : a.eval (.tmp 76) = (.int .i64 n) := (hl 76 (by kernel_rfl) (by kernel_rfl))
        simp only [execOp, e0]
        simp only [Act.eval]
        simp [go_sem, hn0.out])
    · exact .move (.inr ⟨18, false, 75, by decide, rfl, rfl, rfl⟩) (.inl rfl) rfl (by kernel_rfl) (by kernel_rfl) rfl
    · exact .moveC (.inr ⟨21, true, 78, by decide, rfl, rfl, rfl⟩) (.inl rfl) rfl (fun a w' hC hs => (hs 17 (by kernel_rfl)))
    · exact .value (.inr ⟨21, true, 78, by decide, rfl, rfl, rfl⟩) (by intro T e; cases e) rfl rfl (fun a w' hC hs hl => by
        have e0 : a.eval (.tmp 79) = (.int .i64 (10)) := (hl 79 (by kernel_rfl) (by kernel_rfl))
        simp only [execOp, e0]
        simp only [Act.eval]
        simp [go_sem] <;> rfl)
    · exact .pick (b := true) (.inr ⟨18, false, 75, by decide, rfl, rfl, rfl⟩) rfl rfl (fun a w' hC hs hl => ⟨(hl 78 (by kernel_rfl) (by kernel_rfl)), (hl 80 (by kernel_rfl) (by kernel_rfl))⟩)
    · exact .pick (b := false) (.inl rfl) rfl rfl (fun a w' hC hs hl => ⟨(hl 75 (by kernel_rfl) (by kernel_rfl)), (hl 81 (by kernel_rfl) (by kernel_rfl))⟩)
    intro f w6 hC hF _
    have f0 : f 82 = .bool false := hF 82 (by kernel_rfl)
    clear hF
    simp only [patch, List.drop]
    rw [f0]
    clear f0
    generalize f 57 = y57_ at *
    generalize f 58 = y58_ at *
    generalize f 59 = y59_ at *
    generalize f 60 = y60_ at *
    generalize f 61 = y61_ at *
    generalize f 62 = y62_ at *
    generalize f 63 = y63_ at *
    generalize f 64 = y64_ at *
    generalize f 65 = y65_ at *
    generalize f 66 = y66_ at *
    generalize f 67 = y67_ at *
    generalize f 68 = y68_ at *
    generalize f 69 = y69_ at *
    generalize f 70 = y70_ at *
    generalize f 71 = y71_ at *
    generalize f 72 = y72_ at *
    generalize f 73 = y73_ at *
    generalize f 74 = y74_ at *
    generalize f 75 = y75_ at *
    generalize f 76 = y76_ at *
    generalize f 77 = y77_ at *
    generalize f 78 = y78_ at *
    generalize f 79 = y79_ at *
    generalize f 80 = y80_ at *
    generalize f 81 = y81_ at *
    replace K5 := hide (K5.out.below' hC)
    replace X := hide (X.out.below hC)
    replace K11 := hide (K11.out.below' hC)
    replace Y := hide (Y.out.below hC)
    replace K12 := hide (K12.out.below' hC)
    replace K16 := hide (K16.out.below' hC)
    replace b0 := hide (b0.out.trans (hC.mono b0.out.size))
    clear hC
    go_wp2
    have Q1_ : Hid (H (((Rat.divInt m p) + (Rat.divInt n q))) 3) := H_add LX.out LY.out (by decide)
    have Q2_ : Hid (H (((Rat.divInt m p) * (Rat.divInt n q))) 2) := H_mul LX.out LY.out (by decide)
    refine wp_region_facts 71 (fun w' => Below w6.heap.size w6 w') [(83, .eq (.bool true)), (84, .eq (.bool true)), (85, (.rat0 w6 (Rat.divInt m p))), (86, (.rat0 w6 (Rat.divInt n q))), (87, (.rat ((Rat.divInt m p) + (Rat.divInt n q)))), (88, .eq (.int .i64 m)), (89, .eq (.int .i64 q)), (90, .eq (.int .i64 (m * q))), (91, .eq (.int .i64 n)), (92, .eq (.int .i64 p)), (93, .eq (.int .i64 (n * p))), (94, .eq (.int .i64 (m * q + n * p))), (95, .eq (.int .i64 p)), (96, .eq (.int .i64 q)), (97, .eq (.int .i64 (p * q))), (98, (.rat (Rat.divInt (m * q + n * p) (p * q)))), (99, .eq (.bool true)), (100, .eq (.bool true)), (101, .eq (.bool true)), (102, (.rat0 w6 (Rat.divInt m p))), (103, (.rat0 w6 (Rat.divInt n q))), (104, (.rat ((Rat.divInt m p) * (Rat.divInt n q)))), (105, .eq (.int .i64 m)), (106, .eq (.int .i64 n)), (107, .eq (.int .i64 (m * n))), (108, .eq (.int .i64 p)), (109, .eq (.int .i64 q)), (110, .eq (.int .i64 (p * q))), (111, (.rat (Rat.divInt (m * n) (p * q)))), (112, .eq (.bool true)), (113, .eq (.bool true)), (114, .eq (.bool true)), (115, (.rat0 w6 (Rat.divInt m p))), (116, (.rat0 w6 (Rat.divInt n q))), (117, .eq (.int .i64 (cc))), (118, .eq (.bool lb)), (119, .eq (.int .i64 m)), (120, .eq (.int .i64 q)), (121, .eq (.int .i64 (m * q))), (122, .eq (.int .i64 n)), (123, .eq (.int .i64 p)), (124, .eq (.int .i64 (n * p))), (125, .eq (.bool lb)), (126, .eq (.bool true)), (127, .eq (.bool true)), (128, .eq (.bool true)), (129, .eq (.int .i64 (0))), (130, .eq (.bool true)), (131, .eq (.bool true)), (132, .eq (.bool true)), (133, .eq (.int .i64 z)), (134, .eq (.int .i64 z)), (135, .eq (.bool true)), (136, .eq (.bool true)), (137, .eq (.bool true)), (138, (.rat0 w6 (Rat.divInt m p))), (139, .eq (.bool wb)), (140, .eq (.int .i64 m)), (141, .eq (.int .i64 p)), (142, .eq (.int .i64 r)), (143, .eq (.bool wb)), (144, .eq (.bool true)), (145, .eq (.bool true)), (146, .eq (.bool true)), (147, .eq (.int .i64 m)), (148, (.rat ((m : Int) : Rat))), (149, .eq (.int .i64 m)), (150, (.rat (Rat.divInt m 1))), (151, .eq (.bool true)), (152, .eq (.bool true)), (6, .eq (.bool true))] [false, false, false, false, false, false, true, false, false, false, false, false, false, false, false, false, false, false, false, false, false, false, false, false, false, false, false, false, false, false, false, false, false, false, false, false, false, false, false, false, false, false, false, false, false, false, false, false, false, false, false, false, false, false, false, false, false, false, false, false, false, false, false, false, false, false, false, false, false, false, false, false, false, false, false, false, false, false, false, false, false, false, false, true, true, true, true, true, true, true, true, true, true, true, true, true, true, true, true, true, true, true, true, true, true, true, true, true, true, true, true, true, true, true, true, true, true, true, true, true, true, true, true, true, true, true, true, true, true, true, true, true, true, true, true, true, true, true, true, true, true, true, true, true, true, true, true, true, true, true, true, true, true] mixed (by kernel_rfl) (by kernel_rfl) (by kernel_rfl) (fun _ _ h hb => h.trans (hb.mono h.size)) ((Below.refl _ _).drew) ⟨?_, ?_, ?_, ?_, ?_, ?_, ?_, ?_, ?_, ?_, ?_, ?_, ?_, ?_, ?_, ?_, ?_, ?_, ?_, ?_, ?_, ?_, ?_, ?_, ?_, ?_, ?_, ?_, ?_, ?_, ?_, ?_, ?_, ?_, ?_, ?_, ?_, ?_, ?_, ?_, ?_, ?_, ?_, ?_, ?_, ?_, ?_, ?_, ?_, ?_, ?_, ?_, ?_, ?_, ?_, ?_, ?_, ?_, ?_, ?_, ?_, ?_, ?_, ?_, ?_, ?_, ?_, ?_, ?_, ?_, ?_, trivial⟩ ?_
    · exact .call (.inl rfl) rfl rfl fn_ralive (fun a w' hC hs hl => ralive_P _ (T.out.below (b0.out.trans (hC.mono b0.out.size))) (M.out.below (b0.out.trans (hC.mono b0.out.size))))
    · exact .move (.inl rfl) (.inl rfl) rfl (by kernel_rfl) (by kernel_rfl) rfl
    · exact .load (.agg #[.bool b11, .slice A11 n11 c11, .slice D11 m11 k11]) (.inr ⟨1, true, 84, by decide, rfl, rfl, rfl⟩) rfl rfl (fun a w' hC hs hl => by rw [show a.eval (.tmp 11) = (.pointer (some ⟨w1.heap.size, 0, none⟩) : Value) from (hs 11 (by kernel_rfl))]; exact ⟨ld_Rat_ ((K11.out.below' hC).at_ 0 rfl) ((K11.out.below' hC).at_ 1 rfl) ((K11.out.below' hC).at_ 2 rfl), X.out⟩)
    · exact .load (.agg #[.bool b12, .slice A12 n12 c12, .slice D12 m12 k12]) (.inr ⟨1, true, 84, by decide, rfl, rfl, rfl⟩) rfl rfl (fun a w' hC hs hl => by rw [show a.eval (.tmp 12) = (.pointer (some ⟨w2.heap.size, 0, none⟩) : Value) from (hs 12 (by kernel_rfl))]; exact ⟨ld_Rat_ ((K12.out.below' hC).at_ 0 rfl) ((K12.out.below' hC).at_ 1 rfl) ((K12.out.below' hC).at_ 2 rfl), Y.out⟩)
    · exact .call (.inr ⟨1, true, 84, by decide, rfl, rfl, rfl⟩) rfl rfl fn_rAdd (fun a w' hC hs hl => rAdd_C (RCan.arg (RCan.below (hl 85 (by kernel_rfl) (by kernel_rfl)) hC) (LX.out.up (by decide))) (RCan.arg (RCan.below (hl 86 (by kernel_rfl) (by kernel_rfl)) hC) (LY.out.up (by decide))) (T.out.below (b0.out.trans (hC.mono b0.out.size))))
    · exact .moveC (.inr ⟨1, true, 84, by decide, rfl, rfl, rfl⟩) (.inl rfl) rfl (fun a w' hC hs => (hs 7 (by kernel_rfl)))
    · exact .moveC (.inr ⟨1, true, 84, by decide, rfl, rfl, rfl⟩) (.inl rfl) rfl (fun a w' hC hs => (hs 10 (by kernel_rfl)))
    · exact .value (.inr ⟨1, true, 84, by decide, rfl, rfl, rfl⟩) (by intro T e; cases e) rfl rfl (fun a w' hC hs hl => by
        have e0 : a.eval (.tmp 88) = (.int .i64 m) := (hl 88 (by kernel_rfl) (by kernel_rfl))
        have e1 : a.eval (.tmp 89) = (.int .i64 q) := (hl 89 (by kernel_rfl) (by kernel_rfl))
        simp only [execOp, e0, e1]
        skip
        simp [go_sem, W1.out])
    · exact .moveC (.inr ⟨1, true, 84, by decide, rfl, rfl, rfl⟩) (.inl rfl) rfl (fun a w' hC hs => (hs 8 (by kernel_rfl)))
    · exact .moveC (.inr ⟨1, true, 84, by decide, rfl, rfl, rfl⟩) (.inl rfl) rfl (fun a w' hC hs => (hs 9 (by kernel_rfl)))
    · exact .value (.inr ⟨1, true, 84, by decide, rfl, rfl, rfl⟩) (by intro T e; cases e) rfl rfl (fun a w' hC hs hl => by
        have e0 : a.eval (.tmp 91) = (.int .i64 n) := (hl 91 (by kernel_rfl) (by kernel_rfl))
        have e1 : a.eval (.tmp 92) = (.int .i64 p) := (hl 92 (by kernel_rfl) (by kernel_rfl))
        simp only [execOp, e0, e1]
        skip
        simp [go_sem, W2.out])
    · exact .value (.inr ⟨1, true, 84, by decide, rfl, rfl, rfl⟩) (by intro T e; cases e) rfl rfl (fun a w' hC hs hl => by
        have e0 : a.eval (.tmp 90) = (.int .i64 (m * q)) := (hl 90 (by kernel_rfl) (by kernel_rfl))
        have e1 : a.eval (.tmp 93) = (.int .i64 (n * p)) := (hl 93 (by kernel_rfl) (by kernel_rfl))
        simp only [execOp, e0, e1]
        skip
        simp [go_sem, W5.out])
    · exact .moveC (.inr ⟨1, true, 84, by decide, rfl, rfl, rfl⟩) (.inl rfl) rfl (fun a w' hC hs => (hs 9 (by kernel_rfl)))
    · exact .moveC (.inr ⟨1, true, 84, by decide, rfl, rfl, rfl⟩) (.inl rfl) rfl (fun a w' hC hs => (hs 10 (by kernel_rfl)))
    · exact .value (.inr ⟨1, true, 84, by decide, rfl, rfl, rfl⟩) (by intro T e; cases e) rfl rfl (fun a w' hC hs hl => by
        have e0 : a.eval (.tmp 95) = (.int .i64 p) := (hl 95 (by kernel_rfl) (by kernel_rfl))
        have e1 : a.eval (.tmp 96) = (.int .i64 q) := (hl 96 (by kernel_rfl) (by kernel_rfl))
        simp only [execOp, e0, e1]
        skip
        simp [go_sem, W3.out])
    · exact .call (.inr ⟨1, true, 84, by decide, rfl, rfl, rfl⟩) rfl rfl fn_rlof (fun a w' hC hs hl => by
        show Calls Tryz.prog _ #[a.eval (.tmp 94), a.eval (.tmp 97)] w' _
        rw [show a.eval (.tmp 94) = .int .i64 (m * q + n * p) from (hl 94 (by kernel_rfl) (by kernel_rfl)), show a.eval (.tmp 97) = .int .i64 (p * q) from (hl 97 (by kernel_rfl) (by kernel_rfl))]
        exact rlof_C w' (m * q + n * p) (p * q) (by have := B.out; have := P1.out; omega) (by have := B.out; have := P1.out; omega) (by have := B.out; have := P1.out; omega) (by have := B.out; have := P1.out; omega) (by have := B.out; have := P1.out; omega) (T.out.below (b0.out.trans (hC.mono b0.out.size))))
    · exact .call (.inr ⟨1, true, 84, by decide, rfl, rfl, rfl⟩) rfl rfl fn_rsame (fun a w' hC hs hl => rsame_yes (hl 87 (by kernel_rfl) (by kernel_rfl)) (hl 98 (by kernel_rfl) (by kernel_rfl)) (small_add hp1 hq1))
    · exact .pick (b := true) (.inl rfl) rfl rfl (fun a w' hC hs hl => ⟨(hl 84 (by kernel_rfl) (by kernel_rfl)), (hl 99 (by kernel_rfl) (by kernel_rfl))⟩)
    · exact .move (.inl rfl) (.inl rfl) rfl (by kernel_rfl) (by kernel_rfl) rfl
    · exact .load (.agg #[.bool b11, .slice A11 n11 c11, .slice D11 m11 k11]) (.inr ⟨18, true, 101, by decide, rfl, rfl, rfl⟩) rfl rfl (fun a w' hC hs hl => by rw [show a.eval (.tmp 11) = (.pointer (some ⟨w1.heap.size, 0, none⟩) : Value) from (hs 11 (by kernel_rfl))]; exact ⟨ld_Rat_ ((K11.out.below' hC).at_ 0 rfl) ((K11.out.below' hC).at_ 1 rfl) ((K11.out.below' hC).at_ 2 rfl), X.out⟩)
    · exact .load (.agg #[.bool b12, .slice A12 n12 c12, .slice D12 m12 k12]) (.inr ⟨18, true, 101, by decide, rfl, rfl, rfl⟩) rfl rfl (fun a w' hC hs hl => by rw [show a.eval (.tmp 12) = (.pointer (some ⟨w2.heap.size, 0, none⟩) : Value) from (hs 12 (by kernel_rfl))]; exact ⟨ld_Rat_ ((K12.out.below' hC).at_ 0 rfl) ((K12.out.below' hC).at_ 1 rfl) ((K12.out.below' hC).at_ 2 rfl), Y.out⟩)
    · exact .call (.inr ⟨18, true, 101, by decide, rfl, rfl, rfl⟩) rfl rfl fn_rMul (fun a w' hC hs hl => rMul_C (RCan.arg (RCan.below (hl 102 (by kernel_rfl) (by kernel_rfl)) hC) (LX.out.up (by decide))) (RCan.arg (RCan.below (hl 103 (by kernel_rfl) (by kernel_rfl)) hC) (LY.out.up (by decide))) (T.out.below (b0.out.trans (hC.mono b0.out.size))))
    · exact .moveC (.inr ⟨18, true, 101, by decide, rfl, rfl, rfl⟩) (.inl rfl) rfl (fun a w' hC hs => (hs 7 (by kernel_rfl)))
    · exact .moveC (.inr ⟨18, true, 101, by decide, rfl, rfl, rfl⟩) (.inl rfl) rfl (fun a w' hC hs => (hs 8 (by kernel_rfl)))
    · exact .value (.inr ⟨18, true, 101, by decide, rfl, rfl, rfl⟩) (by intro T e; cases e) rfl rfl (fun a w' hC hs hl => by
        have e0 : a.eval (.tmp 105) = (.int .i64 m) := (hl 105 (by kernel_rfl) (by kernel_rfl))
        have e1 : a.eval (.tmp 106) = (.int .i64 n) := (hl 106 (by kernel_rfl) (by kernel_rfl))
        simp only [execOp, e0, e1]
        skip
        simp [go_sem, W4.out])
    · exact .moveC (.inr ⟨18, true, 101, by decide, rfl, rfl, rfl⟩) (.inl rfl) rfl (fun a w' hC hs => (hs 9 (by kernel_rfl)))
    · exact .moveC (.inr ⟨18, true, 101, by decide, rfl, rfl, rfl⟩) (.inl rfl) rfl (fun a w' hC hs => (hs 10 (by kernel_rfl)))
    · exact .value (.inr ⟨18, true, 101, by decide, rfl, rfl, rfl⟩) (by intro T e; cases e) rfl rfl (fun a w' hC hs hl => by
        have e0 : a.eval (.tmp 108) = (.int .i64 p) := (hl 108 (by kernel_rfl) (by kernel_rfl))
        have e1 : a.eval (.tmp 109) = (.int .i64 q) := (hl 109 (by kernel_rfl) (by kernel_rfl))
        simp only [execOp, e0, e1]
        skip
        simp [go_sem, W3.out])
    · exact .call (.inr ⟨18, true, 101, by decide, rfl, rfl, rfl⟩) rfl rfl fn_rlof (fun a w' hC hs hl => by
        show Calls Tryz.prog _ #[a.eval (.tmp 107), a.eval (.tmp 110)] w' _
        rw [show a.eval (.tmp 107) = .int .i64 (m * n) from (hl 107 (by kernel_rfl) (by kernel_rfl)), show a.eval (.tmp 110) = .int .i64 (p * q) from (hl 110 (by kernel_rfl) (by kernel_rfl))]
        exact rlof_C w' (m * n) (p * q) (by have := B.out; have := P1.out; omega) (by have := B.out; have := P1.out; omega) (by have := B.out; have := P1.out; omega) (by have := B.out; have := P1.out; omega) (by have := B.out; have := P1.out; omega) (T.out.below (b0.out.trans (hC.mono b0.out.size))))
    · exact .call (.inr ⟨18, true, 101, by decide, rfl, rfl, rfl⟩) rfl rfl fn_rsame (fun a w' hC hs hl => rsame_yes (hl 104 (by kernel_rfl) (by kernel_rfl)) (hl 111 (by kernel_rfl) (by kernel_rfl)) (small_mul))
    · exact .pick (b := true) (.inl rfl) rfl rfl (fun a w' hC hs hl => ⟨(hl 101 (by kernel_rfl) (by kernel_rfl)), (hl 112 (by kernel_rfl) (by kernel_rfl))⟩)
    · exact .move (.inl rfl) (.inl rfl) rfl (by kernel_rfl) (by kernel_rfl) rfl
    · exact .load (.agg #[.bool b11, .slice A11 n11 c11, .slice D11 m11 k11]) (.inr ⟨31, true, 114, by decide, rfl, rfl, rfl⟩) rfl rfl (fun a w' hC hs hl => by rw [show a.eval (.tmp 11) = (.pointer (some ⟨w1.heap.size, 0, none⟩) : Value) from (hs 11 (by kernel_rfl))]; exact ⟨ld_Rat_ ((K11.out.below' hC).at_ 0 rfl) ((K11.out.below' hC).at_ 1 rfl) ((K11.out.below' hC).at_ 2 rfl), X.out⟩)
    · exact .load (.agg #[.bool b12, .slice A12 n12 c12, .slice D12 m12 k12]) (.inr ⟨31, true, 114, by decide, rfl, rfl, rfl⟩) rfl rfl (fun a w' hC hs hl => by rw [show a.eval (.tmp 12) = (.pointer (some ⟨w2.heap.size, 0, none⟩) : Value) from (hs 12 (by kernel_rfl))]; exact ⟨ld_Rat_ ((K12.out.below' hC).at_ 0 rfl) ((K12.out.below' hC).at_ 1 rfl) ((K12.out.below' hC).at_ 2 rfl), Y.out⟩)
    · exact .call (.inr ⟨31, true, 114, by decide, rfl, rfl, rfl⟩) rfl rfl fn_rCmp (fun a w' hC hs hl => rCmp_eq (RCan.arg (RCan.below (hl 115 (by kernel_rfl) (by kernel_rfl)) hC) (LX.out.up (by decide))) (RCan.arg (RCan.below (hl 116 (by kernel_rfl) (by kernel_rfl)) hC) (LY.out.up (by decide))) (T.out.below (b0.out.trans (hC.mono b0.out.size))) (cc) (hcc.out))
    · exact .value (.inr ⟨31, true, 114, by decide, rfl, rfl, rfl⟩) (by intro T e; cases e) rfl rfl (fun a w' hC hs hl => by
        have e0 : a.eval (.tmp 117) = (.int .i64 (cc)) := (hl 117 (by kernel_rfl) (by kernel_rfl))
        simp only [execOp, e0]
        simp only [Act.eval]
        simp [go_sem, hlc.out])
    · exact .moveC (.inr ⟨31, true, 114, by decide, rfl, rfl, rfl⟩) (.inl rfl) rfl (fun a w' hC hs => (hs 7 (by kernel_rfl)))
    · exact .moveC (.inr ⟨31, true, 114, by decide, rfl, rfl, rfl⟩) (.inl rfl) rfl (fun a w' hC hs => (hs 10 (by kernel_rfl)))
    · exact .value (.inr ⟨31, true, 114, by decide, rfl, rfl, rfl⟩) (by intro T e; cases e) rfl rfl (fun a w' hC hs hl => by
        have e0 : a.eval (.tmp 119) = (.int .i64 m) := (hl 119 (by kernel_rfl) (by kernel_rfl))
        have e1 : a.eval (.tmp 120) = (.int .i64 q) := (hl 120 (by kernel_rfl) (by kernel_rfl))
        simp only [execOp, e0, e1]
        skip
        simp [go_sem, W1.out])
    · exact .moveC (.inr ⟨31, true, 114, by decide, rfl, rfl, rfl⟩) (.inl rfl) rfl (fun a w' hC hs => (hs 8 (by kernel_rfl)))
    · exact .moveC (.inr ⟨31, true, 114, by decide, rfl, rfl, rfl⟩) (.inl rfl) rfl (fun a w' hC hs => (hs 9 (by kernel_rfl)))
    · exact .value (.inr ⟨31, true, 114, by decide, rfl, rfl, rfl⟩) (by intro T e; cases e) rfl rfl (fun a w' hC hs hl => by
        have e0 : a.eval (.tmp 122) = (.int .i64 n) := (hl 122 (by kernel_rfl) (by kernel_rfl))
        have e1 : a.eval (.tmp 123) = (.int .i64 p) := (hl 123 (by kernel_rfl) (by kernel_rfl))
        simp only [execOp, e0, e1]
        skip
        simp [go_sem, W2.out])
    · exact .value (.inr ⟨31, true, 114, by decide, rfl, rfl, rfl⟩) (by intro T e; cases e) rfl rfl (fun a w' hC hs hl => by
        have e0 : a.eval (.tmp 121) = (.int .i64 (m * q)) := (hl 121 (by kernel_rfl) (by kernel_rfl))
        have e1 : a.eval (.tmp 124) = (.int .i64 (n * p)) := (hl 124 (by kernel_rfl) (by kernel_rfl))
        simp only [execOp, e0, e1]
        skip
        simp [go_sem, hlb.out])
    · exact .value (.inr ⟨31, true, 114, by decide, rfl, rfl, rfl⟩) (by intro T e; cases e) rfl rfl (fun a w' hC hs hl => by
        have e0 : a.eval (.tmp 118) = (.bool lb) := (hl 118 (by kernel_rfl) (by kernel_rfl))
        have e1 : a.eval (.tmp 125) = (.bool lb) := (hl 125 (by kernel_rfl) (by kernel_rfl))
        simp only [execOp, e0, e1]
        skip
        simp [go_sem] <;> rfl)
    · exact .pick (b := true) (.inl rfl) rfl rfl (fun a w' hC hs hl => ⟨(hl 114 (by kernel_rfl) (by kernel_rfl)), (hl 126 (by kernel_rfl) (by kernel_rfl))⟩)
    · exact .move (.inl rfl) (.inl rfl) rfl (by kernel_rfl) (by kernel_rfl) rfl
    · exact .moveC (.inr ⟨45, true, 128, by decide, rfl, rfl, rfl⟩) (.inl rfl) rfl (fun a w' hC hs => (hs 15 (by kernel_rfl)))
    · exact .value (.inr ⟨45, true, 128, by decide, rfl, rfl, rfl⟩) (by intro T e; cases e) rfl rfl (fun a w' hC hs hl => by
        have e0 : a.eval (.tmp 129) = (.int .i64 (0)) := (hl 129 (by kernel_rfl) (by kernel_rfl))
        simp only [execOp, e0]
        simp only [Act.eval]
        simp [go_sem] <;> rfl)
    · exact .pick (b := true) (.inl rfl) rfl rfl (fun a w' hC hs hl => ⟨(hl 128 (by kernel_rfl) (by kernel_rfl)), (hl 130 (by kernel_rfl) (by kernel_rfl))⟩)
    · exact .move (.inl rfl) (.inl rfl) rfl (by kernel_rfl) (by kernel_rfl) rfl
    · exact .moveC (.inr ⟨49, true, 132, by decide, rfl, rfl, rfl⟩) (.inl rfl) rfl (fun a w' hC hs => (hs 14 (by kernel_rfl)))
    · exact .moveC (.inr ⟨49, true, 132, by decide, rfl, rfl, rfl⟩) (.inl rfl) rfl (fun a w' hC hs => (hs 13 (by kernel_rfl)))
    · exact .value (.inr ⟨49, true, 132, by decide, rfl, rfl, rfl⟩) (by intro T e; cases e) rfl rfl (fun a w' hC hs hl => by
        have e0 : a.eval (.tmp 133) = (.int .i64 z) := (hl 133 (by kernel_rfl) (by kernel_rfl))
        have e1 : a.eval (.tmp 134) = (.int .i64 z) := (hl 134 (by kernel_rfl) (by kernel_rfl))
        simp only [execOp, e0, e1]
        skip
        simp [go_sem] <;> rfl)
    · exact .pick (b := true) (.inl rfl) rfl rfl (fun a w' hC hs hl => ⟨(hl 132 (by kernel_rfl) (by kernel_rfl)), (hl 135 (by kernel_rfl) (by kernel_rfl))⟩)
    · exact .move (.inl rfl) (.inl rfl) rfl (by kernel_rfl) (by kernel_rfl) rfl
    · exact .load (.agg #[.bool b11, .slice A11 n11 c11, .slice D11 m11 k11]) (.inr ⟨54, true, 137, by decide, rfl, rfl, rfl⟩) rfl rfl (fun a w' hC hs hl => by rw [show a.eval (.tmp 11) = (.pointer (some ⟨w1.heap.size, 0, none⟩) : Value) from (hs 11 (by kernel_rfl))]; exact ⟨ld_Rat_ ((K11.out.below' hC).at_ 0 rfl) ((K11.out.below' hC).at_ 1 rfl) ((K11.out.below' hC).at_ 2 rfl), X.out⟩)
    · exact .call (.inr ⟨54, true, 137, by decide, rfl, rfl, rfl⟩) rfl rfl fn_rWhole (fun a w' hC hs hl => rWhole_eq (RCan.arg (RCan.below (hl 138 (by kernel_rfl) (by kernel_rfl)) hC) (LX.out.up (by decide))) (T.out.below (b0.out.trans (hC.mono b0.out.size))) wb (hww.out))
    · exact .moveC (.inr ⟨54, true, 137, by decide, rfl, rfl, rfl⟩) (.inl rfl) rfl (fun a w' hC hs => (hs 7 (by kernel_rfl)))
    · exact .moveC (.inr ⟨54, true, 137, by decide, rfl, rfl, rfl⟩) (.inl rfl) rfl (fun a w' hC hs => (hs 9 (by kernel_rfl)))
    · exact .value (.inr ⟨54, true, 137, by decide, rfl, rfl, rfl⟩) (by intro T e; cases e) rfl rfl (fun a w' hC hs hl => by
        have e0 : a.eval (.tmp 140) = (.int .i64 m) := (hl 140 (by kernel_rfl) (by kernel_rfl))
        have e1 : a.eval (.tmp 141) = (.int .i64 p) := (hl 141 (by kernel_rfl) (by kernel_rfl))
        simp only [execOp, e0, e1]
        skip
        simp [go_sem, hp0'.out, hr2.out, wr'.out])
    · exact .value (.inr ⟨54, true, 137, by decide, rfl, rfl, rfl⟩) (by intro T e; cases e) rfl rfl (fun a w' hC hs hl => by
        have e0 : a.eval (.tmp 142) = (.int .i64 r) := (hl 142 (by kernel_rfl) (by kernel_rfl))
        simp only [execOp, e0]
        simp only [Act.eval]
        simp [go_sem, hwb.out])
    · exact .value (.inr ⟨54, true, 137, by decide, rfl, rfl, rfl⟩) (by intro T e; cases e) rfl rfl (fun a w' hC hs hl => by
        have e0 : a.eval (.tmp 139) = (.bool wb) := (hl 139 (by kernel_rfl) (by kernel_rfl))
        have e1 : a.eval (.tmp 143) = (.bool wb) := (hl 143 (by kernel_rfl) (by kernel_rfl))
        simp only [execOp, e0, e1]
        skip
        simp [go_sem] <;> rfl)
    · exact .pick (b := true) (.inl rfl) rfl rfl (fun a w' hC hs hl => ⟨(hl 137 (by kernel_rfl) (by kernel_rfl)), (hl 144 (by kernel_rfl) (by kernel_rfl))⟩)
    · exact .move (.inl rfl) (.inl rfl) rfl (by kernel_rfl) (by kernel_rfl) rfl
    · exact .moveC (.inr ⟨63, true, 146, by decide, rfl, rfl, rfl⟩) (.inl rfl) rfl (fun a w' hC hs => (hs 7 (by kernel_rfl)))
    · exact .call (.inr ⟨63, true, 146, by decide, rfl, rfl, rfl⟩) rfl rfl fn_rOf_ (fun a w' hC hs hl => by
        show Calls Tryz.prog _ #[a.eval (.tmp 147)] w' _
        rw [show a.eval (.tmp 147) = .int .i64 m from (hl 147 (by kernel_rfl) (by kernel_rfl))]
        exact rOf_C w' m (by omega) (by omega))
    · exact .moveC (.inr ⟨63, true, 146, by decide, rfl, rfl, rfl⟩) (.inl rfl) rfl (fun a w' hC hs => (hs 7 (by kernel_rfl)))
    · exact .call (.inr ⟨63, true, 146, by decide, rfl, rfl, rfl⟩) rfl rfl fn_rlof (fun a w' hC hs hl => by
        show Calls Tryz.prog _ #[a.eval (.tmp 149), .int .i64 1] w' _
        rw [show a.eval (.tmp 149) = .int .i64 m from (hl 149 (by kernel_rfl) (by kernel_rfl))]
        exact rlof_C w' m 1 (by have := B.out; have := P1.out; omega) (by have := B.out; have := P1.out; omega) (by have := B.out; have := P1.out; omega) (by have := B.out; have := P1.out; omega) (by decide) (T.out.below (b0.out.trans (hC.mono b0.out.size))))
    · exact .call (.inr ⟨63, true, 146, by decide, rfl, rfl, rfl⟩) rfl rfl fn_rsame (fun a w' hC hs hl => rsame_yes (hl 148 (by kernel_rfl) (by kernel_rfl)) (hl 150 (by kernel_rfl) (by kernel_rfl)) (small_one))
    · exact .pick (b := true) (.inl rfl) rfl rfl (fun a w' hC hs hl => ⟨(hl 146 (by kernel_rfl) (by kernel_rfl)), (hl 151 (by kernel_rfl) (by kernel_rfl))⟩)
    · exact .move (.inl rfl) (.inr rfl) rfl (by kernel_rfl) (by kernel_rfl) rfl
    intro f w99 hC hF _
    have f0 : f 6 = .bool true := hF 6 (by kernel_rfl)
    clear hF
    simp only [patch, List.drop]
    have B9 := hide (b0.out.trans (hC.mono b0.out.size))
    clear hC
    rw [f0]
    try change wpList _ _ _ [] _ _
    go_wp2
    exact opq_end hR ⟨rfl, B9⟩
  replace hn0 := hide hn0
  have K11d0 : w2.cell? ⟨w1.heap.size, 0, none⟩ = some (.bool b11) := K11.out.at_ 0 rfl
  have K11d1 : w2.cell? ⟨w1.heap.size, 1, none⟩ = some (.slice A11 n11 c11) := K11.out.at_ 1 rfl
  have K11d2 : w2.cell? ⟨w1.heap.size, 2, none⟩ = some (.slice D11 m11 k11) := K11.out.at_ 2 rfl
  have K12 := hide (Blk.new_at w2 (w2.heap.size) (by simp) 27 #[.bool b12, .slice A12 n12 c12, .slice D12 m12 k12])
  have y := (Below.refl w2.heap.size w2).alloc (Nat.le_refl _) (.cells #[.bool b12, .slice A12 n12 c12, .slice D12 m12 k12] 27)
  replace K5 := hide (K5.out.below' y)
  replace X := hide (X.out.below y)
  replace K11 := hide (K11.out.below' y)
  replace Y := hide (Y.out.below y)
  replace b0 := hide (below_tr b0.out y)
  clear y
  have K11c0 : (w2.alloc (.cells #[.bool b12, .slice A12 n12 c12, .slice D12 m12 k12] 27)).cell? ⟨w1.heap.size, 0, none⟩ = some (.bool b11) := K11.out.at_ 0 rfl
  have K11c1 : (w2.alloc (.cells #[.bool b12, .slice A12 n12 c12, .slice D12 m12 k12] 27)).cell? ⟨w1.heap.size, 1, none⟩ = some (.slice A11 n11 c11) := K11.out.at_ 1 rfl
  have K11c2 : (w2.alloc (.cells #[.bool b12, .slice A12 n12 c12, .slice D12 m12 k12] 27)).cell? ⟨w1.heap.size, 2, none⟩ = some (.slice D11 m11 k11) := K11.out.at_ 2 rfl
  have K12c0 : (w2.alloc (.cells #[.bool b12, .slice A12 n12 c12, .slice D12 m12 k12] 27)).cell? ⟨w2.heap.size, 0, none⟩ = some (.bool b12) := K12.out.at_ 0 rfl
  have K12c1 : (w2.alloc (.cells #[.bool b12, .slice A12 n12 c12, .slice D12 m12 k12] 27)).cell? ⟨w2.heap.size, 1, none⟩ = some (.slice A12 n12 c12) := K12.out.at_ 1 rfl
  have K12c2 : (w2.alloc (.cells #[.bool b12, .slice A12 n12 c12, .slice D12 m12 k12] 27)).cell? ⟨w2.heap.size, 2, none⟩ = some (.slice D12 m12 k12) := K12.out.at_ 2 rfl
  go_wp2_with fail
  refine (rFloor_P (X.out.arg (LX.out.up (by decide))) (T.out.below b0.out)).mono ?_
  rintro e w3 ⟨v47, rfl, d0, r47⟩
  replace K5 := hide (K5.out.below' d0)
  replace X := hide (X.out.below d0)
  replace K11 := hide (K11.out.below' d0)
  replace Y := hide (Y.out.below d0)
  replace K12 := hide (K12.out.below' d0)
  replace b0 := hide (below_tr b0.out d0)
  have N := hide (r47.can)
  clear d0
  clear K11d0 K11d1 K11d2
  clear K11c0 K11c1 K11c2 K12c0 K12c1 K12c2
  clear r47
  rw [small_floor hp1] at N
  rw [hfl.out] at N
  have K11c0 : w3.cell? ⟨w1.heap.size, 0, none⟩ = some (.bool b11) := K11.out.at_ 0 rfl
  have K11c1 : w3.cell? ⟨w1.heap.size, 1, none⟩ = some (.slice A11 n11 c11) := K11.out.at_ 1 rfl
  have K11c2 : w3.cell? ⟨w1.heap.size, 2, none⟩ = some (.slice D11 m11 k11) := K11.out.at_ 2 rfl
  have K12c0 : w3.cell? ⟨w2.heap.size, 0, none⟩ = some (.bool b12) := K12.out.at_ 0 rfl
  have K12c1 : w3.cell? ⟨w2.heap.size, 1, none⟩ = some (.slice A12 n12 c12) := K12.out.at_ 1 rfl
  have K12c2 : w3.cell? ⟨w2.heap.size, 2, none⟩ = some (.slice D12 m12 k12) := K12.out.at_ 2 rfl
  go_wp2_with fail
  refine (iBack_in N.out (L_up (L_small (by omega)) (by decide)) (by omega) (by omega)).mono ?_
  rintro e w4 ⟨rfl, d0⟩
  replace K5 := hide (K5.out.below' d0)
  replace X := hide (X.out.below d0)
  replace K11 := hide (K11.out.below' d0)
  replace Y := hide (Y.out.below d0)
  replace K12 := hide (K12.out.below' d0)
  replace N := hide (N.out.below d0)
  replace b0 := hide (below_tr b0.out d0)
  clear d0
  clear K11c0 K11c1 K11c2 K12c0 K12c1 K12c2
  clear N
  have K11c0 : w4.cell? ⟨w1.heap.size, 0, none⟩ = some (.bool b11) := K11.out.at_ 0 rfl
  have K11c1 : w4.cell? ⟨w1.heap.size, 1, none⟩ = some (.slice A11 n11 c11) := K11.out.at_ 1 rfl
  have K11c2 : w4.cell? ⟨w1.heap.size, 2, none⟩ = some (.slice D11 m11 k11) := K11.out.at_ 2 rfl
  have K12c0 : w4.cell? ⟨w2.heap.size, 0, none⟩ = some (.bool b12) := K12.out.at_ 0 rfl
  have K12c1 : w4.cell? ⟨w2.heap.size, 1, none⟩ = some (.slice A12 n12 c12) := K12.out.at_ 1 rfl
  have K12c2 : w4.cell? ⟨w2.heap.size, 2, none⟩ = some (.slice D12 m12 k12) := K12.out.at_ 2 rfl
  go_wp2_with fail
  refine (rDiv_ok X.out (LX.out.up (by decide)) Y.out (LY.out.up (by decide)) (T.out.below b0.out) (small_ne hq1 hn0.out)).mono ?_
  rintro e w5 ⟨v7, rfl, d0, r7⟩
  replace K5 := hide (K5.out.below' d0)
  replace X := hide (X.out.below d0)
  replace K11 := hide (K11.out.below' d0)
  replace Y := hide (Y.out.below d0)
  replace K12 := hide (K12.out.below' d0)
  replace b0 := hide (below_tr b0.out d0)
  have Z := hide (r7.can)
  clear d0
  clear r7
  obtain ⟨b7, A7, n7, c7, D7, m7, k7, rfl⟩ := Z.out.slice
  clear K11c0 K11c1 K11c2 K12c0 K12c1 K12c2
  have K16 := hide (Blk.new_at w5 (w5.heap.size) (by simp) 27 #[.bool b7, .slice A7 n7 c7, .slice D7 m7 k7])
  have y := (Below.refl w5.heap.size w5).alloc (Nat.le_refl _) (.cells #[.bool b7, .slice A7 n7 c7, .slice D7 m7 k7] 27)
  replace K5 := hide (K5.out.below' y)
  replace X := hide (X.out.below y)
  replace K11 := hide (K11.out.below' y)
  replace Y := hide (Y.out.below y)
  replace K12 := hide (K12.out.below' y)
  replace Z := hide (Z.out.below y)
  replace b0 := hide (below_tr b0.out y)
  clear y
  have Q1_ : Hid (H (((Rat.divInt m p) / (Rat.divInt n q))) 2) := H_div LX.out LY.out (by decide) (by decide)
  go_wp2
  obtain ⟨V1_5, hV⟩ : ∃ V, (w5.alloc (.cells #[.bool b7, .slice A7 n7 c7, .slice D7 m7 k7] 27)) = V := ⟨_, rfl⟩
  rw [hV] at K5 X K11 Y K12 Z K16 b0
  rw [hV]
  clear hV
  clear hp hq hd hr hp0 wd wr
  refine wp_region_facts 26 (fun w' => Below V1_5.heap.size V1_5 w') [(57, .eq (.int .i64 n)), (58, .eq (.bool true)), (59, .eq (.bool true)), (60, .eq (.int .i64 (0))), (61, .eq (.bool false)), (62, .eq (.bool false)), (63, (.rat0 V1_5 ((Rat.divInt m p) / (Rat.divInt n q)))), (64, .eq (.int .i64 m)), (65, .eq (.int .i64 q)), (66, .eq (.int .i64 (m * q))), (67, .eq (.int .i64 p)), (68, .eq (.int .i64 n)), (69, .eq (.int .i64 (p * n))), (70, (.rat (Rat.divInt (m * q) (p * n)))), (71, .eq (.bool true)), (72, .eq (.bool false)), (73, .eq (.bool false)), (74, .eq (.bool false)), (75, .eq (.bool false)), (76, .eq (.int .i64 n)), (77, .eq (.bool false)), (78, .eq (.bool false)), (79, .eq (undef)), (80, .eq (undef)), (81, .eq (Go.Value.bool false)), (82, .eq (Go.Value.bool false))] [false, false, false, false, false, false, false, false, false, false, false, false, false, false, false, false, false, false, false, false, false, false, false, false, false, false, false, false, false, false, false, false, false, false, false, false, false, false, false, false, false, false, false, false, false, false, false, false, false, false, false, false, false, false, false, false, false, true, true, true, true, true, true, true, true, true, true, true, true, true, true, true, true, true, true, true, true, true, true, true, true, true, true, false, false, false, false, false, false, false, false, false, false, false, false, false, false, false, false, false, false, false, false, false, false, false, false, false, false, false, false, false, false, false, false, false, false, false, false, false, false, false, false, false, false, false, false, false, false, false, false, false, false, false, false, false, false, false, false, false, false, false, false, false, false, false, false, false, false, false, false, false, false] mixed (by kernel_rfl) (by kernel_rfl) (by kernel_rfl) (fun _ _ h hb => h.trans (hb.mono h.size)) ((Below.refl _ _).drew) ⟨?_, ?_, ?_, ?_, ?_, ?_, ?_, ?_, ?_, ?_, ?_, ?_, ?_, ?_, ?_, ?_, ?_, ?_, ?_, ?_, ?_, ?_, ?_, ?_, ?_, ?_, trivial⟩ ?_
  · exact .moveC (.inl rfl) (.inl rfl) rfl (fun a w' hC hs => (hs 8 (by kernel_rfl)))
  · exact .value (.inl rfl) (by intro T e; cases e) rfl rfl (fun a w' hC hs hl => by
      have e0 : a.eval (.tmp 57) = (.int .i64 n) := (hl 57 (by kernel_rfl) (by kernel_rfl))
      simp only [execOp, e0]
      simp only [Act.eval]
      simp [go_sem, hn0.out])
  · exact .move (.inl rfl) (.inl rfl) rfl (by kernel_rfl) (by kernel_rfl) rfl
  · exact .moveC (.inr ⟨2, true, 59, by decide, rfl, rfl, rfl⟩) (.inl rfl) rfl (fun a w' hC hs => (hs 17 (by kernel_rfl)))
  · exact .value (.inr ⟨2, true, 59, by decide, rfl, rfl, rfl⟩) (by intro T e; cases e) rfl rfl (fun a w' hC hs hl => by
      have e0 : a.eval (.tmp 60) = (.int .i64 (0)) := (hl 60 (by kernel_rfl) (by kernel_rfl))
      simp only [execOp, e0]
      simp only [Act.eval]
      simp [go_sem] <;> rfl)
  · exact .move (.inr ⟨2, true, 59, by decide, rfl, rfl, rfl⟩) (.inl rfl) rfl (by kernel_rfl) (by kernel_rfl) rfl
  · exact .load (.agg #[.bool b7, .slice A7 n7 c7, .slice D7 m7 k7]) (.inr ⟨5, false, 62, by decide, rfl, rfl, rfl⟩) rfl rfl (fun a w' hC hs hl => by rw [show a.eval (.tmp 16) = (.pointer (some ⟨w5.heap.size, 0, none⟩) : Value) from (hs 16 (by kernel_rfl))]; exact ⟨ld_Rat_ ((K16.out.below' hC).at_ 0 rfl) ((K16.out.below' hC).at_ 1 rfl) ((K16.out.below' hC).at_ 2 rfl), Z.out⟩)
  · exact .moveC (.inr ⟨5, false, 62, by decide, rfl, rfl, rfl⟩) (.inl rfl) rfl (fun a w' hC hs => (hs 7 (by kernel_rfl)))
  · exact .moveC (.inr ⟨5, false, 62, by decide, rfl, rfl, rfl⟩) (.inl rfl) rfl (fun a w' hC hs => (hs 10 (by kernel_rfl)))
  · exact .value (.inr ⟨5, false, 62, by decide, rfl, rfl, rfl⟩) (by intro T e; cases e) rfl rfl (fun a w' hC hs hl => by
      have e0 : a.eval (.tmp 64) = (.int .i64 m) := (hl 64 (by kernel_rfl) (by kernel_rfl))
      have e1 : a.eval (.tmp 65) = (.int .i64 q) := (hl 65 (by kernel_rfl) (by kernel_rfl))
      simp only [execOp, e0, e1]
      skip
      simp [go_sem, W1.out])
  · exact .moveC (.inr ⟨5, false, 62, by decide, rfl, rfl, rfl⟩) (.inl rfl) rfl (fun a w' hC hs => (hs 9 (by kernel_rfl)))
  · exact .moveC (.inr ⟨5, false, 62, by decide, rfl, rfl, rfl⟩) (.inl rfl) rfl (fun a w' hC hs => (hs 8 (by kernel_rfl)))
  · exact .value (.inr ⟨5, false, 62, by decide, rfl, rfl, rfl⟩) (by intro T e; cases e) rfl rfl (fun a w' hC hs hl => by
      have e0 : a.eval (.tmp 67) = (.int .i64 p) := (hl 67 (by kernel_rfl) (by kernel_rfl))
      have e1 : a.eval (.tmp 68) = (.int .i64 n) := (hl 68 (by kernel_rfl) (by kernel_rfl))
      simp only [execOp, e0, e1]
      skip
      simp [go_sem, W2'.out])
  · exact .call (.inr ⟨5, false, 62, by decide, rfl, rfl, rfl⟩) rfl rfl fn_rlof (fun a w' hC hs hl => by
        show Calls Tryz.prog _ #[a.eval (.tmp 66), a.eval (.tmp 69)] w' _
        rw [show a.eval (.tmp 66) = .int .i64 (m * q) from (hl 66 (by kernel_rfl) (by kernel_rfl)), show a.eval (.tmp 69) = .int .i64 (p * n) from (hl 69 (by kernel_rfl) (by kernel_rfl))]
        exact rlof_C w' (m * q) (p * n) (by have := B.out; have := P1.out; omega) (by have := B.out; have := P1.out; omega) (by have := B.out; have := Int.mul_comm p n; omega) (by have := B.out; have := Int.mul_comm p n; omega) (Int.mul_ne_zero (by omega) hn0.out) (T.out.below (b0.out.trans (hC.mono b0.out.size))))
  · exact .call (.inr ⟨5, false, 62, by decide, rfl, rfl, rfl⟩) rfl rfl fn_rsame (fun a w' hC hs hl => rsame_yes (RCan.below (hl 63 (by kernel_rfl) (by kernel_rfl)) hC) (hl 70 (by kernel_rfl) (by kernel_rfl)) (small_div hp1 hq1 hn0.out))
  · exact .value (.inr ⟨5, false, 62, by decide, rfl, rfl, rfl⟩) (by intro T e; cases e) rfl rfl (fun a w' hC hs hl => by
      have e0 : a.eval (.tmp 71) = (.bool true) := (hl 71 (by kernel_rfl) (by kernel_rfl))
      simp only [execOp, e0]
      skip
      simp [go_sem] <;> rfl)
  · exact .pick (b := false) (.inr ⟨2, true, 59, by decide, rfl, rfl, rfl⟩) rfl rfl (fun a w' hC hs hl => ⟨(hl 62 (by kernel_rfl) (by kernel_rfl)), (hl 72 (by kernel_rfl) (by kernel_rfl))⟩)
  · exact .pick (b := true) (.inl rfl) rfl rfl (fun a w' hC hs hl => ⟨(hl 59 (by kernel_rfl) (by kernel_rfl)), (hl 73 (by kernel_rfl) (by kernel_rfl))⟩)
  · exact .move (.inl rfl) (.inl rfl) rfl (by kernel_rfl) (by kernel_rfl) rfl
  · exact .moveC (.inr ⟨18, false, 75, by decide, rfl, rfl, rfl⟩) (.inl rfl) rfl (fun a w' hC hs => (hs 8 (by kernel_rfl)))
  · exact .value (.inr ⟨18, false, 75, by decide, rfl, rfl, rfl⟩) (by intro T e; cases e) rfl rfl (fun a w' hC hs hl => by
      have e0 : a.eval (.tmp 76) = (.int .i64 n) := (hl 76 (by kernel_rfl) (by kernel_rfl))
      simp only [execOp, e0]
      simp only [Act.eval]
      simp [go_sem, hn0.out])
  · exact .move (.inr ⟨18, false, 75, by decide, rfl, rfl, rfl⟩) (.inl rfl) rfl (by kernel_rfl) (by kernel_rfl) rfl
  · exact .skip ⟨21, false, 78, by decide, rfl, rfl, rfl⟩ (fun _ e => by cases e; exact .inl rfl)
  · exact .skip ⟨21, false, 78, by decide, rfl, rfl, rfl⟩ (fun _ e => by cases e; exact .inl rfl)
  · exact .pick (b := false) (.inr ⟨18, false, 75, by decide, rfl, rfl, rfl⟩) rfl rfl (fun a w' hC hs hl => ⟨(hl 78 (by kernel_rfl) (by kernel_rfl)), rfl⟩)
  · exact .pick (b := false) (.inl rfl) rfl rfl (fun a w' hC hs hl => ⟨(hl 75 (by kernel_rfl) (by kernel_rfl)), (hl 81 (by kernel_rfl) (by kernel_rfl))⟩)
  intro f w6 hC hF _
  have f0 : f 82 = .bool false := hF 82 (by kernel_rfl)
  clear hF
  simp only [patch, List.drop]
  rw [f0]
  clear f0
  generalize f 57 = y57_ at *
  generalize f 58 = y58_ at *
  generalize f 59 = y59_ at *
  generalize f 60 = y60_ at *
  generalize f 61 = y61_ at *
  generalize f 62 = y62_ at *
  generalize f 63 = y63_ at *
  generalize f 64 = y64_ at *
  generalize f 65 = y65_ at *
  generalize f 66 = y66_ at *
  generalize f 67 = y67_ at *
  generalize f 68 = y68_ at *
  generalize f 69 = y69_ at *
  generalize f 70 = y70_ at *
  generalize f 71 = y71_ at *
  generalize f 72 = y72_ at *
  generalize f 73 = y73_ at *
  generalize f 74 = y74_ at *
  generalize f 75 = y75_ at *
  generalize f 76 = y76_ at *
  generalize f 77 = y77_ at *
  generalize f 78 = y78_ at *
  generalize f 79 = y79_ at *
  generalize f 80 = y80_ at *
  generalize f 81 = y81_ at *
  replace K5 := hide (K5.out.below' hC)
  replace X := hide (X.out.below hC)
  replace K11 := hide (K11.out.below' hC)
  replace Y := hide (Y.out.below hC)
  replace K12 := hide (K12.out.below' hC)
  replace Z := hide (Z.out.below hC)
  replace K16 := hide (K16.out.below' hC)
  replace b0 := hide (b0.out.trans (hC.mono b0.out.size))
  clear hC
  go_wp2
  have Q2_ : Hid (H (((Rat.divInt m p) + (Rat.divInt n q))) 3) := H_add LX.out LY.out (by decide)
  have Q3_ : Hid (H (((Rat.divInt m p) * (Rat.divInt n q))) 2) := H_mul LX.out LY.out (by decide)
  refine wp_region_facts 71 (fun w' => Below w6.heap.size w6 w') [(83, .eq (.bool true)), (84, .eq (.bool true)), (85, (.rat0 w6 (Rat.divInt m p))), (86, (.rat0 w6 (Rat.divInt n q))), (87, (.rat ((Rat.divInt m p) + (Rat.divInt n q)))), (88, .eq (.int .i64 m)), (89, .eq (.int .i64 q)), (90, .eq (.int .i64 (m * q))), (91, .eq (.int .i64 n)), (92, .eq (.int .i64 p)), (93, .eq (.int .i64 (n * p))), (94, .eq (.int .i64 (m * q + n * p))), (95, .eq (.int .i64 p)), (96, .eq (.int .i64 q)), (97, .eq (.int .i64 (p * q))), (98, (.rat (Rat.divInt (m * q + n * p) (p * q)))), (99, .eq (.bool true)), (100, .eq (.bool true)), (101, .eq (.bool true)), (102, (.rat0 w6 (Rat.divInt m p))), (103, (.rat0 w6 (Rat.divInt n q))), (104, (.rat ((Rat.divInt m p) * (Rat.divInt n q)))), (105, .eq (.int .i64 m)), (106, .eq (.int .i64 n)), (107, .eq (.int .i64 (m * n))), (108, .eq (.int .i64 p)), (109, .eq (.int .i64 q)), (110, .eq (.int .i64 (p * q))), (111, (.rat (Rat.divInt (m * n) (p * q)))), (112, .eq (.bool true)), (113, .eq (.bool true)), (114, .eq (.bool true)), (115, (.rat0 w6 (Rat.divInt m p))), (116, (.rat0 w6 (Rat.divInt n q))), (117, .eq (.int .i64 (cc))), (118, .eq (.bool lb)), (119, .eq (.int .i64 m)), (120, .eq (.int .i64 q)), (121, .eq (.int .i64 (m * q))), (122, .eq (.int .i64 n)), (123, .eq (.int .i64 p)), (124, .eq (.int .i64 (n * p))), (125, .eq (.bool lb)), (126, .eq (.bool true)), (127, .eq (.bool true)), (128, .eq (.bool true)), (129, .eq (.int .i64 (0))), (130, .eq (.bool true)), (131, .eq (.bool true)), (132, .eq (.bool true)), (133, .eq (.int .i64 z)), (134, .eq (.int .i64 z)), (135, .eq (.bool true)), (136, .eq (.bool true)), (137, .eq (.bool true)), (138, (.rat0 w6 (Rat.divInt m p))), (139, .eq (.bool wb)), (140, .eq (.int .i64 m)), (141, .eq (.int .i64 p)), (142, .eq (.int .i64 r)), (143, .eq (.bool wb)), (144, .eq (.bool true)), (145, .eq (.bool true)), (146, .eq (.bool true)), (147, .eq (.int .i64 m)), (148, (.rat ((m : Int) : Rat))), (149, .eq (.int .i64 m)), (150, (.rat (Rat.divInt m 1))), (151, .eq (.bool true)), (152, .eq (.bool true)), (6, .eq (.bool true))] [false, false, false, false, false, false, true, false, false, false, false, false, false, false, false, false, false, false, false, false, false, false, false, false, false, false, false, false, false, false, false, false, false, false, false, false, false, false, false, false, false, false, false, false, false, false, false, false, false, false, false, false, false, false, false, false, false, false, false, false, false, false, false, false, false, false, false, false, false, false, false, false, false, false, false, false, false, false, false, false, false, false, false, true, true, true, true, true, true, true, true, true, true, true, true, true, true, true, true, true, true, true, true, true, true, true, true, true, true, true, true, true, true, true, true, true, true, true, true, true, true, true, true, true, true, true, true, true, true, true, true, true, true, true, true, true, true, true, true, true, true, true, true, true, true, true, true, true, true, true, true, true, true] mixed (by kernel_rfl) (by kernel_rfl) (by kernel_rfl) (fun _ _ h hb => h.trans (hb.mono h.size)) ((Below.refl _ _).drew) ⟨?_, ?_, ?_, ?_, ?_, ?_, ?_, ?_, ?_, ?_, ?_, ?_, ?_, ?_, ?_, ?_, ?_, ?_, ?_, ?_, ?_, ?_, ?_, ?_, ?_, ?_, ?_, ?_, ?_, ?_, ?_, ?_, ?_, ?_, ?_, ?_, ?_, ?_, ?_, ?_, ?_, ?_, ?_, ?_, ?_, ?_, ?_, ?_, ?_, ?_, ?_, ?_, ?_, ?_, ?_, ?_, ?_, ?_, ?_, ?_, ?_, ?_, ?_, ?_, ?_, ?_, ?_, ?_, ?_, ?_, ?_, trivial⟩ ?_
  · exact .call (.inl rfl) rfl rfl fn_ralive (fun a w' hC hs hl => ralive_P _ (T.out.below (b0.out.trans (hC.mono b0.out.size))) (M.out.below (b0.out.trans (hC.mono b0.out.size))))
  · exact .move (.inl rfl) (.inl rfl) rfl (by kernel_rfl) (by kernel_rfl) rfl
  · exact .load (.agg #[.bool b11, .slice A11 n11 c11, .slice D11 m11 k11]) (.inr ⟨1, true, 84, by decide, rfl, rfl, rfl⟩) rfl rfl (fun a w' hC hs hl => by rw [show a.eval (.tmp 11) = (.pointer (some ⟨w1.heap.size, 0, none⟩) : Value) from (hs 11 (by kernel_rfl))]; exact ⟨ld_Rat_ ((K11.out.below' hC).at_ 0 rfl) ((K11.out.below' hC).at_ 1 rfl) ((K11.out.below' hC).at_ 2 rfl), X.out⟩)
  · exact .load (.agg #[.bool b12, .slice A12 n12 c12, .slice D12 m12 k12]) (.inr ⟨1, true, 84, by decide, rfl, rfl, rfl⟩) rfl rfl (fun a w' hC hs hl => by rw [show a.eval (.tmp 12) = (.pointer (some ⟨w2.heap.size, 0, none⟩) : Value) from (hs 12 (by kernel_rfl))]; exact ⟨ld_Rat_ ((K12.out.below' hC).at_ 0 rfl) ((K12.out.below' hC).at_ 1 rfl) ((K12.out.below' hC).at_ 2 rfl), Y.out⟩)
  · exact .call (.inr ⟨1, true, 84, by decide, rfl, rfl, rfl⟩) rfl rfl fn_rAdd (fun a w' hC hs hl => rAdd_C (RCan.arg (RCan.below (hl 85 (by kernel_rfl) (by kernel_rfl)) hC) (LX.out.up (by decide))) (RCan.arg (RCan.below (hl 86 (by kernel_rfl) (by kernel_rfl)) hC) (LY.out.up (by decide))) (T.out.below (b0.out.trans (hC.mono b0.out.size))))
  · exact .moveC (.inr ⟨1, true, 84, by decide, rfl, rfl, rfl⟩) (.inl rfl) rfl (fun a w' hC hs => (hs 7 (by kernel_rfl)))
  · exact .moveC (.inr ⟨1, true, 84, by decide, rfl, rfl, rfl⟩) (.inl rfl) rfl (fun a w' hC hs => (hs 10 (by kernel_rfl)))
  · exact .value (.inr ⟨1, true, 84, by decide, rfl, rfl, rfl⟩) (by intro T e; cases e) rfl rfl (fun a w' hC hs hl => by
      have e0 : a.eval (.tmp 88) = (.int .i64 m) := (hl 88 (by kernel_rfl) (by kernel_rfl))
      have e1 : a.eval (.tmp 89) = (.int .i64 q) := (hl 89 (by kernel_rfl) (by kernel_rfl))
      simp only [execOp, e0, e1]
      skip
      simp [go_sem, W1.out])
  · exact .moveC (.inr ⟨1, true, 84, by decide, rfl, rfl, rfl⟩) (.inl rfl) rfl (fun a w' hC hs => (hs 8 (by kernel_rfl)))
  · exact .moveC (.inr ⟨1, true, 84, by decide, rfl, rfl, rfl⟩) (.inl rfl) rfl (fun a w' hC hs => (hs 9 (by kernel_rfl)))
  · exact .value (.inr ⟨1, true, 84, by decide, rfl, rfl, rfl⟩) (by intro T e; cases e) rfl rfl (fun a w' hC hs hl => by
      have e0 : a.eval (.tmp 91) = (.int .i64 n) := (hl 91 (by kernel_rfl) (by kernel_rfl))
      have e1 : a.eval (.tmp 92) = (.int .i64 p) := (hl 92 (by kernel_rfl) (by kernel_rfl))
      simp only [execOp, e0, e1]
      skip
      simp [go_sem, W2.out])
  · exact .value (.inr ⟨1, true, 84, by decide, rfl, rfl, rfl⟩) (by intro T e; cases e) rfl rfl (fun a w' hC hs hl => by
      have e0 : a.eval (.tmp 90) = (.int .i64 (m * q)) := (hl 90 (by kernel_rfl) (by kernel_rfl))
      have e1 : a.eval (.tmp 93) = (.int .i64 (n * p)) := (hl 93 (by kernel_rfl) (by kernel_rfl))
      simp only [execOp, e0, e1]
      skip
      simp [go_sem, W5.out])
  · exact .moveC (.inr ⟨1, true, 84, by decide, rfl, rfl, rfl⟩) (.inl rfl) rfl (fun a w' hC hs => (hs 9 (by kernel_rfl)))
  · exact .moveC (.inr ⟨1, true, 84, by decide, rfl, rfl, rfl⟩) (.inl rfl) rfl (fun a w' hC hs => (hs 10 (by kernel_rfl)))
  · exact .value (.inr ⟨1, true, 84, by decide, rfl, rfl, rfl⟩) (by intro T e; cases e) rfl rfl (fun a w' hC hs hl => by
      have e0 : a.eval (.tmp 95) = (.int .i64 p) := (hl 95 (by kernel_rfl) (by kernel_rfl))
      have e1 : a.eval (.tmp 96) = (.int .i64 q) := (hl 96 (by kernel_rfl) (by kernel_rfl))
      simp only [execOp, e0, e1]
      skip
      simp [go_sem, W3.out])
  · exact .call (.inr ⟨1, true, 84, by decide, rfl, rfl, rfl⟩) rfl rfl fn_rlof (fun a w' hC hs hl => by
        show Calls Tryz.prog _ #[a.eval (.tmp 94), a.eval (.tmp 97)] w' _
        rw [show a.eval (.tmp 94) = .int .i64 (m * q + n * p) from (hl 94 (by kernel_rfl) (by kernel_rfl)), show a.eval (.tmp 97) = .int .i64 (p * q) from (hl 97 (by kernel_rfl) (by kernel_rfl))]
        exact rlof_C w' (m * q + n * p) (p * q) (by have := B.out; have := P1.out; omega) (by have := B.out; have := P1.out; omega) (by have := B.out; have := P1.out; omega) (by have := B.out; have := P1.out; omega) (by have := B.out; have := P1.out; omega) (T.out.below (b0.out.trans (hC.mono b0.out.size))))
  · exact .call (.inr ⟨1, true, 84, by decide, rfl, rfl, rfl⟩) rfl rfl fn_rsame (fun a w' hC hs hl => rsame_yes (hl 87 (by kernel_rfl) (by kernel_rfl)) (hl 98 (by kernel_rfl) (by kernel_rfl)) (small_add hp1 hq1))
  · exact .pick (b := true) (.inl rfl) rfl rfl (fun a w' hC hs hl => ⟨(hl 84 (by kernel_rfl) (by kernel_rfl)), (hl 99 (by kernel_rfl) (by kernel_rfl))⟩)
  · exact .move (.inl rfl) (.inl rfl) rfl (by kernel_rfl) (by kernel_rfl) rfl
  · exact .load (.agg #[.bool b11, .slice A11 n11 c11, .slice D11 m11 k11]) (.inr ⟨18, true, 101, by decide, rfl, rfl, rfl⟩) rfl rfl (fun a w' hC hs hl => by rw [show a.eval (.tmp 11) = (.pointer (some ⟨w1.heap.size, 0, none⟩) : Value) from (hs 11 (by kernel_rfl))]; exact ⟨ld_Rat_ ((K11.out.below' hC).at_ 0 rfl) ((K11.out.below' hC).at_ 1 rfl) ((K11.out.below' hC).at_ 2 rfl), X.out⟩)
  · exact .load (.agg #[.bool b12, .slice A12 n12 c12, .slice D12 m12 k12]) (.inr ⟨18, true, 101, by decide, rfl, rfl, rfl⟩) rfl rfl (fun a w' hC hs hl => by rw [show a.eval (.tmp 12) = (.pointer (some ⟨w2.heap.size, 0, none⟩) : Value) from (hs 12 (by kernel_rfl))]; exact ⟨ld_Rat_ ((K12.out.below' hC).at_ 0 rfl) ((K12.out.below' hC).at_ 1 rfl) ((K12.out.below' hC).at_ 2 rfl), Y.out⟩)
  · exact .call (.inr ⟨18, true, 101, by decide, rfl, rfl, rfl⟩) rfl rfl fn_rMul (fun a w' hC hs hl => rMul_C (RCan.arg (RCan.below (hl 102 (by kernel_rfl) (by kernel_rfl)) hC) (LX.out.up (by decide))) (RCan.arg (RCan.below (hl 103 (by kernel_rfl) (by kernel_rfl)) hC) (LY.out.up (by decide))) (T.out.below (b0.out.trans (hC.mono b0.out.size))))
  · exact .moveC (.inr ⟨18, true, 101, by decide, rfl, rfl, rfl⟩) (.inl rfl) rfl (fun a w' hC hs => (hs 7 (by kernel_rfl)))
  · exact .moveC (.inr ⟨18, true, 101, by decide, rfl, rfl, rfl⟩) (.inl rfl) rfl (fun a w' hC hs => (hs 8 (by kernel_rfl)))
  · exact .value (.inr ⟨18, true, 101, by decide, rfl, rfl, rfl⟩) (by intro T e; cases e) rfl rfl (fun a w' hC hs hl => by
      have e0 : a.eval (.tmp 105) = (.int .i64 m) := (hl 105 (by kernel_rfl) (by kernel_rfl))
      have e1 : a.eval (.tmp 106) = (.int .i64 n) := (hl 106 (by kernel_rfl) (by kernel_rfl))
      simp only [execOp, e0, e1]
      skip
      simp [go_sem, W4.out])
  · exact .moveC (.inr ⟨18, true, 101, by decide, rfl, rfl, rfl⟩) (.inl rfl) rfl (fun a w' hC hs => (hs 9 (by kernel_rfl)))
  · exact .moveC (.inr ⟨18, true, 101, by decide, rfl, rfl, rfl⟩) (.inl rfl) rfl (fun a w' hC hs => (hs 10 (by kernel_rfl)))
  · exact .value (.inr ⟨18, true, 101, by decide, rfl, rfl, rfl⟩) (by intro T e; cases e) rfl rfl (fun a w' hC hs hl => by
      have e0 : a.eval (.tmp 108) = (.int .i64 p) := (hl 108 (by kernel_rfl) (by kernel_rfl))
      have e1 : a.eval (.tmp 109) = (.int .i64 q) := (hl 109 (by kernel_rfl) (by kernel_rfl))
      simp only [execOp, e0, e1]
      skip
      simp [go_sem, W3.out])
  · exact .call (.inr ⟨18, true, 101, by decide, rfl, rfl, rfl⟩) rfl rfl fn_rlof (fun a w' hC hs hl => by
        show Calls Tryz.prog _ #[a.eval (.tmp 107), a.eval (.tmp 110)] w' _
        rw [show a.eval (.tmp 107) = .int .i64 (m * n) from (hl 107 (by kernel_rfl) (by kernel_rfl)), show a.eval (.tmp 110) = .int .i64 (p * q) from (hl 110 (by kernel_rfl) (by kernel_rfl))]
        exact rlof_C w' (m * n) (p * q) (by have := B.out; have := P1.out; omega) (by have := B.out; have := P1.out; omega) (by have := B.out; have := P1.out; omega) (by have := B.out; have := P1.out; omega) (by have := B.out; have := P1.out; omega) (T.out.below (b0.out.trans (hC.mono b0.out.size))))
  · exact .call (.inr ⟨18, true, 101, by decide, rfl, rfl, rfl⟩) rfl rfl fn_rsame (fun a w' hC hs hl => rsame_yes (hl 104 (by kernel_rfl) (by kernel_rfl)) (hl 111 (by kernel_rfl) (by kernel_rfl)) (small_mul))
  · exact .pick (b := true) (.inl rfl) rfl rfl (fun a w' hC hs hl => ⟨(hl 101 (by kernel_rfl) (by kernel_rfl)), (hl 112 (by kernel_rfl) (by kernel_rfl))⟩)
  · exact .move (.inl rfl) (.inl rfl) rfl (by kernel_rfl) (by kernel_rfl) rfl
  · exact .load (.agg #[.bool b11, .slice A11 n11 c11, .slice D11 m11 k11]) (.inr ⟨31, true, 114, by decide, rfl, rfl, rfl⟩) rfl rfl (fun a w' hC hs hl => by rw [show a.eval (.tmp 11) = (.pointer (some ⟨w1.heap.size, 0, none⟩) : Value) from (hs 11 (by kernel_rfl))]; exact ⟨ld_Rat_ ((K11.out.below' hC).at_ 0 rfl) ((K11.out.below' hC).at_ 1 rfl) ((K11.out.below' hC).at_ 2 rfl), X.out⟩)
  · exact .load (.agg #[.bool b12, .slice A12 n12 c12, .slice D12 m12 k12]) (.inr ⟨31, true, 114, by decide, rfl, rfl, rfl⟩) rfl rfl (fun a w' hC hs hl => by rw [show a.eval (.tmp 12) = (.pointer (some ⟨w2.heap.size, 0, none⟩) : Value) from (hs 12 (by kernel_rfl))]; exact ⟨ld_Rat_ ((K12.out.below' hC).at_ 0 rfl) ((K12.out.below' hC).at_ 1 rfl) ((K12.out.below' hC).at_ 2 rfl), Y.out⟩)
  · exact .call (.inr ⟨31, true, 114, by decide, rfl, rfl, rfl⟩) rfl rfl fn_rCmp (fun a w' hC hs hl => rCmp_eq (RCan.arg (RCan.below (hl 115 (by kernel_rfl) (by kernel_rfl)) hC) (LX.out.up (by decide))) (RCan.arg (RCan.below (hl 116 (by kernel_rfl) (by kernel_rfl)) hC) (LY.out.up (by decide))) (T.out.below (b0.out.trans (hC.mono b0.out.size))) (cc) (hcc.out))
  · exact .value (.inr ⟨31, true, 114, by decide, rfl, rfl, rfl⟩) (by intro T e; cases e) rfl rfl (fun a w' hC hs hl => by
      have e0 : a.eval (.tmp 117) = (.int .i64 (cc)) := (hl 117 (by kernel_rfl) (by kernel_rfl))
      simp only [execOp, e0]
      simp only [Act.eval]
      simp [go_sem, hlc.out])
  · exact .moveC (.inr ⟨31, true, 114, by decide, rfl, rfl, rfl⟩) (.inl rfl) rfl (fun a w' hC hs => (hs 7 (by kernel_rfl)))
  · exact .moveC (.inr ⟨31, true, 114, by decide, rfl, rfl, rfl⟩) (.inl rfl) rfl (fun a w' hC hs => (hs 10 (by kernel_rfl)))
  · exact .value (.inr ⟨31, true, 114, by decide, rfl, rfl, rfl⟩) (by intro T e; cases e) rfl rfl (fun a w' hC hs hl => by
      have e0 : a.eval (.tmp 119) = (.int .i64 m) := (hl 119 (by kernel_rfl) (by kernel_rfl))
      have e1 : a.eval (.tmp 120) = (.int .i64 q) := (hl 120 (by kernel_rfl) (by kernel_rfl))
      simp only [execOp, e0, e1]
      skip
      simp [go_sem, W1.out])
  · exact .moveC (.inr ⟨31, true, 114, by decide, rfl, rfl, rfl⟩) (.inl rfl) rfl (fun a w' hC hs => (hs 8 (by kernel_rfl)))
  · exact .moveC (.inr ⟨31, true, 114, by decide, rfl, rfl, rfl⟩) (.inl rfl) rfl (fun a w' hC hs => (hs 9 (by kernel_rfl)))
  · exact .value (.inr ⟨31, true, 114, by decide, rfl, rfl, rfl⟩) (by intro T e; cases e) rfl rfl (fun a w' hC hs hl => by
      have e0 : a.eval (.tmp 122) = (.int .i64 n) := (hl 122 (by kernel_rfl) (by kernel_rfl))
      have e1 : a.eval (.tmp 123) = (.int .i64 p) := (hl 123 (by kernel_rfl) (by kernel_rfl))
      simp only [execOp, e0, e1]
      skip
      simp [go_sem, W2.out])
  · exact .value (.inr ⟨31, true, 114, by decide, rfl, rfl, rfl⟩) (by intro T e; cases e) rfl rfl (fun a w' hC hs hl => by
      have e0 : a.eval (.tmp 121) = (.int .i64 (m * q)) := (hl 121 (by kernel_rfl) (by kernel_rfl))
      have e1 : a.eval (.tmp 124) = (.int .i64 (n * p)) := (hl 124 (by kernel_rfl) (by kernel_rfl))
      simp only [execOp, e0, e1]
      skip
      simp [go_sem, hlb.out])
  · exact .value (.inr ⟨31, true, 114, by decide, rfl, rfl, rfl⟩) (by intro T e; cases e) rfl rfl (fun a w' hC hs hl => by
      have e0 : a.eval (.tmp 118) = (.bool lb) := (hl 118 (by kernel_rfl) (by kernel_rfl))
      have e1 : a.eval (.tmp 125) = (.bool lb) := (hl 125 (by kernel_rfl) (by kernel_rfl))
      simp only [execOp, e0, e1]
      skip
      simp [go_sem] <;> rfl)
  · exact .pick (b := true) (.inl rfl) rfl rfl (fun a w' hC hs hl => ⟨(hl 114 (by kernel_rfl) (by kernel_rfl)), (hl 126 (by kernel_rfl) (by kernel_rfl))⟩)
  · exact .move (.inl rfl) (.inl rfl) rfl (by kernel_rfl) (by kernel_rfl) rfl
  · exact .moveC (.inr ⟨45, true, 128, by decide, rfl, rfl, rfl⟩) (.inl rfl) rfl (fun a w' hC hs => (hs 15 (by kernel_rfl)))
  · exact .value (.inr ⟨45, true, 128, by decide, rfl, rfl, rfl⟩) (by intro T e; cases e) rfl rfl (fun a w' hC hs hl => by
      have e0 : a.eval (.tmp 129) = (.int .i64 (0)) := (hl 129 (by kernel_rfl) (by kernel_rfl))
      simp only [execOp, e0]
      simp only [Act.eval]
      simp [go_sem] <;> rfl)
  · exact .pick (b := true) (.inl rfl) rfl rfl (fun a w' hC hs hl => ⟨(hl 128 (by kernel_rfl) (by kernel_rfl)), (hl 130 (by kernel_rfl) (by kernel_rfl))⟩)
  · exact .move (.inl rfl) (.inl rfl) rfl (by kernel_rfl) (by kernel_rfl) rfl
  · exact .moveC (.inr ⟨49, true, 132, by decide, rfl, rfl, rfl⟩) (.inl rfl) rfl (fun a w' hC hs => (hs 14 (by kernel_rfl)))
  · exact .moveC (.inr ⟨49, true, 132, by decide, rfl, rfl, rfl⟩) (.inl rfl) rfl (fun a w' hC hs => (hs 13 (by kernel_rfl)))
  · exact .value (.inr ⟨49, true, 132, by decide, rfl, rfl, rfl⟩) (by intro T e; cases e) rfl rfl (fun a w' hC hs hl => by
      have e0 : a.eval (.tmp 133) = (.int .i64 z) := (hl 133 (by kernel_rfl) (by kernel_rfl))
      have e1 : a.eval (.tmp 134) = (.int .i64 z) := (hl 134 (by kernel_rfl) (by kernel_rfl))
      simp only [execOp, e0, e1]
      skip
      simp [go_sem] <;> rfl)
  · exact .pick (b := true) (.inl rfl) rfl rfl (fun a w' hC hs hl => ⟨(hl 132 (by kernel_rfl) (by kernel_rfl)), (hl 135 (by kernel_rfl) (by kernel_rfl))⟩)
  · exact .move (.inl rfl) (.inl rfl) rfl (by kernel_rfl) (by kernel_rfl) rfl
  · exact .load (.agg #[.bool b11, .slice A11 n11 c11, .slice D11 m11 k11]) (.inr ⟨54, true, 137, by decide, rfl, rfl, rfl⟩) rfl rfl (fun a w' hC hs hl => by rw [show a.eval (.tmp 11) = (.pointer (some ⟨w1.heap.size, 0, none⟩) : Value) from (hs 11 (by kernel_rfl))]; exact ⟨ld_Rat_ ((K11.out.below' hC).at_ 0 rfl) ((K11.out.below' hC).at_ 1 rfl) ((K11.out.below' hC).at_ 2 rfl), X.out⟩)
  · exact .call (.inr ⟨54, true, 137, by decide, rfl, rfl, rfl⟩) rfl rfl fn_rWhole (fun a w' hC hs hl => rWhole_eq (RCan.arg (RCan.below (hl 138 (by kernel_rfl) (by kernel_rfl)) hC) (LX.out.up (by decide))) (T.out.below (b0.out.trans (hC.mono b0.out.size))) wb (hww.out))
  · exact .moveC (.inr ⟨54, true, 137, by decide, rfl, rfl, rfl⟩) (.inl rfl) rfl (fun a w' hC hs => (hs 7 (by kernel_rfl)))
  · exact .moveC (.inr ⟨54, true, 137, by decide, rfl, rfl, rfl⟩) (.inl rfl) rfl (fun a w' hC hs => (hs 9 (by kernel_rfl)))
  · exact .value (.inr ⟨54, true, 137, by decide, rfl, rfl, rfl⟩) (by intro T e; cases e) rfl rfl (fun a w' hC hs hl => by
      have e0 : a.eval (.tmp 140) = (.int .i64 m) := (hl 140 (by kernel_rfl) (by kernel_rfl))
      have e1 : a.eval (.tmp 141) = (.int .i64 p) := (hl 141 (by kernel_rfl) (by kernel_rfl))
      simp only [execOp, e0, e1]
      skip
      simp [go_sem, hp0'.out, hr2.out, wr'.out])
  · exact .value (.inr ⟨54, true, 137, by decide, rfl, rfl, rfl⟩) (by intro T e; cases e) rfl rfl (fun a w' hC hs hl => by
      have e0 : a.eval (.tmp 142) = (.int .i64 r) := (hl 142 (by kernel_rfl) (by kernel_rfl))
      simp only [execOp, e0]
      simp only [Act.eval]
      simp [go_sem, hwb.out])
  · exact .value (.inr ⟨54, true, 137, by decide, rfl, rfl, rfl⟩) (by intro T e; cases e) rfl rfl (fun a w' hC hs hl => by
      have e0 : a.eval (.tmp 139) = (.bool wb) := (hl 139 (by kernel_rfl) (by kernel_rfl))
      have e1 : a.eval (.tmp 143) = (.bool wb) := (hl 143 (by kernel_rfl) (by kernel_rfl))
      simp only [execOp, e0, e1]
      skip
      simp [go_sem] <;> rfl)
  · exact .pick (b := true) (.inl rfl) rfl rfl (fun a w' hC hs hl => ⟨(hl 137 (by kernel_rfl) (by kernel_rfl)), (hl 144 (by kernel_rfl) (by kernel_rfl))⟩)
  · exact .move (.inl rfl) (.inl rfl) rfl (by kernel_rfl) (by kernel_rfl) rfl
  · exact .moveC (.inr ⟨63, true, 146, by decide, rfl, rfl, rfl⟩) (.inl rfl) rfl (fun a w' hC hs => (hs 7 (by kernel_rfl)))
  · exact .call (.inr ⟨63, true, 146, by decide, rfl, rfl, rfl⟩) rfl rfl fn_rOf_ (fun a w' hC hs hl => by
        show Calls Tryz.prog _ #[a.eval (.tmp 147)] w' _
        rw [show a.eval (.tmp 147) = .int .i64 m from (hl 147 (by kernel_rfl) (by kernel_rfl))]
        exact rOf_C w' m (by omega) (by omega))
  · exact .moveC (.inr ⟨63, true, 146, by decide, rfl, rfl, rfl⟩) (.inl rfl) rfl (fun a w' hC hs => (hs 7 (by kernel_rfl)))
  · exact .call (.inr ⟨63, true, 146, by decide, rfl, rfl, rfl⟩) rfl rfl fn_rlof (fun a w' hC hs hl => by
        show Calls Tryz.prog _ #[a.eval (.tmp 149), .int .i64 1] w' _
        rw [show a.eval (.tmp 149) = .int .i64 m from (hl 149 (by kernel_rfl) (by kernel_rfl))]
        exact rlof_C w' m 1 (by have := B.out; have := P1.out; omega) (by have := B.out; have := P1.out; omega) (by have := B.out; have := P1.out; omega) (by have := B.out; have := P1.out; omega) (by decide) (T.out.below (b0.out.trans (hC.mono b0.out.size))))
  · exact .call (.inr ⟨63, true, 146, by decide, rfl, rfl, rfl⟩) rfl rfl fn_rsame (fun a w' hC hs hl => rsame_yes (hl 148 (by kernel_rfl) (by kernel_rfl)) (hl 150 (by kernel_rfl) (by kernel_rfl)) (small_one))
  · exact .pick (b := true) (.inl rfl) rfl rfl (fun a w' hC hs hl => ⟨(hl 146 (by kernel_rfl) (by kernel_rfl)), (hl 151 (by kernel_rfl) (by kernel_rfl))⟩)
  · exact .move (.inl rfl) (.inr rfl) rfl (by kernel_rfl) (by kernel_rfl) rfl
  intro f w99 hC hF _
  have f0 : f 6 = .bool true := hF 6 (by kernel_rfl)
  clear hF
  simp only [patch, List.drop]
  have B9 := hide (b0.out.trans (hC.mono b0.out.size))
  clear hC
  rw [f0]
  try change wpList _ _ _ [] _ _
  go_wp2
  exact opq_end hR ⟨rfl, B9⟩
end Go.Proofs.YtnpfochbpdfcmaaGreatDoor
