/- the laws of rats: RatsPoints. -/
import Derived.Test.YtnpfochbpdfcmaaGreatDoorKp
import Derived.Test.YtnpfochbpdfcmaaGreatDoorFreeS
set_option linter.unusedVariables false
set_option linter.unusedSimpArgs false
set_option maxRecDepth 100000
namespace Go.Proofs.YtnpfochbpdfcmaaGreatDoor
open Go.RowKit

def szOf : Value → Nat | .string s => s.size | _ => 0
theorem dg_is : ∀ d : Nat, d < 10 → byt ((⟨#[48, 49, 50, 51, 52, 53, 54, 55, 56, 57]⟩ : ByteArray).extract d (d + 1)) = [48 + d] := by decide
theorem dg_run {d : Nat} (h : d < 10) : ∃ x : ByteArray, byt x = [48 + d] ∧ x.size = 1 ∧ ∀ W, (Instr.slice 9 (.string ⟨#[48, 49, 50, 51, 52, 53, 54, 55, 56, 57]⟩) (some (.int .u32 (d : Nat))) (some (.int .u32 ((d : Int) + 1))) none).run Tryz.prog W = .ok (.string x) W := by
  refine ⟨_, dg_is d h, ?_, fun W => ?_⟩
  · rw [← byt_length, dg_is d h]; rfl
  · exact run_slice_string (P := Tryz.prog) W 9 ⟨#[48, 49, 50, 51, 52, 53, 54, 55, 56, 57]⟩ .u32 .u32 (d : Int) ((d : Int) + 1) Tryz.underlying9 (by omega) (by omega) (by show (d : Int) + 1 ≤ 10; omega)
theorem byt_take {s : ByteArray} {j : Nat} (h : j ≤ s.size) : byt (s.extract 0 j) = (byt s).take j := by
  unfold byt
  rw [ByteArray.data_extract, Array.toList_extract, List.extract_eq_take_drop, List.drop_zero, Nat.sub_zero, List.map_take]
theorem byt_drop {s : ByteArray} {j : Nat} (h : j ≤ s.size) : byt (s.extract j s.size) = (byt s).drop j := by
  unfold byt
  rw [ByteArray.data_extract, Array.toList_extract, List.extract_eq_take_drop, ← List.map_drop]
  congr 1
  rw [List.take_of_length_le (by rw [List.length_drop, Array.length_toList]; exact Nat.le_refl _)]
theorem cut_to {s : ByteArray} {j : Nat} (h : j ≤ s.size) : ∃ x : ByteArray, Hid (byt x = (byt s).take j) ∧ ∀ W, (Instr.slice 9 (.string s) none (some (.int .i64 (j : Nat))) none).run Tryz.prog W = .ok (.string x) W :=
  ⟨_, byt_take h, fun W => by rw [run_slice_string_to_if (P := Tryz.prog) (w := W) 9 s .i64 (j : Int) Tryz.underlying9, if_pos (by omega)]; rfl⟩
theorem cut_from {s : ByteArray} {j : Nat} (h : j ≤ s.size) : ∃ x : ByteArray, Hid (byt x = (byt s).drop j) ∧ ∀ W, (Instr.slice 9 (.string s) (some (.int .i64 (j : Nat))) none none).run Tryz.prog W = .ok (.string x) W :=
  ⟨_, byt_drop h, fun W => by rw [run_slice_string_from_if (P := Tryz.prog) (w := W) 9 s .i64 (j : Int) Tryz.underlying9, if_pos (by omega)]; rfl⟩
set_option maxHeartbeats 8000000 in
theorem RatsPoints_ok (w : World) (n be mo : Nat) (hn : n < 4294967296) (hb : be < 256) (hmo : mo < 256) (hT : Tab w) (hM : MaxL w) :
    Calls Tryz.prog 4 #[.int .u32 (n : Nat), .int .u8 (be : Nat), .int .u8 (mo : Nat)] w fun e w' => e = .returned (.bool true) ∧ Hid (Below w.heap.size w w') := by
  refine opq fun R hR => ?_
  have T := hide hT
  have M := hide hM
  clear hT hM
  obtain ⟨k0, hk0, hk1⟩ : ∃ k : Nat, (be : Int) % 9 = (k : Nat) ∧ k < 9 := ⟨be % 9, by omega, by omega⟩
  obtain ⟨k, hk, hk2, hk3⟩ : ∃ k : Nat, (1 : Int) + (k0 : Nat) = (k : Nat) ∧ 1 ≤ k ∧ k ≤ 9 := ⟨1 + k0, by omega, by omega, by omega⟩
  obtain ⟨ic, hic, hic2⟩ : ∃ i : Nat, (mo : Int) % 20 = (i : Nat) ∧ i < 20 := ⟨mo % 20, by omega, by omega⟩
  go_enter Tryz.func4, Tryz.ntmps4
  go_wp2
  clear hk0 hk
  go_loopw [8, 9] (fun sv mv wr => ∃ (s : ByteArray) (mm : Nat), sv = .string s ∧ mv = .int .u32 (mm : Nat) ∧ mm < 4294967296 ∧ s.size ≤ 10 ∧ Hid (PtI n k mm (byt s)) ∧ Hid (Below w.heap.size w wr)) (fun sv mv _ => (intOf mv).toNat + (k + 1 - szOf sv))
  case atStart => exact ⟨_, n, rfl, rfl, hn, by decide, pt_start n k, Below.refl _ _⟩
  case round =>
    obtain ⟨s, mm, rfl, rfl, hmm, hs, hI, hbel⟩ := hrel
    by_cases hc : 0 < mm ∨ s.size ≤ k
    case pos =>
      have I2 := hide (pt_step hn hk3 hI.out (by rw [byt_length]; exact hc))
      obtain ⟨d, hd, hd2, hd3⟩ : ∃ d : Nat, (mm : Int) % 10 = (d : Nat) ∧ d < 10 ∧ Hid (mm % 10 = d) := ⟨mm % 10, by omega, by omega, rfl⟩
      obtain ⟨m', hm', hm2, hm3⟩ : ∃ d : Nat, (mm : Int) / 10 = (d : Nat) ∧ d < 4294967296 ∧ Hid (mm / 10 = d) := ⟨mm / 10, by omega, by omega, rfl⟩
      rw [hd3.out, hm3.out] at I2
      obtain ⟨x, hx, hx1, hx2⟩ := dg_run hd2
      replace hx := hide hx
      have hz := ByteArray.size_append (a := x) (b := s)
      have e1 : Hid (byt (x ++ s) = (48 + d) :: byt s) := by
        show _ = _
        rw [byt_append, hx.out]; rfl
      rw [← e1.out] at I2
      rcases Nat.eq_zero_or_pos mm with h0 | h0
      · have h1 : s.size ≤ k := by omega
        subst h0
        obtain rfl : d = 0 := by have := hd3.out; omega
        obtain rfl : m' = 0 := by have := hm3.out; omega
        replace hc := hide hc
        have e2 : Hid (byt ((⟨#[48, 49, 50, 51, 52, 53, 54, 55, 56, 57]⟩ : ByteArray).extract 0 1 ++ s) = 48 :: byt s) := by
          show _ = _
          rw [byt_append]; rfl
        rw [e1.out, show 48 + 0 = 48 from rfl, ← e2.out] at I2
        have hz2 : ((⟨#[48, 49, 50, 51, 52, 53, 54, 55, 56, 57]⟩ : ByteArray).extract 0 1 ++ s).size = 1 + s.size := by rw [ByteArray.size_append]; rfl
        clear hx hx2 e1 e2 hz
        go_wp2
        go_roundw
        case rel => exact ⟨_, 0, rfl, rfl, by omega, by omega, I2, hbel⟩
        case measure => simp only [intOf, szOf, hz2]; omega
      · replace hc := hide hc
        have h5 : Hid (x.size + s.size ≤ 10) := by
          have := I2.out.2.2.1
          rw [byt_length] at this
          show _ ≤ _
          omega
        go_wp2
        go_roundw
        case rel => exact ⟨_, m', rfl, rfl, hm2, by rw [hz]; exact h5.out, I2, hbel⟩
        case measure => simp only [intOf, szOf, hz]; have := hm3.out; omega
    obtain rfl : mm = 0 := by omega
    have hks : k < s.size := by omega
    clear hc
    go_wp2
    obtain ⟨wv, rfl⟩ : ∃ wv : World, wv = wr := ⟨_, rfl⟩
    go_loopw [10, 11] (fun dv iv wq => ∃ i c : Nat, i ≤ k ∧ iv = .int .i64 (i : Nat) ∧ dv = .int .i64 (c : Nat) ∧ Hid (c = 10 ^ i) ∧ c ≤ 1000000000 ∧ Hid (Below wv.heap.size wv wq)) (fun _ iv _ => k - (intOf iv).toNat)
    case atStart => exact ⟨0, 1, by omega, rfl, rfl, rfl, by omega, Below.refl _ _⟩
    case round =>
      obtain ⟨i, c, hi, rfl, rfl, hci, hc9, hb2⟩ := hrel
      by_cases hlt : i < k
      case pos =>
        have h6 : Hid (10 * c = 10 ^ (i + 1)) := by
          show _ = _
          rw [hci.out, Nat.pow_succ, Nat.mul_comm]
        have h7 : 10 * c ≤ 1000000000 := by
          rw [h6.out]
          exact Nat.le_trans (Nat.pow_le_pow_right (by decide) (show i + 1 ≤ 9 by omega)) (by decide)
        obtain ⟨c', hc1, hc2⟩ : ∃ c' : Nat, (10 : Int) * (c : Nat) = (c' : Nat) ∧ Hid (10 * c = c') := ⟨10 * c, by omega, rfl⟩
        rw [hc2.out] at h6 h7
        go_wp2
        go_roundw
        case rel => exact ⟨i + 1, c', by omega, by go_num, rfl, h6, h7, hb2⟩
        case measure => simp [intOf]; omega
      obtain rfl : i = k := by omega
      clear hlt
      obtain ⟨j, hj, hj2⟩ : ∃ j : Nat, (s.size : Int) - (i : Nat) = (j : Nat) ∧ Hid (j = s.size - i) := ⟨s.size - i, by omega, rfl⟩
      have hj3 := hj2.out
      obtain ⟨x, hx, hx2⟩ := cut_to (s := s) (j := j) (by omega)
      obtain ⟨y, hy, hy2⟩ := cut_from (s := s) (j := j) (by omega)
      have hT0 : Hid (byt (x ++ ⟨#[46]⟩ ++ y) = ptT (byt s) i 0) := by
        show _ = _
        rw [ptT_zero, byt_append, byt_append, hx.out, hy.out, byt_length, hj3, List.append_assoc]; rfl
      replace hb2 := hide (below_tr hbel.out hb2.out)
      have hx3 : x.size ≤ 10 := by
        have := congrArg List.length hx.out
        rw [byt_length, List.length_take, byt_length] at this
        omega
      have hy3 : y.size ≤ 10 := by
        have := congrArg List.length hy.out
        rw [byt_length, List.length_drop, byt_length] at this
        omega
      clear hj3 hx hy
      have hjw : IntKind.i64.wrap ((s.size : Int) - (i : Int)) = (j : Nat) := by rw [hj, IntKind.wrap_i64]; omega
      have b0 := hb2
      clear hb2
      replace hj := hide hj
      go_wp2
      refine wp_region_facts 15 (fun w' => Below wr.heap.size wr w') [(48, .eq (.string s)), (49, .eq (.string s)), (50, .eq (.int .i64 (s.size : Int))), (51, .eq (.int .i64 (i : Nat))), (52, .eq (.int .i64 (j : Nat))), (53, .eq (.string x)), (54, .eq (.string (x ++ ⟨#[46]⟩))), (55, .eq (.string s)), (56, .eq (.string s)), (57, .eq (.int .i64 (s.size : Int))), (58, .eq (.int .i64 (i : Nat))), (59, .eq (.int .i64 (j : Nat))), (60, .eq (.string y)), (61, .eq (.string (x ++ ⟨#[46]⟩ ++ y))), (12, .eq (.string (x ++ ⟨#[46]⟩ ++ y)))] [false, false, false, false, false, false, false, false, false, false, false, false, true, false, false, false, false, false, false, false, false, false, false, false, false, false, false, false, false, false, false, false, false, false, false, false, false, false, false, false, false, false, false, false, false, false, false, false, true, true, true, true, true, true, true, true, true, true, true, true, true, true, false, false, false, false, false, false, false, false, false, false, false, false, false, false, false, false, false, false, false, false, false, false, false, false, false, false, false, false, false, false, false, false, false, false, false, false, false, false, false, false, false, false, false, false, false, false, false, false, false, false, false, false, false, false, false, false, false, false, false, false, false, false] mixed (by kernel_rfl) (by kernel_rfl) (by kernel_rfl) (fun _ _ h hb => h.trans (hb.mono h.size)) ((Below.refl _ _).drew) ⟨?_, ?_, ?_, ?_, ?_, ?_, ?_, ?_, ?_, ?_, ?_, ?_, ?_, ?_, ?_, trivial⟩ ?_
      · exact .moveC (.inl rfl) (.inl rfl) rfl (fun a w' hC hs => (hs 8 (by kernel_rfl)))
      · exact .moveC (.inl rfl) (.inl rfl) rfl (fun a w' hC hs => (hs 8 (by kernel_rfl)))
      · exact .value (.inl rfl) (by intro T e; cases e) rfl rfl (fun a w' hC hs hl => by
          have e0 : a.eval (.tmp 49) = (.string s) := (hl 49 (by kernel_rfl) (by kernel_rfl))
          have e0' : a.tmps[49]?.getD undef = _ := (by simp [Act.eval] : _ = a.eval (.tmp 49)).trans e0
          simp [execOp, resolve, invoke, builtin, go_sem, e0, e0'])
      · exact .moveC (.inl rfl) (.inl rfl) rfl (fun a w' hC hs => (hs 7 (by kernel_rfl)))
      · exact .value (.inl rfl) (by intro T e; cases e) rfl rfl (fun a w' hC hs hl => by
          have e0 : a.eval (.tmp 50) = (.int .i64 (s.size : Int)) := (hl 50 (by kernel_rfl) (by kernel_rfl))
          have e1 : a.eval (.tmp 51) = (.int .i64 (i : Nat)) := (hl 51 (by kernel_rfl) (by kernel_rfl))
          simp only [execOp, e0, e1]
          skip
          simp [go_sem, hjw])
      · exact .value (.inl rfl) (by intro T e; cases e) rfl rfl (fun a w' hC hs hl => by
          have e0 : a.eval (.tmp 48) = .string s := (hl 48 (by kernel_rfl) (by kernel_rfl))
          have e1 : a.eval (.tmp 52) = .int .i64 (j : Nat) := (hl 52 (by kernel_rfl) (by kernel_rfl))
          simp only [execOp, Option.map, e0, e1]
          simp [go_sem, hx2, hy2])
      · exact .value (.inl rfl) (by intro T e; cases e) rfl rfl (fun a w' hC hs hl => by
          have e0 : a.eval (.tmp 53) = (.string x) := (hl 53 (by kernel_rfl) (by kernel_rfl))
          simp only [execOp, e0]
          simp only [Act.eval]
          simp [go_sem] <;> omega)
      · exact .moveC (.inl rfl) (.inl rfl) rfl (fun a w' hC hs => (hs 8 (by kernel_rfl)))
      · exact .moveC (.inl rfl) (.inl rfl) rfl (fun a w' hC hs => (hs 8 (by kernel_rfl)))
      · exact .value (.inl rfl) (by intro T e; cases e) rfl rfl (fun a w' hC hs hl => by
          have e0 : a.eval (.tmp 56) = (.string s) := (hl 56 (by kernel_rfl) (by kernel_rfl))
          have e0' : a.tmps[56]?.getD undef = _ := (by simp [Act.eval] : _ = a.eval (.tmp 56)).trans e0
          simp [execOp, resolve, invoke, builtin, go_sem, e0, e0'])
      · exact .moveC (.inl rfl) (.inl rfl) rfl (fun a w' hC hs => (hs 7 (by kernel_rfl)))
      · exact .value (.inl rfl) (by intro T e; cases e) rfl rfl (fun a w' hC hs hl => by
          have e0 : a.eval (.tmp 57) = (.int .i64 (s.size : Int)) := (hl 57 (by kernel_rfl) (by kernel_rfl))
          have e1 : a.eval (.tmp 58) = (.int .i64 (i : Nat)) := (hl 58 (by kernel_rfl) (by kernel_rfl))
          simp only [execOp, e0, e1]
          skip
          simp [go_sem, hjw])
      · exact .value (.inl rfl) (by intro T e; cases e) rfl rfl (fun a w' hC hs hl => by
          have e0 : a.eval (.tmp 55) = .string s := (hl 55 (by kernel_rfl) (by kernel_rfl))
          have e1 : a.eval (.tmp 59) = .int .i64 (j : Nat) := (hl 59 (by kernel_rfl) (by kernel_rfl))
          simp only [execOp, Option.map, e0, e1]
          simp [go_sem, hx2, hy2])
      · exact .value (.inl rfl) (by intro T e; cases e) rfl rfl (fun a w' hC hs hl => by
          have e0 : a.eval (.tmp 54) = (.string (x ++ ⟨#[46]⟩)) := (hl 54 (by kernel_rfl) (by kernel_rfl))
          have e1 : a.eval (.tmp 60) = (.string y) := (hl 60 (by kernel_rfl) (by kernel_rfl))
          simp only [execOp, e0, e1]
          skip
          simp [go_sem, ByteArray.size_append] <;> omega)
      · exact .move (.inl rfl) (.inr rfl) rfl (by kernel_rfl) (by kernel_rfl) rfl
      intro f w1 hC hF _
      have f0 : f 12 = .string (x ++ ⟨#[46]⟩ ++ y) := hF 12 (by kernel_rfl)
      clear hF
      simp only [patch, List.drop]
      rw [f0]
      clear f0
      generalize f 48 = y48_ at *
      generalize f 49 = y49_ at *
      generalize f 50 = y50_ at *
      generalize f 51 = y51_ at *
      generalize f 52 = y52_ at *
      generalize f 53 = y53_ at *
      generalize f 54 = y54_ at *
      generalize f 55 = y55_ at *
      generalize f 56 = y56_ at *
      generalize f 57 = y57_ at *
      generalize f 58 = y58_ at *
      generalize f 59 = y59_ at *
      generalize f 60 = y60_ at *
      generalize f 61 = y61_ at *
      replace b0 := hide (b0.out.trans (hC.mono b0.out.size))
      clear hC
      clear hjw hx2 hy2 hj hj2
      obtain ⟨t0, ht0⟩ : ∃ t0 : ByteArray, x ++ ⟨#[46]⟩ ++ y = t0 := ⟨_, rfl⟩
      rw [ht0] at hT0 ⊢
      clear ht0
      go_wp2
      go_loopw [12, 13] (fun tv iv wq => ∃ (z : Nat) (t : ByteArray), z ≤ ic ∧ iv = .int .i64 (z : Nat) ∧ tv = .string t ∧ Hid (byt t = ptT (byt s) i z) ∧ Hid (Below w1.heap.size w1 wq)) (fun _ iv _ => ic - (intOf iv).toNat)
      case atStart => exact ⟨0, t0, by omega, rfl, rfl, hT0, Below.refl _ _⟩
      case round =>
        obtain ⟨z, t, hz, rfl, rfl, hTz, hb3⟩ := hrel
        have hsv : t.size ≤ 100 := by
          have h1 : (byt t).length ≤ 100 := by
            rw [hTz.out]
            simp only [ptT, List.length_append, List.length_cons, List.length_take, List.length_drop, List.length_replicate, byt_length]
            omega
          rwa [byt_length] at h1
        by_cases hlt : z < ic
        case pos =>
          have hT1 : Hid (byt (t ++ ⟨#[48]⟩) = ptT (byt s) i (z + 1)) := by
            show _ = _
            rw [ptT_succ, byt_append, hTz.out]; rfl
          go_wp2
          go_roundw
          case rel => exact ⟨z + 1, _, by omega, by go_num, rfl, hT1, hb3⟩
          case measure => simp [intOf]; omega
        obtain rfl : z = ic := by omega
        clear hlt
        replace b0 := hide (below_tr b0.out hb3.out)
        clear hb3 hT0
        have hsz := hide hsv
        have hks2 := hide (show i < (byt s).length by rw [byt_length]; exact hks)
        have hy1 := hide (pt_yes hI.out hks2.out hk2 hk3 (i := z) (by omega))
        rw [← hTz.out, ← hci.out] at hy1
        have eM : Hid (byt (⟨#[45]⟩ ++ t) = 45 :: byt t) := by
          show _ = _
          rw [byt_append]; rfl
        have hszM : Hid ((⟨#[45]⟩ ++ t : ByteArray).size ≤ 4294967000) := by
          show _ ≤ _
          have := hsz.out
          rw [ByteArray.size_append]
          show 1 + t.size ≤ _
          omega
        have hc0 := hide (show (c : Int) ≠ 0 by have := Nat.pow_pos (n := i) (show 0 < 10 by decide); rw [← hci.out] at this; omega)
        have hnw := hide (show IntKind.i64.wrap (n : Int) = n by rw [IntKind.wrap_i64]; omega)
        have hnn := hide (show IntKind.i64.wrap (-(n : Int)) = -(n : Int) by rw [IntKind.wrap_i64]; omega)
        clear hbel hs
        go_wp2_with fail
        refine (rParse_yes (Nat.le_trans hsz.out (by decide)) (T.out.below b0.out) (M.out.below b0.out) _ hy1.out).mono ?_
        rintro e w51 ⟨v14, rfl, d0, r14⟩
        replace b0 := hide (below_tr b0.out d0)
        have X := hide (r14.can)
        clear d0
        clear r14
        obtain ⟨b14, A14, n14, c14, D14, m14, k14, rfl⟩ := X.out.slice
        have K14 := hide (Blk.new_at w51 (w51.heap.size) (by simp) 27 #[.bool b14, .slice A14 n14 c14, .slice D14 m14 k14])
        have y := (Below.refl w51.heap.size w51).alloc (Nat.le_refl _) (.cells #[.bool b14, .slice A14 n14 c14, .slice D14 m14 k14] 27)
        replace X := hide (X.out.below y)
        replace b0 := hide (below_tr b0.out y)
        clear y
        by_cases hn0 : n = 0
        case pos =>
          subst hn0
          have hy2 := hide (pt_none hI.out hks2.out hk2 hk3 (i := z) (by omega))
          rw [← hTz.out, ← eM.out] at hy2
          go_wp2_with fail
          refine (rParse_no hszM.out (T.out.below b0.out) (M.out.below b0.out) _ hy2.out).mono ?_
          rintro e w52 ⟨rfl, d0⟩
          replace X := hide (X.out.below d0)
          replace K14 := hide (K14.out.below' d0)
          replace b0 := hide (below_tr b0.out d0)
          clear d0
          have K16 := hide (Blk.new_at w52 (w52.heap.size) (by simp) 27 #[.bool false, .slice none 0 0, .slice none 0 0])
          have y := (Below.refl w52.heap.size w52).alloc (Nat.le_refl _) (.cells #[.bool false, .slice none 0 0, .slice none 0 0] 27)
          replace X := hide (X.out.below y)
          replace K14 := hide (K14.out.below' y)
          replace b0 := hide (below_tr b0.out y)
          clear y
          go_wp2
          obtain ⟨V1_52, hV⟩ : ∃ V, (w52.alloc (.cells #[.bool false, .slice none 0 0, .slice none 0 0] 27)) = V := ⟨_, rfl⟩
          rw [hV] at X K14 K16 b0
          rw [hV]
          clear hV
          have X' : Hid (RCan V1_52 (.agg #[.bool b14, .slice A14 n14 c14, .slice D14 m14 k14]) (Rat.divInt 0 c)) := X
          replace X := X'
          clear X'
          have Q1_ : Hid (H ((Rat.divInt (0) (1))) 1) := H_small (by decide +kernel) (by decide +kernel)
          refine wp_region_facts 15 (fun w' => Below V1_52.heap.size V1_52 w') [(84, .eq (.bool true)), (85, .eq (.bool true)), (86, .eq (.int .i64 (0))), (87, .eq (.bool true)), (88, .eq (.bool true)), (89, .eq (.bool true)), (90, (.rat0 V1_52 (Rat.divInt 0 c))), (91, (.rat (Rat.divInt (0) (1)))), (92, .eq (.bool true)), (93, .eq (.bool true)), (94, .eq (.bool true)), (95, .eq (.int .i64 (4))), (96, .eq (.bool true)), (97, .eq (.bool true)), (6, .eq (.bool true))] [false, false, false, false, false, false, true, false, false, false, false, false, false, false, false, false, false, false, false, false, false, false, false, false, false, false, false, false, false, false, false, false, false, false, false, false, false, false, false, false, false, false, false, false, false, false, false, false, false, false, false, false, false, false, false, false, false, false, false, false, false, false, false, false, false, false, false, false, false, false, false, false, false, false, false, false, false, false, false, false, false, false, false, false, true, true, true, true, true, true, true, true, true, true, true, true, true, true, false, false, false, false, false, false, false, false, false, false, false, false, false, false, false, false, false, false, false, false, false, false, false, false, false, false] mixed (by kernel_rfl) (by kernel_rfl) (by kernel_rfl) (fun _ _ h hb => h.trans (hb.mono h.size)) ((Below.refl _ _).drew) ⟨?_, ?_, ?_, ?_, ?_, ?_, ?_, ?_, ?_, ?_, ?_, ?_, ?_, ?_, ?_, trivial⟩ ?_
          · exact .call (.inl rfl) rfl rfl fn_ralive (fun a w' hC hs hl => ralive_P _ (T.out.below (b0.out.trans (hC.mono b0.out.size))) (M.out.below (b0.out.trans (hC.mono b0.out.size))))
          · exact .move (.inl rfl) (.inl rfl) rfl (by kernel_rfl) (by kernel_rfl) rfl
          · exact .moveC (.inr ⟨1, true, 85, by decide, rfl, rfl, rfl⟩) (.inl rfl) rfl (fun a w' hC hs => (hs 15 (by kernel_rfl)))
          · exact .value (.inr ⟨1, true, 85, by decide, rfl, rfl, rfl⟩) (by intro T e; cases e) rfl rfl (fun a w' hC hs hl => by
              have e0 : a.eval (.tmp 86) = (.int .i64 (0)) := (hl 86 (by kernel_rfl) (by kernel_rfl))
              simp only [execOp, e0]
              simp only [Act.eval]
              simp [go_sem] <;> rfl)
          · exact .pick (b := true) (.inl rfl) rfl rfl (fun a w' hC hs hl => ⟨(hl 85 (by kernel_rfl) (by kernel_rfl)), (hl 87 (by kernel_rfl) (by kernel_rfl))⟩)
          · exact .move (.inl rfl) (.inl rfl) rfl (by kernel_rfl) (by kernel_rfl) rfl
          · exact .load (.agg #[.bool b14, .slice A14 n14 c14, .slice D14 m14 k14]) (.inr ⟨5, true, 89, by decide, rfl, rfl, rfl⟩) rfl rfl (fun a w' hC hs hl => by rw [show a.eval (.tmp 14) = (.pointer (some ⟨w51.heap.size, 0, none⟩) : Value) from (hs 14 (by kernel_rfl))]; exact ⟨ld_Rat_ ((K14.out.below' hC).at_ 0 rfl) ((K14.out.below' hC).at_ 1 rfl) ((K14.out.below' hC).at_ 2 rfl), X.out⟩)
          · exact .call (.inr ⟨5, true, 89, by decide, rfl, rfl, rfl⟩) rfl rfl fn_rlof (fun a w' hC hs hl => rlof_C w' (0) (1) (by decide) (by decide) (by decide) (by decide) (by decide) (T.out.below (b0.out.trans (hC.mono b0.out.size))))
          · exact .call (.inr ⟨5, true, 89, by decide, rfl, rfl, rfl⟩) rfl rfl fn_rsame (fun a w' hC hs hl => rsame_yes (RCan.below (hl 90 (by kernel_rfl) (by kernel_rfl)) hC) (hl 91 (by kernel_rfl) (by kernel_rfl)) (by rw [Rat.zero_divInt, Rat.zero_divInt]))
          · exact .pick (b := true) (.inl rfl) rfl rfl (fun a w' hC hs hl => ⟨(hl 89 (by kernel_rfl) (by kernel_rfl)), (hl 92 (by kernel_rfl) (by kernel_rfl))⟩)
          · exact .move (.inl rfl) (.inl rfl) rfl (by kernel_rfl) (by kernel_rfl) rfl
          · exact .moveC (.inr ⟨10, true, 94, by decide, rfl, rfl, rfl⟩) (.inl rfl) rfl (fun a w' hC hs => (hs 17 (by kernel_rfl)))
          · exact .value (.inr ⟨10, true, 94, by decide, rfl, rfl, rfl⟩) (by intro T e; cases e) rfl rfl (fun a w' hC hs hl => by
              have e0 : a.eval (.tmp 95) = (.int .i64 (4)) := (hl 95 (by kernel_rfl) (by kernel_rfl))
              simp only [execOp, e0]
              simp only [Act.eval]
              simp [go_sem] <;> rfl)
          · exact .pick (b := true) (.inl rfl) rfl rfl (fun a w' hC hs hl => ⟨(hl 94 (by kernel_rfl) (by kernel_rfl)), (hl 96 (by kernel_rfl) (by kernel_rfl))⟩)
          · exact .move (.inl rfl) (.inr rfl) rfl (by kernel_rfl) (by kernel_rfl) rfl
          intro f w99 hC hF _
          have f0 : f 6 = .bool true := hF 6 (by kernel_rfl)
          clear hF
          simp only [patch, List.drop]
          have B9 := hide (b0.out.trans (hC.mono b0.out.size))
          clear hC
          rw [f0]
          go_wp2
          exact opq_end hR ⟨rfl, B9⟩
        replace hn0 := hide hn0
        have hy2 := hide (pt_neg hI.out hks2.out hk2 hk3 (i := z) (by omega) hn0.out)
        rw [← hTz.out, ← eM.out, ← hci.out] at hy2
        go_wp2_with fail
        refine (rParse_yes hszM.out (T.out.below b0.out) (M.out.below b0.out) _ hy2.out).mono ?_
        rintro e w52 ⟨v16, rfl, d0, r16⟩
        replace X := hide (X.out.below d0)
        replace K14 := hide (K14.out.below' d0)
        replace b0 := hide (below_tr b0.out d0)
        have Z := hide (r16.can)
        clear d0
        clear r16
        obtain ⟨b16, A16, n16, c16, D16, m16, k16, rfl⟩ := Z.out.slice
        have K16 := hide (Blk.new_at w52 (w52.heap.size) (by simp) 27 #[.bool b16, .slice A16 n16 c16, .slice D16 m16 k16])
        have y := (Below.refl w52.heap.size w52).alloc (Nat.le_refl _) (.cells #[.bool b16, .slice A16 n16 c16, .slice D16 m16 k16] 27)
        replace X := hide (X.out.below y)
        replace K14 := hide (K14.out.below' y)
        replace Z := hide (Z.out.below y)
        replace b0 := hide (below_tr b0.out y)
        clear y
        have hne : ((n : Int) == 0) = false := by have := hn0.out; simp; omega
        go_wp2
        obtain ⟨V1_52, hV⟩ : ∃ V, (w52.alloc (.cells #[.bool b16, .slice A16 n16 c16, .slice D16 m16 k16] 27)) = V := ⟨_, rfl⟩
        rw [hV] at X K14 Z K16 b0
        rw [hV]
        clear hV
        refine wp_region_facts 27 (fun w' => Below V1_52.heap.size V1_52 w') [(98, .eq (.bool true)), (99, .eq (.bool true)), (100, .eq (.int .i64 (0))), (101, .eq (.bool true)), (102, .eq (.bool true)), (103, .eq (.bool true)), (104, .eq (.int .i64 (0))), (105, .eq (.bool true)), (106, .eq (.bool true)), (107, .eq (.bool true)), (108, (.rat0 V1_52 (Rat.divInt n c))), (109, .eq (.int .u32 (n : Nat))), (110, .eq (.int .i64 (n : Nat))), (111, .eq (.int .i64 (c : Nat))), (112, (.rat (Rat.divInt n c))), (113, .eq (.bool true)), (114, .eq (.bool true)), (115, .eq (.bool true)), (116, (.rat0 V1_52 (Rat.divInt (-(n : Int)) c))), (117, .eq (.int .u32 (n : Nat))), (118, .eq (.int .i64 (n : Nat))), (119, .eq (.int .i64 (-(n : Int)))), (120, .eq (.int .i64 (c : Nat))), (121, (.rat (Rat.divInt (-(n : Int)) c))), (122, .eq (.bool true)), (123, .eq (.bool true)), (6, .eq (.bool true))] [false, false, false, false, false, false, true, false, false, false, false, false, false, false, false, false, false, false, false, false, false, false, false, false, false, false, false, false, false, false, false, false, false, false, false, false, false, false, false, false, false, false, false, false, false, false, false, false, false, false, false, false, false, false, false, false, false, false, false, false, false, false, false, false, false, false, false, false, false, false, false, false, false, false, false, false, false, false, false, false, false, false, false, false, false, false, false, false, false, false, false, false, false, false, false, false, false, false, true, true, true, true, true, true, true, true, true, true, true, true, true, true, true, true, true, true, true, true, true, true, true, true, true, true] mixed (by kernel_rfl) (by kernel_rfl) (by kernel_rfl) (fun _ _ h hb => h.trans (hb.mono h.size)) ((Below.refl _ _).drew) ⟨?_, ?_, ?_, ?_, ?_, ?_, ?_, ?_, ?_, ?_, ?_, ?_, ?_, ?_, ?_, ?_, ?_, ?_, ?_, ?_, ?_, ?_, ?_, ?_, ?_, ?_, ?_, trivial⟩ ?_
        · exact .call (.inl rfl) rfl rfl fn_ralive (fun a w' hC hs hl => ralive_P _ (T.out.below (b0.out.trans (hC.mono b0.out.size))) (M.out.below (b0.out.trans (hC.mono b0.out.size))))
        · exact .move (.inl rfl) (.inl rfl) rfl (by kernel_rfl) (by kernel_rfl) rfl
        · exact .moveC (.inr ⟨1, true, 99, by decide, rfl, rfl, rfl⟩) (.inl rfl) rfl (fun a w' hC hs => (hs 15 (by kernel_rfl)))
        · exact .value (.inr ⟨1, true, 99, by decide, rfl, rfl, rfl⟩) (by intro T e; cases e) rfl rfl (fun a w' hC hs hl => by
            have e0 : a.eval (.tmp 100) = (.int .i64 (0)) := (hl 100 (by kernel_rfl) (by kernel_rfl))
            simp only [execOp, e0]
            simp only [Act.eval]
            simp [go_sem] <;> rfl)
        · exact .pick (b := true) (.inl rfl) rfl rfl (fun a w' hC hs hl => ⟨(hl 99 (by kernel_rfl) (by kernel_rfl)), (hl 101 (by kernel_rfl) (by kernel_rfl))⟩)
        · exact .move (.inl rfl) (.inl rfl) rfl (by kernel_rfl) (by kernel_rfl) rfl
        · exact .moveC (.inr ⟨5, true, 103, by decide, rfl, rfl, rfl⟩) (.inl rfl) rfl (fun a w' hC hs => (hs 17 (by kernel_rfl)))
        · exact .value (.inr ⟨5, true, 103, by decide, rfl, rfl, rfl⟩) (by intro T e; cases e) rfl rfl (fun a w' hC hs hl => by
            have e0 : a.eval (.tmp 104) = (.int .i64 (0)) := (hl 104 (by kernel_rfl) (by kernel_rfl))
            simp only [execOp, e0]
            simp only [Act.eval]
            simp [go_sem] <;> rfl)
        · exact .pick (b := true) (.inl rfl) rfl rfl (fun a w' hC hs hl => ⟨(hl 103 (by kernel_rfl) (by kernel_rfl)), (hl 105 (by kernel_rfl) (by kernel_rfl))⟩)
        · exact .move (.inl rfl) (.inl rfl) rfl (by kernel_rfl) (by kernel_rfl) rfl
        · exact .load (.agg #[.bool b14, .slice A14 n14 c14, .slice D14 m14 k14]) (.inr ⟨9, true, 107, by decide, rfl, rfl, rfl⟩) rfl rfl (fun a w' hC hs hl => by rw [show a.eval (.tmp 14) = (.pointer (some ⟨w51.heap.size, 0, none⟩) : Value) from (hs 14 (by kernel_rfl))]; exact ⟨ld_Rat_ ((K14.out.below' hC).at_ 0 rfl) ((K14.out.below' hC).at_ 1 rfl) ((K14.out.below' hC).at_ 2 rfl), X.out⟩)
        · exact .moveC (.inr ⟨9, true, 107, by decide, rfl, rfl, rfl⟩) (.inl rfl) rfl (fun a w' hC hs => (hs 0 (by kernel_rfl)))
        · exact .value (.inr ⟨9, true, 107, by decide, rfl, rfl, rfl⟩) (by intro T e; cases e) rfl rfl (fun a w' hC hs hl => by
            have e1 : a.eval (.tmp 109) = (.int .u32 (n : Nat)) := (hl 109 (by kernel_rfl) (by kernel_rfl))
            simp only [execOp, e1]
            skip
            simp [go_sem, hnw.out])
        · exact .moveC (.inr ⟨9, true, 107, by decide, rfl, rfl, rfl⟩) (.inl rfl) rfl (fun a w' hC hs => (hs 10 (by kernel_rfl)))
        · exact .call (.inr ⟨9, true, 107, by decide, rfl, rfl, rfl⟩) rfl rfl fn_rlof (fun a w' hC hs hl => by
        show Calls Tryz.prog _ #[a.eval (.tmp 110), a.eval (.tmp 111)] w' _
        rw [show a.eval (.tmp 110) = .int .i64 (n : Int) from (hl 110 (by kernel_rfl) (by kernel_rfl)), show a.eval (.tmp 111) = .int .i64 (c : Nat) from (hl 111 (by kernel_rfl) (by kernel_rfl))]
        exact rlof_C w' (n : Int) c (by omega) (by omega) (by omega) (by omega) hc0.out (T.out.below (b0.out.trans (hC.mono b0.out.size))))
        · exact .call (.inr ⟨9, true, 107, by decide, rfl, rfl, rfl⟩) rfl rfl fn_rsame (fun a w' hC hs hl => rsame_yes (RCan.below (hl 108 (by kernel_rfl) (by kernel_rfl)) hC) (hl 112 (by kernel_rfl) (by kernel_rfl)) (rfl))
        · exact .pick (b := true) (.inl rfl) rfl rfl (fun a w' hC hs hl => ⟨(hl 107 (by kernel_rfl) (by kernel_rfl)), (hl 113 (by kernel_rfl) (by kernel_rfl))⟩)
        · exact .move (.inl rfl) (.inl rfl) rfl (by kernel_rfl) (by kernel_rfl) rfl
        · exact .load (.agg #[.bool b16, .slice A16 n16 c16, .slice D16 m16 k16]) (.inr ⟨17, true, 115, by decide, rfl, rfl, rfl⟩) rfl rfl (fun a w' hC hs hl => by rw [show a.eval (.tmp 16) = (.pointer (some ⟨w52.heap.size, 0, none⟩) : Value) from (hs 16 (by kernel_rfl))]; exact ⟨ld_Rat_ ((K16.out.below' hC).at_ 0 rfl) ((K16.out.below' hC).at_ 1 rfl) ((K16.out.below' hC).at_ 2 rfl), Z.out⟩)
        · exact .moveC (.inr ⟨17, true, 115, by decide, rfl, rfl, rfl⟩) (.inl rfl) rfl (fun a w' hC hs => (hs 0 (by kernel_rfl)))
        · exact .value (.inr ⟨17, true, 115, by decide, rfl, rfl, rfl⟩) (by intro T e; cases e) rfl rfl (fun a w' hC hs hl => by
            have e1 : a.eval (.tmp 117) = (.int .u32 (n : Nat)) := (hl 117 (by kernel_rfl) (by kernel_rfl))
            simp only [execOp, e1]
            skip
            simp [go_sem, hnw.out])
        · exact .value (.inr ⟨17, true, 115, by decide, rfl, rfl, rfl⟩) (by intro T e; cases e) rfl rfl (fun a w' hC hs hl => by
            have e0 : a.eval (.tmp 118) = (.int .i64 (n : Nat)) := (hl 118 (by kernel_rfl) (by kernel_rfl))
            simp only [execOp, e0]
            skip
            simp [go_sem, hnn.out])
        · exact .moveC (.inr ⟨17, true, 115, by decide, rfl, rfl, rfl⟩) (.inl rfl) rfl (fun a w' hC hs => (hs 10 (by kernel_rfl)))
        · exact .call (.inr ⟨17, true, 115, by decide, rfl, rfl, rfl⟩) rfl rfl fn_rlof (fun a w' hC hs hl => by
        show Calls Tryz.prog _ #[a.eval (.tmp 119), a.eval (.tmp 120)] w' _
        rw [show a.eval (.tmp 119) = .int .i64 (-(n : Int)) from (hl 119 (by kernel_rfl) (by kernel_rfl)), show a.eval (.tmp 120) = .int .i64 (c : Nat) from (hl 120 (by kernel_rfl) (by kernel_rfl))]
        exact rlof_C w' (-(n : Int)) c (by omega) (by omega) (by omega) (by omega) hc0.out (T.out.below (b0.out.trans (hC.mono b0.out.size))))
        · exact .call (.inr ⟨17, true, 115, by decide, rfl, rfl, rfl⟩) rfl rfl fn_rsame (fun a w' hC hs hl => rsame_yes (RCan.below (hl 116 (by kernel_rfl) (by kernel_rfl)) hC) (hl 121 (by kernel_rfl) (by kernel_rfl)) (rfl))
        · exact .pick (b := true) (.inl rfl) rfl rfl (fun a w' hC hs hl => ⟨(hl 115 (by kernel_rfl) (by kernel_rfl)), (hl 122 (by kernel_rfl) (by kernel_rfl))⟩)
        · exact .move (.inl rfl) (.inr rfl) rfl (by kernel_rfl) (by kernel_rfl) rfl
        intro f w99 hC hF _
        have f0 : f 6 = .bool true := hF 6 (by kernel_rfl)
        clear hF
        simp only [patch, List.drop]
        have B9 := hide (b0.out.trans (hC.mono b0.out.size))
        clear hC
        rw [f0]
        try change wpList _ _ _ [] _ _
        go_wp2
        exact opq_end hR ⟨rfl, B9⟩
end Go.Proofs.YtnpfochbpdfcmaaGreatDoor
