/- the laws of ints: IntsRead. -/
import Derived.Test.YtcdejccbamjdoaaDoorJi
import Derived.Test.YtcdejccbamjdoaaDoorFree4
set_option linter.unusedVariables false
set_option linter.unusedSimpArgs false
set_option maxRecDepth 100000
namespace Go.Proofs.YtcdejccbamjdoaaDoor
open Go.RowKit

set_option maxHeartbeats 4000000 in
theorem IntsRead_ok (w : World) (b1 : Bool) (A1 : Option Addr) (n1 c1 : Nat) (xs1 : List Nat) (s : ByteArray) (h1 : Rd w A1 n1 xs1) (i1 : Is32 xs1) (l1 : n1 ≤ c1) (hs : s.size ≤ 9223372036854775807) :
    Calls Tryd.prog 6 #[.agg #[.bool b1, .slice A1 n1 c1], .string s] w fun e w' => e = .returned (.bool true) ∧ Hid (Below w.heap.size w w') := by
  refine opq fun R hR => ?_
  have m1 := h1.2.1
  replace h1 := hide h1
  replace i1 := hide i1
  go_enter Tryd.func6, Tryd.ntmps6
  have b0 := hide (Below.refl w.heap.size w)
  have K1 := hide (Blk.new_at w (w.heap.size) (by simp) 25 #[.bool b1, .slice A1 n1 c1])
  have y := (Below.refl w.heap.size w).alloc (Nat.le_refl _) (.cells #[.bool b1, .slice A1 n1 c1] 25)
  replace b0 := hide (below_tr b0.out y)
  clear y
  go_wp2_with fail
  refine (ialive_F (w.alloc (.cells #[.bool b1, .slice A1 n1 c1] 25))).mono ?_
  rintro e w1 ⟨_, rfl, d0, rfl⟩
  replace K1 := hide (K1.out.below' d0)
  replace b0 := hide (below_tr b0.out d0)
  clear d0
  have K1c0 := K1.out.at_ 0 rfl
  have K1c1 := K1.out.at_ 1 rfl
  by_cases gg : 200 < n1
  case pos =>
    have y := (Below.refl w1.heap.size w1).alloc (Nat.le_refl _) (.cells #[.bool b1, .slice A1 n1 c1] 25)
    replace K1 := hide (K1.out.below' y)
    replace b0 := hide (below_tr b0.out y)
    clear y
    go_wp2_with fail
    refine (igreat1 (w := w1) rfl true (by simp; omega)).mono ?_
    rintro e w2 ⟨_, rfl, d0, rfl⟩
    replace K1 := hide (K1.out.below' d0)
    replace b0 := hide (below_tr b0.out d0)
    clear d0
    go_wp2_with fail
    refine (ialive_F _).mono ?_
    rintro e w3 ⟨_, rfl, d0, rfl⟩
    replace K1 := hide (K1.out.below' d0)
    replace b0 := hide (below_tr b0.out d0)
    clear d0
    go_wp2
    exact opq_end hR ⟨rfl, b0⟩
  have y := (Below.refl w1.heap.size w1).alloc (Nat.le_refl _) (.cells #[.bool b1, .slice A1 n1 c1] 25)
  replace K1 := hide (K1.out.below' y)
  replace b0 := hide (below_tr b0.out y)
  clear y
  go_wp2_with fail
  refine (igreat1 (w := w1) rfl false (by simp; omega)).mono ?_
  rintro e w2 ⟨_, rfl, d0, rfl⟩
  replace K1 := hide (K1.out.below' d0)
  replace b0 := hide (below_tr b0.out d0)
  clear d0
  clear K1c0 K1c1
  by_cases bb : 1048576 < s.size
  case pos =>
    have y := (Below.refl w2.heap.size w2).alloc (Nat.le_refl _) (.cells #[.int .i64 (s.size : Nat)] 3)
    replace K1 := hide (K1.out.below' y)
    replace b0 := hide (below_tr b0.out y)
    clear y
    go_wp2_with fail
    refine (beyond1 (w := w2) rfl hs true (by simp; omega)).mono ?_
    rintro e w3 ⟨_, rfl, d0, rfl⟩
    replace K1 := hide (K1.out.below' d0)
    replace b0 := hide (below_tr b0.out d0)
    clear d0
    go_wp2_with fail
    refine (ialive_F _).mono ?_
    rintro e w4 ⟨_, rfl, d0, rfl⟩
    replace K1 := hide (K1.out.below' d0)
    replace b0 := hide (below_tr b0.out d0)
    clear d0
    go_wp2
    exact opq_end hR ⟨rfl, b0⟩
  have y := (Below.refl w2.heap.size w2).alloc (Nat.le_refl _) (.cells #[.int .i64 (s.size : Nat)] 3)
  replace K1 := hide (K1.out.below' y)
  replace b0 := hide (below_tr b0.out y)
  clear y
  go_wp2_with fail
  refine (beyond1 (w := w2) rfl hs false (by simp; omega)).mono ?_
  rintro e w3 ⟨_, rfl, d0, rfl⟩
  replace K1 := hide (K1.out.below' d0)
  replace b0 := hide (below_tr b0.out d0)
  clear d0
  have a1 := hide (iprt_of (b := b1) h1.out i1.out l1 (by omega))
  have S1 : Hid (L (iv b1 xs1).natAbs ≤ 200) := Nat.le_trans (iv_L i1.out) (by rw [h1.out.1]; omega)
  obtain ⟨x, hx⟩ : ∃ x, iv b1 xs1 = x := ⟨_, rfl⟩
  rw [hx] at a1 S1
  replace hx := hide hx
  obtain ⟨t, ht, hl⟩ := itxt_bytes x
  have hz := itxt_len x
  have htl := txt_len S1.out
  rw [hz] at hl
  replace ht := hide ht
  clear hz
  have ts : t.size ≤ 9223372036854775807 := by split at hl <;> omega
  have K1c0 := K1.out.at_ 0 rfl
  have K1c1 := K1.out.at_ 1 rfl
  go_wp2_with fail
  refine (iText_C (a1.out.below b0.out) (L_up S1.out (by decide)) t ht.out).mono ?_
  rintro e w4 ⟨_, rfl, d0, rfl⟩
  replace K1 := hide (K1.out.below' d0)
  replace b0 := hide (below_tr b0.out d0)
  clear d0
  clear K1c0 K1c1
  by_cases k1 : iok b1 xs1 = false
  case pos =>
    obtain rfl : x = 0 := by rw [← hx.out]; exact iv_no k1
    have hl : t.size = 1 := by rw [hl]; rfl
    have et : t = ⟨#[48]⟩ := byt_inj (by rw [ht.out]; rfl)
    subst et
    clear hl
    go_wp2_with fail
    refine (iParse_txt ht.out ts (by decide)).mono ?_
    rintro e w5 ⟨v6, rfl, d0, r6⟩
    replace K1 := hide (K1.out.below' d0)
    replace b0 := hide (below_tr b0.out d0)
    have c6 := hide (r6.can)
    clear d0
    obtain ⟨b6, A6, n6, c6', rfl⟩ := r6.slice
    clear r6
    have K6 := hide (Blk.new_at w5 (w5.heap.size) (by simp) 25 #[.bool b6, .slice A6 n6 c6'])
    have y := (Below.refl w5.heap.size w5).alloc (Nat.le_refl _) (.cells #[.bool b6, .slice A6 n6 c6'] 25)
    replace K1 := hide (K1.out.below' y)
    replace c6 := hide (c6.out.below y)
    replace b0 := hide (below_tr b0.out y)
    clear y
    have K1c0 := K1.out.at_ 0 rfl
    have K1c1 := K1.out.at_ 1 rfl
    go_wp2_with fail
    refine (iSign_eq (r := 0) (a1.out.below b0.out) (cmpI_eq 0)).mono ?_
    rintro e w6 ⟨_, rfl, d0, rfl⟩
    replace K1 := hide (K1.out.below' d0)
    replace c6 := hide (c6.out.below d0)
    replace K6 := hide (K6.out.below' d0)
    replace b0 := hide (below_tr b0.out d0)
    clear d0
    clear K1c0 K1c1
    have K1c0 := K1.out.at_ 0 rfl
    have K1c1 := K1.out.at_ 1 rfl
    go_wp2_with fail
    refine (iCheck_F (h1.out.below b0.out) i1.out l1 (by omega) false k1).mono ?_
    rintro e w7 ⟨_, rfl, d0, rfl⟩
    replace K1 := hide (K1.out.below' d0)
    replace c6 := hide (c6.out.below d0)
    replace K6 := hide (K6.out.below' d0)
    replace b0 := hide (below_tr b0.out d0)
    clear d0
    clear K1c0 K1c1
    have K1c0 := K1.out.at_ 0 rfl
    have K1c1 := K1.out.at_ 1 rfl
    go_wp2_with fail
    refine (iCheck_F (h1.out.below b0.out) i1.out l1 (by omega) false k1).mono ?_
    rintro e w8 ⟨_, rfl, d0, rfl⟩
    replace K1 := hide (K1.out.below' d0)
    replace c6 := hide (c6.out.below d0)
    replace K6 := hide (K6.out.below' d0)
    replace b0 := hide (below_tr b0.out d0)
    clear d0
    clear K1c0 K1c1

    by_cases p1 : isNum (isgn (byt s)).2 = false
    case pos =>
      go_wp2_with fail
      refine (iParse_form hs (.inl p1)).mono ?_
      rintro e w9 ⟨rfl, d0⟩
      replace K1 := hide (K1.out.below' d0)
      replace c6 := hide (c6.out.below d0)
      replace K6 := hide (K6.out.below' d0)
      replace b0 := hide (below_tr b0.out d0)
      clear d0
      have K9 := hide (Blk.new_at w9 (w9.heap.size) (by simp) 25 #[.bool false, .slice none 0 0])
      have y := (Below.refl w9.heap.size w9).alloc (Nat.le_refl _) (.cells #[.bool false, .slice none 0 0] 25)
      replace K1 := hide (K1.out.below' y)
      replace c6 := hide (c6.out.below y)
      replace K6 := hide (K6.out.below' y)
      replace b0 := hide (below_tr b0.out y)
      clear y
      have K9c0 := K9.out.at_ 0 rfl
      have K9c1 := K9.out.at_ 1 rfl
      go_wp2
      exact opq_end hR ⟨rfl, b0⟩
    replace p1 : isNum (isgn (byt s)).2 = true := by simpa using p1
    by_cases p2 : 200 < (isgn (byt s)).2.length
    case pos =>
      go_wp2_with fail
      refine (iParse_limit hs p1 p2).mono ?_
      rintro e w9 ⟨rfl, d0⟩
      replace K1 := hide (K1.out.below' d0)
      replace c6 := hide (c6.out.below d0)
      replace K6 := hide (K6.out.below' d0)
      replace b0 := hide (below_tr b0.out d0)
      clear d0
      have K9 := hide (Blk.new_at w9 (w9.heap.size) (by simp) 25 #[.bool false, .slice none 0 0])
      have y := (Below.refl w9.heap.size w9).alloc (Nat.le_refl _) (.cells #[.bool false, .slice none 0 0] 25)
      replace K1 := hide (K1.out.below' y)
      replace c6 := hide (c6.out.below y)
      replace K6 := hide (K6.out.below' y)
      replace b0 := hide (below_tr b0.out y)
      clear y
      have K9c0 := K9.out.at_ 0 rfl
      have K9c1 := K9.out.at_ 1 rfl
      go_wp2
      exact opq_end hR ⟨rfl, b0⟩
    replace p2 := Nat.not_lt.1 p2
    by_cases p3 : (isgn (byt s)).1 = true ∧ num (isgn (byt s)).2 = 0
    case pos =>
      go_wp2_with fail
      refine (iParse_form hs (.inr ⟨p2, p3⟩)).mono ?_
      rintro e w9 ⟨rfl, d0⟩
      replace K1 := hide (K1.out.below' d0)
      replace c6 := hide (c6.out.below d0)
      replace K6 := hide (K6.out.below' d0)
      replace b0 := hide (below_tr b0.out d0)
      clear d0
      have K9 := hide (Blk.new_at w9 (w9.heap.size) (by simp) 25 #[.bool false, .slice none 0 0])
      have y := (Below.refl w9.heap.size w9).alloc (Nat.le_refl _) (.cells #[.bool false, .slice none 0 0] 25)
      replace K1 := hide (K1.out.below' y)
      replace c6 := hide (c6.out.below y)
      replace K6 := hide (K6.out.below' y)
      replace b0 := hide (below_tr b0.out y)
      clear y
      have K9c0 := K9.out.at_ 0 rfl
      have K9c1 := K9.out.at_ 1 rfl
      go_wp2
      exact opq_end hR ⟨rfl, b0⟩
    have hp1 := hide p1
    have hp2 := hide p2
    have hp3 := hide p3
    have E := hide (itxt_isgn p1 p3)
    clear p1 p2 p3
    obtain ⟨z, hzz⟩ : ∃ z, sgn (isgn (byt s)).1 (num (isgn (byt s)).2) = z := ⟨_, rfl⟩
    rw [hzz] at E
    replace hzz := hide hzz
    have Z1 : Hid (L z.natAbs ≤ 700) := by
      show _ ≤ _
      rw [← hzz.out, sgn_abs]
      refine L_le.2 (Nat.lt_of_lt_of_le (num_lt _ (isNum_lt hp1.out)) (Nat.le_trans (Nat.pow_le_pow_right (by decide) hp2.out) (by decide +kernel)))
    go_wp2_with fail
    refine (iParse_yes hs z hp1.out hp2.out hp3.out hzz.out).mono ?_
    rintro e w9 ⟨v9, rfl, d0, r9⟩
    replace K1 := hide (K1.out.below' d0)
    replace c6 := hide (c6.out.below d0)
    replace K6 := hide (K6.out.below' d0)
    replace b0 := hide (below_tr b0.out d0)
    have c9 := hide (r9.can)
    clear d0
    obtain ⟨b9, A9, n9, c9', rfl⟩ := r9.slice
    clear r9
    have K9 := hide (Blk.new_at w9 (w9.heap.size) (by simp) 25 #[.bool b9, .slice A9 n9 c9'])
    have y := (Below.refl w9.heap.size w9).alloc (Nat.le_refl _) (.cells #[.bool b9, .slice A9 n9 c9'] 25)
    replace K1 := hide (K1.out.below' y)
    replace c6 := hide (c6.out.below y)
    replace K6 := hide (K6.out.below' y)
    replace c9 := hide (c9.out.below y)
    replace b0 := hide (below_tr b0.out y)
    clear y
    have hs2 : (⟨#[45]⟩ ++ s : ByteArray).size ≤ 9223372036854775807 := by rw [← byt_length, byt_hyphen, List.length_cons, byt_length]; omega
    by_cases p4 : (isgn (byt s)).1 = true
    case pos =>
      have e1 := hide (isgn_true p4)
      have hsg : Hid (cmpI z 0 = -1) := by
        show _ = _
        refine cmpI_lt ?_
        have h3 := hp3.out
        rw [← hzz.out]
        rw [p4] at h3 ⊢
        simp only [true_and] at h3
        simp only [sgn, if_true]
        omega
      clear p4
      go_wp2_with fail
      refine (iParse_form hs2 (.inl (by rw [isgn_hyphen]; exact e1.out))).mono ?_
      rintro e w10 ⟨rfl, d0⟩
      replace K1 := hide (K1.out.below' d0)
      replace c6 := hide (c6.out.below d0)
      replace K6 := hide (K6.out.below' d0)
      replace c9 := hide (c9.out.below d0)
      replace K9 := hide (K9.out.below' d0)
      replace b0 := hide (below_tr b0.out d0)
      clear d0
      have K8 := hide (Blk.new_at w10 (w10.heap.size) (by simp) 25 #[.bool false, .slice none 0 0])
      have y := (Below.refl w10.heap.size w10).alloc (Nat.le_refl _) (.cells #[.bool false, .slice none 0 0] 25)
      replace K1 := hide (K1.out.below' y)
      replace c6 := hide (c6.out.below y)
      replace K6 := hide (K6.out.below' y)
      replace c9 := hide (c9.out.below y)
      replace K9 := hide (K9.out.below' y)
      replace b0 := hide (below_tr b0.out y)
      clear y
      have K9c0 := K9.out.at_ 0 rfl
      have K9c1 := K9.out.at_ 1 rfl
      go_wp2_with fail
      refine (iCheck_can c9.out (L_up Z1.out (by decide))).mono ?_
      rintro e w11 ⟨_, rfl, d0, rfl⟩
      replace K1 := hide (K1.out.below' d0)
      replace c6 := hide (c6.out.below d0)
      replace K6 := hide (K6.out.below' d0)
      replace c9 := hide (c9.out.below d0)
      replace K9 := hide (K9.out.below' d0)
      replace K8 := hide (K8.out.below' d0)
      replace b0 := hide (below_tr b0.out d0)
      clear d0
      clear K9c0 K9c1
      have K9c0 := K9.out.at_ 0 rfl
      have K9c1 := K9.out.at_ 1 rfl
      go_wp2_with fail
      refine (iText_C (ICan.arg c9.out (L_up Z1.out (by decide))) (L_up Z1.out (by decide)) s E.out.symm).mono ?_
      rintro e w12 ⟨_, rfl, d0, rfl⟩
      replace K1 := hide (K1.out.below' d0)
      replace c6 := hide (c6.out.below d0)
      replace K6 := hide (K6.out.below' d0)
      replace c9 := hide (c9.out.below d0)
      replace K9 := hide (K9.out.below' d0)
      replace K8 := hide (K8.out.below' d0)
      replace b0 := hide (below_tr b0.out d0)
      clear d0
      clear K9c0 K9c1
      go_wp2
      obtain ⟨V, hV⟩ : ∃ V, w12 = V := ⟨_, rfl⟩
      rw [hV] at K1 c6 K6 c9 K9 K8 b0 ⊢
      clear hV
      refine wp_region_facts 23 (fun w' => Below V.heap.size V w') [(113, (.int z)), (114, .eq (.int .i64 (-1))), (115, .eq (.bool false)), (116, .eq (.bool false)), (117, .eq (undef)), (118, .eq (undef)), (119, .eq (Go.Value.bool false)), (120, .eq (Go.Value.bool false)), (121, .eq (undef)), (122, .eq (undef)), (123, .eq (undef)), (124, .eq (undef)), (125, .eq (Go.Value.bool false)), (126, .eq (Go.Value.bool false)), (127, (.int z)), (128, .eq (.int .i64 (-1))), (129, .eq (.bool true)), (130, .eq (.bool true)), (131, .eq ((.int .i64 4 : Value))), (132, .eq (.bool true)), (133, .eq (.bool true)), (134, .eq (.bool true)), (4, .eq (.bool true))] [false, false, false, false, true, false, false, false, false, false, false, false, false, false, false, false, false, false, false, false, false, false, false, false, false, false, false, false, false, false, false, false, false, false, false, false, false, false, false, false, false, false, false, false, false, false, false, false, false, false, false, false, false, false, false, false, false, false, false, false, false, false, false, false, false, false, false, false, false, false, false, false, false, false, false, false, false, false, false, false, false, false, false, false, false, false, false, false, false, false, false, false, false, false, false, false, false, false, false, false, false, false, false, false, false, false, false, false, false, false, false, false, false, true, true, true, true, true, true, true, true, true, true, true, true, true, true, true, true, true, true, true, true, true, true] mixed (by kernel_rfl) (by kernel_rfl) (by kernel_rfl) (fun _ _ h hb => h.trans (hb.mono h.size)) ((Below.refl _ _).drew) ⟨?_, ?_, ?_, ?_, ?_, ?_, ?_, ?_, ?_, ?_, ?_, ?_, ?_, ?_, ?_, ?_, ?_, ?_, ?_, ?_, ?_, ?_, ?_, trivial⟩ ?_
      · exact .load (.agg #[.bool b9, .slice A9 n9 c9']) (.inl rfl) rfl rfl (fun a w' hC hs hl => by rw [show a.eval (.tmp 9) = (.pointer (some ⟨w9.heap.size, 0, none⟩) : Value) from (hs 9 (by kernel_rfl))]; exact ⟨ld_Int (K9.out.below' hC), c9.out.below hC⟩)
      · exact .call (.inl rfl) rfl rfl fn_iSign (fun a w' hC hs hl => iSign_eq (ICan.arg (hl 113 (by kernel_rfl) (by kernel_rfl)) (L_up Z1.out (by decide))) (hsg.out))
      · exact .value (.inl rfl) (by intro T e; cases e) rfl rfl (fun a w' hC hs hl => by
          have e0 : a.eval (.tmp 114) = (.int .i64 (-1)) := (hl 114 (by kernel_rfl) (by kernel_rfl))
          simp only [execOp, e0]
          simp only [Act.eval]
          simp [go_sem] <;> rfl)
      · exact .move (.inl rfl) (.inl rfl) rfl (by kernel_rfl) (by kernel_rfl) rfl
      · exact .skip ⟨3, false, 116, by decide, rfl, rfl, rfl⟩ (fun _ e => by cases e; exact .inl rfl)
      · exact .skip ⟨3, false, 116, by decide, rfl, rfl, rfl⟩ (fun _ e => by cases e; exact .inl rfl)
      · exact .pick (b := false) (.inl rfl) rfl rfl (fun a w' hC hs hl => ⟨(hl 116 (by kernel_rfl) (by kernel_rfl)), rfl⟩)
      · exact .move (.inl rfl) (.inl rfl) rfl (by kernel_rfl) (by kernel_rfl) rfl
      · exact .skip ⟨7, false, 120, by decide, rfl, rfl, rfl⟩ (fun _ e => by cases e; exact .inl rfl)
      · exact .skip ⟨7, false, 120, by decide, rfl, rfl, rfl⟩ (fun _ e => by cases e; exact .inl rfl)
      · exact .skip ⟨7, false, 120, by decide, rfl, rfl, rfl⟩ (fun _ e => by cases e; exact .inl rfl)
      · exact .skip ⟨7, false, 120, by decide, rfl, rfl, rfl⟩ (fun _ e => by cases e; exact .inl rfl)
      · exact .pick (b := false) (.inl rfl) rfl rfl (fun a w' hC hs hl => ⟨(hl 120 (by kernel_rfl) (by kernel_rfl)), rfl⟩)
      · exact .move (.inl rfl) (.inl rfl) rfl (by kernel_rfl) (by kernel_rfl) rfl
      · exact .load (.agg #[.bool b9, .slice A9 n9 c9']) (.inr ⟨13, false, 126, by decide, rfl, rfl, rfl⟩) rfl rfl (fun a w' hC hs hl => by rw [show a.eval (.tmp 9) = (.pointer (some ⟨w9.heap.size, 0, none⟩) : Value) from (hs 9 (by kernel_rfl))]; exact ⟨ld_Int (K9.out.below' hC), c9.out.below hC⟩)
      · exact .call (.inr ⟨13, false, 126, by decide, rfl, rfl, rfl⟩) rfl rfl fn_iSign (fun a w' hC hs hl => iSign_eq (ICan.arg (hl 127 (by kernel_rfl) (by kernel_rfl)) (L_up Z1.out (by decide))) (hsg.out))
      · exact .value (.inr ⟨13, false, 126, by decide, rfl, rfl, rfl⟩) (by intro T e; cases e) rfl rfl (fun a w' hC hs hl => by
          have e0 : a.eval (.tmp 128) = (.int .i64 (-1)) := (hl 128 (by kernel_rfl) (by kernel_rfl))
          simp only [execOp, e0]
          simp only [Act.eval]
          simp [go_sem] <;> rfl)
      · exact .move (.inr ⟨13, false, 126, by decide, rfl, rfl, rfl⟩) (.inl rfl) rfl (by kernel_rfl) (by kernel_rfl) rfl
      · exact .moveC (.inr ⟨17, true, 130, by decide, rfl, rfl, rfl⟩) (.inl rfl) rfl (fun a w' hC hs => (hs 12 (by kernel_rfl)))
      · exact .value (.inr ⟨17, true, 130, by decide, rfl, rfl, rfl⟩) (by intro T e; cases e) rfl rfl (fun a w' hC hs hl => by
          have e0 : a.eval (.tmp 131) = ((.int .i64 4 : Value)) := (hl 131 (by kernel_rfl) (by kernel_rfl))
          simp only [execOp, e0]
          simp only [Act.eval]
          simp [go_sem] <;> rfl)
      · exact .pick (b := true) (.inr ⟨13, false, 126, by decide, rfl, rfl, rfl⟩) rfl rfl (fun a w' hC hs hl => ⟨(hl 130 (by kernel_rfl) (by kernel_rfl)), (hl 132 (by kernel_rfl) (by kernel_rfl))⟩)
      · exact .pick (b := false) (.inl rfl) rfl rfl (fun a w' hC hs hl => ⟨(hl 126 (by kernel_rfl) (by kernel_rfl)), (hl 133 (by kernel_rfl) (by kernel_rfl))⟩)
      · exact .move (.inl rfl) (.inr rfl) rfl (by kernel_rfl) (by kernel_rfl) rfl
      intro f w9 hC hF _
      have f6 : f 4 = .bool true := hF 4 (by kernel_rfl)
      clear hF
      simp only [patch, List.drop]
      have B9 := hide (b0.out.trans (hC.mono b0.out.size))
      clear hC
      rw [f6]
      go_wp2
      exact opq_end hR ⟨rfl, B9⟩
    replace p4 : (isgn (byt s)).1 = false := by simpa using p4
    have e2 := hide (isgn_false p4)
    have hzz2 := hzz.out
    rw [p4, e2.out, sgn_f] at hzz2
    have k1' := hp1.out
    have k2' := hp2.out
    rw [e2.out] at k1' k2'
    clear p4
    by_cases p5 : num (byt s) = 0
    case pos =>
      have hsg : Hid (cmpI z 0 = 0) := by
        show _ = _
        rw [← hzz2, p5]
        exact cmpI_eq 0
      replace hzz2 := hide hzz2
      go_wp2_with fail
      refine (iParse_form hs2 (.inr (by rw [isgn_hyphen]; exact ⟨k2', rfl, p5⟩))).mono ?_
      rintro e w10 ⟨rfl, d0⟩
      replace K1 := hide (K1.out.below' d0)
      replace c6 := hide (c6.out.below d0)
      replace K6 := hide (K6.out.below' d0)
      replace c9 := hide (c9.out.below d0)
      replace K9 := hide (K9.out.below' d0)
      replace b0 := hide (below_tr b0.out d0)
      clear d0
      have K8 := hide (Blk.new_at w10 (w10.heap.size) (by simp) 25 #[.bool false, .slice none 0 0])
      have y := (Below.refl w10.heap.size w10).alloc (Nat.le_refl _) (.cells #[.bool false, .slice none 0 0] 25)
      replace K1 := hide (K1.out.below' y)
      replace c6 := hide (c6.out.below y)
      replace K6 := hide (K6.out.below' y)
      replace c9 := hide (c9.out.below y)
      replace K9 := hide (K9.out.below' y)
      replace b0 := hide (below_tr b0.out y)
      clear y
      have K9c0 := K9.out.at_ 0 rfl
      have K9c1 := K9.out.at_ 1 rfl
      go_wp2_with fail
      refine (iCheck_can c9.out (L_up Z1.out (by decide))).mono ?_
      rintro e w11 ⟨_, rfl, d0, rfl⟩
      replace K1 := hide (K1.out.below' d0)
      replace c6 := hide (c6.out.below d0)
      replace K6 := hide (K6.out.below' d0)
      replace c9 := hide (c9.out.below d0)
      replace K9 := hide (K9.out.below' d0)
      replace K8 := hide (K8.out.below' d0)
      replace b0 := hide (below_tr b0.out d0)
      clear d0
      clear K9c0 K9c1
      have K9c0 := K9.out.at_ 0 rfl
      have K9c1 := K9.out.at_ 1 rfl
      go_wp2_with fail
      refine (iText_C (ICan.arg c9.out (L_up Z1.out (by decide))) (L_up Z1.out (by decide)) s E.out.symm).mono ?_
      rintro e w12 ⟨_, rfl, d0, rfl⟩
      replace K1 := hide (K1.out.below' d0)
      replace c6 := hide (c6.out.below d0)
      replace K6 := hide (K6.out.below' d0)
      replace c9 := hide (c9.out.below d0)
      replace K9 := hide (K9.out.below' d0)
      replace K8 := hide (K8.out.below' d0)
      replace b0 := hide (below_tr b0.out d0)
      clear d0
      clear K9c0 K9c1
      go_wp2
      obtain ⟨V, hV⟩ : ∃ V, w12 = V := ⟨_, rfl⟩
      rw [hV] at K1 c6 K6 c9 K9 K8 b0 ⊢
      clear hV
      refine wp_region_facts 23 (fun w' => Below V.heap.size V w') [(113, (.int z)), (114, .eq (.int .i64 (0))), (115, .eq (.bool false)), (116, .eq (.bool false)), (117, .eq (undef)), (118, .eq (undef)), (119, .eq (Go.Value.bool false)), (120, .eq (Go.Value.bool false)), (121, .eq (undef)), (122, .eq (undef)), (123, .eq (undef)), (124, .eq (undef)), (125, .eq (Go.Value.bool false)), (126, .eq (Go.Value.bool false)), (127, (.int z)), (128, .eq (.int .i64 (0))), (129, .eq (.bool true)), (130, .eq (.bool true)), (131, .eq ((.int .i64 4 : Value))), (132, .eq (.bool true)), (133, .eq (.bool true)), (134, .eq (.bool true)), (4, .eq (.bool true))] [false, false, false, false, true, false, false, false, false, false, false, false, false, false, false, false, false, false, false, false, false, false, false, false, false, false, false, false, false, false, false, false, false, false, false, false, false, false, false, false, false, false, false, false, false, false, false, false, false, false, false, false, false, false, false, false, false, false, false, false, false, false, false, false, false, false, false, false, false, false, false, false, false, false, false, false, false, false, false, false, false, false, false, false, false, false, false, false, false, false, false, false, false, false, false, false, false, false, false, false, false, false, false, false, false, false, false, false, false, false, false, false, false, true, true, true, true, true, true, true, true, true, true, true, true, true, true, true, true, true, true, true, true, true, true] mixed (by kernel_rfl) (by kernel_rfl) (by kernel_rfl) (fun _ _ h hb => h.trans (hb.mono h.size)) ((Below.refl _ _).drew) ⟨?_, ?_, ?_, ?_, ?_, ?_, ?_, ?_, ?_, ?_, ?_, ?_, ?_, ?_, ?_, ?_, ?_, ?_, ?_, ?_, ?_, ?_, ?_, trivial⟩ ?_
      · exact .load (.agg #[.bool b9, .slice A9 n9 c9']) (.inl rfl) rfl rfl (fun a w' hC hs hl => by rw [show a.eval (.tmp 9) = (.pointer (some ⟨w9.heap.size, 0, none⟩) : Value) from (hs 9 (by kernel_rfl))]; exact ⟨ld_Int (K9.out.below' hC), c9.out.below hC⟩)
      · exact .call (.inl rfl) rfl rfl fn_iSign (fun a w' hC hs hl => iSign_eq (ICan.arg (hl 113 (by kernel_rfl) (by kernel_rfl)) (L_up Z1.out (by decide))) (hsg.out))
      · exact .value (.inl rfl) (by intro T e; cases e) rfl rfl (fun a w' hC hs hl => by
          have e0 : a.eval (.tmp 114) = (.int .i64 (0)) := (hl 114 (by kernel_rfl) (by kernel_rfl))
          simp only [execOp, e0]
          simp only [Act.eval]
          simp [go_sem] <;> rfl)
      · exact .move (.inl rfl) (.inl rfl) rfl (by kernel_rfl) (by kernel_rfl) rfl
      · exact .skip ⟨3, false, 116, by decide, rfl, rfl, rfl⟩ (fun _ e => by cases e; exact .inl rfl)
      · exact .skip ⟨3, false, 116, by decide, rfl, rfl, rfl⟩ (fun _ e => by cases e; exact .inl rfl)
      · exact .pick (b := false) (.inl rfl) rfl rfl (fun a w' hC hs hl => ⟨(hl 116 (by kernel_rfl) (by kernel_rfl)), rfl⟩)
      · exact .move (.inl rfl) (.inl rfl) rfl (by kernel_rfl) (by kernel_rfl) rfl
      · exact .skip ⟨7, false, 120, by decide, rfl, rfl, rfl⟩ (fun _ e => by cases e; exact .inl rfl)
      · exact .skip ⟨7, false, 120, by decide, rfl, rfl, rfl⟩ (fun _ e => by cases e; exact .inl rfl)
      · exact .skip ⟨7, false, 120, by decide, rfl, rfl, rfl⟩ (fun _ e => by cases e; exact .inl rfl)
      · exact .skip ⟨7, false, 120, by decide, rfl, rfl, rfl⟩ (fun _ e => by cases e; exact .inl rfl)
      · exact .pick (b := false) (.inl rfl) rfl rfl (fun a w' hC hs hl => ⟨(hl 120 (by kernel_rfl) (by kernel_rfl)), rfl⟩)
      · exact .move (.inl rfl) (.inl rfl) rfl (by kernel_rfl) (by kernel_rfl) rfl
      · exact .load (.agg #[.bool b9, .slice A9 n9 c9']) (.inr ⟨13, false, 126, by decide, rfl, rfl, rfl⟩) rfl rfl (fun a w' hC hs hl => by rw [show a.eval (.tmp 9) = (.pointer (some ⟨w9.heap.size, 0, none⟩) : Value) from (hs 9 (by kernel_rfl))]; exact ⟨ld_Int (K9.out.below' hC), c9.out.below hC⟩)
      · exact .call (.inr ⟨13, false, 126, by decide, rfl, rfl, rfl⟩) rfl rfl fn_iSign (fun a w' hC hs hl => iSign_eq (ICan.arg (hl 127 (by kernel_rfl) (by kernel_rfl)) (L_up Z1.out (by decide))) (hsg.out))
      · exact .value (.inr ⟨13, false, 126, by decide, rfl, rfl, rfl⟩) (by intro T e; cases e) rfl rfl (fun a w' hC hs hl => by
          have e0 : a.eval (.tmp 128) = (.int .i64 (0)) := (hl 128 (by kernel_rfl) (by kernel_rfl))
          simp only [execOp, e0]
          simp only [Act.eval]
          simp [go_sem] <;> rfl)
      · exact .move (.inr ⟨13, false, 126, by decide, rfl, rfl, rfl⟩) (.inl rfl) rfl (by kernel_rfl) (by kernel_rfl) rfl
      · exact .moveC (.inr ⟨17, true, 130, by decide, rfl, rfl, rfl⟩) (.inl rfl) rfl (fun a w' hC hs => (hs 12 (by kernel_rfl)))
      · exact .value (.inr ⟨17, true, 130, by decide, rfl, rfl, rfl⟩) (by intro T e; cases e) rfl rfl (fun a w' hC hs hl => by
          have e0 : a.eval (.tmp 131) = ((.int .i64 4 : Value)) := (hl 131 (by kernel_rfl) (by kernel_rfl))
          simp only [execOp, e0]
          simp only [Act.eval]
          simp [go_sem] <;> rfl)
      · exact .pick (b := true) (.inr ⟨13, false, 126, by decide, rfl, rfl, rfl⟩) rfl rfl (fun a w' hC hs hl => ⟨(hl 130 (by kernel_rfl) (by kernel_rfl)), (hl 132 (by kernel_rfl) (by kernel_rfl))⟩)
      · exact .pick (b := false) (.inl rfl) rfl rfl (fun a w' hC hs hl => ⟨(hl 126 (by kernel_rfl) (by kernel_rfl)), (hl 133 (by kernel_rfl) (by kernel_rfl))⟩)
      · exact .move (.inl rfl) (.inr rfl) rfl (by kernel_rfl) (by kernel_rfl) rfl
      intro f w9 hC hF _
      have f6 : f 4 = .bool true := hF 4 (by kernel_rfl)
      clear hF
      simp only [patch, List.drop]
      have B9 := hide (b0.out.trans (hC.mono b0.out.size))
      clear hC
      rw [f6]
      go_wp2
      exact opq_end hR ⟨rfl, B9⟩
    have hsg : Hid (cmpI z 0 = 1) := by
      show _ = _
      rw [← hzz2]
      exact cmpI_gt (by omega)
    replace hzz2 := hide hzz2
    go_wp2_with fail
    refine (iParse_yes hs2 (-z) (by rw [isgn_hyphen]; exact k1') (by rw [isgn_hyphen]; exact k2') (by rw [isgn_hyphen]; exact fun q => p5 q.2) (by rw [isgn_hyphen, ← hzz2.out]; rfl)).mono ?_
    rintro e w10 ⟨v8, rfl, d0, r8⟩
    replace K1 := hide (K1.out.below' d0)
    replace c6 := hide (c6.out.below d0)
    replace K6 := hide (K6.out.below' d0)
    replace c9 := hide (c9.out.below d0)
    replace K9 := hide (K9.out.below' d0)
    replace b0 := hide (below_tr b0.out d0)
    have c8 := hide (r8.can)
    clear d0
    obtain ⟨b8, A8, n8, c8', rfl⟩ := r8.slice
    clear r8
    have K8 := hide (Blk.new_at w10 (w10.heap.size) (by simp) 25 #[.bool b8, .slice A8 n8 c8'])
    have y := (Below.refl w10.heap.size w10).alloc (Nat.le_refl _) (.cells #[.bool b8, .slice A8 n8 c8'] 25)
    replace K1 := hide (K1.out.below' y)
    replace c6 := hide (c6.out.below y)
    replace K6 := hide (K6.out.below' y)
    replace c9 := hide (c9.out.below y)
    replace K9 := hide (K9.out.below' y)
    replace c8 := hide (c8.out.below y)
    replace b0 := hide (below_tr b0.out y)
    clear y
    have K9c0 := K9.out.at_ 0 rfl
    have K9c1 := K9.out.at_ 1 rfl
    go_wp2_with fail
    refine (iCheck_can c9.out (L_up Z1.out (by decide))).mono ?_
    rintro e w11 ⟨_, rfl, d0, rfl⟩
    replace K1 := hide (K1.out.below' d0)
    replace c6 := hide (c6.out.below d0)
    replace K6 := hide (K6.out.below' d0)
    replace c9 := hide (c9.out.below d0)
    replace K9 := hide (K9.out.below' d0)
    replace c8 := hide (c8.out.below d0)
    replace K8 := hide (K8.out.below' d0)
    replace b0 := hide (below_tr b0.out d0)
    clear d0
    clear K9c0 K9c1
    have K9c0 := K9.out.at_ 0 rfl
    have K9c1 := K9.out.at_ 1 rfl
    go_wp2_with fail
    refine (iText_C (ICan.arg c9.out (L_up Z1.out (by decide))) (L_up Z1.out (by decide)) s E.out.symm).mono ?_
    rintro e w12 ⟨_, rfl, d0, rfl⟩
    replace K1 := hide (K1.out.below' d0)
    replace c6 := hide (c6.out.below d0)
    replace K6 := hide (K6.out.below' d0)
    replace c9 := hide (c9.out.below d0)
    replace K9 := hide (K9.out.below' d0)
    replace c8 := hide (c8.out.below d0)
    replace K8 := hide (K8.out.below' d0)
    replace b0 := hide (below_tr b0.out d0)
    clear d0
    clear K9c0 K9c1
    go_wp2
    obtain ⟨V, hV⟩ : ∃ V, w12 = V := ⟨_, rfl⟩
    rw [hV] at K1 c6 K6 c9 K9 c8 K8 b0 ⊢
    clear hV
    have Q1 : Hid (L ((-z)).natAbs ≤ 700) := Z_neg Z1.out
    refine wp_region_facts 23 (fun w' => Below V.heap.size V w') [(113, (.int z)), (114, .eq (.int .i64 (1))), (115, .eq (.bool true)), (116, .eq (.bool true)), (117, .eq ((.int .i64 0 : Value))), (118, .eq (.bool true)), (119, .eq (.bool true)), (120, .eq (.bool true)), (121, (.int (-z))), (122, (.int z)), (123, (.int (-z))), (124, .eq (.bool true)), (125, .eq (.bool true)), (126, .eq (.bool true)), (127, .eq (undef)), (128, .eq (undef)), (129, .eq (undef)), (130, .eq (undef)), (131, .eq (undef)), (132, .eq (undef)), (133, .eq (undef)), (134, .eq (Go.Value.bool true)), (4, .eq (Go.Value.bool true))] [false, false, false, false, true, false, false, false, false, false, false, false, false, false, false, false, false, false, false, false, false, false, false, false, false, false, false, false, false, false, false, false, false, false, false, false, false, false, false, false, false, false, false, false, false, false, false, false, false, false, false, false, false, false, false, false, false, false, false, false, false, false, false, false, false, false, false, false, false, false, false, false, false, false, false, false, false, false, false, false, false, false, false, false, false, false, false, false, false, false, false, false, false, false, false, false, false, false, false, false, false, false, false, false, false, false, false, false, false, false, false, false, false, true, true, true, true, true, true, true, true, true, true, true, true, true, true, true, true, true, true, true, true, true, true] mixed (by kernel_rfl) (by kernel_rfl) (by kernel_rfl) (fun _ _ h hb => h.trans (hb.mono h.size)) ((Below.refl _ _).drew) ⟨?_, ?_, ?_, ?_, ?_, ?_, ?_, ?_, ?_, ?_, ?_, ?_, ?_, ?_, ?_, ?_, ?_, ?_, ?_, ?_, ?_, ?_, ?_, trivial⟩ ?_
    · exact .load (.agg #[.bool b9, .slice A9 n9 c9']) (.inl rfl) rfl rfl (fun a w' hC hs hl => by rw [show a.eval (.tmp 9) = (.pointer (some ⟨w9.heap.size, 0, none⟩) : Value) from (hs 9 (by kernel_rfl))]; exact ⟨ld_Int (K9.out.below' hC), c9.out.below hC⟩)
    · exact .call (.inl rfl) rfl rfl fn_iSign (fun a w' hC hs hl => iSign_eq (ICan.arg (hl 113 (by kernel_rfl) (by kernel_rfl)) (L_up Z1.out (by decide))) (hsg.out))
    · exact .value (.inl rfl) (by intro T e; cases e) rfl rfl (fun a w' hC hs hl => by
        have e0 : a.eval (.tmp 114) = (.int .i64 (1)) := (hl 114 (by kernel_rfl) (by kernel_rfl))
        simp only [execOp, e0]
        simp only [Act.eval]
        simp [go_sem] <;> rfl)
    · exact .move (.inl rfl) (.inl rfl) rfl (by kernel_rfl) (by kernel_rfl) rfl
    · exact .moveC (.inr ⟨3, true, 116, by decide, rfl, rfl, rfl⟩) (.inl rfl) rfl (fun a w' hC hs => (hs 12 (by kernel_rfl)))
    · exact .value (.inr ⟨3, true, 116, by decide, rfl, rfl, rfl⟩) (by intro T e; cases e) rfl rfl (fun a w' hC hs hl => by
        have e0 : a.eval (.tmp 117) = ((.int .i64 0 : Value)) := (hl 117 (by kernel_rfl) (by kernel_rfl))
        simp only [execOp, e0]
        simp only [Act.eval]
        simp [go_sem] <;> rfl)
    · exact .pick (b := true) (.inl rfl) rfl rfl (fun a w' hC hs hl => ⟨(hl 116 (by kernel_rfl) (by kernel_rfl)), (hl 118 (by kernel_rfl) (by kernel_rfl))⟩)
    · exact .move (.inl rfl) (.inl rfl) rfl (by kernel_rfl) (by kernel_rfl) rfl
    · exact .load (.agg #[.bool b8, .slice A8 n8 c8']) (.inr ⟨7, true, 120, by decide, rfl, rfl, rfl⟩) rfl rfl (fun a w' hC hs hl => by rw [show a.eval (.tmp 11) = (.pointer (some ⟨w10.heap.size, 0, none⟩) : Value) from (hs 11 (by kernel_rfl))]; exact ⟨ld_Int (K8.out.below' hC), c8.out.below hC⟩)
    · exact .load (.agg #[.bool b9, .slice A9 n9 c9']) (.inr ⟨7, true, 120, by decide, rfl, rfl, rfl⟩) rfl rfl (fun a w' hC hs hl => by rw [show a.eval (.tmp 9) = (.pointer (some ⟨w9.heap.size, 0, none⟩) : Value) from (hs 9 (by kernel_rfl))]; exact ⟨ld_Int (K9.out.below' hC), c9.out.below hC⟩)
    · exact .call (.inr ⟨7, true, 120, by decide, rfl, rfl, rfl⟩) rfl rfl fn_iNeg (fun a w' hC hs hl => iNeg_C (ICan.arg (hl 122 (by kernel_rfl) (by kernel_rfl)) (L_up Z1.out (by decide))))
    · exact .call (.inr ⟨7, true, 120, by decide, rfl, rfl, rfl⟩) rfl rfl fn_isame (fun a w' hC hs hl => isame_yes (hl 121 (by kernel_rfl) (by kernel_rfl)) (hl 123 (by kernel_rfl) (by kernel_rfl)) (rfl))
    · exact .pick (b := true) (.inl rfl) rfl rfl (fun a w' hC hs hl => ⟨(hl 120 (by kernel_rfl) (by kernel_rfl)), (hl 124 (by kernel_rfl) (by kernel_rfl))⟩)
    · exact .move (.inl rfl) (.inl rfl) rfl (by kernel_rfl) (by kernel_rfl) rfl
    · exact .skip ⟨13, true, 126, by decide, rfl, rfl, rfl⟩ (fun _ e => by cases e; exact .inl rfl)
    · exact .skip ⟨13, true, 126, by decide, rfl, rfl, rfl⟩ (fun _ e => by cases e; exact .inl rfl)
    · exact .skip ⟨13, true, 126, by decide, rfl, rfl, rfl⟩ (fun _ e => by cases e; exact .inl rfl)
    · exact .skip ⟨13, true, 126, by decide, rfl, rfl, rfl⟩ (fun _ e => by cases e; exact .inl rfl)
    · exact .skipU ⟨17, true, 130, by decide, rfl, rfl, rfl⟩ (fun _ e => by cases e; exact .inl rfl)
    · exact .skipU ⟨17, true, 130, by decide, rfl, rfl, rfl⟩ (fun _ e => by cases e; exact .inl rfl)
    · exact .skip ⟨13, true, 126, by decide, rfl, rfl, rfl⟩ (fun _ e => by cases e; exact .inl rfl)
    · exact .pick (b := true) (.inl rfl) rfl rfl (fun a w' hC hs hl => ⟨(hl 126 (by kernel_rfl) (by kernel_rfl)), rfl⟩)
    · exact .move (.inl rfl) (.inr rfl) rfl (by kernel_rfl) (by kernel_rfl) rfl
    intro f w9 hC hF _
    have f6 : f 4 = .bool true := hF 4 (by kernel_rfl)
    clear hF
    simp only [patch, List.drop]
    have B9 := hide (b0.out.trans (hC.mono b0.out.size))
    clear hC
    rw [f6]
    go_wp2
    exact opq_end hR ⟨rfl, B9⟩
  replace k1 : iok b1 xs1 = true := by simpa using k1
  have a1' := hide (ican_of h1.out i1.out l1 (by omega) k1)
  rw [hx.out] at a1'
  by_cases hn : x < 0
  case pos =>
    rw [if_pos hn] at hl
    by_cases p0 : 200 < (txt x.natAbs).length
    case pos =>
      go_wp2_with fail
      refine (iParse_long ht.out ts p0).mono ?_
      rintro e w5 ⟨rfl, d0⟩
      replace K1 := hide (K1.out.below' d0)
      replace b0 := hide (below_tr b0.out d0)
      clear d0
      have K6 := hide (Blk.new_at w5 (w5.heap.size) (by simp) 25 #[.bool false, .slice none 0 0])
      have y := (Below.refl w5.heap.size w5).alloc (Nat.le_refl _) (.cells #[.bool false, .slice none 0 0] 25)
      replace K1 := hide (K1.out.below' y)
      replace b0 := hide (below_tr b0.out y)
      clear y
      have K1c0 := K1.out.at_ 0 rfl
      have K1c1 := K1.out.at_ 1 rfl
      go_wp2_with fail
      refine (iSign_eq (r := -1) (a1.out.below b0.out) (cmpI_lt hn)).mono ?_
      rintro e w6 ⟨_, rfl, d0, rfl⟩
      replace K1 := hide (K1.out.below' d0)
      replace K6 := hide (K6.out.below' d0)
      replace b0 := hide (below_tr b0.out d0)
      clear d0
      clear K1c0 K1c1
      have K1c0 := K1.out.at_ 0 rfl
      have K1c1 := K1.out.at_ 1 rfl
      go_wp2_with fail
      refine (iCheck_F (h1.out.below b0.out) i1.out l1 (by omega) true k1).mono ?_
      rintro e w7 ⟨_, rfl, d0, rfl⟩
      replace K1 := hide (K1.out.below' d0)
      replace K6 := hide (K6.out.below' d0)
      replace b0 := hide (below_tr b0.out d0)
      clear d0
      clear K1c0 K1c1
      have K1c0 := K1.out.at_ 0 rfl
      have K1c1 := K1.out.at_ 1 rfl
      go_wp2_with fail
      refine (iCheck_F (h1.out.below b0.out) i1.out l1 (by omega) true k1).mono ?_
      rintro e w8 ⟨_, rfl, d0, rfl⟩
      replace K1 := hide (K1.out.below' d0)
      replace K6 := hide (K6.out.below' d0)
      replace b0 := hide (below_tr b0.out d0)
      clear d0
      clear K1c0 K1c1

      by_cases p1 : isNum (isgn (byt s)).2 = false
      case pos =>
        go_wp2_with fail
        refine (iParse_form hs (.inl p1)).mono ?_
        rintro e w9 ⟨rfl, d0⟩
        replace K1 := hide (K1.out.below' d0)
        replace K6 := hide (K6.out.below' d0)
        replace b0 := hide (below_tr b0.out d0)
        clear d0
        have K9 := hide (Blk.new_at w9 (w9.heap.size) (by simp) 25 #[.bool false, .slice none 0 0])
        have y := (Below.refl w9.heap.size w9).alloc (Nat.le_refl _) (.cells #[.bool false, .slice none 0 0] 25)
        replace K1 := hide (K1.out.below' y)
        replace K6 := hide (K6.out.below' y)
        replace b0 := hide (below_tr b0.out y)
        clear y
        have K9c0 := K9.out.at_ 0 rfl
        have K9c1 := K9.out.at_ 1 rfl
        go_wp2
        exact opq_end hR ⟨rfl, b0⟩
      replace p1 : isNum (isgn (byt s)).2 = true := by simpa using p1
      by_cases p2 : 200 < (isgn (byt s)).2.length
      case pos =>
        go_wp2_with fail
        refine (iParse_limit hs p1 p2).mono ?_
        rintro e w9 ⟨rfl, d0⟩
        replace K1 := hide (K1.out.below' d0)
        replace K6 := hide (K6.out.below' d0)
        replace b0 := hide (below_tr b0.out d0)
        clear d0
        have K9 := hide (Blk.new_at w9 (w9.heap.size) (by simp) 25 #[.bool false, .slice none 0 0])
        have y := (Below.refl w9.heap.size w9).alloc (Nat.le_refl _) (.cells #[.bool false, .slice none 0 0] 25)
        replace K1 := hide (K1.out.below' y)
        replace K6 := hide (K6.out.below' y)
        replace b0 := hide (below_tr b0.out y)
        clear y
        have K9c0 := K9.out.at_ 0 rfl
        have K9c1 := K9.out.at_ 1 rfl
        go_wp2
        exact opq_end hR ⟨rfl, b0⟩
      replace p2 := Nat.not_lt.1 p2
      by_cases p3 : (isgn (byt s)).1 = true ∧ num (isgn (byt s)).2 = 0
      case pos =>
        go_wp2_with fail
        refine (iParse_form hs (.inr ⟨p2, p3⟩)).mono ?_
        rintro e w9 ⟨rfl, d0⟩
        replace K1 := hide (K1.out.below' d0)
        replace K6 := hide (K6.out.below' d0)
        replace b0 := hide (below_tr b0.out d0)
        clear d0
        have K9 := hide (Blk.new_at w9 (w9.heap.size) (by simp) 25 #[.bool false, .slice none 0 0])
        have y := (Below.refl w9.heap.size w9).alloc (Nat.le_refl _) (.cells #[.bool false, .slice none 0 0] 25)
        replace K1 := hide (K1.out.below' y)
        replace K6 := hide (K6.out.below' y)
        replace b0 := hide (below_tr b0.out y)
        clear y
        have K9c0 := K9.out.at_ 0 rfl
        have K9c1 := K9.out.at_ 1 rfl
        go_wp2
        exact opq_end hR ⟨rfl, b0⟩
      have hp1 := hide p1
      have hp2 := hide p2
      have hp3 := hide p3
      have E := hide (itxt_isgn p1 p3)
      clear p1 p2 p3
      obtain ⟨z, hzz⟩ : ∃ z, sgn (isgn (byt s)).1 (num (isgn (byt s)).2) = z := ⟨_, rfl⟩
      rw [hzz] at E
      replace hzz := hide hzz
      have Z1 : Hid (L z.natAbs ≤ 700) := by
        show _ ≤ _
        rw [← hzz.out, sgn_abs]
        refine L_le.2 (Nat.lt_of_lt_of_le (num_lt _ (isNum_lt hp1.out)) (Nat.le_trans (Nat.pow_le_pow_right (by decide) hp2.out) (by decide +kernel)))
      go_wp2_with fail
      refine (iParse_yes hs z hp1.out hp2.out hp3.out hzz.out).mono ?_
      rintro e w9 ⟨v9, rfl, d0, r9⟩
      replace K1 := hide (K1.out.below' d0)
      replace K6 := hide (K6.out.below' d0)
      replace b0 := hide (below_tr b0.out d0)
      have c9 := hide (r9.can)
      clear d0
      obtain ⟨b9, A9, n9, c9', rfl⟩ := r9.slice
      clear r9
      have K9 := hide (Blk.new_at w9 (w9.heap.size) (by simp) 25 #[.bool b9, .slice A9 n9 c9'])
      have y := (Below.refl w9.heap.size w9).alloc (Nat.le_refl _) (.cells #[.bool b9, .slice A9 n9 c9'] 25)
      replace K1 := hide (K1.out.below' y)
      replace K6 := hide (K6.out.below' y)
      replace c9 := hide (c9.out.below y)
      replace b0 := hide (below_tr b0.out y)
      clear y
      have hs2 : (⟨#[45]⟩ ++ s : ByteArray).size ≤ 9223372036854775807 := by rw [← byt_length, byt_hyphen, List.length_cons, byt_length]; omega
      by_cases p4 : (isgn (byt s)).1 = true
      case pos =>
        have e1 := hide (isgn_true p4)
        have hsg : Hid (cmpI z 0 = -1) := by
          show _ = _
          refine cmpI_lt ?_
          have h3 := hp3.out
          rw [← hzz.out]
          rw [p4] at h3 ⊢
          simp only [true_and] at h3
          simp only [sgn, if_true]
          omega
        clear p4
        go_wp2_with fail
        refine (iParse_form hs2 (.inl (by rw [isgn_hyphen]; exact e1.out))).mono ?_
        rintro e w10 ⟨rfl, d0⟩
        replace K1 := hide (K1.out.below' d0)
        replace K6 := hide (K6.out.below' d0)
        replace c9 := hide (c9.out.below d0)
        replace K9 := hide (K9.out.below' d0)
        replace b0 := hide (below_tr b0.out d0)
        clear d0
        have K8 := hide (Blk.new_at w10 (w10.heap.size) (by simp) 25 #[.bool false, .slice none 0 0])
        have y := (Below.refl w10.heap.size w10).alloc (Nat.le_refl _) (.cells #[.bool false, .slice none 0 0] 25)
        replace K1 := hide (K1.out.below' y)
        replace K6 := hide (K6.out.below' y)
        replace c9 := hide (c9.out.below y)
        replace K9 := hide (K9.out.below' y)
        replace b0 := hide (below_tr b0.out y)
        clear y
        have K9c0 := K9.out.at_ 0 rfl
        have K9c1 := K9.out.at_ 1 rfl
        go_wp2_with fail
        refine (iCheck_can c9.out (L_up Z1.out (by decide))).mono ?_
        rintro e w11 ⟨_, rfl, d0, rfl⟩
        replace K1 := hide (K1.out.below' d0)
        replace K6 := hide (K6.out.below' d0)
        replace c9 := hide (c9.out.below d0)
        replace K9 := hide (K9.out.below' d0)
        replace K8 := hide (K8.out.below' d0)
        replace b0 := hide (below_tr b0.out d0)
        clear d0
        clear K9c0 K9c1
        have K9c0 := K9.out.at_ 0 rfl
        have K9c1 := K9.out.at_ 1 rfl
        go_wp2_with fail
        refine (iText_C (ICan.arg c9.out (L_up Z1.out (by decide))) (L_up Z1.out (by decide)) s E.out.symm).mono ?_
        rintro e w12 ⟨_, rfl, d0, rfl⟩
        replace K1 := hide (K1.out.below' d0)
        replace K6 := hide (K6.out.below' d0)
        replace c9 := hide (c9.out.below d0)
        replace K9 := hide (K9.out.below' d0)
        replace K8 := hide (K8.out.below' d0)
        replace b0 := hide (below_tr b0.out d0)
        clear d0
        clear K9c0 K9c1
        go_wp2
        obtain ⟨V, hV⟩ : ∃ V, w12 = V := ⟨_, rfl⟩
        rw [hV] at K1 K6 c9 K9 K8 b0 ⊢
        clear hV
        refine wp_region_facts 23 (fun w' => Below V.heap.size V w') [(113, (.int z)), (114, .eq (.int .i64 (-1))), (115, .eq (.bool false)), (116, .eq (.bool false)), (117, .eq (undef)), (118, .eq (undef)), (119, .eq (Go.Value.bool false)), (120, .eq (Go.Value.bool false)), (121, .eq (undef)), (122, .eq (undef)), (123, .eq (undef)), (124, .eq (undef)), (125, .eq (Go.Value.bool false)), (126, .eq (Go.Value.bool false)), (127, (.int z)), (128, .eq (.int .i64 (-1))), (129, .eq (.bool true)), (130, .eq (.bool true)), (131, .eq ((.int .i64 4 : Value))), (132, .eq (.bool true)), (133, .eq (.bool true)), (134, .eq (.bool true)), (4, .eq (.bool true))] [false, false, false, false, true, false, false, false, false, false, false, false, false, false, false, false, false, false, false, false, false, false, false, false, false, false, false, false, false, false, false, false, false, false, false, false, false, false, false, false, false, false, false, false, false, false, false, false, false, false, false, false, false, false, false, false, false, false, false, false, false, false, false, false, false, false, false, false, false, false, false, false, false, false, false, false, false, false, false, false, false, false, false, false, false, false, false, false, false, false, false, false, false, false, false, false, false, false, false, false, false, false, false, false, false, false, false, false, false, false, false, false, false, true, true, true, true, true, true, true, true, true, true, true, true, true, true, true, true, true, true, true, true, true, true] mixed (by kernel_rfl) (by kernel_rfl) (by kernel_rfl) (fun _ _ h hb => h.trans (hb.mono h.size)) ((Below.refl _ _).drew) ⟨?_, ?_, ?_, ?_, ?_, ?_, ?_, ?_, ?_, ?_, ?_, ?_, ?_, ?_, ?_, ?_, ?_, ?_, ?_, ?_, ?_, ?_, ?_, trivial⟩ ?_
        · exact .load (.agg #[.bool b9, .slice A9 n9 c9']) (.inl rfl) rfl rfl (fun a w' hC hs hl => by rw [show a.eval (.tmp 9) = (.pointer (some ⟨w9.heap.size, 0, none⟩) : Value) from (hs 9 (by kernel_rfl))]; exact ⟨ld_Int (K9.out.below' hC), c9.out.below hC⟩)
        · exact .call (.inl rfl) rfl rfl fn_iSign (fun a w' hC hs hl => iSign_eq (ICan.arg (hl 113 (by kernel_rfl) (by kernel_rfl)) (L_up Z1.out (by decide))) (hsg.out))
        · exact .value (.inl rfl) (by intro T e; cases e) rfl rfl (fun a w' hC hs hl => by
            have e0 : a.eval (.tmp 114) = (.int .i64 (-1)) := (hl 114 (by kernel_rfl) (by kernel_rfl))
            simp only [execOp, e0]
            simp only [Act.eval]
            simp [go_sem] <;> rfl)
        · exact .move (.inl rfl) (.inl rfl) rfl (by kernel_rfl) (by kernel_rfl) rfl
        · exact .skip ⟨3, false, 116, by decide, rfl, rfl, rfl⟩ (fun _ e => by cases e; exact .inl rfl)
        · exact .skip ⟨3, false, 116, by decide, rfl, rfl, rfl⟩ (fun _ e => by cases e; exact .inl rfl)
        · exact .pick (b := false) (.inl rfl) rfl rfl (fun a w' hC hs hl => ⟨(hl 116 (by kernel_rfl) (by kernel_rfl)), rfl⟩)
        · exact .move (.inl rfl) (.inl rfl) rfl (by kernel_rfl) (by kernel_rfl) rfl
        · exact .skip ⟨7, false, 120, by decide, rfl, rfl, rfl⟩ (fun _ e => by cases e; exact .inl rfl)
        · exact .skip ⟨7, false, 120, by decide, rfl, rfl, rfl⟩ (fun _ e => by cases e; exact .inl rfl)
        · exact .skip ⟨7, false, 120, by decide, rfl, rfl, rfl⟩ (fun _ e => by cases e; exact .inl rfl)
        · exact .skip ⟨7, false, 120, by decide, rfl, rfl, rfl⟩ (fun _ e => by cases e; exact .inl rfl)
        · exact .pick (b := false) (.inl rfl) rfl rfl (fun a w' hC hs hl => ⟨(hl 120 (by kernel_rfl) (by kernel_rfl)), rfl⟩)
        · exact .move (.inl rfl) (.inl rfl) rfl (by kernel_rfl) (by kernel_rfl) rfl
        · exact .load (.agg #[.bool b9, .slice A9 n9 c9']) (.inr ⟨13, false, 126, by decide, rfl, rfl, rfl⟩) rfl rfl (fun a w' hC hs hl => by rw [show a.eval (.tmp 9) = (.pointer (some ⟨w9.heap.size, 0, none⟩) : Value) from (hs 9 (by kernel_rfl))]; exact ⟨ld_Int (K9.out.below' hC), c9.out.below hC⟩)
        · exact .call (.inr ⟨13, false, 126, by decide, rfl, rfl, rfl⟩) rfl rfl fn_iSign (fun a w' hC hs hl => iSign_eq (ICan.arg (hl 127 (by kernel_rfl) (by kernel_rfl)) (L_up Z1.out (by decide))) (hsg.out))
        · exact .value (.inr ⟨13, false, 126, by decide, rfl, rfl, rfl⟩) (by intro T e; cases e) rfl rfl (fun a w' hC hs hl => by
            have e0 : a.eval (.tmp 128) = (.int .i64 (-1)) := (hl 128 (by kernel_rfl) (by kernel_rfl))
            simp only [execOp, e0]
            simp only [Act.eval]
            simp [go_sem] <;> rfl)
        · exact .move (.inr ⟨13, false, 126, by decide, rfl, rfl, rfl⟩) (.inl rfl) rfl (by kernel_rfl) (by kernel_rfl) rfl
        · exact .moveC (.inr ⟨17, true, 130, by decide, rfl, rfl, rfl⟩) (.inl rfl) rfl (fun a w' hC hs => (hs 12 (by kernel_rfl)))
        · exact .value (.inr ⟨17, true, 130, by decide, rfl, rfl, rfl⟩) (by intro T e; cases e) rfl rfl (fun a w' hC hs hl => by
            have e0 : a.eval (.tmp 131) = ((.int .i64 4 : Value)) := (hl 131 (by kernel_rfl) (by kernel_rfl))
            simp only [execOp, e0]
            simp only [Act.eval]
            simp [go_sem] <;> rfl)
        · exact .pick (b := true) (.inr ⟨13, false, 126, by decide, rfl, rfl, rfl⟩) rfl rfl (fun a w' hC hs hl => ⟨(hl 130 (by kernel_rfl) (by kernel_rfl)), (hl 132 (by kernel_rfl) (by kernel_rfl))⟩)
        · exact .pick (b := false) (.inl rfl) rfl rfl (fun a w' hC hs hl => ⟨(hl 126 (by kernel_rfl) (by kernel_rfl)), (hl 133 (by kernel_rfl) (by kernel_rfl))⟩)
        · exact .move (.inl rfl) (.inr rfl) rfl (by kernel_rfl) (by kernel_rfl) rfl
        intro f w9 hC hF _
        have f6 : f 4 = .bool true := hF 4 (by kernel_rfl)
        clear hF
        simp only [patch, List.drop]
        have B9 := hide (b0.out.trans (hC.mono b0.out.size))
        clear hC
        rw [f6]
        go_wp2
        exact opq_end hR ⟨rfl, B9⟩
      replace p4 : (isgn (byt s)).1 = false := by simpa using p4
      have e2 := hide (isgn_false p4)
      have hzz2 := hzz.out
      rw [p4, e2.out, sgn_f] at hzz2
      have k1' := hp1.out
      have k2' := hp2.out
      rw [e2.out] at k1' k2'
      clear p4
      by_cases p5 : num (byt s) = 0
      case pos =>
        have hsg : Hid (cmpI z 0 = 0) := by
          show _ = _
          rw [← hzz2, p5]
          exact cmpI_eq 0
        replace hzz2 := hide hzz2
        go_wp2_with fail
        refine (iParse_form hs2 (.inr (by rw [isgn_hyphen]; exact ⟨k2', rfl, p5⟩))).mono ?_
        rintro e w10 ⟨rfl, d0⟩
        replace K1 := hide (K1.out.below' d0)
        replace K6 := hide (K6.out.below' d0)
        replace c9 := hide (c9.out.below d0)
        replace K9 := hide (K9.out.below' d0)
        replace b0 := hide (below_tr b0.out d0)
        clear d0
        have K8 := hide (Blk.new_at w10 (w10.heap.size) (by simp) 25 #[.bool false, .slice none 0 0])
        have y := (Below.refl w10.heap.size w10).alloc (Nat.le_refl _) (.cells #[.bool false, .slice none 0 0] 25)
        replace K1 := hide (K1.out.below' y)
        replace K6 := hide (K6.out.below' y)
        replace c9 := hide (c9.out.below y)
        replace K9 := hide (K9.out.below' y)
        replace b0 := hide (below_tr b0.out y)
        clear y
        have K9c0 := K9.out.at_ 0 rfl
        have K9c1 := K9.out.at_ 1 rfl
        go_wp2_with fail
        refine (iCheck_can c9.out (L_up Z1.out (by decide))).mono ?_
        rintro e w11 ⟨_, rfl, d0, rfl⟩
        replace K1 := hide (K1.out.below' d0)
        replace K6 := hide (K6.out.below' d0)
        replace c9 := hide (c9.out.below d0)
        replace K9 := hide (K9.out.below' d0)
        replace K8 := hide (K8.out.below' d0)
        replace b0 := hide (below_tr b0.out d0)
        clear d0
        clear K9c0 K9c1
        have K9c0 := K9.out.at_ 0 rfl
        have K9c1 := K9.out.at_ 1 rfl
        go_wp2_with fail
        refine (iText_C (ICan.arg c9.out (L_up Z1.out (by decide))) (L_up Z1.out (by decide)) s E.out.symm).mono ?_
        rintro e w12 ⟨_, rfl, d0, rfl⟩
        replace K1 := hide (K1.out.below' d0)
        replace K6 := hide (K6.out.below' d0)
        replace c9 := hide (c9.out.below d0)
        replace K9 := hide (K9.out.below' d0)
        replace K8 := hide (K8.out.below' d0)
        replace b0 := hide (below_tr b0.out d0)
        clear d0
        clear K9c0 K9c1
        go_wp2
        obtain ⟨V, hV⟩ : ∃ V, w12 = V := ⟨_, rfl⟩
        rw [hV] at K1 K6 c9 K9 K8 b0 ⊢
        clear hV
        refine wp_region_facts 23 (fun w' => Below V.heap.size V w') [(113, (.int z)), (114, .eq (.int .i64 (0))), (115, .eq (.bool false)), (116, .eq (.bool false)), (117, .eq (undef)), (118, .eq (undef)), (119, .eq (Go.Value.bool false)), (120, .eq (Go.Value.bool false)), (121, .eq (undef)), (122, .eq (undef)), (123, .eq (undef)), (124, .eq (undef)), (125, .eq (Go.Value.bool false)), (126, .eq (Go.Value.bool false)), (127, (.int z)), (128, .eq (.int .i64 (0))), (129, .eq (.bool true)), (130, .eq (.bool true)), (131, .eq ((.int .i64 4 : Value))), (132, .eq (.bool true)), (133, .eq (.bool true)), (134, .eq (.bool true)), (4, .eq (.bool true))] [false, false, false, false, true, false, false, false, false, false, false, false, false, false, false, false, false, false, false, false, false, false, false, false, false, false, false, false, false, false, false, false, false, false, false, false, false, false, false, false, false, false, false, false, false, false, false, false, false, false, false, false, false, false, false, false, false, false, false, false, false, false, false, false, false, false, false, false, false, false, false, false, false, false, false, false, false, false, false, false, false, false, false, false, false, false, false, false, false, false, false, false, false, false, false, false, false, false, false, false, false, false, false, false, false, false, false, false, false, false, false, false, false, true, true, true, true, true, true, true, true, true, true, true, true, true, true, true, true, true, true, true, true, true, true] mixed (by kernel_rfl) (by kernel_rfl) (by kernel_rfl) (fun _ _ h hb => h.trans (hb.mono h.size)) ((Below.refl _ _).drew) ⟨?_, ?_, ?_, ?_, ?_, ?_, ?_, ?_, ?_, ?_, ?_, ?_, ?_, ?_, ?_, ?_, ?_, ?_, ?_, ?_, ?_, ?_, ?_, trivial⟩ ?_
        · exact .load (.agg #[.bool b9, .slice A9 n9 c9']) (.inl rfl) rfl rfl (fun a w' hC hs hl => by rw [show a.eval (.tmp 9) = (.pointer (some ⟨w9.heap.size, 0, none⟩) : Value) from (hs 9 (by kernel_rfl))]; exact ⟨ld_Int (K9.out.below' hC), c9.out.below hC⟩)
        · exact .call (.inl rfl) rfl rfl fn_iSign (fun a w' hC hs hl => iSign_eq (ICan.arg (hl 113 (by kernel_rfl) (by kernel_rfl)) (L_up Z1.out (by decide))) (hsg.out))
        · exact .value (.inl rfl) (by intro T e; cases e) rfl rfl (fun a w' hC hs hl => by
            have e0 : a.eval (.tmp 114) = (.int .i64 (0)) := (hl 114 (by kernel_rfl) (by kernel_rfl))
            simp only [execOp, e0]
            simp only [Act.eval]
            simp [go_sem] <;> rfl)
        · exact .move (.inl rfl) (.inl rfl) rfl (by kernel_rfl) (by kernel_rfl) rfl
        · exact .skip ⟨3, false, 116, by decide, rfl, rfl, rfl⟩ (fun _ e => by cases e; exact .inl rfl)
        · exact .skip ⟨3, false, 116, by decide, rfl, rfl, rfl⟩ (fun _ e => by cases e; exact .inl rfl)
        · exact .pick (b := false) (.inl rfl) rfl rfl (fun a w' hC hs hl => ⟨(hl 116 (by kernel_rfl) (by kernel_rfl)), rfl⟩)
        · exact .move (.inl rfl) (.inl rfl) rfl (by kernel_rfl) (by kernel_rfl) rfl
        · exact .skip ⟨7, false, 120, by decide, rfl, rfl, rfl⟩ (fun _ e => by cases e; exact .inl rfl)
        · exact .skip ⟨7, false, 120, by decide, rfl, rfl, rfl⟩ (fun _ e => by cases e; exact .inl rfl)
        · exact .skip ⟨7, false, 120, by decide, rfl, rfl, rfl⟩ (fun _ e => by cases e; exact .inl rfl)
        · exact .skip ⟨7, false, 120, by decide, rfl, rfl, rfl⟩ (fun _ e => by cases e; exact .inl rfl)
        · exact .pick (b := false) (.inl rfl) rfl rfl (fun a w' hC hs hl => ⟨(hl 120 (by kernel_rfl) (by kernel_rfl)), rfl⟩)
        · exact .move (.inl rfl) (.inl rfl) rfl (by kernel_rfl) (by kernel_rfl) rfl
        · exact .load (.agg #[.bool b9, .slice A9 n9 c9']) (.inr ⟨13, false, 126, by decide, rfl, rfl, rfl⟩) rfl rfl (fun a w' hC hs hl => by rw [show a.eval (.tmp 9) = (.pointer (some ⟨w9.heap.size, 0, none⟩) : Value) from (hs 9 (by kernel_rfl))]; exact ⟨ld_Int (K9.out.below' hC), c9.out.below hC⟩)
        · exact .call (.inr ⟨13, false, 126, by decide, rfl, rfl, rfl⟩) rfl rfl fn_iSign (fun a w' hC hs hl => iSign_eq (ICan.arg (hl 127 (by kernel_rfl) (by kernel_rfl)) (L_up Z1.out (by decide))) (hsg.out))
        · exact .value (.inr ⟨13, false, 126, by decide, rfl, rfl, rfl⟩) (by intro T e; cases e) rfl rfl (fun a w' hC hs hl => by
            have e0 : a.eval (.tmp 128) = (.int .i64 (0)) := (hl 128 (by kernel_rfl) (by kernel_rfl))
            simp only [execOp, e0]
            simp only [Act.eval]
            simp [go_sem] <;> rfl)
        · exact .move (.inr ⟨13, false, 126, by decide, rfl, rfl, rfl⟩) (.inl rfl) rfl (by kernel_rfl) (by kernel_rfl) rfl
        · exact .moveC (.inr ⟨17, true, 130, by decide, rfl, rfl, rfl⟩) (.inl rfl) rfl (fun a w' hC hs => (hs 12 (by kernel_rfl)))
        · exact .value (.inr ⟨17, true, 130, by decide, rfl, rfl, rfl⟩) (by intro T e; cases e) rfl rfl (fun a w' hC hs hl => by
            have e0 : a.eval (.tmp 131) = ((.int .i64 4 : Value)) := (hl 131 (by kernel_rfl) (by kernel_rfl))
            simp only [execOp, e0]
            simp only [Act.eval]
            simp [go_sem] <;> rfl)
        · exact .pick (b := true) (.inr ⟨13, false, 126, by decide, rfl, rfl, rfl⟩) rfl rfl (fun a w' hC hs hl => ⟨(hl 130 (by kernel_rfl) (by kernel_rfl)), (hl 132 (by kernel_rfl) (by kernel_rfl))⟩)
        · exact .pick (b := false) (.inl rfl) rfl rfl (fun a w' hC hs hl => ⟨(hl 126 (by kernel_rfl) (by kernel_rfl)), (hl 133 (by kernel_rfl) (by kernel_rfl))⟩)
        · exact .move (.inl rfl) (.inr rfl) rfl (by kernel_rfl) (by kernel_rfl) rfl
        intro f w9 hC hF _
        have f6 : f 4 = .bool true := hF 4 (by kernel_rfl)
        clear hF
        simp only [patch, List.drop]
        have B9 := hide (b0.out.trans (hC.mono b0.out.size))
        clear hC
        rw [f6]
        go_wp2
        exact opq_end hR ⟨rfl, B9⟩
      have hsg : Hid (cmpI z 0 = 1) := by
        show _ = _
        rw [← hzz2]
        exact cmpI_gt (by omega)
      replace hzz2 := hide hzz2
      go_wp2_with fail
      refine (iParse_yes hs2 (-z) (by rw [isgn_hyphen]; exact k1') (by rw [isgn_hyphen]; exact k2') (by rw [isgn_hyphen]; exact fun q => p5 q.2) (by rw [isgn_hyphen, ← hzz2.out]; rfl)).mono ?_
      rintro e w10 ⟨v8, rfl, d0, r8⟩
      replace K1 := hide (K1.out.below' d0)
      replace K6 := hide (K6.out.below' d0)
      replace c9 := hide (c9.out.below d0)
      replace K9 := hide (K9.out.below' d0)
      replace b0 := hide (below_tr b0.out d0)
      have c8 := hide (r8.can)
      clear d0
      obtain ⟨b8, A8, n8, c8', rfl⟩ := r8.slice
      clear r8
      have K8 := hide (Blk.new_at w10 (w10.heap.size) (by simp) 25 #[.bool b8, .slice A8 n8 c8'])
      have y := (Below.refl w10.heap.size w10).alloc (Nat.le_refl _) (.cells #[.bool b8, .slice A8 n8 c8'] 25)
      replace K1 := hide (K1.out.below' y)
      replace K6 := hide (K6.out.below' y)
      replace c9 := hide (c9.out.below y)
      replace K9 := hide (K9.out.below' y)
      replace c8 := hide (c8.out.below y)
      replace b0 := hide (below_tr b0.out y)
      clear y
      have K9c0 := K9.out.at_ 0 rfl
      have K9c1 := K9.out.at_ 1 rfl
      go_wp2_with fail
      refine (iCheck_can c9.out (L_up Z1.out (by decide))).mono ?_
      rintro e w11 ⟨_, rfl, d0, rfl⟩
      replace K1 := hide (K1.out.below' d0)
      replace K6 := hide (K6.out.below' d0)
      replace c9 := hide (c9.out.below d0)
      replace K9 := hide (K9.out.below' d0)
      replace c8 := hide (c8.out.below d0)
      replace K8 := hide (K8.out.below' d0)
      replace b0 := hide (below_tr b0.out d0)
      clear d0
      clear K9c0 K9c1
      have K9c0 := K9.out.at_ 0 rfl
      have K9c1 := K9.out.at_ 1 rfl
      go_wp2_with fail
      refine (iText_C (ICan.arg c9.out (L_up Z1.out (by decide))) (L_up Z1.out (by decide)) s E.out.symm).mono ?_
      rintro e w12 ⟨_, rfl, d0, rfl⟩
      replace K1 := hide (K1.out.below' d0)
      replace K6 := hide (K6.out.below' d0)
      replace c9 := hide (c9.out.below d0)
      replace K9 := hide (K9.out.below' d0)
      replace c8 := hide (c8.out.below d0)
      replace K8 := hide (K8.out.below' d0)
      replace b0 := hide (below_tr b0.out d0)
      clear d0
      clear K9c0 K9c1
      go_wp2
      obtain ⟨V, hV⟩ : ∃ V, w12 = V := ⟨_, rfl⟩
      rw [hV] at K1 K6 c9 K9 c8 K8 b0 ⊢
      clear hV
      have Q1 : Hid (L ((-z)).natAbs ≤ 700) := Z_neg Z1.out
      refine wp_region_facts 23 (fun w' => Below V.heap.size V w') [(113, (.int z)), (114, .eq (.int .i64 (1))), (115, .eq (.bool true)), (116, .eq (.bool true)), (117, .eq ((.int .i64 0 : Value))), (118, .eq (.bool true)), (119, .eq (.bool true)), (120, .eq (.bool true)), (121, (.int (-z))), (122, (.int z)), (123, (.int (-z))), (124, .eq (.bool true)), (125, .eq (.bool true)), (126, .eq (.bool true)), (127, .eq (undef)), (128, .eq (undef)), (129, .eq (undef)), (130, .eq (undef)), (131, .eq (undef)), (132, .eq (undef)), (133, .eq (undef)), (134, .eq (Go.Value.bool true)), (4, .eq (Go.Value.bool true))] [false, false, false, false, true, false, false, false, false, false, false, false, false, false, false, false, false, false, false, false, false, false, false, false, false, false, false, false, false, false, false, false, false, false, false, false, false, false, false, false, false, false, false, false, false, false, false, false, false, false, false, false, false, false, false, false, false, false, false, false, false, false, false, false, false, false, false, false, false, false, false, false, false, false, false, false, false, false, false, false, false, false, false, false, false, false, false, false, false, false, false, false, false, false, false, false, false, false, false, false, false, false, false, false, false, false, false, false, false, false, false, false, false, true, true, true, true, true, true, true, true, true, true, true, true, true, true, true, true, true, true, true, true, true, true] mixed (by kernel_rfl) (by kernel_rfl) (by kernel_rfl) (fun _ _ h hb => h.trans (hb.mono h.size)) ((Below.refl _ _).drew) ⟨?_, ?_, ?_, ?_, ?_, ?_, ?_, ?_, ?_, ?_, ?_, ?_, ?_, ?_, ?_, ?_, ?_, ?_, ?_, ?_, ?_, ?_, ?_, trivial⟩ ?_
      · exact .load (.agg #[.bool b9, .slice A9 n9 c9']) (.inl rfl) rfl rfl (fun a w' hC hs hl => by rw [show a.eval (.tmp 9) = (.pointer (some ⟨w9.heap.size, 0, none⟩) : Value) from (hs 9 (by kernel_rfl))]; exact ⟨ld_Int (K9.out.below' hC), c9.out.below hC⟩)
      · exact .call (.inl rfl) rfl rfl fn_iSign (fun a w' hC hs hl => iSign_eq (ICan.arg (hl 113 (by kernel_rfl) (by kernel_rfl)) (L_up Z1.out (by decide))) (hsg.out))
      · exact .value (.inl rfl) (by intro T e; cases e) rfl rfl (fun a w' hC hs hl => by
          have e0 : a.eval (.tmp 114) = (.int .i64 (1)) := (hl 114 (by kernel_rfl) (by kernel_rfl))
          simp only [execOp, e0]
          simp only [Act.eval]
          simp [go_sem] <;> rfl)
      · exact .move (.inl rfl) (.inl rfl) rfl (by kernel_rfl) (by kernel_rfl) rfl
      · exact .moveC (.inr ⟨3, true, 116, by decide, rfl, rfl, rfl⟩) (.inl rfl) rfl (fun a w' hC hs => (hs 12 (by kernel_rfl)))
      · exact .value (.inr ⟨3, true, 116, by decide, rfl, rfl, rfl⟩) (by intro T e; cases e) rfl rfl (fun a w' hC hs hl => by
          have e0 : a.eval (.tmp 117) = ((.int .i64 0 : Value)) := (hl 117 (by kernel_rfl) (by kernel_rfl))
          simp only [execOp, e0]
          simp only [Act.eval]
          simp [go_sem] <;> rfl)
      · exact .pick (b := true) (.inl rfl) rfl rfl (fun a w' hC hs hl => ⟨(hl 116 (by kernel_rfl) (by kernel_rfl)), (hl 118 (by kernel_rfl) (by kernel_rfl))⟩)
      · exact .move (.inl rfl) (.inl rfl) rfl (by kernel_rfl) (by kernel_rfl) rfl
      · exact .load (.agg #[.bool b8, .slice A8 n8 c8']) (.inr ⟨7, true, 120, by decide, rfl, rfl, rfl⟩) rfl rfl (fun a w' hC hs hl => by rw [show a.eval (.tmp 11) = (.pointer (some ⟨w10.heap.size, 0, none⟩) : Value) from (hs 11 (by kernel_rfl))]; exact ⟨ld_Int (K8.out.below' hC), c8.out.below hC⟩)
      · exact .load (.agg #[.bool b9, .slice A9 n9 c9']) (.inr ⟨7, true, 120, by decide, rfl, rfl, rfl⟩) rfl rfl (fun a w' hC hs hl => by rw [show a.eval (.tmp 9) = (.pointer (some ⟨w9.heap.size, 0, none⟩) : Value) from (hs 9 (by kernel_rfl))]; exact ⟨ld_Int (K9.out.below' hC), c9.out.below hC⟩)
      · exact .call (.inr ⟨7, true, 120, by decide, rfl, rfl, rfl⟩) rfl rfl fn_iNeg (fun a w' hC hs hl => iNeg_C (ICan.arg (hl 122 (by kernel_rfl) (by kernel_rfl)) (L_up Z1.out (by decide))))
      · exact .call (.inr ⟨7, true, 120, by decide, rfl, rfl, rfl⟩) rfl rfl fn_isame (fun a w' hC hs hl => isame_yes (hl 121 (by kernel_rfl) (by kernel_rfl)) (hl 123 (by kernel_rfl) (by kernel_rfl)) (rfl))
      · exact .pick (b := true) (.inl rfl) rfl rfl (fun a w' hC hs hl => ⟨(hl 120 (by kernel_rfl) (by kernel_rfl)), (hl 124 (by kernel_rfl) (by kernel_rfl))⟩)
      · exact .move (.inl rfl) (.inl rfl) rfl (by kernel_rfl) (by kernel_rfl) rfl
      · exact .skip ⟨13, true, 126, by decide, rfl, rfl, rfl⟩ (fun _ e => by cases e; exact .inl rfl)
      · exact .skip ⟨13, true, 126, by decide, rfl, rfl, rfl⟩ (fun _ e => by cases e; exact .inl rfl)
      · exact .skip ⟨13, true, 126, by decide, rfl, rfl, rfl⟩ (fun _ e => by cases e; exact .inl rfl)
      · exact .skip ⟨13, true, 126, by decide, rfl, rfl, rfl⟩ (fun _ e => by cases e; exact .inl rfl)
      · exact .skipU ⟨17, true, 130, by decide, rfl, rfl, rfl⟩ (fun _ e => by cases e; exact .inl rfl)
      · exact .skipU ⟨17, true, 130, by decide, rfl, rfl, rfl⟩ (fun _ e => by cases e; exact .inl rfl)
      · exact .skip ⟨13, true, 126, by decide, rfl, rfl, rfl⟩ (fun _ e => by cases e; exact .inl rfl)
      · exact .pick (b := true) (.inl rfl) rfl rfl (fun a w' hC hs hl => ⟨(hl 126 (by kernel_rfl) (by kernel_rfl)), rfl⟩)
      · exact .move (.inl rfl) (.inr rfl) rfl (by kernel_rfl) (by kernel_rfl) rfl
      intro f w9 hC hF _
      have f6 : f 4 = .bool true := hF 4 (by kernel_rfl)
      clear hF
      simp only [patch, List.drop]
      have B9 := hide (b0.out.trans (hC.mono b0.out.size))
      clear hC
      rw [f6]
      go_wp2
      exact opq_end hR ⟨rfl, B9⟩
    go_wp2_with fail
    refine (iParse_txt ht.out ts (Nat.not_lt.1 p0)).mono ?_
    rintro e w5 ⟨v6, rfl, d0, r6⟩
    replace K1 := hide (K1.out.below' d0)
    replace b0 := hide (below_tr b0.out d0)
    have c6 := hide (r6.can)
    clear d0
    obtain ⟨b6, A6, n6, c6', rfl⟩ := r6.slice
    clear r6
    have K6 := hide (Blk.new_at w5 (w5.heap.size) (by simp) 25 #[.bool b6, .slice A6 n6 c6'])
    have y := (Below.refl w5.heap.size w5).alloc (Nat.le_refl _) (.cells #[.bool b6, .slice A6 n6 c6'] 25)
    replace K1 := hide (K1.out.below' y)
    replace c6 := hide (c6.out.below y)
    replace b0 := hide (below_tr b0.out y)
    clear y
    have K1c0 := K1.out.at_ 0 rfl
    have K1c1 := K1.out.at_ 1 rfl
    go_wp2_with fail
    refine (iSign_eq (r := -1) (a1.out.below b0.out) (cmpI_lt hn)).mono ?_
    rintro e w6 ⟨_, rfl, d0, rfl⟩
    replace K1 := hide (K1.out.below' d0)
    replace c6 := hide (c6.out.below d0)
    replace K6 := hide (K6.out.below' d0)
    replace b0 := hide (below_tr b0.out d0)
    clear d0
    clear K1c0 K1c1
    have K1c0 := K1.out.at_ 0 rfl
    have K1c1 := K1.out.at_ 1 rfl
    go_wp2_with fail
    refine (iCheck_F (h1.out.below b0.out) i1.out l1 (by omega) true k1).mono ?_
    rintro e w7 ⟨_, rfl, d0, rfl⟩
    replace K1 := hide (K1.out.below' d0)
    replace c6 := hide (c6.out.below d0)
    replace K6 := hide (K6.out.below' d0)
    replace b0 := hide (below_tr b0.out d0)
    clear d0
    clear K1c0 K1c1
    have K6c0 := K6.out.at_ 0 rfl
    have K6c1 := K6.out.at_ 1 rfl
    have K1c0 := K1.out.at_ 0 rfl
    have K1c1 := K1.out.at_ 1 rfl
    go_wp2_with fail
    refine (isame_yes c6.out (a1'.out.below b0.out) rfl).mono ?_
    rintro e w8 ⟨_, rfl, d0, rfl⟩
    replace K1 := hide (K1.out.below' d0)
    replace c6 := hide (c6.out.below d0)
    replace K6 := hide (K6.out.below' d0)
    replace b0 := hide (below_tr b0.out d0)
    clear d0
    clear K6c0 K6c1
    clear K1c0 K1c1
    have K1c0 := K1.out.at_ 0 rfl
    have K1c1 := K1.out.at_ 1 rfl
    go_wp2_with fail
    refine (iCheck_F (h1.out.below b0.out) i1.out l1 (by omega) true k1).mono ?_
    rintro e w9 ⟨_, rfl, d0, rfl⟩
    replace K1 := hide (K1.out.below' d0)
    replace c6 := hide (c6.out.below d0)
    replace K6 := hide (K6.out.below' d0)
    replace b0 := hide (below_tr b0.out d0)
    clear d0
    clear K1c0 K1c1

    by_cases p1 : isNum (isgn (byt s)).2 = false
    case pos =>
      go_wp2_with fail
      refine (iParse_form hs (.inl p1)).mono ?_
      rintro e w10 ⟨rfl, d0⟩
      replace K1 := hide (K1.out.below' d0)
      replace c6 := hide (c6.out.below d0)
      replace K6 := hide (K6.out.below' d0)
      replace b0 := hide (below_tr b0.out d0)
      clear d0
      have K9 := hide (Blk.new_at w10 (w10.heap.size) (by simp) 25 #[.bool false, .slice none 0 0])
      have y := (Below.refl w10.heap.size w10).alloc (Nat.le_refl _) (.cells #[.bool false, .slice none 0 0] 25)
      replace K1 := hide (K1.out.below' y)
      replace c6 := hide (c6.out.below y)
      replace K6 := hide (K6.out.below' y)
      replace b0 := hide (below_tr b0.out y)
      clear y
      have K9c0 := K9.out.at_ 0 rfl
      have K9c1 := K9.out.at_ 1 rfl
      go_wp2
      exact opq_end hR ⟨rfl, b0⟩
    replace p1 : isNum (isgn (byt s)).2 = true := by simpa using p1
    by_cases p2 : 200 < (isgn (byt s)).2.length
    case pos =>
      go_wp2_with fail
      refine (iParse_limit hs p1 p2).mono ?_
      rintro e w10 ⟨rfl, d0⟩
      replace K1 := hide (K1.out.below' d0)
      replace c6 := hide (c6.out.below d0)
      replace K6 := hide (K6.out.below' d0)
      replace b0 := hide (below_tr b0.out d0)
      clear d0
      have K9 := hide (Blk.new_at w10 (w10.heap.size) (by simp) 25 #[.bool false, .slice none 0 0])
      have y := (Below.refl w10.heap.size w10).alloc (Nat.le_refl _) (.cells #[.bool false, .slice none 0 0] 25)
      replace K1 := hide (K1.out.below' y)
      replace c6 := hide (c6.out.below y)
      replace K6 := hide (K6.out.below' y)
      replace b0 := hide (below_tr b0.out y)
      clear y
      have K9c0 := K9.out.at_ 0 rfl
      have K9c1 := K9.out.at_ 1 rfl
      go_wp2
      exact opq_end hR ⟨rfl, b0⟩
    replace p2 := Nat.not_lt.1 p2
    by_cases p3 : (isgn (byt s)).1 = true ∧ num (isgn (byt s)).2 = 0
    case pos =>
      go_wp2_with fail
      refine (iParse_form hs (.inr ⟨p2, p3⟩)).mono ?_
      rintro e w10 ⟨rfl, d0⟩
      replace K1 := hide (K1.out.below' d0)
      replace c6 := hide (c6.out.below d0)
      replace K6 := hide (K6.out.below' d0)
      replace b0 := hide (below_tr b0.out d0)
      clear d0
      have K9 := hide (Blk.new_at w10 (w10.heap.size) (by simp) 25 #[.bool false, .slice none 0 0])
      have y := (Below.refl w10.heap.size w10).alloc (Nat.le_refl _) (.cells #[.bool false, .slice none 0 0] 25)
      replace K1 := hide (K1.out.below' y)
      replace c6 := hide (c6.out.below y)
      replace K6 := hide (K6.out.below' y)
      replace b0 := hide (below_tr b0.out y)
      clear y
      have K9c0 := K9.out.at_ 0 rfl
      have K9c1 := K9.out.at_ 1 rfl
      go_wp2
      exact opq_end hR ⟨rfl, b0⟩
    have hp1 := hide p1
    have hp2 := hide p2
    have hp3 := hide p3
    have E := hide (itxt_isgn p1 p3)
    clear p1 p2 p3
    obtain ⟨z, hzz⟩ : ∃ z, sgn (isgn (byt s)).1 (num (isgn (byt s)).2) = z := ⟨_, rfl⟩
    rw [hzz] at E
    replace hzz := hide hzz
    have Z1 : Hid (L z.natAbs ≤ 700) := by
      show _ ≤ _
      rw [← hzz.out, sgn_abs]
      refine L_le.2 (Nat.lt_of_lt_of_le (num_lt _ (isNum_lt hp1.out)) (Nat.le_trans (Nat.pow_le_pow_right (by decide) hp2.out) (by decide +kernel)))
    go_wp2_with fail
    refine (iParse_yes hs z hp1.out hp2.out hp3.out hzz.out).mono ?_
    rintro e w10 ⟨v9, rfl, d0, r9⟩
    replace K1 := hide (K1.out.below' d0)
    replace c6 := hide (c6.out.below d0)
    replace K6 := hide (K6.out.below' d0)
    replace b0 := hide (below_tr b0.out d0)
    have c9 := hide (r9.can)
    clear d0
    obtain ⟨b9, A9, n9, c9', rfl⟩ := r9.slice
    clear r9
    have K9 := hide (Blk.new_at w10 (w10.heap.size) (by simp) 25 #[.bool b9, .slice A9 n9 c9'])
    have y := (Below.refl w10.heap.size w10).alloc (Nat.le_refl _) (.cells #[.bool b9, .slice A9 n9 c9'] 25)
    replace K1 := hide (K1.out.below' y)
    replace c6 := hide (c6.out.below y)
    replace K6 := hide (K6.out.below' y)
    replace c9 := hide (c9.out.below y)
    replace b0 := hide (below_tr b0.out y)
    clear y
    have hs2 : (⟨#[45]⟩ ++ s : ByteArray).size ≤ 9223372036854775807 := by rw [← byt_length, byt_hyphen, List.length_cons, byt_length]; omega
    by_cases p4 : (isgn (byt s)).1 = true
    case pos =>
      have e1 := hide (isgn_true p4)
      have hsg : Hid (cmpI z 0 = -1) := by
        show _ = _
        refine cmpI_lt ?_
        have h3 := hp3.out
        rw [← hzz.out]
        rw [p4] at h3 ⊢
        simp only [true_and] at h3
        simp only [sgn, if_true]
        omega
      clear p4
      go_wp2_with fail
      refine (iParse_form hs2 (.inl (by rw [isgn_hyphen]; exact e1.out))).mono ?_
      rintro e w11 ⟨rfl, d0⟩
      replace K1 := hide (K1.out.below' d0)
      replace c6 := hide (c6.out.below d0)
      replace K6 := hide (K6.out.below' d0)
      replace c9 := hide (c9.out.below d0)
      replace K9 := hide (K9.out.below' d0)
      replace b0 := hide (below_tr b0.out d0)
      clear d0
      have K8 := hide (Blk.new_at w11 (w11.heap.size) (by simp) 25 #[.bool false, .slice none 0 0])
      have y := (Below.refl w11.heap.size w11).alloc (Nat.le_refl _) (.cells #[.bool false, .slice none 0 0] 25)
      replace K1 := hide (K1.out.below' y)
      replace c6 := hide (c6.out.below y)
      replace K6 := hide (K6.out.below' y)
      replace c9 := hide (c9.out.below y)
      replace K9 := hide (K9.out.below' y)
      replace b0 := hide (below_tr b0.out y)
      clear y
      have K9c0 := K9.out.at_ 0 rfl
      have K9c1 := K9.out.at_ 1 rfl
      go_wp2_with fail
      refine (iCheck_can c9.out (L_up Z1.out (by decide))).mono ?_
      rintro e w12 ⟨_, rfl, d0, rfl⟩
      replace K1 := hide (K1.out.below' d0)
      replace c6 := hide (c6.out.below d0)
      replace K6 := hide (K6.out.below' d0)
      replace c9 := hide (c9.out.below d0)
      replace K9 := hide (K9.out.below' d0)
      replace K8 := hide (K8.out.below' d0)
      replace b0 := hide (below_tr b0.out d0)
      clear d0
      clear K9c0 K9c1
      have K9c0 := K9.out.at_ 0 rfl
      have K9c1 := K9.out.at_ 1 rfl
      go_wp2_with fail
      refine (iText_C (ICan.arg c9.out (L_up Z1.out (by decide))) (L_up Z1.out (by decide)) s E.out.symm).mono ?_
      rintro e w13 ⟨_, rfl, d0, rfl⟩
      replace K1 := hide (K1.out.below' d0)
      replace c6 := hide (c6.out.below d0)
      replace K6 := hide (K6.out.below' d0)
      replace c9 := hide (c9.out.below d0)
      replace K9 := hide (K9.out.below' d0)
      replace K8 := hide (K8.out.below' d0)
      replace b0 := hide (below_tr b0.out d0)
      clear d0
      clear K9c0 K9c1
      go_wp2
      obtain ⟨V, hV⟩ : ∃ V, w13 = V := ⟨_, rfl⟩
      rw [hV] at K1 c6 K6 c9 K9 K8 b0 ⊢
      clear hV
      refine wp_region_facts 23 (fun w' => Below V.heap.size V w') [(113, (.int z)), (114, .eq (.int .i64 (-1))), (115, .eq (.bool false)), (116, .eq (.bool false)), (117, .eq (undef)), (118, .eq (undef)), (119, .eq (Go.Value.bool false)), (120, .eq (Go.Value.bool false)), (121, .eq (undef)), (122, .eq (undef)), (123, .eq (undef)), (124, .eq (undef)), (125, .eq (Go.Value.bool false)), (126, .eq (Go.Value.bool false)), (127, (.int z)), (128, .eq (.int .i64 (-1))), (129, .eq (.bool true)), (130, .eq (.bool true)), (131, .eq ((.int .i64 4 : Value))), (132, .eq (.bool true)), (133, .eq (.bool true)), (134, .eq (.bool true)), (4, .eq (.bool true))] [false, false, false, false, true, false, false, false, false, false, false, false, false, false, false, false, false, false, false, false, false, false, false, false, false, false, false, false, false, false, false, false, false, false, false, false, false, false, false, false, false, false, false, false, false, false, false, false, false, false, false, false, false, false, false, false, false, false, false, false, false, false, false, false, false, false, false, false, false, false, false, false, false, false, false, false, false, false, false, false, false, false, false, false, false, false, false, false, false, false, false, false, false, false, false, false, false, false, false, false, false, false, false, false, false, false, false, false, false, false, false, false, false, true, true, true, true, true, true, true, true, true, true, true, true, true, true, true, true, true, true, true, true, true, true] mixed (by kernel_rfl) (by kernel_rfl) (by kernel_rfl) (fun _ _ h hb => h.trans (hb.mono h.size)) ((Below.refl _ _).drew) ⟨?_, ?_, ?_, ?_, ?_, ?_, ?_, ?_, ?_, ?_, ?_, ?_, ?_, ?_, ?_, ?_, ?_, ?_, ?_, ?_, ?_, ?_, ?_, trivial⟩ ?_
      · exact .load (.agg #[.bool b9, .slice A9 n9 c9']) (.inl rfl) rfl rfl (fun a w' hC hs hl => by rw [show a.eval (.tmp 9) = (.pointer (some ⟨w10.heap.size, 0, none⟩) : Value) from (hs 9 (by kernel_rfl))]; exact ⟨ld_Int (K9.out.below' hC), c9.out.below hC⟩)
      · exact .call (.inl rfl) rfl rfl fn_iSign (fun a w' hC hs hl => iSign_eq (ICan.arg (hl 113 (by kernel_rfl) (by kernel_rfl)) (L_up Z1.out (by decide))) (hsg.out))
      · exact .value (.inl rfl) (by intro T e; cases e) rfl rfl (fun a w' hC hs hl => by
          have e0 : a.eval (.tmp 114) = (.int .i64 (-1)) := (hl 114 (by kernel_rfl) (by kernel_rfl))
          simp only [execOp, e0]
          simp only [Act.eval]
          simp [go_sem] <;> rfl)
      · exact .move (.inl rfl) (.inl rfl) rfl (by kernel_rfl) (by kernel_rfl) rfl
      · exact .skip ⟨3, false, 116, by decide, rfl, rfl, rfl⟩ (fun _ e => by cases e; exact .inl rfl)
      · exact .skip ⟨3, false, 116, by decide, rfl, rfl, rfl⟩ (fun _ e => by cases e; exact .inl rfl)
      · exact .pick (b := false) (.inl rfl) rfl rfl (fun a w' hC hs hl => ⟨(hl 116 (by kernel_rfl) (by kernel_rfl)), rfl⟩)
      · exact .move (.inl rfl) (.inl rfl) rfl (by kernel_rfl) (by kernel_rfl) rfl
      · exact .skip ⟨7, false, 120, by decide, rfl, rfl, rfl⟩ (fun _ e => by cases e; exact .inl rfl)
      · exact .skip ⟨7, false, 120, by decide, rfl, rfl, rfl⟩ (fun _ e => by cases e; exact .inl rfl)
      · exact .skip ⟨7, false, 120, by decide, rfl, rfl, rfl⟩ (fun _ e => by cases e; exact .inl rfl)
      · exact .skip ⟨7, false, 120, by decide, rfl, rfl, rfl⟩ (fun _ e => by cases e; exact .inl rfl)
      · exact .pick (b := false) (.inl rfl) rfl rfl (fun a w' hC hs hl => ⟨(hl 120 (by kernel_rfl) (by kernel_rfl)), rfl⟩)
      · exact .move (.inl rfl) (.inl rfl) rfl (by kernel_rfl) (by kernel_rfl) rfl
      · exact .load (.agg #[.bool b9, .slice A9 n9 c9']) (.inr ⟨13, false, 126, by decide, rfl, rfl, rfl⟩) rfl rfl (fun a w' hC hs hl => by rw [show a.eval (.tmp 9) = (.pointer (some ⟨w10.heap.size, 0, none⟩) : Value) from (hs 9 (by kernel_rfl))]; exact ⟨ld_Int (K9.out.below' hC), c9.out.below hC⟩)
      · exact .call (.inr ⟨13, false, 126, by decide, rfl, rfl, rfl⟩) rfl rfl fn_iSign (fun a w' hC hs hl => iSign_eq (ICan.arg (hl 127 (by kernel_rfl) (by kernel_rfl)) (L_up Z1.out (by decide))) (hsg.out))
      · exact .value (.inr ⟨13, false, 126, by decide, rfl, rfl, rfl⟩) (by intro T e; cases e) rfl rfl (fun a w' hC hs hl => by
          have e0 : a.eval (.tmp 128) = (.int .i64 (-1)) := (hl 128 (by kernel_rfl) (by kernel_rfl))
          simp only [execOp, e0]
          simp only [Act.eval]
          simp [go_sem] <;> rfl)
      · exact .move (.inr ⟨13, false, 126, by decide, rfl, rfl, rfl⟩) (.inl rfl) rfl (by kernel_rfl) (by kernel_rfl) rfl
      · exact .moveC (.inr ⟨17, true, 130, by decide, rfl, rfl, rfl⟩) (.inl rfl) rfl (fun a w' hC hs => (hs 12 (by kernel_rfl)))
      · exact .value (.inr ⟨17, true, 130, by decide, rfl, rfl, rfl⟩) (by intro T e; cases e) rfl rfl (fun a w' hC hs hl => by
          have e0 : a.eval (.tmp 131) = ((.int .i64 4 : Value)) := (hl 131 (by kernel_rfl) (by kernel_rfl))
          simp only [execOp, e0]
          simp only [Act.eval]
          simp [go_sem] <;> rfl)
      · exact .pick (b := true) (.inr ⟨13, false, 126, by decide, rfl, rfl, rfl⟩) rfl rfl (fun a w' hC hs hl => ⟨(hl 130 (by kernel_rfl) (by kernel_rfl)), (hl 132 (by kernel_rfl) (by kernel_rfl))⟩)
      · exact .pick (b := false) (.inl rfl) rfl rfl (fun a w' hC hs hl => ⟨(hl 126 (by kernel_rfl) (by kernel_rfl)), (hl 133 (by kernel_rfl) (by kernel_rfl))⟩)
      · exact .move (.inl rfl) (.inr rfl) rfl (by kernel_rfl) (by kernel_rfl) rfl
      intro f w9 hC hF _
      have f6 : f 4 = .bool true := hF 4 (by kernel_rfl)
      clear hF
      simp only [patch, List.drop]
      have B9 := hide (b0.out.trans (hC.mono b0.out.size))
      clear hC
      rw [f6]
      go_wp2
      exact opq_end hR ⟨rfl, B9⟩
    replace p4 : (isgn (byt s)).1 = false := by simpa using p4
    have e2 := hide (isgn_false p4)
    have hzz2 := hzz.out
    rw [p4, e2.out, sgn_f] at hzz2
    have k1' := hp1.out
    have k2' := hp2.out
    rw [e2.out] at k1' k2'
    clear p4
    by_cases p5 : num (byt s) = 0
    case pos =>
      have hsg : Hid (cmpI z 0 = 0) := by
        show _ = _
        rw [← hzz2, p5]
        exact cmpI_eq 0
      replace hzz2 := hide hzz2
      go_wp2_with fail
      refine (iParse_form hs2 (.inr (by rw [isgn_hyphen]; exact ⟨k2', rfl, p5⟩))).mono ?_
      rintro e w11 ⟨rfl, d0⟩
      replace K1 := hide (K1.out.below' d0)
      replace c6 := hide (c6.out.below d0)
      replace K6 := hide (K6.out.below' d0)
      replace c9 := hide (c9.out.below d0)
      replace K9 := hide (K9.out.below' d0)
      replace b0 := hide (below_tr b0.out d0)
      clear d0
      have K8 := hide (Blk.new_at w11 (w11.heap.size) (by simp) 25 #[.bool false, .slice none 0 0])
      have y := (Below.refl w11.heap.size w11).alloc (Nat.le_refl _) (.cells #[.bool false, .slice none 0 0] 25)
      replace K1 := hide (K1.out.below' y)
      replace c6 := hide (c6.out.below y)
      replace K6 := hide (K6.out.below' y)
      replace c9 := hide (c9.out.below y)
      replace K9 := hide (K9.out.below' y)
      replace b0 := hide (below_tr b0.out y)
      clear y
      have K9c0 := K9.out.at_ 0 rfl
      have K9c1 := K9.out.at_ 1 rfl
      go_wp2_with fail
      refine (iCheck_can c9.out (L_up Z1.out (by decide))).mono ?_
      rintro e w12 ⟨_, rfl, d0, rfl⟩
      replace K1 := hide (K1.out.below' d0)
      replace c6 := hide (c6.out.below d0)
      replace K6 := hide (K6.out.below' d0)
      replace c9 := hide (c9.out.below d0)
      replace K9 := hide (K9.out.below' d0)
      replace K8 := hide (K8.out.below' d0)
      replace b0 := hide (below_tr b0.out d0)
      clear d0
      clear K9c0 K9c1
      have K9c0 := K9.out.at_ 0 rfl
      have K9c1 := K9.out.at_ 1 rfl
      go_wp2_with fail
      refine (iText_C (ICan.arg c9.out (L_up Z1.out (by decide))) (L_up Z1.out (by decide)) s E.out.symm).mono ?_
      rintro e w13 ⟨_, rfl, d0, rfl⟩
      replace K1 := hide (K1.out.below' d0)
      replace c6 := hide (c6.out.below d0)
      replace K6 := hide (K6.out.below' d0)
      replace c9 := hide (c9.out.below d0)
      replace K9 := hide (K9.out.below' d0)
      replace K8 := hide (K8.out.below' d0)
      replace b0 := hide (below_tr b0.out d0)
      clear d0
      clear K9c0 K9c1
      go_wp2
      obtain ⟨V, hV⟩ : ∃ V, w13 = V := ⟨_, rfl⟩
      rw [hV] at K1 c6 K6 c9 K9 K8 b0 ⊢
      clear hV
      refine wp_region_facts 23 (fun w' => Below V.heap.size V w') [(113, (.int z)), (114, .eq (.int .i64 (0))), (115, .eq (.bool false)), (116, .eq (.bool false)), (117, .eq (undef)), (118, .eq (undef)), (119, .eq (Go.Value.bool false)), (120, .eq (Go.Value.bool false)), (121, .eq (undef)), (122, .eq (undef)), (123, .eq (undef)), (124, .eq (undef)), (125, .eq (Go.Value.bool false)), (126, .eq (Go.Value.bool false)), (127, (.int z)), (128, .eq (.int .i64 (0))), (129, .eq (.bool true)), (130, .eq (.bool true)), (131, .eq ((.int .i64 4 : Value))), (132, .eq (.bool true)), (133, .eq (.bool true)), (134, .eq (.bool true)), (4, .eq (.bool true))] [false, false, false, false, true, false, false, false, false, false, false, false, false, false, false, false, false, false, false, false, false, false, false, false, false, false, false, false, false, false, false, false, false, false, false, false, false, false, false, false, false, false, false, false, false, false, false, false, false, false, false, false, false, false, false, false, false, false, false, false, false, false, false, false, false, false, false, false, false, false, false, false, false, false, false, false, false, false, false, false, false, false, false, false, false, false, false, false, false, false, false, false, false, false, false, false, false, false, false, false, false, false, false, false, false, false, false, false, false, false, false, false, false, true, true, true, true, true, true, true, true, true, true, true, true, true, true, true, true, true, true, true, true, true, true] mixed (by kernel_rfl) (by kernel_rfl) (by kernel_rfl) (fun _ _ h hb => h.trans (hb.mono h.size)) ((Below.refl _ _).drew) ⟨?_, ?_, ?_, ?_, ?_, ?_, ?_, ?_, ?_, ?_, ?_, ?_, ?_, ?_, ?_, ?_, ?_, ?_, ?_, ?_, ?_, ?_, ?_, trivial⟩ ?_
      · exact .load (.agg #[.bool b9, .slice A9 n9 c9']) (.inl rfl) rfl rfl (fun a w' hC hs hl => by rw [show a.eval (.tmp 9) = (.pointer (some ⟨w10.heap.size, 0, none⟩) : Value) from (hs 9 (by kernel_rfl))]; exact ⟨ld_Int (K9.out.below' hC), c9.out.below hC⟩)
      · exact .call (.inl rfl) rfl rfl fn_iSign (fun a w' hC hs hl => iSign_eq (ICan.arg (hl 113 (by kernel_rfl) (by kernel_rfl)) (L_up Z1.out (by decide))) (hsg.out))
      · exact .value (.inl rfl) (by intro T e; cases e) rfl rfl (fun a w' hC hs hl => by
          have e0 : a.eval (.tmp 114) = (.int .i64 (0)) := (hl 114 (by kernel_rfl) (by kernel_rfl))
          simp only [execOp, e0]
          simp only [Act.eval]
          simp [go_sem] <;> rfl)
      · exact .move (.inl rfl) (.inl rfl) rfl (by kernel_rfl) (by kernel_rfl) rfl
      · exact .skip ⟨3, false, 116, by decide, rfl, rfl, rfl⟩ (fun _ e => by cases e; exact .inl rfl)
      · exact .skip ⟨3, false, 116, by decide, rfl, rfl, rfl⟩ (fun _ e => by cases e; exact .inl rfl)
      · exact .pick (b := false) (.inl rfl) rfl rfl (fun a w' hC hs hl => ⟨(hl 116 (by kernel_rfl) (by kernel_rfl)), rfl⟩)
      · exact .move (.inl rfl) (.inl rfl) rfl (by kernel_rfl) (by kernel_rfl) rfl
      · exact .skip ⟨7, false, 120, by decide, rfl, rfl, rfl⟩ (fun _ e => by cases e; exact .inl rfl)
      · exact .skip ⟨7, false, 120, by decide, rfl, rfl, rfl⟩ (fun _ e => by cases e; exact .inl rfl)
      · exact .skip ⟨7, false, 120, by decide, rfl, rfl, rfl⟩ (fun _ e => by cases e; exact .inl rfl)
      · exact .skip ⟨7, false, 120, by decide, rfl, rfl, rfl⟩ (fun _ e => by cases e; exact .inl rfl)
      · exact .pick (b := false) (.inl rfl) rfl rfl (fun a w' hC hs hl => ⟨(hl 120 (by kernel_rfl) (by kernel_rfl)), rfl⟩)
      · exact .move (.inl rfl) (.inl rfl) rfl (by kernel_rfl) (by kernel_rfl) rfl
      · exact .load (.agg #[.bool b9, .slice A9 n9 c9']) (.inr ⟨13, false, 126, by decide, rfl, rfl, rfl⟩) rfl rfl (fun a w' hC hs hl => by rw [show a.eval (.tmp 9) = (.pointer (some ⟨w10.heap.size, 0, none⟩) : Value) from (hs 9 (by kernel_rfl))]; exact ⟨ld_Int (K9.out.below' hC), c9.out.below hC⟩)
      · exact .call (.inr ⟨13, false, 126, by decide, rfl, rfl, rfl⟩) rfl rfl fn_iSign (fun a w' hC hs hl => iSign_eq (ICan.arg (hl 127 (by kernel_rfl) (by kernel_rfl)) (L_up Z1.out (by decide))) (hsg.out))
      · exact .value (.inr ⟨13, false, 126, by decide, rfl, rfl, rfl⟩) (by intro T e; cases e) rfl rfl (fun a w' hC hs hl => by
          have e0 : a.eval (.tmp 128) = (.int .i64 (0)) := (hl 128 (by kernel_rfl) (by kernel_rfl))
          simp only [execOp, e0]
          simp only [Act.eval]
          simp [go_sem] <;> rfl)
      · exact .move (.inr ⟨13, false, 126, by decide, rfl, rfl, rfl⟩) (.inl rfl) rfl (by kernel_rfl) (by kernel_rfl) rfl
      · exact .moveC (.inr ⟨17, true, 130, by decide, rfl, rfl, rfl⟩) (.inl rfl) rfl (fun a w' hC hs => (hs 12 (by kernel_rfl)))
      · exact .value (.inr ⟨17, true, 130, by decide, rfl, rfl, rfl⟩) (by intro T e; cases e) rfl rfl (fun a w' hC hs hl => by
          have e0 : a.eval (.tmp 131) = ((.int .i64 4 : Value)) := (hl 131 (by kernel_rfl) (by kernel_rfl))
          simp only [execOp, e0]
          simp only [Act.eval]
          simp [go_sem] <;> rfl)
      · exact .pick (b := true) (.inr ⟨13, false, 126, by decide, rfl, rfl, rfl⟩) rfl rfl (fun a w' hC hs hl => ⟨(hl 130 (by kernel_rfl) (by kernel_rfl)), (hl 132 (by kernel_rfl) (by kernel_rfl))⟩)
      · exact .pick (b := false) (.inl rfl) rfl rfl (fun a w' hC hs hl => ⟨(hl 126 (by kernel_rfl) (by kernel_rfl)), (hl 133 (by kernel_rfl) (by kernel_rfl))⟩)
      · exact .move (.inl rfl) (.inr rfl) rfl (by kernel_rfl) (by kernel_rfl) rfl
      intro f w9 hC hF _
      have f6 : f 4 = .bool true := hF 4 (by kernel_rfl)
      clear hF
      simp only [patch, List.drop]
      have B9 := hide (b0.out.trans (hC.mono b0.out.size))
      clear hC
      rw [f6]
      go_wp2
      exact opq_end hR ⟨rfl, B9⟩
    have hsg : Hid (cmpI z 0 = 1) := by
      show _ = _
      rw [← hzz2]
      exact cmpI_gt (by omega)
    replace hzz2 := hide hzz2
    go_wp2_with fail
    refine (iParse_yes hs2 (-z) (by rw [isgn_hyphen]; exact k1') (by rw [isgn_hyphen]; exact k2') (by rw [isgn_hyphen]; exact fun q => p5 q.2) (by rw [isgn_hyphen, ← hzz2.out]; rfl)).mono ?_
    rintro e w11 ⟨v8, rfl, d0, r8⟩
    replace K1 := hide (K1.out.below' d0)
    replace c6 := hide (c6.out.below d0)
    replace K6 := hide (K6.out.below' d0)
    replace c9 := hide (c9.out.below d0)
    replace K9 := hide (K9.out.below' d0)
    replace b0 := hide (below_tr b0.out d0)
    have c8 := hide (r8.can)
    clear d0
    obtain ⟨b8, A8, n8, c8', rfl⟩ := r8.slice
    clear r8
    have K8 := hide (Blk.new_at w11 (w11.heap.size) (by simp) 25 #[.bool b8, .slice A8 n8 c8'])
    have y := (Below.refl w11.heap.size w11).alloc (Nat.le_refl _) (.cells #[.bool b8, .slice A8 n8 c8'] 25)
    replace K1 := hide (K1.out.below' y)
    replace c6 := hide (c6.out.below y)
    replace K6 := hide (K6.out.below' y)
    replace c9 := hide (c9.out.below y)
    replace K9 := hide (K9.out.below' y)
    replace c8 := hide (c8.out.below y)
    replace b0 := hide (below_tr b0.out y)
    clear y
    have K9c0 := K9.out.at_ 0 rfl
    have K9c1 := K9.out.at_ 1 rfl
    go_wp2_with fail
    refine (iCheck_can c9.out (L_up Z1.out (by decide))).mono ?_
    rintro e w12 ⟨_, rfl, d0, rfl⟩
    replace K1 := hide (K1.out.below' d0)
    replace c6 := hide (c6.out.below d0)
    replace K6 := hide (K6.out.below' d0)
    replace c9 := hide (c9.out.below d0)
    replace K9 := hide (K9.out.below' d0)
    replace c8 := hide (c8.out.below d0)
    replace K8 := hide (K8.out.below' d0)
    replace b0 := hide (below_tr b0.out d0)
    clear d0
    clear K9c0 K9c1
    have K9c0 := K9.out.at_ 0 rfl
    have K9c1 := K9.out.at_ 1 rfl
    go_wp2_with fail
    refine (iText_C (ICan.arg c9.out (L_up Z1.out (by decide))) (L_up Z1.out (by decide)) s E.out.symm).mono ?_
    rintro e w13 ⟨_, rfl, d0, rfl⟩
    replace K1 := hide (K1.out.below' d0)
    replace c6 := hide (c6.out.below d0)
    replace K6 := hide (K6.out.below' d0)
    replace c9 := hide (c9.out.below d0)
    replace K9 := hide (K9.out.below' d0)
    replace c8 := hide (c8.out.below d0)
    replace K8 := hide (K8.out.below' d0)
    replace b0 := hide (below_tr b0.out d0)
    clear d0
    clear K9c0 K9c1
    go_wp2
    obtain ⟨V, hV⟩ : ∃ V, w13 = V := ⟨_, rfl⟩
    rw [hV] at K1 c6 K6 c9 K9 c8 K8 b0 ⊢
    clear hV
    have Q1 : Hid (L ((-z)).natAbs ≤ 700) := Z_neg Z1.out
    refine wp_region_facts 23 (fun w' => Below V.heap.size V w') [(113, (.int z)), (114, .eq (.int .i64 (1))), (115, .eq (.bool true)), (116, .eq (.bool true)), (117, .eq ((.int .i64 0 : Value))), (118, .eq (.bool true)), (119, .eq (.bool true)), (120, .eq (.bool true)), (121, (.int (-z))), (122, (.int z)), (123, (.int (-z))), (124, .eq (.bool true)), (125, .eq (.bool true)), (126, .eq (.bool true)), (127, .eq (undef)), (128, .eq (undef)), (129, .eq (undef)), (130, .eq (undef)), (131, .eq (undef)), (132, .eq (undef)), (133, .eq (undef)), (134, .eq (Go.Value.bool true)), (4, .eq (Go.Value.bool true))] [false, false, false, false, true, false, false, false, false, false, false, false, false, false, false, false, false, false, false, false, false, false, false, false, false, false, false, false, false, false, false, false, false, false, false, false, false, false, false, false, false, false, false, false, false, false, false, false, false, false, false, false, false, false, false, false, false, false, false, false, false, false, false, false, false, false, false, false, false, false, false, false, false, false, false, false, false, false, false, false, false, false, false, false, false, false, false, false, false, false, false, false, false, false, false, false, false, false, false, false, false, false, false, false, false, false, false, false, false, false, false, false, false, true, true, true, true, true, true, true, true, true, true, true, true, true, true, true, true, true, true, true, true, true, true] mixed (by kernel_rfl) (by kernel_rfl) (by kernel_rfl) (fun _ _ h hb => h.trans (hb.mono h.size)) ((Below.refl _ _).drew) ⟨?_, ?_, ?_, ?_, ?_, ?_, ?_, ?_, ?_, ?_, ?_, ?_, ?_, ?_, ?_, ?_, ?_, ?_, ?_, ?_, ?_, ?_, ?_, trivial⟩ ?_
    · exact .load (.agg #[.bool b9, .slice A9 n9 c9']) (.inl rfl) rfl rfl (fun a w' hC hs hl => by rw [show a.eval (.tmp 9) = (.pointer (some ⟨w10.heap.size, 0, none⟩) : Value) from (hs 9 (by kernel_rfl))]; exact ⟨ld_Int (K9.out.below' hC), c9.out.below hC⟩)
    · exact .call (.inl rfl) rfl rfl fn_iSign (fun a w' hC hs hl => iSign_eq (ICan.arg (hl 113 (by kernel_rfl) (by kernel_rfl)) (L_up Z1.out (by decide))) (hsg.out))
    · exact .value (.inl rfl) (by intro T e; cases e) rfl rfl (fun a w' hC hs hl => by
        have e0 : a.eval (.tmp 114) = (.int .i64 (1)) := (hl 114 (by kernel_rfl) (by kernel_rfl))
        simp only [execOp, e0]
        simp only [Act.eval]
        simp [go_sem] <;> rfl)
    · exact .move (.inl rfl) (.inl rfl) rfl (by kernel_rfl) (by kernel_rfl) rfl
    · exact .moveC (.inr ⟨3, true, 116, by decide, rfl, rfl, rfl⟩) (.inl rfl) rfl (fun a w' hC hs => (hs 12 (by kernel_rfl)))
    · exact .value (.inr ⟨3, true, 116, by decide, rfl, rfl, rfl⟩) (by intro T e; cases e) rfl rfl (fun a w' hC hs hl => by
        have e0 : a.eval (.tmp 117) = ((.int .i64 0 : Value)) := (hl 117 (by kernel_rfl) (by kernel_rfl))
        simp only [execOp, e0]
        simp only [Act.eval]
        simp [go_sem] <;> rfl)
    · exact .pick (b := true) (.inl rfl) rfl rfl (fun a w' hC hs hl => ⟨(hl 116 (by kernel_rfl) (by kernel_rfl)), (hl 118 (by kernel_rfl) (by kernel_rfl))⟩)
    · exact .move (.inl rfl) (.inl rfl) rfl (by kernel_rfl) (by kernel_rfl) rfl
    · exact .load (.agg #[.bool b8, .slice A8 n8 c8']) (.inr ⟨7, true, 120, by decide, rfl, rfl, rfl⟩) rfl rfl (fun a w' hC hs hl => by rw [show a.eval (.tmp 11) = (.pointer (some ⟨w11.heap.size, 0, none⟩) : Value) from (hs 11 (by kernel_rfl))]; exact ⟨ld_Int (K8.out.below' hC), c8.out.below hC⟩)
    · exact .load (.agg #[.bool b9, .slice A9 n9 c9']) (.inr ⟨7, true, 120, by decide, rfl, rfl, rfl⟩) rfl rfl (fun a w' hC hs hl => by rw [show a.eval (.tmp 9) = (.pointer (some ⟨w10.heap.size, 0, none⟩) : Value) from (hs 9 (by kernel_rfl))]; exact ⟨ld_Int (K9.out.below' hC), c9.out.below hC⟩)
    · exact .call (.inr ⟨7, true, 120, by decide, rfl, rfl, rfl⟩) rfl rfl fn_iNeg (fun a w' hC hs hl => iNeg_C (ICan.arg (hl 122 (by kernel_rfl) (by kernel_rfl)) (L_up Z1.out (by decide))))
    · exact .call (.inr ⟨7, true, 120, by decide, rfl, rfl, rfl⟩) rfl rfl fn_isame (fun a w' hC hs hl => isame_yes (hl 121 (by kernel_rfl) (by kernel_rfl)) (hl 123 (by kernel_rfl) (by kernel_rfl)) (rfl))
    · exact .pick (b := true) (.inl rfl) rfl rfl (fun a w' hC hs hl => ⟨(hl 120 (by kernel_rfl) (by kernel_rfl)), (hl 124 (by kernel_rfl) (by kernel_rfl))⟩)
    · exact .move (.inl rfl) (.inl rfl) rfl (by kernel_rfl) (by kernel_rfl) rfl
    · exact .skip ⟨13, true, 126, by decide, rfl, rfl, rfl⟩ (fun _ e => by cases e; exact .inl rfl)
    · exact .skip ⟨13, true, 126, by decide, rfl, rfl, rfl⟩ (fun _ e => by cases e; exact .inl rfl)
    · exact .skip ⟨13, true, 126, by decide, rfl, rfl, rfl⟩ (fun _ e => by cases e; exact .inl rfl)
    · exact .skip ⟨13, true, 126, by decide, rfl, rfl, rfl⟩ (fun _ e => by cases e; exact .inl rfl)
    · exact .skipU ⟨17, true, 130, by decide, rfl, rfl, rfl⟩ (fun _ e => by cases e; exact .inl rfl)
    · exact .skipU ⟨17, true, 130, by decide, rfl, rfl, rfl⟩ (fun _ e => by cases e; exact .inl rfl)
    · exact .skip ⟨13, true, 126, by decide, rfl, rfl, rfl⟩ (fun _ e => by cases e; exact .inl rfl)
    · exact .pick (b := true) (.inl rfl) rfl rfl (fun a w' hC hs hl => ⟨(hl 126 (by kernel_rfl) (by kernel_rfl)), rfl⟩)
    · exact .move (.inl rfl) (.inr rfl) rfl (by kernel_rfl) (by kernel_rfl) rfl
    intro f w9 hC hF _
    have f6 : f 4 = .bool true := hF 4 (by kernel_rfl)
    clear hF
    simp only [patch, List.drop]
    have B9 := hide (b0.out.trans (hC.mono b0.out.size))
    clear hC
    rw [f6]
    go_wp2
    exact opq_end hR ⟨rfl, B9⟩
  rw [if_neg hn] at hl
  by_cases p0 : 200 < (txt x.natAbs).length
  case pos =>
    go_wp2_with fail
    refine (iParse_long ht.out ts p0).mono ?_
    rintro e w5 ⟨rfl, d0⟩
    replace K1 := hide (K1.out.below' d0)
    replace b0 := hide (below_tr b0.out d0)
    clear d0
    have K6 := hide (Blk.new_at w5 (w5.heap.size) (by simp) 25 #[.bool false, .slice none 0 0])
    have y := (Below.refl w5.heap.size w5).alloc (Nat.le_refl _) (.cells #[.bool false, .slice none 0 0] 25)
    replace K1 := hide (K1.out.below' y)
    replace b0 := hide (below_tr b0.out y)
    clear y
    have K1c0 := K1.out.at_ 0 rfl
    have K1c1 := K1.out.at_ 1 rfl
    obtain ⟨sx, hsx, hsx0⟩ : ∃ r, cmpI x 0 = r ∧ ¬ r < 0 := ⟨_, rfl, by unfold cmpI; (repeat' split) <;> omega⟩
    replace hsx := hide hsx
    go_wp2_with fail
    refine (iSign_eq (r := sx) (a1.out.below b0.out) hsx.out).mono ?_
    rintro e w6 ⟨_, rfl, d0, rfl⟩
    replace K1 := hide (K1.out.below' d0)
    replace K6 := hide (K6.out.below' d0)
    replace b0 := hide (below_tr b0.out d0)
    clear d0
    clear K1c0 K1c1
    have K1c0 := K1.out.at_ 0 rfl
    have K1c1 := K1.out.at_ 1 rfl
    go_wp2_with fail
    refine (iCheck_F (h1.out.below b0.out) i1.out l1 (by omega) true k1).mono ?_
    rintro e w7 ⟨_, rfl, d0, rfl⟩
    replace K1 := hide (K1.out.below' d0)
    replace K6 := hide (K6.out.below' d0)
    replace b0 := hide (below_tr b0.out d0)
    clear d0
    clear K1c0 K1c1
    have K1c0 := K1.out.at_ 0 rfl
    have K1c1 := K1.out.at_ 1 rfl
    go_wp2_with fail
    refine (iCheck_F (h1.out.below b0.out) i1.out l1 (by omega) true k1).mono ?_
    rintro e w8 ⟨_, rfl, d0, rfl⟩
    replace K1 := hide (K1.out.below' d0)
    replace K6 := hide (K6.out.below' d0)
    replace b0 := hide (below_tr b0.out d0)
    clear d0
    clear K1c0 K1c1

    by_cases p1 : isNum (isgn (byt s)).2 = false
    case pos =>
      go_wp2_with fail
      refine (iParse_form hs (.inl p1)).mono ?_
      rintro e w9 ⟨rfl, d0⟩
      replace K1 := hide (K1.out.below' d0)
      replace K6 := hide (K6.out.below' d0)
      replace b0 := hide (below_tr b0.out d0)
      clear d0
      have K9 := hide (Blk.new_at w9 (w9.heap.size) (by simp) 25 #[.bool false, .slice none 0 0])
      have y := (Below.refl w9.heap.size w9).alloc (Nat.le_refl _) (.cells #[.bool false, .slice none 0 0] 25)
      replace K1 := hide (K1.out.below' y)
      replace K6 := hide (K6.out.below' y)
      replace b0 := hide (below_tr b0.out y)
      clear y
      have K9c0 := K9.out.at_ 0 rfl
      have K9c1 := K9.out.at_ 1 rfl
      go_wp2
      exact opq_end hR ⟨rfl, b0⟩
    replace p1 : isNum (isgn (byt s)).2 = true := by simpa using p1
    by_cases p2 : 200 < (isgn (byt s)).2.length
    case pos =>
      go_wp2_with fail
      refine (iParse_limit hs p1 p2).mono ?_
      rintro e w9 ⟨rfl, d0⟩
      replace K1 := hide (K1.out.below' d0)
      replace K6 := hide (K6.out.below' d0)
      replace b0 := hide (below_tr b0.out d0)
      clear d0
      have K9 := hide (Blk.new_at w9 (w9.heap.size) (by simp) 25 #[.bool false, .slice none 0 0])
      have y := (Below.refl w9.heap.size w9).alloc (Nat.le_refl _) (.cells #[.bool false, .slice none 0 0] 25)
      replace K1 := hide (K1.out.below' y)
      replace K6 := hide (K6.out.below' y)
      replace b0 := hide (below_tr b0.out y)
      clear y
      have K9c0 := K9.out.at_ 0 rfl
      have K9c1 := K9.out.at_ 1 rfl
      go_wp2
      exact opq_end hR ⟨rfl, b0⟩
    replace p2 := Nat.not_lt.1 p2
    by_cases p3 : (isgn (byt s)).1 = true ∧ num (isgn (byt s)).2 = 0
    case pos =>
      go_wp2_with fail
      refine (iParse_form hs (.inr ⟨p2, p3⟩)).mono ?_
      rintro e w9 ⟨rfl, d0⟩
      replace K1 := hide (K1.out.below' d0)
      replace K6 := hide (K6.out.below' d0)
      replace b0 := hide (below_tr b0.out d0)
      clear d0
      have K9 := hide (Blk.new_at w9 (w9.heap.size) (by simp) 25 #[.bool false, .slice none 0 0])
      have y := (Below.refl w9.heap.size w9).alloc (Nat.le_refl _) (.cells #[.bool false, .slice none 0 0] 25)
      replace K1 := hide (K1.out.below' y)
      replace K6 := hide (K6.out.below' y)
      replace b0 := hide (below_tr b0.out y)
      clear y
      have K9c0 := K9.out.at_ 0 rfl
      have K9c1 := K9.out.at_ 1 rfl
      go_wp2
      exact opq_end hR ⟨rfl, b0⟩
    have hp1 := hide p1
    have hp2 := hide p2
    have hp3 := hide p3
    have E := hide (itxt_isgn p1 p3)
    clear p1 p2 p3
    obtain ⟨z, hzz⟩ : ∃ z, sgn (isgn (byt s)).1 (num (isgn (byt s)).2) = z := ⟨_, rfl⟩
    rw [hzz] at E
    replace hzz := hide hzz
    have Z1 : Hid (L z.natAbs ≤ 700) := by
      show _ ≤ _
      rw [← hzz.out, sgn_abs]
      refine L_le.2 (Nat.lt_of_lt_of_le (num_lt _ (isNum_lt hp1.out)) (Nat.le_trans (Nat.pow_le_pow_right (by decide) hp2.out) (by decide +kernel)))
    go_wp2_with fail
    refine (iParse_yes hs z hp1.out hp2.out hp3.out hzz.out).mono ?_
    rintro e w9 ⟨v9, rfl, d0, r9⟩
    replace K1 := hide (K1.out.below' d0)
    replace K6 := hide (K6.out.below' d0)
    replace b0 := hide (below_tr b0.out d0)
    have c9 := hide (r9.can)
    clear d0
    obtain ⟨b9, A9, n9, c9', rfl⟩ := r9.slice
    clear r9
    have K9 := hide (Blk.new_at w9 (w9.heap.size) (by simp) 25 #[.bool b9, .slice A9 n9 c9'])
    have y := (Below.refl w9.heap.size w9).alloc (Nat.le_refl _) (.cells #[.bool b9, .slice A9 n9 c9'] 25)
    replace K1 := hide (K1.out.below' y)
    replace K6 := hide (K6.out.below' y)
    replace c9 := hide (c9.out.below y)
    replace b0 := hide (below_tr b0.out y)
    clear y
    have hs2 : (⟨#[45]⟩ ++ s : ByteArray).size ≤ 9223372036854775807 := by rw [← byt_length, byt_hyphen, List.length_cons, byt_length]; omega
    by_cases p4 : (isgn (byt s)).1 = true
    case pos =>
      have e1 := hide (isgn_true p4)
      have hsg : Hid (cmpI z 0 = -1) := by
        show _ = _
        refine cmpI_lt ?_
        have h3 := hp3.out
        rw [← hzz.out]
        rw [p4] at h3 ⊢
        simp only [true_and] at h3
        simp only [sgn, if_true]
        omega
      clear p4
      go_wp2_with fail
      refine (iParse_form hs2 (.inl (by rw [isgn_hyphen]; exact e1.out))).mono ?_
      rintro e w10 ⟨rfl, d0⟩
      replace K1 := hide (K1.out.below' d0)
      replace K6 := hide (K6.out.below' d0)
      replace c9 := hide (c9.out.below d0)
      replace K9 := hide (K9.out.below' d0)
      replace b0 := hide (below_tr b0.out d0)
      clear d0
      have K8 := hide (Blk.new_at w10 (w10.heap.size) (by simp) 25 #[.bool false, .slice none 0 0])
      have y := (Below.refl w10.heap.size w10).alloc (Nat.le_refl _) (.cells #[.bool false, .slice none 0 0] 25)
      replace K1 := hide (K1.out.below' y)
      replace K6 := hide (K6.out.below' y)
      replace c9 := hide (c9.out.below y)
      replace K9 := hide (K9.out.below' y)
      replace b0 := hide (below_tr b0.out y)
      clear y
      have K9c0 := K9.out.at_ 0 rfl
      have K9c1 := K9.out.at_ 1 rfl
      go_wp2_with fail
      refine (iCheck_can c9.out (L_up Z1.out (by decide))).mono ?_
      rintro e w11 ⟨_, rfl, d0, rfl⟩
      replace K1 := hide (K1.out.below' d0)
      replace K6 := hide (K6.out.below' d0)
      replace c9 := hide (c9.out.below d0)
      replace K9 := hide (K9.out.below' d0)
      replace K8 := hide (K8.out.below' d0)
      replace b0 := hide (below_tr b0.out d0)
      clear d0
      clear K9c0 K9c1
      have K9c0 := K9.out.at_ 0 rfl
      have K9c1 := K9.out.at_ 1 rfl
      go_wp2_with fail
      refine (iText_C (ICan.arg c9.out (L_up Z1.out (by decide))) (L_up Z1.out (by decide)) s E.out.symm).mono ?_
      rintro e w12 ⟨_, rfl, d0, rfl⟩
      replace K1 := hide (K1.out.below' d0)
      replace K6 := hide (K6.out.below' d0)
      replace c9 := hide (c9.out.below d0)
      replace K9 := hide (K9.out.below' d0)
      replace K8 := hide (K8.out.below' d0)
      replace b0 := hide (below_tr b0.out d0)
      clear d0
      clear K9c0 K9c1
      go_wp2
      obtain ⟨V, hV⟩ : ∃ V, w12 = V := ⟨_, rfl⟩
      rw [hV] at K1 K6 c9 K9 K8 b0 ⊢
      clear hV
      refine wp_region_facts 23 (fun w' => Below V.heap.size V w') [(113, (.int z)), (114, .eq (.int .i64 (-1))), (115, .eq (.bool false)), (116, .eq (.bool false)), (117, .eq (undef)), (118, .eq (undef)), (119, .eq (Go.Value.bool false)), (120, .eq (Go.Value.bool false)), (121, .eq (undef)), (122, .eq (undef)), (123, .eq (undef)), (124, .eq (undef)), (125, .eq (Go.Value.bool false)), (126, .eq (Go.Value.bool false)), (127, (.int z)), (128, .eq (.int .i64 (-1))), (129, .eq (.bool true)), (130, .eq (.bool true)), (131, .eq ((.int .i64 4 : Value))), (132, .eq (.bool true)), (133, .eq (.bool true)), (134, .eq (.bool true)), (4, .eq (.bool true))] [false, false, false, false, true, false, false, false, false, false, false, false, false, false, false, false, false, false, false, false, false, false, false, false, false, false, false, false, false, false, false, false, false, false, false, false, false, false, false, false, false, false, false, false, false, false, false, false, false, false, false, false, false, false, false, false, false, false, false, false, false, false, false, false, false, false, false, false, false, false, false, false, false, false, false, false, false, false, false, false, false, false, false, false, false, false, false, false, false, false, false, false, false, false, false, false, false, false, false, false, false, false, false, false, false, false, false, false, false, false, false, false, false, true, true, true, true, true, true, true, true, true, true, true, true, true, true, true, true, true, true, true, true, true, true] mixed (by kernel_rfl) (by kernel_rfl) (by kernel_rfl) (fun _ _ h hb => h.trans (hb.mono h.size)) ((Below.refl _ _).drew) ⟨?_, ?_, ?_, ?_, ?_, ?_, ?_, ?_, ?_, ?_, ?_, ?_, ?_, ?_, ?_, ?_, ?_, ?_, ?_, ?_, ?_, ?_, ?_, trivial⟩ ?_
      · exact .load (.agg #[.bool b9, .slice A9 n9 c9']) (.inl rfl) rfl rfl (fun a w' hC hs hl => by rw [show a.eval (.tmp 9) = (.pointer (some ⟨w9.heap.size, 0, none⟩) : Value) from (hs 9 (by kernel_rfl))]; exact ⟨ld_Int (K9.out.below' hC), c9.out.below hC⟩)
      · exact .call (.inl rfl) rfl rfl fn_iSign (fun a w' hC hs hl => iSign_eq (ICan.arg (hl 113 (by kernel_rfl) (by kernel_rfl)) (L_up Z1.out (by decide))) (hsg.out))
      · exact .value (.inl rfl) (by intro T e; cases e) rfl rfl (fun a w' hC hs hl => by
          have e0 : a.eval (.tmp 114) = (.int .i64 (-1)) := (hl 114 (by kernel_rfl) (by kernel_rfl))
          simp only [execOp, e0]
          simp only [Act.eval]
          simp [go_sem] <;> rfl)
      · exact .move (.inl rfl) (.inl rfl) rfl (by kernel_rfl) (by kernel_rfl) rfl
      · exact .skip ⟨3, false, 116, by decide, rfl, rfl, rfl⟩ (fun _ e => by cases e; exact .inl rfl)
      · exact .skip ⟨3, false, 116, by decide, rfl, rfl, rfl⟩ (fun _ e => by cases e; exact .inl rfl)
      · exact .pick (b := false) (.inl rfl) rfl rfl (fun a w' hC hs hl => ⟨(hl 116 (by kernel_rfl) (by kernel_rfl)), rfl⟩)
      · exact .move (.inl rfl) (.inl rfl) rfl (by kernel_rfl) (by kernel_rfl) rfl
      · exact .skip ⟨7, false, 120, by decide, rfl, rfl, rfl⟩ (fun _ e => by cases e; exact .inl rfl)
      · exact .skip ⟨7, false, 120, by decide, rfl, rfl, rfl⟩ (fun _ e => by cases e; exact .inl rfl)
      · exact .skip ⟨7, false, 120, by decide, rfl, rfl, rfl⟩ (fun _ e => by cases e; exact .inl rfl)
      · exact .skip ⟨7, false, 120, by decide, rfl, rfl, rfl⟩ (fun _ e => by cases e; exact .inl rfl)
      · exact .pick (b := false) (.inl rfl) rfl rfl (fun a w' hC hs hl => ⟨(hl 120 (by kernel_rfl) (by kernel_rfl)), rfl⟩)
      · exact .move (.inl rfl) (.inl rfl) rfl (by kernel_rfl) (by kernel_rfl) rfl
      · exact .load (.agg #[.bool b9, .slice A9 n9 c9']) (.inr ⟨13, false, 126, by decide, rfl, rfl, rfl⟩) rfl rfl (fun a w' hC hs hl => by rw [show a.eval (.tmp 9) = (.pointer (some ⟨w9.heap.size, 0, none⟩) : Value) from (hs 9 (by kernel_rfl))]; exact ⟨ld_Int (K9.out.below' hC), c9.out.below hC⟩)
      · exact .call (.inr ⟨13, false, 126, by decide, rfl, rfl, rfl⟩) rfl rfl fn_iSign (fun a w' hC hs hl => iSign_eq (ICan.arg (hl 127 (by kernel_rfl) (by kernel_rfl)) (L_up Z1.out (by decide))) (hsg.out))
      · exact .value (.inr ⟨13, false, 126, by decide, rfl, rfl, rfl⟩) (by intro T e; cases e) rfl rfl (fun a w' hC hs hl => by
          have e0 : a.eval (.tmp 128) = (.int .i64 (-1)) := (hl 128 (by kernel_rfl) (by kernel_rfl))
          simp only [execOp, e0]
          simp only [Act.eval]
          simp [go_sem] <;> rfl)
      · exact .move (.inr ⟨13, false, 126, by decide, rfl, rfl, rfl⟩) (.inl rfl) rfl (by kernel_rfl) (by kernel_rfl) rfl
      · exact .moveC (.inr ⟨17, true, 130, by decide, rfl, rfl, rfl⟩) (.inl rfl) rfl (fun a w' hC hs => (hs 12 (by kernel_rfl)))
      · exact .value (.inr ⟨17, true, 130, by decide, rfl, rfl, rfl⟩) (by intro T e; cases e) rfl rfl (fun a w' hC hs hl => by
          have e0 : a.eval (.tmp 131) = ((.int .i64 4 : Value)) := (hl 131 (by kernel_rfl) (by kernel_rfl))
          simp only [execOp, e0]
          simp only [Act.eval]
          simp [go_sem] <;> rfl)
      · exact .pick (b := true) (.inr ⟨13, false, 126, by decide, rfl, rfl, rfl⟩) rfl rfl (fun a w' hC hs hl => ⟨(hl 130 (by kernel_rfl) (by kernel_rfl)), (hl 132 (by kernel_rfl) (by kernel_rfl))⟩)
      · exact .pick (b := false) (.inl rfl) rfl rfl (fun a w' hC hs hl => ⟨(hl 126 (by kernel_rfl) (by kernel_rfl)), (hl 133 (by kernel_rfl) (by kernel_rfl))⟩)
      · exact .move (.inl rfl) (.inr rfl) rfl (by kernel_rfl) (by kernel_rfl) rfl
      intro f w9 hC hF _
      have f6 : f 4 = .bool true := hF 4 (by kernel_rfl)
      clear hF
      simp only [patch, List.drop]
      have B9 := hide (b0.out.trans (hC.mono b0.out.size))
      clear hC
      rw [f6]
      go_wp2
      exact opq_end hR ⟨rfl, B9⟩
    replace p4 : (isgn (byt s)).1 = false := by simpa using p4
    have e2 := hide (isgn_false p4)
    have hzz2 := hzz.out
    rw [p4, e2.out, sgn_f] at hzz2
    have k1' := hp1.out
    have k2' := hp2.out
    rw [e2.out] at k1' k2'
    clear p4
    by_cases p5 : num (byt s) = 0
    case pos =>
      have hsg : Hid (cmpI z 0 = 0) := by
        show _ = _
        rw [← hzz2, p5]
        exact cmpI_eq 0
      replace hzz2 := hide hzz2
      go_wp2_with fail
      refine (iParse_form hs2 (.inr (by rw [isgn_hyphen]; exact ⟨k2', rfl, p5⟩))).mono ?_
      rintro e w10 ⟨rfl, d0⟩
      replace K1 := hide (K1.out.below' d0)
      replace K6 := hide (K6.out.below' d0)
      replace c9 := hide (c9.out.below d0)
      replace K9 := hide (K9.out.below' d0)
      replace b0 := hide (below_tr b0.out d0)
      clear d0
      have K8 := hide (Blk.new_at w10 (w10.heap.size) (by simp) 25 #[.bool false, .slice none 0 0])
      have y := (Below.refl w10.heap.size w10).alloc (Nat.le_refl _) (.cells #[.bool false, .slice none 0 0] 25)
      replace K1 := hide (K1.out.below' y)
      replace K6 := hide (K6.out.below' y)
      replace c9 := hide (c9.out.below y)
      replace K9 := hide (K9.out.below' y)
      replace b0 := hide (below_tr b0.out y)
      clear y
      have K9c0 := K9.out.at_ 0 rfl
      have K9c1 := K9.out.at_ 1 rfl
      go_wp2_with fail
      refine (iCheck_can c9.out (L_up Z1.out (by decide))).mono ?_
      rintro e w11 ⟨_, rfl, d0, rfl⟩
      replace K1 := hide (K1.out.below' d0)
      replace K6 := hide (K6.out.below' d0)
      replace c9 := hide (c9.out.below d0)
      replace K9 := hide (K9.out.below' d0)
      replace K8 := hide (K8.out.below' d0)
      replace b0 := hide (below_tr b0.out d0)
      clear d0
      clear K9c0 K9c1
      have K9c0 := K9.out.at_ 0 rfl
      have K9c1 := K9.out.at_ 1 rfl
      go_wp2_with fail
      refine (iText_C (ICan.arg c9.out (L_up Z1.out (by decide))) (L_up Z1.out (by decide)) s E.out.symm).mono ?_
      rintro e w12 ⟨_, rfl, d0, rfl⟩
      replace K1 := hide (K1.out.below' d0)
      replace K6 := hide (K6.out.below' d0)
      replace c9 := hide (c9.out.below d0)
      replace K9 := hide (K9.out.below' d0)
      replace K8 := hide (K8.out.below' d0)
      replace b0 := hide (below_tr b0.out d0)
      clear d0
      clear K9c0 K9c1
      go_wp2
      obtain ⟨V, hV⟩ : ∃ V, w12 = V := ⟨_, rfl⟩
      rw [hV] at K1 K6 c9 K9 K8 b0 ⊢
      clear hV
      refine wp_region_facts 23 (fun w' => Below V.heap.size V w') [(113, (.int z)), (114, .eq (.int .i64 (0))), (115, .eq (.bool false)), (116, .eq (.bool false)), (117, .eq (undef)), (118, .eq (undef)), (119, .eq (Go.Value.bool false)), (120, .eq (Go.Value.bool false)), (121, .eq (undef)), (122, .eq (undef)), (123, .eq (undef)), (124, .eq (undef)), (125, .eq (Go.Value.bool false)), (126, .eq (Go.Value.bool false)), (127, (.int z)), (128, .eq (.int .i64 (0))), (129, .eq (.bool true)), (130, .eq (.bool true)), (131, .eq ((.int .i64 4 : Value))), (132, .eq (.bool true)), (133, .eq (.bool true)), (134, .eq (.bool true)), (4, .eq (.bool true))] [false, false, false, false, true, false, false, false, false, false, false, false, false, false, false, false, false, false, false, false, false, false, false, false, false, false, false, false, false, false, false, false, false, false, false, false, false, false, false, false, false, false, false, false, false, false, false, false, false, false, false, false, false, false, false, false, false, false, false, false, false, false, false, false, false, false, false, false, false, false, false, false, false, false, false, false, false, false, false, false, false, false, false, false, false, false, false, false, false, false, false, false, false, false, false, false, false, false, false, false, false, false, false, false, false, false, false, false, false, false, false, false, false, true, true, true, true, true, true, true, true, true, true, true, true, true, true, true, true, true, true, true, true, true, true] mixed (by kernel_rfl) (by kernel_rfl) (by kernel_rfl) (fun _ _ h hb => h.trans (hb.mono h.size)) ((Below.refl _ _).drew) ⟨?_, ?_, ?_, ?_, ?_, ?_, ?_, ?_, ?_, ?_, ?_, ?_, ?_, ?_, ?_, ?_, ?_, ?_, ?_, ?_, ?_, ?_, ?_, trivial⟩ ?_
      · exact .load (.agg #[.bool b9, .slice A9 n9 c9']) (.inl rfl) rfl rfl (fun a w' hC hs hl => by rw [show a.eval (.tmp 9) = (.pointer (some ⟨w9.heap.size, 0, none⟩) : Value) from (hs 9 (by kernel_rfl))]; exact ⟨ld_Int (K9.out.below' hC), c9.out.below hC⟩)
      · exact .call (.inl rfl) rfl rfl fn_iSign (fun a w' hC hs hl => iSign_eq (ICan.arg (hl 113 (by kernel_rfl) (by kernel_rfl)) (L_up Z1.out (by decide))) (hsg.out))
      · exact .value (.inl rfl) (by intro T e; cases e) rfl rfl (fun a w' hC hs hl => by
          have e0 : a.eval (.tmp 114) = (.int .i64 (0)) := (hl 114 (by kernel_rfl) (by kernel_rfl))
          simp only [execOp, e0]
          simp only [Act.eval]
          simp [go_sem] <;> rfl)
      · exact .move (.inl rfl) (.inl rfl) rfl (by kernel_rfl) (by kernel_rfl) rfl
      · exact .skip ⟨3, false, 116, by decide, rfl, rfl, rfl⟩ (fun _ e => by cases e; exact .inl rfl)
      · exact .skip ⟨3, false, 116, by decide, rfl, rfl, rfl⟩ (fun _ e => by cases e; exact .inl rfl)
      · exact .pick (b := false) (.inl rfl) rfl rfl (fun a w' hC hs hl => ⟨(hl 116 (by kernel_rfl) (by kernel_rfl)), rfl⟩)
      · exact .move (.inl rfl) (.inl rfl) rfl (by kernel_rfl) (by kernel_rfl) rfl
      · exact .skip ⟨7, false, 120, by decide, rfl, rfl, rfl⟩ (fun _ e => by cases e; exact .inl rfl)
      · exact .skip ⟨7, false, 120, by decide, rfl, rfl, rfl⟩ (fun _ e => by cases e; exact .inl rfl)
      · exact .skip ⟨7, false, 120, by decide, rfl, rfl, rfl⟩ (fun _ e => by cases e; exact .inl rfl)
      · exact .skip ⟨7, false, 120, by decide, rfl, rfl, rfl⟩ (fun _ e => by cases e; exact .inl rfl)
      · exact .pick (b := false) (.inl rfl) rfl rfl (fun a w' hC hs hl => ⟨(hl 120 (by kernel_rfl) (by kernel_rfl)), rfl⟩)
      · exact .move (.inl rfl) (.inl rfl) rfl (by kernel_rfl) (by kernel_rfl) rfl
      · exact .load (.agg #[.bool b9, .slice A9 n9 c9']) (.inr ⟨13, false, 126, by decide, rfl, rfl, rfl⟩) rfl rfl (fun a w' hC hs hl => by rw [show a.eval (.tmp 9) = (.pointer (some ⟨w9.heap.size, 0, none⟩) : Value) from (hs 9 (by kernel_rfl))]; exact ⟨ld_Int (K9.out.below' hC), c9.out.below hC⟩)
      · exact .call (.inr ⟨13, false, 126, by decide, rfl, rfl, rfl⟩) rfl rfl fn_iSign (fun a w' hC hs hl => iSign_eq (ICan.arg (hl 127 (by kernel_rfl) (by kernel_rfl)) (L_up Z1.out (by decide))) (hsg.out))
      · exact .value (.inr ⟨13, false, 126, by decide, rfl, rfl, rfl⟩) (by intro T e; cases e) rfl rfl (fun a w' hC hs hl => by
          have e0 : a.eval (.tmp 128) = (.int .i64 (0)) := (hl 128 (by kernel_rfl) (by kernel_rfl))
          simp only [execOp, e0]
          simp only [Act.eval]
          simp [go_sem] <;> rfl)
      · exact .move (.inr ⟨13, false, 126, by decide, rfl, rfl, rfl⟩) (.inl rfl) rfl (by kernel_rfl) (by kernel_rfl) rfl
      · exact .moveC (.inr ⟨17, true, 130, by decide, rfl, rfl, rfl⟩) (.inl rfl) rfl (fun a w' hC hs => (hs 12 (by kernel_rfl)))
      · exact .value (.inr ⟨17, true, 130, by decide, rfl, rfl, rfl⟩) (by intro T e; cases e) rfl rfl (fun a w' hC hs hl => by
          have e0 : a.eval (.tmp 131) = ((.int .i64 4 : Value)) := (hl 131 (by kernel_rfl) (by kernel_rfl))
          simp only [execOp, e0]
          simp only [Act.eval]
          simp [go_sem] <;> rfl)
      · exact .pick (b := true) (.inr ⟨13, false, 126, by decide, rfl, rfl, rfl⟩) rfl rfl (fun a w' hC hs hl => ⟨(hl 130 (by kernel_rfl) (by kernel_rfl)), (hl 132 (by kernel_rfl) (by kernel_rfl))⟩)
      · exact .pick (b := false) (.inl rfl) rfl rfl (fun a w' hC hs hl => ⟨(hl 126 (by kernel_rfl) (by kernel_rfl)), (hl 133 (by kernel_rfl) (by kernel_rfl))⟩)
      · exact .move (.inl rfl) (.inr rfl) rfl (by kernel_rfl) (by kernel_rfl) rfl
      intro f w9 hC hF _
      have f6 : f 4 = .bool true := hF 4 (by kernel_rfl)
      clear hF
      simp only [patch, List.drop]
      have B9 := hide (b0.out.trans (hC.mono b0.out.size))
      clear hC
      rw [f6]
      go_wp2
      exact opq_end hR ⟨rfl, B9⟩
    have hsg : Hid (cmpI z 0 = 1) := by
      show _ = _
      rw [← hzz2]
      exact cmpI_gt (by omega)
    replace hzz2 := hide hzz2
    go_wp2_with fail
    refine (iParse_yes hs2 (-z) (by rw [isgn_hyphen]; exact k1') (by rw [isgn_hyphen]; exact k2') (by rw [isgn_hyphen]; exact fun q => p5 q.2) (by rw [isgn_hyphen, ← hzz2.out]; rfl)).mono ?_
    rintro e w10 ⟨v8, rfl, d0, r8⟩
    replace K1 := hide (K1.out.below' d0)
    replace K6 := hide (K6.out.below' d0)
    replace c9 := hide (c9.out.below d0)
    replace K9 := hide (K9.out.below' d0)
    replace b0 := hide (below_tr b0.out d0)
    have c8 := hide (r8.can)
    clear d0
    obtain ⟨b8, A8, n8, c8', rfl⟩ := r8.slice
    clear r8
    have K8 := hide (Blk.new_at w10 (w10.heap.size) (by simp) 25 #[.bool b8, .slice A8 n8 c8'])
    have y := (Below.refl w10.heap.size w10).alloc (Nat.le_refl _) (.cells #[.bool b8, .slice A8 n8 c8'] 25)
    replace K1 := hide (K1.out.below' y)
    replace K6 := hide (K6.out.below' y)
    replace c9 := hide (c9.out.below y)
    replace K9 := hide (K9.out.below' y)
    replace c8 := hide (c8.out.below y)
    replace b0 := hide (below_tr b0.out y)
    clear y
    have K9c0 := K9.out.at_ 0 rfl
    have K9c1 := K9.out.at_ 1 rfl
    go_wp2_with fail
    refine (iCheck_can c9.out (L_up Z1.out (by decide))).mono ?_
    rintro e w11 ⟨_, rfl, d0, rfl⟩
    replace K1 := hide (K1.out.below' d0)
    replace K6 := hide (K6.out.below' d0)
    replace c9 := hide (c9.out.below d0)
    replace K9 := hide (K9.out.below' d0)
    replace c8 := hide (c8.out.below d0)
    replace K8 := hide (K8.out.below' d0)
    replace b0 := hide (below_tr b0.out d0)
    clear d0
    clear K9c0 K9c1
    have K9c0 := K9.out.at_ 0 rfl
    have K9c1 := K9.out.at_ 1 rfl
    go_wp2_with fail
    refine (iText_C (ICan.arg c9.out (L_up Z1.out (by decide))) (L_up Z1.out (by decide)) s E.out.symm).mono ?_
    rintro e w12 ⟨_, rfl, d0, rfl⟩
    replace K1 := hide (K1.out.below' d0)
    replace K6 := hide (K6.out.below' d0)
    replace c9 := hide (c9.out.below d0)
    replace K9 := hide (K9.out.below' d0)
    replace c8 := hide (c8.out.below d0)
    replace K8 := hide (K8.out.below' d0)
    replace b0 := hide (below_tr b0.out d0)
    clear d0
    clear K9c0 K9c1
    go_wp2
    obtain ⟨V, hV⟩ : ∃ V, w12 = V := ⟨_, rfl⟩
    rw [hV] at K1 K6 c9 K9 c8 K8 b0 ⊢
    clear hV
    have Q1 : Hid (L ((-z)).natAbs ≤ 700) := Z_neg Z1.out
    refine wp_region_facts 23 (fun w' => Below V.heap.size V w') [(113, (.int z)), (114, .eq (.int .i64 (1))), (115, .eq (.bool true)), (116, .eq (.bool true)), (117, .eq ((.int .i64 0 : Value))), (118, .eq (.bool true)), (119, .eq (.bool true)), (120, .eq (.bool true)), (121, (.int (-z))), (122, (.int z)), (123, (.int (-z))), (124, .eq (.bool true)), (125, .eq (.bool true)), (126, .eq (.bool true)), (127, .eq (undef)), (128, .eq (undef)), (129, .eq (undef)), (130, .eq (undef)), (131, .eq (undef)), (132, .eq (undef)), (133, .eq (undef)), (134, .eq (Go.Value.bool true)), (4, .eq (Go.Value.bool true))] [false, false, false, false, true, false, false, false, false, false, false, false, false, false, false, false, false, false, false, false, false, false, false, false, false, false, false, false, false, false, false, false, false, false, false, false, false, false, false, false, false, false, false, false, false, false, false, false, false, false, false, false, false, false, false, false, false, false, false, false, false, false, false, false, false, false, false, false, false, false, false, false, false, false, false, false, false, false, false, false, false, false, false, false, false, false, false, false, false, false, false, false, false, false, false, false, false, false, false, false, false, false, false, false, false, false, false, false, false, false, false, false, false, true, true, true, true, true, true, true, true, true, true, true, true, true, true, true, true, true, true, true, true, true, true] mixed (by kernel_rfl) (by kernel_rfl) (by kernel_rfl) (fun _ _ h hb => h.trans (hb.mono h.size)) ((Below.refl _ _).drew) ⟨?_, ?_, ?_, ?_, ?_, ?_, ?_, ?_, ?_, ?_, ?_, ?_, ?_, ?_, ?_, ?_, ?_, ?_, ?_, ?_, ?_, ?_, ?_, trivial⟩ ?_
    · exact .load (.agg #[.bool b9, .slice A9 n9 c9']) (.inl rfl) rfl rfl (fun a w' hC hs hl => by rw [show a.eval (.tmp 9) = (.pointer (some ⟨w9.heap.size, 0, none⟩) : Value) from (hs 9 (by kernel_rfl))]; exact ⟨ld_Int (K9.out.below' hC), c9.out.below hC⟩)
    · exact .call (.inl rfl) rfl rfl fn_iSign (fun a w' hC hs hl => iSign_eq (ICan.arg (hl 113 (by kernel_rfl) (by kernel_rfl)) (L_up Z1.out (by decide))) (hsg.out))
    · exact .value (.inl rfl) (by intro T e; cases e) rfl rfl (fun a w' hC hs hl => by
        have e0 : a.eval (.tmp 114) = (.int .i64 (1)) := (hl 114 (by kernel_rfl) (by kernel_rfl))
        simp only [execOp, e0]
        simp only [Act.eval]
        simp [go_sem] <;> rfl)
    · exact .move (.inl rfl) (.inl rfl) rfl (by kernel_rfl) (by kernel_rfl) rfl
    · exact .moveC (.inr ⟨3, true, 116, by decide, rfl, rfl, rfl⟩) (.inl rfl) rfl (fun a w' hC hs => (hs 12 (by kernel_rfl)))
    · exact .value (.inr ⟨3, true, 116, by decide, rfl, rfl, rfl⟩) (by intro T e; cases e) rfl rfl (fun a w' hC hs hl => by
        have e0 : a.eval (.tmp 117) = ((.int .i64 0 : Value)) := (hl 117 (by kernel_rfl) (by kernel_rfl))
        simp only [execOp, e0]
        simp only [Act.eval]
        simp [go_sem] <;> rfl)
    · exact .pick (b := true) (.inl rfl) rfl rfl (fun a w' hC hs hl => ⟨(hl 116 (by kernel_rfl) (by kernel_rfl)), (hl 118 (by kernel_rfl) (by kernel_rfl))⟩)
    · exact .move (.inl rfl) (.inl rfl) rfl (by kernel_rfl) (by kernel_rfl) rfl
    · exact .load (.agg #[.bool b8, .slice A8 n8 c8']) (.inr ⟨7, true, 120, by decide, rfl, rfl, rfl⟩) rfl rfl (fun a w' hC hs hl => by rw [show a.eval (.tmp 11) = (.pointer (some ⟨w10.heap.size, 0, none⟩) : Value) from (hs 11 (by kernel_rfl))]; exact ⟨ld_Int (K8.out.below' hC), c8.out.below hC⟩)
    · exact .load (.agg #[.bool b9, .slice A9 n9 c9']) (.inr ⟨7, true, 120, by decide, rfl, rfl, rfl⟩) rfl rfl (fun a w' hC hs hl => by rw [show a.eval (.tmp 9) = (.pointer (some ⟨w9.heap.size, 0, none⟩) : Value) from (hs 9 (by kernel_rfl))]; exact ⟨ld_Int (K9.out.below' hC), c9.out.below hC⟩)
    · exact .call (.inr ⟨7, true, 120, by decide, rfl, rfl, rfl⟩) rfl rfl fn_iNeg (fun a w' hC hs hl => iNeg_C (ICan.arg (hl 122 (by kernel_rfl) (by kernel_rfl)) (L_up Z1.out (by decide))))
    · exact .call (.inr ⟨7, true, 120, by decide, rfl, rfl, rfl⟩) rfl rfl fn_isame (fun a w' hC hs hl => isame_yes (hl 121 (by kernel_rfl) (by kernel_rfl)) (hl 123 (by kernel_rfl) (by kernel_rfl)) (rfl))
    · exact .pick (b := true) (.inl rfl) rfl rfl (fun a w' hC hs hl => ⟨(hl 120 (by kernel_rfl) (by kernel_rfl)), (hl 124 (by kernel_rfl) (by kernel_rfl))⟩)
    · exact .move (.inl rfl) (.inl rfl) rfl (by kernel_rfl) (by kernel_rfl) rfl
    · exact .skip ⟨13, true, 126, by decide, rfl, rfl, rfl⟩ (fun _ e => by cases e; exact .inl rfl)
    · exact .skip ⟨13, true, 126, by decide, rfl, rfl, rfl⟩ (fun _ e => by cases e; exact .inl rfl)
    · exact .skip ⟨13, true, 126, by decide, rfl, rfl, rfl⟩ (fun _ e => by cases e; exact .inl rfl)
    · exact .skip ⟨13, true, 126, by decide, rfl, rfl, rfl⟩ (fun _ e => by cases e; exact .inl rfl)
    · exact .skipU ⟨17, true, 130, by decide, rfl, rfl, rfl⟩ (fun _ e => by cases e; exact .inl rfl)
    · exact .skipU ⟨17, true, 130, by decide, rfl, rfl, rfl⟩ (fun _ e => by cases e; exact .inl rfl)
    · exact .skip ⟨13, true, 126, by decide, rfl, rfl, rfl⟩ (fun _ e => by cases e; exact .inl rfl)
    · exact .pick (b := true) (.inl rfl) rfl rfl (fun a w' hC hs hl => ⟨(hl 126 (by kernel_rfl) (by kernel_rfl)), rfl⟩)
    · exact .move (.inl rfl) (.inr rfl) rfl (by kernel_rfl) (by kernel_rfl) rfl
    intro f w9 hC hF _
    have f6 : f 4 = .bool true := hF 4 (by kernel_rfl)
    clear hF
    simp only [patch, List.drop]
    have B9 := hide (b0.out.trans (hC.mono b0.out.size))
    clear hC
    rw [f6]
    go_wp2
    exact opq_end hR ⟨rfl, B9⟩
  go_wp2_with fail
  refine (iParse_txt ht.out ts (Nat.not_lt.1 p0)).mono ?_
  rintro e w5 ⟨v6, rfl, d0, r6⟩
  replace K1 := hide (K1.out.below' d0)
  replace b0 := hide (below_tr b0.out d0)
  have c6 := hide (r6.can)
  clear d0
  obtain ⟨b6, A6, n6, c6', rfl⟩ := r6.slice
  clear r6
  have K6 := hide (Blk.new_at w5 (w5.heap.size) (by simp) 25 #[.bool b6, .slice A6 n6 c6'])
  have y := (Below.refl w5.heap.size w5).alloc (Nat.le_refl _) (.cells #[.bool b6, .slice A6 n6 c6'] 25)
  replace K1 := hide (K1.out.below' y)
  replace c6 := hide (c6.out.below y)
  replace b0 := hide (below_tr b0.out y)
  clear y
  have K1c0 := K1.out.at_ 0 rfl
  have K1c1 := K1.out.at_ 1 rfl
  obtain ⟨sx, hsx, hsx0⟩ : ∃ r, cmpI x 0 = r ∧ ¬ r < 0 := ⟨_, rfl, by unfold cmpI; (repeat' split) <;> omega⟩
  replace hsx := hide hsx
  go_wp2_with fail
  refine (iSign_eq (r := sx) (a1.out.below b0.out) hsx.out).mono ?_
  rintro e w6 ⟨_, rfl, d0, rfl⟩
  replace K1 := hide (K1.out.below' d0)
  replace c6 := hide (c6.out.below d0)
  replace K6 := hide (K6.out.below' d0)
  replace b0 := hide (below_tr b0.out d0)
  clear d0
  clear K1c0 K1c1
  have K1c0 := K1.out.at_ 0 rfl
  have K1c1 := K1.out.at_ 1 rfl
  go_wp2_with fail
  refine (iCheck_F (h1.out.below b0.out) i1.out l1 (by omega) true k1).mono ?_
  rintro e w7 ⟨_, rfl, d0, rfl⟩
  replace K1 := hide (K1.out.below' d0)
  replace c6 := hide (c6.out.below d0)
  replace K6 := hide (K6.out.below' d0)
  replace b0 := hide (below_tr b0.out d0)
  clear d0
  clear K1c0 K1c1
  have K6c0 := K6.out.at_ 0 rfl
  have K6c1 := K6.out.at_ 1 rfl
  have K1c0 := K1.out.at_ 0 rfl
  have K1c1 := K1.out.at_ 1 rfl
  go_wp2_with fail
  refine (isame_yes c6.out (a1'.out.below b0.out) rfl).mono ?_
  rintro e w8 ⟨_, rfl, d0, rfl⟩
  replace K1 := hide (K1.out.below' d0)
  replace c6 := hide (c6.out.below d0)
  replace K6 := hide (K6.out.below' d0)
  replace b0 := hide (below_tr b0.out d0)
  clear d0
  clear K6c0 K6c1
  clear K1c0 K1c1
  have K1c0 := K1.out.at_ 0 rfl
  have K1c1 := K1.out.at_ 1 rfl
  go_wp2_with fail
  refine (iCheck_F (h1.out.below b0.out) i1.out l1 (by omega) true k1).mono ?_
  rintro e w9 ⟨_, rfl, d0, rfl⟩
  replace K1 := hide (K1.out.below' d0)
  replace c6 := hide (c6.out.below d0)
  replace K6 := hide (K6.out.below' d0)
  replace b0 := hide (below_tr b0.out d0)
  clear d0
  clear K1c0 K1c1

  by_cases p1 : isNum (isgn (byt s)).2 = false
  case pos =>
    go_wp2_with fail
    refine (iParse_form hs (.inl p1)).mono ?_
    rintro e w10 ⟨rfl, d0⟩
    replace K1 := hide (K1.out.below' d0)
    replace c6 := hide (c6.out.below d0)
    replace K6 := hide (K6.out.below' d0)
    replace b0 := hide (below_tr b0.out d0)
    clear d0
    have K9 := hide (Blk.new_at w10 (w10.heap.size) (by simp) 25 #[.bool false, .slice none 0 0])
    have y := (Below.refl w10.heap.size w10).alloc (Nat.le_refl _) (.cells #[.bool false, .slice none 0 0] 25)
    replace K1 := hide (K1.out.below' y)
    replace c6 := hide (c6.out.below y)
    replace K6 := hide (K6.out.below' y)
    replace b0 := hide (below_tr b0.out y)
    clear y
    have K9c0 := K9.out.at_ 0 rfl
    have K9c1 := K9.out.at_ 1 rfl
    go_wp2
    exact opq_end hR ⟨rfl, b0⟩
  replace p1 : isNum (isgn (byt s)).2 = true := by simpa using p1
  by_cases p2 : 200 < (isgn (byt s)).2.length
  case pos =>
    go_wp2_with fail
    refine (iParse_limit hs p1 p2).mono ?_
    rintro e w10 ⟨rfl, d0⟩
    replace K1 := hide (K1.out.below' d0)
    replace c6 := hide (c6.out.below d0)
    replace K6 := hide (K6.out.below' d0)
    replace b0 := hide (below_tr b0.out d0)
    clear d0
    have K9 := hide (Blk.new_at w10 (w10.heap.size) (by simp) 25 #[.bool false, .slice none 0 0])
    have y := (Below.refl w10.heap.size w10).alloc (Nat.le_refl _) (.cells #[.bool false, .slice none 0 0] 25)
    replace K1 := hide (K1.out.below' y)
    replace c6 := hide (c6.out.below y)
    replace K6 := hide (K6.out.below' y)
    replace b0 := hide (below_tr b0.out y)
    clear y
    have K9c0 := K9.out.at_ 0 rfl
    have K9c1 := K9.out.at_ 1 rfl
    go_wp2
    exact opq_end hR ⟨rfl, b0⟩
  replace p2 := Nat.not_lt.1 p2
  by_cases p3 : (isgn (byt s)).1 = true ∧ num (isgn (byt s)).2 = 0
  case pos =>
    go_wp2_with fail
    refine (iParse_form hs (.inr ⟨p2, p3⟩)).mono ?_
    rintro e w10 ⟨rfl, d0⟩
    replace K1 := hide (K1.out.below' d0)
    replace c6 := hide (c6.out.below d0)
    replace K6 := hide (K6.out.below' d0)
    replace b0 := hide (below_tr b0.out d0)
    clear d0
    have K9 := hide (Blk.new_at w10 (w10.heap.size) (by simp) 25 #[.bool false, .slice none 0 0])
    have y := (Below.refl w10.heap.size w10).alloc (Nat.le_refl _) (.cells #[.bool false, .slice none 0 0] 25)
    replace K1 := hide (K1.out.below' y)
    replace c6 := hide (c6.out.below y)
    replace K6 := hide (K6.out.below' y)
    replace b0 := hide (below_tr b0.out y)
    clear y
    have K9c0 := K9.out.at_ 0 rfl
    have K9c1 := K9.out.at_ 1 rfl
    go_wp2
    exact opq_end hR ⟨rfl, b0⟩
  have hp1 := hide p1
  have hp2 := hide p2
  have hp3 := hide p3
  have E := hide (itxt_isgn p1 p3)
  clear p1 p2 p3
  obtain ⟨z, hzz⟩ : ∃ z, sgn (isgn (byt s)).1 (num (isgn (byt s)).2) = z := ⟨_, rfl⟩
  rw [hzz] at E
  replace hzz := hide hzz
  have Z1 : Hid (L z.natAbs ≤ 700) := by
    show _ ≤ _
    rw [← hzz.out, sgn_abs]
    refine L_le.2 (Nat.lt_of_lt_of_le (num_lt _ (isNum_lt hp1.out)) (Nat.le_trans (Nat.pow_le_pow_right (by decide) hp2.out) (by decide +kernel)))
  go_wp2_with fail
  refine (iParse_yes hs z hp1.out hp2.out hp3.out hzz.out).mono ?_
  rintro e w10 ⟨v9, rfl, d0, r9⟩
  replace K1 := hide (K1.out.below' d0)
  replace c6 := hide (c6.out.below d0)
  replace K6 := hide (K6.out.below' d0)
  replace b0 := hide (below_tr b0.out d0)
  have c9 := hide (r9.can)
  clear d0
  obtain ⟨b9, A9, n9, c9', rfl⟩ := r9.slice
  clear r9
  have K9 := hide (Blk.new_at w10 (w10.heap.size) (by simp) 25 #[.bool b9, .slice A9 n9 c9'])
  have y := (Below.refl w10.heap.size w10).alloc (Nat.le_refl _) (.cells #[.bool b9, .slice A9 n9 c9'] 25)
  replace K1 := hide (K1.out.below' y)
  replace c6 := hide (c6.out.below y)
  replace K6 := hide (K6.out.below' y)
  replace c9 := hide (c9.out.below y)
  replace b0 := hide (below_tr b0.out y)
  clear y
  have hs2 : (⟨#[45]⟩ ++ s : ByteArray).size ≤ 9223372036854775807 := by rw [← byt_length, byt_hyphen, List.length_cons, byt_length]; omega
  by_cases p4 : (isgn (byt s)).1 = true
  case pos =>
    have e1 := hide (isgn_true p4)
    have hsg : Hid (cmpI z 0 = -1) := by
      show _ = _
      refine cmpI_lt ?_
      have h3 := hp3.out
      rw [← hzz.out]
      rw [p4] at h3 ⊢
      simp only [true_and] at h3
      simp only [sgn, if_true]
      omega
    clear p4
    go_wp2_with fail
    refine (iParse_form hs2 (.inl (by rw [isgn_hyphen]; exact e1.out))).mono ?_
    rintro e w11 ⟨rfl, d0⟩
    replace K1 := hide (K1.out.below' d0)
    replace c6 := hide (c6.out.below d0)
    replace K6 := hide (K6.out.below' d0)
    replace c9 := hide (c9.out.below d0)
    replace K9 := hide (K9.out.below' d0)
    replace b0 := hide (below_tr b0.out d0)
    clear d0
    have K8 := hide (Blk.new_at w11 (w11.heap.size) (by simp) 25 #[.bool false, .slice none 0 0])
    have y := (Below.refl w11.heap.size w11).alloc (Nat.le_refl _) (.cells #[.bool false, .slice none 0 0] 25)
    replace K1 := hide (K1.out.below' y)
    replace c6 := hide (c6.out.below y)
    replace K6 := hide (K6.out.below' y)
    replace c9 := hide (c9.out.below y)
    replace K9 := hide (K9.out.below' y)
    replace b0 := hide (below_tr b0.out y)
    clear y
    have K9c0 := K9.out.at_ 0 rfl
    have K9c1 := K9.out.at_ 1 rfl
    go_wp2_with fail
    refine (iCheck_can c9.out (L_up Z1.out (by decide))).mono ?_
    rintro e w12 ⟨_, rfl, d0, rfl⟩
    replace K1 := hide (K1.out.below' d0)
    replace c6 := hide (c6.out.below d0)
    replace K6 := hide (K6.out.below' d0)
    replace c9 := hide (c9.out.below d0)
    replace K9 := hide (K9.out.below' d0)
    replace K8 := hide (K8.out.below' d0)
    replace b0 := hide (below_tr b0.out d0)
    clear d0
    clear K9c0 K9c1
    have K9c0 := K9.out.at_ 0 rfl
    have K9c1 := K9.out.at_ 1 rfl
    go_wp2_with fail
    refine (iText_C (ICan.arg c9.out (L_up Z1.out (by decide))) (L_up Z1.out (by decide)) s E.out.symm).mono ?_
    rintro e w13 ⟨_, rfl, d0, rfl⟩
    replace K1 := hide (K1.out.below' d0)
    replace c6 := hide (c6.out.below d0)
    replace K6 := hide (K6.out.below' d0)
    replace c9 := hide (c9.out.below d0)
    replace K9 := hide (K9.out.below' d0)
    replace K8 := hide (K8.out.below' d0)
    replace b0 := hide (below_tr b0.out d0)
    clear d0
    clear K9c0 K9c1
    go_wp2
    obtain ⟨V, hV⟩ : ∃ V, w13 = V := ⟨_, rfl⟩
    rw [hV] at K1 c6 K6 c9 K9 K8 b0 ⊢
    clear hV
    refine wp_region_facts 23 (fun w' => Below V.heap.size V w') [(113, (.int z)), (114, .eq (.int .i64 (-1))), (115, .eq (.bool false)), (116, .eq (.bool false)), (117, .eq (undef)), (118, .eq (undef)), (119, .eq (Go.Value.bool false)), (120, .eq (Go.Value.bool false)), (121, .eq (undef)), (122, .eq (undef)), (123, .eq (undef)), (124, .eq (undef)), (125, .eq (Go.Value.bool false)), (126, .eq (Go.Value.bool false)), (127, (.int z)), (128, .eq (.int .i64 (-1))), (129, .eq (.bool true)), (130, .eq (.bool true)), (131, .eq ((.int .i64 4 : Value))), (132, .eq (.bool true)), (133, .eq (.bool true)), (134, .eq (.bool true)), (4, .eq (.bool true))] [false, false, false, false, true, false, false, false, false, false, false, false, false, false, false, false, false, false, false, false, false, false, false, false, false, false, false, false, false, false, false, false, false, false, false, false, false, false, false, false, false, false, false, false, false, false, false, false, false, false, false, false, false, false, false, false, false, false, false, false, false, false, false, false, false, false, false, false, false, false, false, false, false, false, false, false, false, false, false, false, false, false, false, false, false, false, false, false, false, false, false, false, false, false, false, false, false, false, false, false, false, false, false, false, false, false, false, false, false, false, false, false, false, true, true, true, true, true, true, true, true, true, true, true, true, true, true, true, true, true, true, true, true, true, true] mixed (by kernel_rfl) (by kernel_rfl) (by kernel_rfl) (fun _ _ h hb => h.trans (hb.mono h.size)) ((Below.refl _ _).drew) ⟨?_, ?_, ?_, ?_, ?_, ?_, ?_, ?_, ?_, ?_, ?_, ?_, ?_, ?_, ?_, ?_, ?_, ?_, ?_, ?_, ?_, ?_, ?_, trivial⟩ ?_
    · exact .load (.agg #[.bool b9, .slice A9 n9 c9']) (.inl rfl) rfl rfl (fun a w' hC hs hl => by rw [show a.eval (.tmp 9) = (.pointer (some ⟨w10.heap.size, 0, none⟩) : Value) from (hs 9 (by kernel_rfl))]; exact ⟨ld_Int (K9.out.below' hC), c9.out.below hC⟩)
    · exact .call (.inl rfl) rfl rfl fn_iSign (fun a w' hC hs hl => iSign_eq (ICan.arg (hl 113 (by kernel_rfl) (by kernel_rfl)) (L_up Z1.out (by decide))) (hsg.out))
    · exact .value (.inl rfl) (by intro T e; cases e) rfl rfl (fun a w' hC hs hl => by
        have e0 : a.eval (.tmp 114) = (.int .i64 (-1)) := (hl 114 (by kernel_rfl) (by kernel_rfl))
        simp only [execOp, e0]
        simp only [Act.eval]
        simp [go_sem] <;> rfl)
    · exact .move (.inl rfl) (.inl rfl) rfl (by kernel_rfl) (by kernel_rfl) rfl
    · exact .skip ⟨3, false, 116, by decide, rfl, rfl, rfl⟩ (fun _ e => by cases e; exact .inl rfl)
    · exact .skip ⟨3, false, 116, by decide, rfl, rfl, rfl⟩ (fun _ e => by cases e; exact .inl rfl)
    · exact .pick (b := false) (.inl rfl) rfl rfl (fun a w' hC hs hl => ⟨(hl 116 (by kernel_rfl) (by kernel_rfl)), rfl⟩)
    · exact .move (.inl rfl) (.inl rfl) rfl (by kernel_rfl) (by kernel_rfl) rfl
    · exact .skip ⟨7, false, 120, by decide, rfl, rfl, rfl⟩ (fun _ e => by cases e; exact .inl rfl)
    · exact .skip ⟨7, false, 120, by decide, rfl, rfl, rfl⟩ (fun _ e => by cases e; exact .inl rfl)
    · exact .skip ⟨7, false, 120, by decide, rfl, rfl, rfl⟩ (fun _ e => by cases e; exact .inl rfl)
    · exact .skip ⟨7, false, 120, by decide, rfl, rfl, rfl⟩ (fun _ e => by cases e; exact .inl rfl)
    · exact .pick (b := false) (.inl rfl) rfl rfl (fun a w' hC hs hl => ⟨(hl 120 (by kernel_rfl) (by kernel_rfl)), rfl⟩)
    · exact .move (.inl rfl) (.inl rfl) rfl (by kernel_rfl) (by kernel_rfl) rfl
    · exact .load (.agg #[.bool b9, .slice A9 n9 c9']) (.inr ⟨13, false, 126, by decide, rfl, rfl, rfl⟩) rfl rfl (fun a w' hC hs hl => by rw [show a.eval (.tmp 9) = (.pointer (some ⟨w10.heap.size, 0, none⟩) : Value) from (hs 9 (by kernel_rfl))]; exact ⟨ld_Int (K9.out.below' hC), c9.out.below hC⟩)
    · exact .call (.inr ⟨13, false, 126, by decide, rfl, rfl, rfl⟩) rfl rfl fn_iSign (fun a w' hC hs hl => iSign_eq (ICan.arg (hl 127 (by kernel_rfl) (by kernel_rfl)) (L_up Z1.out (by decide))) (hsg.out))
    · exact .value (.inr ⟨13, false, 126, by decide, rfl, rfl, rfl⟩) (by intro T e; cases e) rfl rfl (fun a w' hC hs hl => by
        have e0 : a.eval (.tmp 128) = (.int .i64 (-1)) := (hl 128 (by kernel_rfl) (by kernel_rfl))
        simp only [execOp, e0]
        simp only [Act.eval]
        simp [go_sem] <;> rfl)
    · exact .move (.inr ⟨13, false, 126, by decide, rfl, rfl, rfl⟩) (.inl rfl) rfl (by kernel_rfl) (by kernel_rfl) rfl
    · exact .moveC (.inr ⟨17, true, 130, by decide, rfl, rfl, rfl⟩) (.inl rfl) rfl (fun a w' hC hs => (hs 12 (by kernel_rfl)))
    · exact .value (.inr ⟨17, true, 130, by decide, rfl, rfl, rfl⟩) (by intro T e; cases e) rfl rfl (fun a w' hC hs hl => by
        have e0 : a.eval (.tmp 131) = ((.int .i64 4 : Value)) := (hl 131 (by kernel_rfl) (by kernel_rfl))
        simp only [execOp, e0]
        simp only [Act.eval]
        simp [go_sem] <;> rfl)
    · exact .pick (b := true) (.inr ⟨13, false, 126, by decide, rfl, rfl, rfl⟩) rfl rfl (fun a w' hC hs hl => ⟨(hl 130 (by kernel_rfl) (by kernel_rfl)), (hl 132 (by kernel_rfl) (by kernel_rfl))⟩)
    · exact .pick (b := false) (.inl rfl) rfl rfl (fun a w' hC hs hl => ⟨(hl 126 (by kernel_rfl) (by kernel_rfl)), (hl 133 (by kernel_rfl) (by kernel_rfl))⟩)
    · exact .move (.inl rfl) (.inr rfl) rfl (by kernel_rfl) (by kernel_rfl) rfl
    intro f w9 hC hF _
    have f6 : f 4 = .bool true := hF 4 (by kernel_rfl)
    clear hF
    simp only [patch, List.drop]
    have B9 := hide (b0.out.trans (hC.mono b0.out.size))
    clear hC
    rw [f6]
    go_wp2
    exact opq_end hR ⟨rfl, B9⟩
  replace p4 : (isgn (byt s)).1 = false := by simpa using p4
  have e2 := hide (isgn_false p4)
  have hzz2 := hzz.out
  rw [p4, e2.out, sgn_f] at hzz2
  have k1' := hp1.out
  have k2' := hp2.out
  rw [e2.out] at k1' k2'
  clear p4
  by_cases p5 : num (byt s) = 0
  case pos =>
    have hsg : Hid (cmpI z 0 = 0) := by
      show _ = _
      rw [← hzz2, p5]
      exact cmpI_eq 0
    replace hzz2 := hide hzz2
    go_wp2_with fail
    refine (iParse_form hs2 (.inr (by rw [isgn_hyphen]; exact ⟨k2', rfl, p5⟩))).mono ?_
    rintro e w11 ⟨rfl, d0⟩
    replace K1 := hide (K1.out.below' d0)
    replace c6 := hide (c6.out.below d0)
    replace K6 := hide (K6.out.below' d0)
    replace c9 := hide (c9.out.below d0)
    replace K9 := hide (K9.out.below' d0)
    replace b0 := hide (below_tr b0.out d0)
    clear d0
    have K8 := hide (Blk.new_at w11 (w11.heap.size) (by simp) 25 #[.bool false, .slice none 0 0])
    have y := (Below.refl w11.heap.size w11).alloc (Nat.le_refl _) (.cells #[.bool false, .slice none 0 0] 25)
    replace K1 := hide (K1.out.below' y)
    replace c6 := hide (c6.out.below y)
    replace K6 := hide (K6.out.below' y)
    replace c9 := hide (c9.out.below y)
    replace K9 := hide (K9.out.below' y)
    replace b0 := hide (below_tr b0.out y)
    clear y
    have K9c0 := K9.out.at_ 0 rfl
    have K9c1 := K9.out.at_ 1 rfl
    go_wp2_with fail
    refine (iCheck_can c9.out (L_up Z1.out (by decide))).mono ?_
    rintro e w12 ⟨_, rfl, d0, rfl⟩
    replace K1 := hide (K1.out.below' d0)
    replace c6 := hide (c6.out.below d0)
    replace K6 := hide (K6.out.below' d0)
    replace c9 := hide (c9.out.below d0)
    replace K9 := hide (K9.out.below' d0)
    replace K8 := hide (K8.out.below' d0)
    replace b0 := hide (below_tr b0.out d0)
    clear d0
    clear K9c0 K9c1
    have K9c0 := K9.out.at_ 0 rfl
    have K9c1 := K9.out.at_ 1 rfl
    go_wp2_with fail
    refine (iText_C (ICan.arg c9.out (L_up Z1.out (by decide))) (L_up Z1.out (by decide)) s E.out.symm).mono ?_
    rintro e w13 ⟨_, rfl, d0, rfl⟩
    replace K1 := hide (K1.out.below' d0)
    replace c6 := hide (c6.out.below d0)
    replace K6 := hide (K6.out.below' d0)
    replace c9 := hide (c9.out.below d0)
    replace K9 := hide (K9.out.below' d0)
    replace K8 := hide (K8.out.below' d0)
    replace b0 := hide (below_tr b0.out d0)
    clear d0
    clear K9c0 K9c1
    go_wp2
    obtain ⟨V, hV⟩ : ∃ V, w13 = V := ⟨_, rfl⟩
    rw [hV] at K1 c6 K6 c9 K9 K8 b0 ⊢
    clear hV
    refine wp_region_facts 23 (fun w' => Below V.heap.size V w') [(113, (.int z)), (114, .eq (.int .i64 (0))), (115, .eq (.bool false)), (116, .eq (.bool false)), (117, .eq (undef)), (118, .eq (undef)), (119, .eq (Go.Value.bool false)), (120, .eq (Go.Value.bool false)), (121, .eq (undef)), (122, .eq (undef)), (123, .eq (undef)), (124, .eq (undef)), (125, .eq (Go.Value.bool false)), (126, .eq (Go.Value.bool false)), (127, (.int z)), (128, .eq (.int .i64 (0))), (129, .eq (.bool true)), (130, .eq (.bool true)), (131, .eq ((.int .i64 4 : Value))), (132, .eq (.bool true)), (133, .eq (.bool true)), (134, .eq (.bool true)), (4, .eq (.bool true))] [false, false, false, false, true, false, false, false, false, false, false, false, false, false, false, false, false, false, false, false, false, false, false, false, false, false, false, false, false, false, false, false, false, false, false, false, false, false, false, false, false, false, false, false, false, false, false, false, false, false, false, false, false, false, false, false, false, false, false, false, false, false, false, false, false, false, false, false, false, false, false, false, false, false, false, false, false, false, false, false, false, false, false, false, false, false, false, false, false, false, false, false, false, false, false, false, false, false, false, false, false, false, false, false, false, false, false, false, false, false, false, false, false, true, true, true, true, true, true, true, true, true, true, true, true, true, true, true, true, true, true, true, true, true, true] mixed (by kernel_rfl) (by kernel_rfl) (by kernel_rfl) (fun _ _ h hb => h.trans (hb.mono h.size)) ((Below.refl _ _).drew) ⟨?_, ?_, ?_, ?_, ?_, ?_, ?_, ?_, ?_, ?_, ?_, ?_, ?_, ?_, ?_, ?_, ?_, ?_, ?_, ?_, ?_, ?_, ?_, trivial⟩ ?_
    · exact .load (.agg #[.bool b9, .slice A9 n9 c9']) (.inl rfl) rfl rfl (fun a w' hC hs hl => by rw [show a.eval (.tmp 9) = (.pointer (some ⟨w10.heap.size, 0, none⟩) : Value) from (hs 9 (by kernel_rfl))]; exact ⟨ld_Int (K9.out.below' hC), c9.out.below hC⟩)
    · exact .call (.inl rfl) rfl rfl fn_iSign (fun a w' hC hs hl => iSign_eq (ICan.arg (hl 113 (by kernel_rfl) (by kernel_rfl)) (L_up Z1.out (by decide))) (hsg.out))
    · exact .value (.inl rfl) (by intro T e; cases e) rfl rfl (fun a w' hC hs hl => by
        have e0 : a.eval (.tmp 114) = (.int .i64 (0)) := (hl 114 (by kernel_rfl) (by kernel_rfl))
        simp only [execOp, e0]
        simp only [Act.eval]
        simp [go_sem] <;> rfl)
    · exact .move (.inl rfl) (.inl rfl) rfl (by kernel_rfl) (by kernel_rfl) rfl
    · exact .skip ⟨3, false, 116, by decide, rfl, rfl, rfl⟩ (fun _ e => by cases e; exact .inl rfl)
    · exact .skip ⟨3, false, 116, by decide, rfl, rfl, rfl⟩ (fun _ e => by cases e; exact .inl rfl)
    · exact .pick (b := false) (.inl rfl) rfl rfl (fun a w' hC hs hl => ⟨(hl 116 (by kernel_rfl) (by kernel_rfl)), rfl⟩)
    · exact .move (.inl rfl) (.inl rfl) rfl (by kernel_rfl) (by kernel_rfl) rfl
    · exact .skip ⟨7, false, 120, by decide, rfl, rfl, rfl⟩ (fun _ e => by cases e; exact .inl rfl)
    · exact .skip ⟨7, false, 120, by decide, rfl, rfl, rfl⟩ (fun _ e => by cases e; exact .inl rfl)
    · exact .skip ⟨7, false, 120, by decide, rfl, rfl, rfl⟩ (fun _ e => by cases e; exact .inl rfl)
    · exact .skip ⟨7, false, 120, by decide, rfl, rfl, rfl⟩ (fun _ e => by cases e; exact .inl rfl)
    · exact .pick (b := false) (.inl rfl) rfl rfl (fun a w' hC hs hl => ⟨(hl 120 (by kernel_rfl) (by kernel_rfl)), rfl⟩)
    · exact .move (.inl rfl) (.inl rfl) rfl (by kernel_rfl) (by kernel_rfl) rfl
    · exact .load (.agg #[.bool b9, .slice A9 n9 c9']) (.inr ⟨13, false, 126, by decide, rfl, rfl, rfl⟩) rfl rfl (fun a w' hC hs hl => by rw [show a.eval (.tmp 9) = (.pointer (some ⟨w10.heap.size, 0, none⟩) : Value) from (hs 9 (by kernel_rfl))]; exact ⟨ld_Int (K9.out.below' hC), c9.out.below hC⟩)
    · exact .call (.inr ⟨13, false, 126, by decide, rfl, rfl, rfl⟩) rfl rfl fn_iSign (fun a w' hC hs hl => iSign_eq (ICan.arg (hl 127 (by kernel_rfl) (by kernel_rfl)) (L_up Z1.out (by decide))) (hsg.out))
    · exact .value (.inr ⟨13, false, 126, by decide, rfl, rfl, rfl⟩) (by intro T e; cases e) rfl rfl (fun a w' hC hs hl => by
        have e0 : a.eval (.tmp 128) = (.int .i64 (0)) := (hl 128 (by kernel_rfl) (by kernel_rfl))
        simp only [execOp, e0]
        simp only [Act.eval]
        simp [go_sem] <;> rfl)
    · exact .move (.inr ⟨13, false, 126, by decide, rfl, rfl, rfl⟩) (.inl rfl) rfl (by kernel_rfl) (by kernel_rfl) rfl
    · exact .moveC (.inr ⟨17, true, 130, by decide, rfl, rfl, rfl⟩) (.inl rfl) rfl (fun a w' hC hs => (hs 12 (by kernel_rfl)))
    · exact .value (.inr ⟨17, true, 130, by decide, rfl, rfl, rfl⟩) (by intro T e; cases e) rfl rfl (fun a w' hC hs hl => by
        have e0 : a.eval (.tmp 131) = ((.int .i64 4 : Value)) := (hl 131 (by kernel_rfl) (by kernel_rfl))
        simp only [execOp, e0]
        simp only [Act.eval]
        simp [go_sem] <;> rfl)
    · exact .pick (b := true) (.inr ⟨13, false, 126, by decide, rfl, rfl, rfl⟩) rfl rfl (fun a w' hC hs hl => ⟨(hl 130 (by kernel_rfl) (by kernel_rfl)), (hl 132 (by kernel_rfl) (by kernel_rfl))⟩)
    · exact .pick (b := false) (.inl rfl) rfl rfl (fun a w' hC hs hl => ⟨(hl 126 (by kernel_rfl) (by kernel_rfl)), (hl 133 (by kernel_rfl) (by kernel_rfl))⟩)
    · exact .move (.inl rfl) (.inr rfl) rfl (by kernel_rfl) (by kernel_rfl) rfl
    intro f w9 hC hF _
    have f6 : f 4 = .bool true := hF 4 (by kernel_rfl)
    clear hF
    simp only [patch, List.drop]
    have B9 := hide (b0.out.trans (hC.mono b0.out.size))
    clear hC
    rw [f6]
    go_wp2
    exact opq_end hR ⟨rfl, B9⟩
  have hsg : Hid (cmpI z 0 = 1) := by
    show _ = _
    rw [← hzz2]
    exact cmpI_gt (by omega)
  replace hzz2 := hide hzz2
  go_wp2_with fail
  refine (iParse_yes hs2 (-z) (by rw [isgn_hyphen]; exact k1') (by rw [isgn_hyphen]; exact k2') (by rw [isgn_hyphen]; exact fun q => p5 q.2) (by rw [isgn_hyphen, ← hzz2.out]; rfl)).mono ?_
  rintro e w11 ⟨v8, rfl, d0, r8⟩
  replace K1 := hide (K1.out.below' d0)
  replace c6 := hide (c6.out.below d0)
  replace K6 := hide (K6.out.below' d0)
  replace c9 := hide (c9.out.below d0)
  replace K9 := hide (K9.out.below' d0)
  replace b0 := hide (below_tr b0.out d0)
  have c8 := hide (r8.can)
  clear d0
  obtain ⟨b8, A8, n8, c8', rfl⟩ := r8.slice
  clear r8
  have K8 := hide (Blk.new_at w11 (w11.heap.size) (by simp) 25 #[.bool b8, .slice A8 n8 c8'])
  have y := (Below.refl w11.heap.size w11).alloc (Nat.le_refl _) (.cells #[.bool b8, .slice A8 n8 c8'] 25)
  replace K1 := hide (K1.out.below' y)
  replace c6 := hide (c6.out.below y)
  replace K6 := hide (K6.out.below' y)
  replace c9 := hide (c9.out.below y)
  replace K9 := hide (K9.out.below' y)
  replace c8 := hide (c8.out.below y)
  replace b0 := hide (below_tr b0.out y)
  clear y
  have K9c0 := K9.out.at_ 0 rfl
  have K9c1 := K9.out.at_ 1 rfl
  go_wp2_with fail
  refine (iCheck_can c9.out (L_up Z1.out (by decide))).mono ?_
  rintro e w12 ⟨_, rfl, d0, rfl⟩
  replace K1 := hide (K1.out.below' d0)
  replace c6 := hide (c6.out.below d0)
  replace K6 := hide (K6.out.below' d0)
  replace c9 := hide (c9.out.below d0)
  replace K9 := hide (K9.out.below' d0)
  replace c8 := hide (c8.out.below d0)
  replace K8 := hide (K8.out.below' d0)
  replace b0 := hide (below_tr b0.out d0)
  clear d0
  clear K9c0 K9c1
  have K9c0 := K9.out.at_ 0 rfl
  have K9c1 := K9.out.at_ 1 rfl
  go_wp2_with fail
  refine (iText_C (ICan.arg c9.out (L_up Z1.out (by decide))) (L_up Z1.out (by decide)) s E.out.symm).mono ?_
  rintro e w13 ⟨_, rfl, d0, rfl⟩
  replace K1 := hide (K1.out.below' d0)
  replace c6 := hide (c6.out.below d0)
  replace K6 := hide (K6.out.below' d0)
  replace c9 := hide (c9.out.below d0)
  replace K9 := hide (K9.out.below' d0)
  replace c8 := hide (c8.out.below d0)
  replace K8 := hide (K8.out.below' d0)
  replace b0 := hide (below_tr b0.out d0)
  clear d0
  clear K9c0 K9c1
  go_wp2
  obtain ⟨V, hV⟩ : ∃ V, w13 = V := ⟨_, rfl⟩
  rw [hV] at K1 c6 K6 c9 K9 c8 K8 b0 ⊢
  clear hV
  have Q1 : Hid (L ((-z)).natAbs ≤ 700) := Z_neg Z1.out
  refine wp_region_facts 23 (fun w' => Below V.heap.size V w') [(113, (.int z)), (114, .eq (.int .i64 (1))), (115, .eq (.bool true)), (116, .eq (.bool true)), (117, .eq ((.int .i64 0 : Value))), (118, .eq (.bool true)), (119, .eq (.bool true)), (120, .eq (.bool true)), (121, (.int (-z))), (122, (.int z)), (123, (.int (-z))), (124, .eq (.bool true)), (125, .eq (.bool true)), (126, .eq (.bool true)), (127, .eq (undef)), (128, .eq (undef)), (129, .eq (undef)), (130, .eq (undef)), (131, .eq (undef)), (132, .eq (undef)), (133, .eq (undef)), (134, .eq (Go.Value.bool true)), (4, .eq (Go.Value.bool true))] [false, false, false, false, true, false, false, false, false, false, false, false, false, false, false, false, false, false, false, false, false, false, false, false, false, false, false, false, false, false, false, false, false, false, false, false, false, false, false, false, false, false, false, false, false, false, false, false, false, false, false, false, false, false, false, false, false, false, false, false, false, false, false, false, false, false, false, false, false, false, false, false, false, false, false, false, false, false, false, false, false, false, false, false, false, false, false, false, false, false, false, false, false, false, false, false, false, false, false, false, false, false, false, false, false, false, false, false, false, false, false, false, false, true, true, true, true, true, true, true, true, true, true, true, true, true, true, true, true, true, true, true, true, true, true] mixed (by kernel_rfl) (by kernel_rfl) (by kernel_rfl) (fun _ _ h hb => h.trans (hb.mono h.size)) ((Below.refl _ _).drew) ⟨?_, ?_, ?_, ?_, ?_, ?_, ?_, ?_, ?_, ?_, ?_, ?_, ?_, ?_, ?_, ?_, ?_, ?_, ?_, ?_, ?_, ?_, ?_, trivial⟩ ?_
  · exact .load (.agg #[.bool b9, .slice A9 n9 c9']) (.inl rfl) rfl rfl (fun a w' hC hs hl => by rw [show a.eval (.tmp 9) = (.pointer (some ⟨w10.heap.size, 0, none⟩) : Value) from (hs 9 (by kernel_rfl))]; exact ⟨ld_Int (K9.out.below' hC), c9.out.below hC⟩)
  · exact .call (.inl rfl) rfl rfl fn_iSign (fun a w' hC hs hl => iSign_eq (ICan.arg (hl 113 (by kernel_rfl) (by kernel_rfl)) (L_up Z1.out (by decide))) (hsg.out))
  · exact .value (.inl rfl) (by intro T e; cases e) rfl rfl (fun a w' hC hs hl => by
      have e0 : a.eval (.tmp 114) = (.int .i64 (1)) := (hl 114 (by kernel_rfl) (by kernel_rfl))
      simp only [execOp, e0]
      simp only [Act.eval]
      simp [go_sem] <;> rfl)
  · exact .move (.inl rfl) (.inl rfl) rfl (by kernel_rfl) (by kernel_rfl) rfl
  · exact .moveC (.inr ⟨3, true, 116, by decide, rfl, rfl, rfl⟩) (.inl rfl) rfl (fun a w' hC hs => (hs 12 (by kernel_rfl)))
  · exact .value (.inr ⟨3, true, 116, by decide, rfl, rfl, rfl⟩) (by intro T e; cases e) rfl rfl (fun a w' hC hs hl => by
      have e0 : a.eval (.tmp 117) = ((.int .i64 0 : Value)) := (hl 117 (by kernel_rfl) (by kernel_rfl))
      simp only [execOp, e0]
      simp only [Act.eval]
      simp [go_sem] <;> rfl)
  · exact .pick (b := true) (.inl rfl) rfl rfl (fun a w' hC hs hl => ⟨(hl 116 (by kernel_rfl) (by kernel_rfl)), (hl 118 (by kernel_rfl) (by kernel_rfl))⟩)
  · exact .move (.inl rfl) (.inl rfl) rfl (by kernel_rfl) (by kernel_rfl) rfl
  · exact .load (.agg #[.bool b8, .slice A8 n8 c8']) (.inr ⟨7, true, 120, by decide, rfl, rfl, rfl⟩) rfl rfl (fun a w' hC hs hl => by rw [show a.eval (.tmp 11) = (.pointer (some ⟨w11.heap.size, 0, none⟩) : Value) from (hs 11 (by kernel_rfl))]; exact ⟨ld_Int (K8.out.below' hC), c8.out.below hC⟩)
  · exact .load (.agg #[.bool b9, .slice A9 n9 c9']) (.inr ⟨7, true, 120, by decide, rfl, rfl, rfl⟩) rfl rfl (fun a w' hC hs hl => by rw [show a.eval (.tmp 9) = (.pointer (some ⟨w10.heap.size, 0, none⟩) : Value) from (hs 9 (by kernel_rfl))]; exact ⟨ld_Int (K9.out.below' hC), c9.out.below hC⟩)
  · exact .call (.inr ⟨7, true, 120, by decide, rfl, rfl, rfl⟩) rfl rfl fn_iNeg (fun a w' hC hs hl => iNeg_C (ICan.arg (hl 122 (by kernel_rfl) (by kernel_rfl)) (L_up Z1.out (by decide))))
  · exact .call (.inr ⟨7, true, 120, by decide, rfl, rfl, rfl⟩) rfl rfl fn_isame (fun a w' hC hs hl => isame_yes (hl 121 (by kernel_rfl) (by kernel_rfl)) (hl 123 (by kernel_rfl) (by kernel_rfl)) (rfl))
  · exact .pick (b := true) (.inl rfl) rfl rfl (fun a w' hC hs hl => ⟨(hl 120 (by kernel_rfl) (by kernel_rfl)), (hl 124 (by kernel_rfl) (by kernel_rfl))⟩)
  · exact .move (.inl rfl) (.inl rfl) rfl (by kernel_rfl) (by kernel_rfl) rfl
  · exact .skip ⟨13, true, 126, by decide, rfl, rfl, rfl⟩ (fun _ e => by cases e; exact .inl rfl)
  · exact .skip ⟨13, true, 126, by decide, rfl, rfl, rfl⟩ (fun _ e => by cases e; exact .inl rfl)
  · exact .skip ⟨13, true, 126, by decide, rfl, rfl, rfl⟩ (fun _ e => by cases e; exact .inl rfl)
  · exact .skip ⟨13, true, 126, by decide, rfl, rfl, rfl⟩ (fun _ e => by cases e; exact .inl rfl)
  · exact .skipU ⟨17, true, 130, by decide, rfl, rfl, rfl⟩ (fun _ e => by cases e; exact .inl rfl)
  · exact .skipU ⟨17, true, 130, by decide, rfl, rfl, rfl⟩ (fun _ e => by cases e; exact .inl rfl)
  · exact .skip ⟨13, true, 126, by decide, rfl, rfl, rfl⟩ (fun _ e => by cases e; exact .inl rfl)
  · exact .pick (b := true) (.inl rfl) rfl rfl (fun a w' hC hs hl => ⟨(hl 126 (by kernel_rfl) (by kernel_rfl)), rfl⟩)
  · exact .move (.inl rfl) (.inr rfl) rfl (by kernel_rfl) (by kernel_rfl) rfl
  intro f w9 hC hF _
  have f6 : f 4 = .bool true := hF 4 (by kernel_rfl)
  clear hF
  simp only [patch, List.drop]
  have B9 := hide (b0.out.trans (hC.mono b0.out.size))
  clear hC
  rw [f6]
  go_wp2
  exact opq_end hR ⟨rfl, B9⟩
end Go.Proofs.YtcdejccbamjdoaaDoor
