/- the reference of ints: Back, Text, Parse; texts and numbers of 64 bits by value. -/
import Derived.Test.YtfadehkagbcjaaaGreatDoorRh
import Derived.Test.YtfadehkagbcjaaaGreatDoorRo
import Derived.Test.YtfadehkagbcjaaaGreatDoorRq
import Derived.Test.YtfadehkagbcjaaaGreatDoorBl
import Derived.Test.YtfadehkagbcjaaaGreatDoorIy
import Derived.Test.YtfadehkagbcjaaaGreatDoorJd
set_option linter.unusedVariables false
set_option linter.unusedSimpArgs false
set_option maxRecDepth 100000
namespace Go.Proofs.YtfadehkagbcjaaaGreatDoor
open Go.RowKit

theorem kBack_can {w : World} {v : Value} {M : Nat} (h : Can w v M) :
    Calls Tryz.prog 88 #[v] w fun e w' => e = .returned (.tuple (if M < 18446744073709551616 then #[.int .u64 (M : Nat), .int .i64 0] else #[.int .u64 0, .int .i64 3])) ∧ Hid (Below w.heap.size w w') := by
  obtain ⟨A, c, rfl, l, r⟩ := h
  have := kBack_ok w A _ c _ r (is32_limbs M)
  rw [val_limbs, chk_limbs] at this
  refine this.mono ?_
  rintro e w' ⟨h1, h2⟩
  refine ⟨?_, h2⟩
  rw [h1, if_pos rfl]
  have e : (limbs M).length ≤ 2 ↔ M < 18446744073709551616 := by rw [limbs_length_le]
  by_cases q : M < 18446744073709551616
  · rw [if_pos (e.2 q), if_pos q]
  · rw [if_neg (fun z => q (e.1 z)), if_neg q]
theorem kText_can {w : World} {v : Value} {M : Nat} (h : Can w v M) (hl : L M ≤ 1000000) :
    Calls Tryz.prog 95 #[v] w fun e w' => e = .returned (vstr (bts (txt M))) ∧ Hid (Below w.heap.size w w') := by
  obtain ⟨A, c, rfl, l, r⟩ := h
  have := kText_ok w A _ c _ r (is32_limbs M) hl l
  rw [nv_limbs] at this
  exact this
set_option maxHeartbeats 1000000 in
theorem qBack_ok {w : World} {v : Value} {z : Int} (h : ICan w v z) (hl : L z.natAbs ≤ 1000000000000) :
    Calls Tryz.prog 98 #[v] w fun e w' => e = .returned (.tuple (back64 z)) ∧ Hid (Below w.heap.size w w') := by
  refine opq fun R hR => ?_
  have HP := hide (h.prt (L_up hl (by decide)))
  obtain ⟨u, rfl, hu⟩ := h
  obtain ⟨A, n, c, rfl⟩ : ∃ A n c, u = .slice A n c := by obtain ⟨A, c, q, _⟩ := hu; exact ⟨A, _, c, q⟩
  have U := hide hu
  clear hu hl
  have HK := hide (iok_self z)
  obtain ⟨b, eb⟩ : ∃ b, Hid (decide (z < 0) = b) := ⟨_, rfl⟩
  rw [eb.out] at HP HK ⊢
  have B0 := hide ((Below.refl w.heap.size w).alloc (Nat.le_refl _) (.cells #[.bool b, .slice A n c] 25))
  have K0 := hide (Blk.new w 25 #[.bool b, .slice A n c])
  go_enter Tryz.func98, Tryz.ntmps98
  go_wp2_with fail
  refine (qCheck_ok (HP.out.below B0.out)).mono ?_
  rw [HK.out]
  rintro e w1 ⟨rfl, d1⟩
  have K1 := hide (K0.out.below' d1.out)
  have B1 := hide (below_tr B0.out d1.out)
  have a0 := K1.out.at_ 0 rfl
  have a1 := K1.out.at_ 1 rfl
  clear d1 B0 K0 HP HK
  go_wp2_with fail
  have HB := hide (kBack_can (U.out.below B1.out))
  clear U a0 a1
  by_cases hN : z.natAbs < 18446744073709551616
  case neg =>
    rw [if_neg hN] at HB
    refine HB.out.mono ?_
    rintro e w2 ⟨rfl, d2⟩
    have B2 := hide (below_tr B1.out d2.out)
    have hr : Hid (back64 z = #[.int .i64 0, .int .i64 3]) := by show _ = _; unfold back64; rw [if_neg (by omega)]
    clear hN d2
    go_wp2
    exact opq_end hR ⟨by rw [hr.out]; rfl, B2⟩
  rw [if_pos hN] at HB
  refine HB.out.mono ?_
  rintro e w2 ⟨rfl, d2⟩
  have B2 := hide (below_tr B1.out d2.out)
  have K2 := hide (K1.out.below' d2.out)
  have a0 := K2.out.at_ 0 rfl
  have a1 := K2.out.at_ 1 rfl
  clear d2 B1 HB K1
  cases b
  · have hz : 0 ≤ z := by have := eb.out; simp at this; omega
    obtain ⟨N, rfl⟩ := Int.eq_ofNat_of_zero_le hz
    simp only [Int.natAbs_natCast] at *
    by_cases h63 : N ≤ 9223372036854775807
    · have hr : Hid (back64 (N : Int) = #[.int .i64 (N : Int), .int .i64 0]) := by show _ = _; unfold back64; rw [if_pos (by omega)]
      have hw := wrapN h63
      have e1 : decide ((9223372036854775808 : Int) ≤ N) = false := by simp; omega
      clear hN h63 hz
      go_wp2
      exact opq_end hR ⟨by rw [hr.out]; rfl, B2⟩
    · have hr : Hid (back64 (N : Int) = #[.int .i64 0, .int .i64 3]) := by show _ = _; unfold back64; rw [if_neg (by omega)]
      have e1 : decide ((9223372036854775808 : Int) ≤ N) = true := by simp; omega
      clear hN h63 hz
      go_wp2
      exact opq_end hR ⟨by rw [hr.out]; rfl, B2⟩
  · obtain ⟨N, hzN⟩ : ∃ N : Nat, z = -(N : Int) := ⟨z.natAbs, by have := eb.out; simp at this; omega⟩
    subst hzN
    simp only [Int.natAbs_neg, Int.natAbs_natCast] at *
    by_cases h63 : N = 9223372036854775808
    · have hr : Hid (back64 (-(N : Int)) = #[.int .i64 (-9223372036854775808), .int .i64 0]) := by show _ = _; unfold back64; rw [if_pos (by omega)]; subst h63; rfl
      subst h63
      have hw : wrap64 (IntKind.u64.wrap (-9223372036854775808)) = -9223372036854775808 := by rw [IntKind.wrap_u64]; simp [wrap64]
      clear hN eb
      go_wp2
      refine opq_end hR ⟨?_, B2⟩
      rw [hr.out]
      show Ending.returned (.tuple #[.int .i64 (wrap64 (IntKind.u64.wrap (-9223372036854775808))), .int .i64 0]) = _
      rw [hw]
    · by_cases h62 : N ≤ 9223372036854775807
      · have hr : Hid (back64 (-(N : Int)) = #[.int .i64 (-(N : Int)), .int .i64 0]) := by show _ = _; unfold back64; rw [if_pos (by omega)]
        have e1 : decide ((9223372036854775808 : Int) < N) = false := by simp; omega
        have hw : IntKind.i64.wrap (IntKind.u64.wrap (-(N : Int))) = -(N : Int) := by rw [IntKind.wrap_u64, IntKind.wrap_i64]; omega
        clear hN h63 eb h62
        go_wp2
        refine opq_end hR ⟨?_, B2⟩
        rw [hr.out, ← hw]; rfl
      · have hr : Hid (back64 (-(N : Int)) = #[.int .i64 0, .int .i64 3]) := by show _ = _; unfold back64; rw [if_neg (by omega)]
        have e1 : decide ((9223372036854775808 : Int) < N) = true := by simp; omega
        clear hN h63 eb h62
        go_wp2
        exact opq_end hR ⟨by rw [hr.out]; rfl, B2⟩
set_option maxHeartbeats 1000000 in
theorem iBack_bad {w : World} {v : Value} {b : Bool} {xs : List Nat} (h : IPrt w v b xs) (hk : iok b xs = false) :
    Calls Tryz.prog 97 #[v] w fun e w' => e = .returned (.tuple #[.int .i64 0, .int .i64 1]) ∧ Hid (Below w.heap.size w w') := by
  refine opq fun R hR => ?_
  have HP := hide h
  obtain ⟨u, rfl, hu⟩ := h
  obtain ⟨A, n, c, rfl, _⟩ := hu
  have B0 := hide ((Below.refl w.heap.size w).alloc (Nat.le_refl _) (.cells #[.bool b, .slice A n c] 25))
  go_enter Tryz.func97, Tryz.ntmps97
  go_wp2_with fail
  refine (iCheck_ok (HP.out.below B0.out)).mono ?_
  rw [hk]
  rintro e w1 ⟨rfl, d1⟩
  have B1 := hide (below_tr B0.out d1.out)
  clear d1 B0 HP
  go_wp2
  exact opq_end hR ⟨rfl, B1⟩
set_option maxHeartbeats 1000000 in
theorem qBack_bad {w : World} {v : Value} {b : Bool} {xs : List Nat} (h : IPrt w v b xs) (hk : iok b xs = false) :
    Calls Tryz.prog 98 #[v] w fun e w' => e = .returned (.tuple #[.int .i64 0, .int .i64 1]) ∧ Hid (Below w.heap.size w w') := by
  refine opq fun R hR => ?_
  have HP := hide h
  obtain ⟨u, rfl, hu⟩ := h
  obtain ⟨A, n, c, rfl, _⟩ := hu
  have B0 := hide ((Below.refl w.heap.size w).alloc (Nat.le_refl _) (.cells #[.bool b, .slice A n c] 25))
  go_enter Tryz.func98, Tryz.ntmps98
  go_wp2_with fail
  refine (qCheck_ok (HP.out.below B0.out)).mono ?_
  rw [hk]
  rintro e w1 ⟨rfl, d1⟩
  have B1 := hide (below_tr B0.out d1.out)
  clear d1 B0 HP
  go_wp2
  exact opq_end hR ⟨rfl, B1⟩
def bakV (b : Bool) (xs : List Nat) : Int := if iok b xs = true then if -9223372036854775808 ≤ iv b xs ∧ iv b xs < 9223372036854775808 then iv b xs else 0 else 0
def bakK (b : Bool) (xs : List Nat) : Int := if iok b xs = true then if -9223372036854775808 ≤ iv b xs ∧ iv b xs < 9223372036854775808 then 0 else 3 else 1
theorem ip_Back {w : World} {v : Value} {b : Bool} {xs : List Nat} (h : IPrt w v b xs) (hl : xs.length ≤ 1000) :
    Calls Tryz.prog 97 #[v] w fun e w' => e = .returned (.tuple #[.int .i64 (bakV b xs), .int .i64 (bakK b xs)]) ∧ Hid (Below w.heap.size w w') := by
  unfold bakV bakK
  cases hk : iok b xs
  · exact iBack_bad h hk
  · have hs : L (iv b xs).natAbs ≤ 1000000000000 := by
      have h' := h
      obtain ⟨u, _, A, n, c, _, _, _, _, h32⟩ := h'
      exact Nat.le_trans (iv_L h32) (by omega)
    have := iBack_ok (h.can hk) hs
    refine this.mono ?_
    rintro e w' ⟨q1, q2⟩
    refine ⟨?_, q2⟩
    rw [q1, back64, if_pos rfl]
    by_cases q : -9223372036854775808 ≤ iv b xs ∧ iv b xs < 9223372036854775808
    · rw [if_pos q, if_pos rfl, if_pos q, if_pos q]
    · rw [if_neg q, if_pos rfl, if_neg q, if_neg q]
theorem iq_Back {w : World} {v : Value} {b : Bool} {xs : List Nat} (h : IPrt w v b xs) (hl : xs.length ≤ 1000) :
    Calls Tryz.prog 98 #[v] w fun e w' => e = .returned (.tuple #[.int .i64 (bakV b xs), .int .i64 (bakK b xs)]) ∧ Hid (Below w.heap.size w w') := by
  unfold bakV bakK
  cases hk : iok b xs
  · exact qBack_bad h hk
  · have hs : L (iv b xs).natAbs ≤ 1000000000000 := by
      have h' := h
      obtain ⟨u, _, A, n, c, _, _, _, _, h32⟩ := h'
      exact Nat.le_trans (iv_L h32) (by omega)
    have := qBack_ok (h.can hk) hs
    refine this.mono ?_
    rintro e w' ⟨q1, q2⟩
    refine ⟨?_, q2⟩
    rw [q1, back64, if_pos rfl]
    by_cases q : -9223372036854775808 ≤ iv b xs ∧ iv b xs < 9223372036854775808
    · rw [if_pos q, if_pos rfl, if_pos q, if_pos q]
    · rw [if_neg q, if_pos rfl, if_neg q, if_neg q]
set_option maxHeartbeats 1000000 in
theorem qText_ok {w : World} {v1 : Value} {x : Int} (h1 : IArg w v1 x) (hl : L x.natAbs ≤ 1000000) :
    Calls Tryz.prog 105 #[v1] w fun e w' => e = .returned (vstr (bts (itxt x))) ∧ Hid (Below w.heap.size w w') := by
  refine opq fun R hR => ?_
  obtain ⟨b1, A1, n1, c1, rfl⟩ := h1.slice
  have S1 := hide hl
  replace h1 := hide h1
  have BW := hide ((Below.refl w.heap.size w).alloc (Nat.le_refl _) (.cells #[.bool b1, .slice A1 n1 c1] 25))
  have K0 := hide (Blk.new w 25 #[.bool b1, .slice A1 n1 c1])
  go_enter Tryz.func105, Tryz.ntmps105
  go_wp2_with fail
  refine (qfit_F h1.out BW.out).mono ?_
  rintro e w1 ⟨_, rfl, d1, f8⟩
  obtain ⟨u8, rfl, hu8⟩ := f8
  obtain ⟨A8, n8, c8, rfl⟩ : ∃ A n c, u8 = .slice A n c := by obtain ⟨A, c, q, _⟩ := hu8; exact ⟨A, _, c, q⟩
  have K1 := hide (K0.out.below' d1)
  have B1 := hide (BW.out.trans (d1.mono BW.out.size))
  have q0 := K1.out.at_ 0 rfl
  have q1 := K1.out.at_ 1 rfl
  have q2 := K1.out.frozen 0
  have q3 := K1.out.frozen 1
  clear d1
  obtain ⟨b, hb⟩ : ∃ b, Hid (decide (x < 0) = b) := ⟨_, rfl⟩
  rw [hb.out]
  obtain ⟨V, hV⟩ : ∃ V, (w1.setCell ⟨w.heap.size, 0, none⟩ (.bool b)).setCell ⟨w.heap.size, 1, none⟩ (.slice A8 n8 c8) = V := ⟨_, rfl⟩
  have KV : Hid (Blk V w.heap.size 25 #[.bool b, .slice A8 n8 c8]) := by
    rw [← hV]; exact (K1.out.set_ 0 _).set_ 1 _
  have BV : Hid (Below w.heap.size w V) := by
    rw [← hV]; exact (B1.out.setCell (p := ⟨w.heap.size, 0, none⟩) (Nat.le_refl _) _).setCell (p := ⟨w.heap.size, 1, none⟩) (Nat.le_refl _) _
  replace hV := hide hV
  have T := hide (kText_can (hu8.below BV.out) S1.out)
  have hT : (bts (txt x.natAbs)).length ≤ 10000001 := by rw [bts, List.length_map]; exact txt_len S1.out
  have e1 : Hid (bts (itxt x) = if b = true then 45 :: bts (txt x.natAbs) else bts (txt x.natAbs)) := by
    show _ = _
    rw [← hb.out]
    unfold itxt
    by_cases hx : x < 0
    · rw [if_pos hx, if_pos (by simpa using hx)]; rfl
    · rw [if_neg hx, if_neg (by simpa using hx)]
  generalize bts (txt x.natAbs) = t at *
  clear K1 B1 BW hu8 h1 S1 hb K0
  cases b
  all_goals
    have c0 := KV.out.at_ 0 rfl
    have c1' := KV.out.at_ 1 rfl
    have hV := hV.out
    go_wp2_with fail
    refine T.out.mono ?_
    rintro e w2 ⟨rfl, d2⟩
    have B2 := hide (below_tr BV.out d2.out)
    clear d2 hV
    go_wp2
    exact opq_end hR ⟨by rw [e1.out]; rfl, B2⟩
theorem byt_tail (s : ByteArray) : byt (s.extract 1 s.size) = (byt s).tail := by
  unfold byt
  rw [ByteArray.data_extract, Array.toList_extract, List.extract_eq_take_drop]
  rw [← List.drop_one, ← List.map_drop]
  congr 1
  rw [List.take_of_length_le (by rw [List.length_drop, Array.length_toList]; exact Nat.le_refl _)]
set_option maxHeartbeats 1000000 in
theorem qParse_ok (w : World) (s : ByteArray) (hs : s.size ≤ 9223372036854775807) :
    Calls Tryz.prog 100 #[.string s] w fun e w' =>
      (if isNum (isgn (byt s)).2 = true then
        if (isgn (byt s)).2.length ≤ 200 then
          if (isgn (byt s)).1 = true ∧ num (isgn (byt s)).2 = 0 then e = .returned (.tuple #[.agg #[.bool false, .slice none 0 0], .int .i64 4])
          else ∃ v, e = .returned (.tuple #[v, .int .i64 0]) ∧ IntR (sgn (isgn (byt s)).1 (num (isgn (byt s)).2)) w.heap.size w' v
        else e = .returned (.tuple #[.agg #[.bool false, .slice none 0 0], .int .i64 3])
      else e = .returned (.tuple #[.agg #[.bool false, .slice none 0 0], .int .i64 4])) ∧ Hid (Below w.heap.size w w') := by
  refine opq fun R hR => ?_
  obtain ⟨d, hd, hcase⟩ : ∃ d : ByteArray, byt d = (isgn (byt s)).2 ∧ ((s.size = 0 ∧ d = s ∧ (isgn (byt s)).1 = false) ∨ ∃ h0 : 0 < s.size, ((s[0]'h0).toNat ≠ 45 ∧ d = s ∧ (isgn (byt s)).1 = false) ∨ ((s[0]'h0).toNat = 45 ∧ d = s.extract 1 s.size ∧ (isgn (byt s)).1 = true)) := by
    unfold isgn
    by_cases h0 : 0 < s.size
    · rw [byt_head s h0]
      by_cases hc : (s[0]'h0).toNat = 45
      · rw [hc, if_pos rfl]
        exact ⟨_, byt_tail s, .inr ⟨h0, .inr ⟨hc, rfl, rfl⟩⟩⟩
      · rw [if_neg (by simpa using hc)]
        exact ⟨_, rfl, .inr ⟨h0, .inl ⟨hc, rfl, rfl⟩⟩⟩
    · have hl : byt s = [] := List.eq_nil_of_length_eq_zero (by rw [byt_length]; omega)
      refine ⟨s, ?_, .inl ⟨by omega, rfl, ?_⟩⟩ <;> rw [hl] <;> rfl
  have hds : d.size ≤ 9223372036854775807 := by
    rcases hcase with ⟨_, rfl, _⟩ | ⟨_, ⟨_, rfl, _⟩ | ⟨_, rfl, _⟩⟩
    · exact hs
    · exact hs
    · have : (s.extract 1 s.size).size = (byt s).tail.length := by rw [← byt_tail, byt_length]
      rw [this, List.length_tail, byt_length]; omega
  rw [← hd] at hR
  have hlen := byt_length d
  rw [hlen] at hR
  generalize (isgn (byt s)).1 = b at *
  clear hd
  have B0 := hide ((Below.refl w.heap.size w).alloc (Nat.le_refl _) (.cells #[.bool false, .slice none 0 0] 25))
  have K0 := hide (Blk.new w 25 #[.bool false, .slice none 0 0])
  have PP := hide (kParse_ok (w.alloc (.cells #[.bool false, .slice none 0 0] 25)) d hds)
  go_enter Tryz.func100, Tryz.ntmps100
  rcases hcase with ⟨h0, hd, hb⟩ | ⟨h0, ⟨hc, hd, hb⟩ | ⟨hc, hd, hb⟩⟩
  · have he : s = ⟨#[]⟩ := by
      obtain ⟨a⟩ := s
      have : a.size = 0 := h0
      rw [Array.size_eq_zero_iff] at this
      rw [this]
    subst he
    subst hb
    clear h0
    subst hd
    go_wp2_with fail
    refine PP.out.mono ?_
    clear PP
    rintro e w1 ⟨h1, d1⟩
    have K1 := hide (K0.out.below' d1)
    have B1 := hide (B0.out.trans (d1.mono B0.out.size))
    have q0 := K1.out.at_ 0 rfl
    have q1 := K1.out.at_ 1 rfl
    have q2 := K1.out.frozen 0
    have q3 := K1.out.frozen 1
    clear d1 K0 B0
    by_cases hn : isNum (byt ⟨#[]⟩) = true
    case neg =>
      rw [if_neg hn] at h1
      subst h1
      have hn' := hide hn
      clear hn
      go_wp2
      refine bodyPost_ret (v := .tuple #[.agg #[.bool false, .slice none 0 0], .int .i64 4]) (by simp [results, Tryz.results100, go_sem, q0, q1, q2, q3]) rfl ?_
      exact opq_end hR ⟨by rw [if_neg hn'.out], (by (repeat (first | exact B1 | exact Below.refl _ _ | refine Below.setCell ?_ (by first | (simp; done) | (simp; omega)) _ | refine Below.alloc ?_ (by first | (simp; done) | (simp; omega)) _)))⟩
    rw [if_pos hn] at h1
    have hn' := hide hn
    clear hn
    by_cases hl : ByteArray.size ⟨#[]⟩ ≤ 200
    case neg =>
      rw [if_neg hl] at h1
      subst h1
      have hl' := hide hl
      clear hl
      go_wp2
      refine bodyPost_ret (v := .tuple #[.agg #[.bool false, .slice none 0 0], .int .i64 3]) (by simp [results, Tryz.results100, go_sem, q0, q1, q2, q3]) rfl ?_
      exact opq_end hR ⟨by rw [if_pos hn'.out, if_neg hl'.out], (by (repeat (first | exact B1 | exact Below.refl _ _ | refine Below.setCell ?_ (by first | (simp; done) | (simp; omega)) _ | refine Below.alloc ?_ (by first | (simp; done) | (simp; omega)) _)))⟩
    rw [if_pos hl] at h1
    have hl' := hide hl
    clear hl
    obtain ⟨v, rfl, hv⟩ := h1
    have HV := hide (hv.mono (B' := w.heap.size) (by simp))
    obtain ⟨A, c, rfl, _⟩ := hv.can
    clear hv
    generalize num (byt ⟨#[]⟩) = N at *
    have hz := hide (@is_zero_len N)
    by_cases hb : false = true ∧ N = 0
    · have hb' := hide hb
      exact Bool.noConfusion hb.1
    · have hb' := hide hb
      have S := hide (qsigned_R (z := sgn false N) HV.out (sgn_abs false N) (sgn_neg false N))
      have hlen : false = true → (((limbs N).length : Int) == 0) = false := fun q => by
        rw [beq_nat0]
        exact decide_eq_false (fun q3 => hb ⟨q, hz.out.1 q3⟩)
      clear hb hz HV
      generalize (limbs N).length = n at *
      first | (replace hlen := hlen rfl) | clear hlen
      go_wp2_with fail
      refine S.out.mono ?_
      rintro e w2 ⟨A9, n9, c9, b9, rfl, d2, r9⟩
      have R9 := hide r9
      have B9 := hide (B1.out.trans (d2.mono B1.out.size))
      have K9 := hide (K1.out.below' d2)
      have q0 := K9.out.at_ 0 rfl
      have q1 := K9.out.at_ 1 rfl
      have q2 := K9.out.frozen 0
      have q3 := K9.out.frozen 1
      clear d2 r9
      go_wp2
      refine bodyPost_ret (v := .tuple #[.agg #[.bool b9, .slice A9 n9 c9], .int .i64 0]) (by simp [results, Tryz.results100, go_sem, q0, q1, q2, q3]) rfl ?_
      exact opq_end hR ⟨by rw [if_pos hn'.out, if_pos hl'.out, if_neg hb'.out]; exact ⟨_, rfl, R9.out.only K9.out (by decide) (((Only.refl _ _).set _ _).set _ _)⟩, (by (repeat (first | exact B9 | exact Below.refl _ _ | refine Below.setCell ?_ (by first | (simp; done) | (simp; omega)) _ | refine Below.alloc ?_ (by first | (simp; done) | (simp; omega)) _)))⟩
  · subst hb
    have hne : s ≠ ⟨#[]⟩ := fun q => by rw [q] at h0; exact absurd h0 (by decide)
    have hne2 : decide (s = ⟨#[]⟩) = false := by simpa using hne
    have hne4 : ¬ s.toList = [] := fun q => by
      rw [ByteArray.toList_eq, Array.toList_eq_nil_iff] at q
      exact hne (by obtain ⟨a⟩ := s; exact congrArg _ q)
    have hc2 : ((((s[0]'h0).toNat : Nat) : Int) == 45) = false := by simp; omega
    subst hd
    go_wp2_with fail
    refine PP.out.mono ?_
    clear PP
    rintro e w1 ⟨h1, d1⟩
    have K1 := hide (K0.out.below' d1)
    have B1 := hide (B0.out.trans (d1.mono B0.out.size))
    have q0 := K1.out.at_ 0 rfl
    have q1 := K1.out.at_ 1 rfl
    have q2 := K1.out.frozen 0
    have q3 := K1.out.frozen 1
    clear d1 K0 B0
    by_cases hn : isNum (byt d) = true
    case neg =>
      rw [if_neg hn] at h1
      subst h1
      have hn' := hide hn
      clear hn
      go_wp2
      refine bodyPost_ret (v := .tuple #[.agg #[.bool false, .slice none 0 0], .int .i64 4]) (by simp [results, Tryz.results100, go_sem, q0, q1, q2, q3]) rfl ?_
      exact opq_end hR ⟨by rw [if_neg hn'.out], (by (repeat (first | exact B1 | exact Below.refl _ _ | refine Below.setCell ?_ (by first | (simp; done) | (simp; omega)) _ | refine Below.alloc ?_ (by first | (simp; done) | (simp; omega)) _)))⟩
    rw [if_pos hn] at h1
    have hn' := hide hn
    clear hn
    by_cases hl : d.size ≤ 200
    case neg =>
      rw [if_neg hl] at h1
      subst h1
      have hl' := hide hl
      clear hl
      go_wp2
      refine bodyPost_ret (v := .tuple #[.agg #[.bool false, .slice none 0 0], .int .i64 3]) (by simp [results, Tryz.results100, go_sem, q0, q1, q2, q3]) rfl ?_
      exact opq_end hR ⟨by rw [if_pos hn'.out, if_neg hl'.out], (by (repeat (first | exact B1 | exact Below.refl _ _ | refine Below.setCell ?_ (by first | (simp; done) | (simp; omega)) _ | refine Below.alloc ?_ (by first | (simp; done) | (simp; omega)) _)))⟩
    rw [if_pos hl] at h1
    have hl' := hide hl
    clear hl
    obtain ⟨v, rfl, hv⟩ := h1
    have HV := hide (hv.mono (B' := w.heap.size) (by simp))
    obtain ⟨A, c, rfl, _⟩ := hv.can
    clear hv
    generalize num (byt d) = N at *
    have hz := hide (@is_zero_len N)
    by_cases hb : false = true ∧ N = 0
    · have hb' := hide hb
      exact Bool.noConfusion hb.1
    · have hb' := hide hb
      have S := hide (qsigned_R (z := sgn false N) HV.out (sgn_abs false N) (sgn_neg false N))
      have hlen : false = true → (((limbs N).length : Int) == 0) = false := fun q => by
        rw [beq_nat0]
        exact decide_eq_false (fun q3 => hb ⟨q, hz.out.1 q3⟩)
      clear hb hz HV
      generalize (limbs N).length = n at *
      first | (replace hlen := hlen rfl) | clear hlen
      go_wp2_with fail
      refine S.out.mono ?_
      rintro e w2 ⟨A9, n9, c9, b9, rfl, d2, r9⟩
      have R9 := hide r9
      have B9 := hide (B1.out.trans (d2.mono B1.out.size))
      have K9 := hide (K1.out.below' d2)
      have q0 := K9.out.at_ 0 rfl
      have q1 := K9.out.at_ 1 rfl
      have q2 := K9.out.frozen 0
      have q3 := K9.out.frozen 1
      clear d2 r9
      go_wp2
      refine bodyPost_ret (v := .tuple #[.agg #[.bool b9, .slice A9 n9 c9], .int .i64 0]) (by simp [results, Tryz.results100, go_sem, q0, q1, q2, q3]) rfl ?_
      exact opq_end hR ⟨by rw [if_pos hn'.out, if_pos hl'.out, if_neg hb'.out]; exact ⟨_, rfl, R9.out.only K9.out (by decide) (((Only.refl _ _).set _ _).set _ _)⟩, (by (repeat (first | exact B9 | exact Below.refl _ _ | refine Below.setCell ?_ (by first | (simp; done) | (simp; omega)) _ | refine Below.alloc ?_ (by first | (simp; done) | (simp; omega)) _)))⟩
  · replace hd := hd.symm
    subst hb
    have hne : s ≠ ⟨#[]⟩ := fun q => by rw [q] at h0; exact absurd h0 (by decide)
    have hne2 : decide (s = ⟨#[]⟩) = false := by simpa using hne
    have hne4 : ¬ s.toList = [] := fun q => by
      rw [ByteArray.toList_eq, Array.toList_eq_nil_iff] at q
      exact hne (by obtain ⟨a⟩ := s; exact congrArg _ q)
    have hne5 : s.toList.isEmpty = false := by simpa using hne4
    have hc2 : ((((s[0]'h0).toNat : Nat) : Int) == 45) = true := by rw [hc]; rfl
    go_wp2_with fail
    refine PP.out.mono ?_
    clear PP
    rintro e w1 ⟨h1, d1⟩
    have K1 := hide (K0.out.below' d1)
    have B1 := hide (B0.out.trans (d1.mono B0.out.size))
    have q0 := K1.out.at_ 0 rfl
    have q1 := K1.out.at_ 1 rfl
    have q2 := K1.out.frozen 0
    have q3 := K1.out.frozen 1
    clear d1 K0 B0
    by_cases hn : isNum (byt d) = true
    case neg =>
      rw [if_neg hn] at h1
      subst h1
      have hn' := hide hn
      clear hn
      go_wp2
      refine bodyPost_ret (v := .tuple #[.agg #[.bool false, .slice none 0 0], .int .i64 4]) (by simp [results, Tryz.results100, go_sem, q0, q1, q2, q3]) rfl ?_
      exact opq_end hR ⟨by rw [if_neg hn'.out], (by (repeat (first | exact B1 | exact Below.refl _ _ | refine Below.setCell ?_ (by first | (simp; done) | (simp; omega)) _ | refine Below.alloc ?_ (by first | (simp; done) | (simp; omega)) _)))⟩
    rw [if_pos hn] at h1
    have hn' := hide hn
    clear hn
    by_cases hl : d.size ≤ 200
    case neg =>
      rw [if_neg hl] at h1
      subst h1
      have hl' := hide hl
      clear hl
      go_wp2
      refine bodyPost_ret (v := .tuple #[.agg #[.bool false, .slice none 0 0], .int .i64 3]) (by simp [results, Tryz.results100, go_sem, q0, q1, q2, q3]) rfl ?_
      exact opq_end hR ⟨by rw [if_pos hn'.out, if_neg hl'.out], (by (repeat (first | exact B1 | exact Below.refl _ _ | refine Below.setCell ?_ (by first | (simp; done) | (simp; omega)) _ | refine Below.alloc ?_ (by first | (simp; done) | (simp; omega)) _)))⟩
    rw [if_pos hl] at h1
    have hl' := hide hl
    clear hl
    obtain ⟨v, rfl, hv⟩ := h1
    have HV := hide (hv.mono (B' := w.heap.size) (by simp))
    obtain ⟨A, c, rfl, _⟩ := hv.can
    clear hv
    generalize num (byt d) = N at *
    have hz := hide (@is_zero_len N)
    by_cases hb : true = true ∧ N = 0
    · have hb' := hide hb
      obtain ⟨hb1, rfl⟩ := hb
      clear hb1
      have hn0 := hz.out.2 rfl
      rw [hn0] at *
      clear hn0
      go_wp2
      refine bodyPost_ret (v := .tuple #[.agg #[.bool false, .slice none 0 0], .int .i64 4]) (by simp [results, Tryz.results100, go_sem, q0, q1, q2, q3]) rfl ?_
      exact opq_end hR ⟨by rw [if_pos hn'.out, if_pos hl'.out, if_pos hb'.out], (by (repeat (first | exact B1 | exact Below.refl _ _ | refine Below.setCell ?_ (by first | (simp; done) | (simp; omega)) _ | refine Below.alloc ?_ (by first | (simp; done) | (simp; omega)) _)))⟩
    · have hb' := hide hb
      have S := hide (qsigned_R (z := sgn true N) HV.out (sgn_abs true N) (sgn_neg true N))
      have hlen : true = true → (((limbs N).length : Int) == 0) = false := fun q => by
        rw [beq_nat0]
        exact decide_eq_false (fun q3 => hb ⟨q, hz.out.1 q3⟩)
      clear hb hz HV
      generalize (limbs N).length = n at *
      first | (replace hlen := hlen rfl) | clear hlen
      go_wp2_with fail
      refine S.out.mono ?_
      rintro e w2 ⟨A9, n9, c9, b9, rfl, d2, r9⟩
      have R9 := hide r9
      have B9 := hide (B1.out.trans (d2.mono B1.out.size))
      have K9 := hide (K1.out.below' d2)
      have q0 := K9.out.at_ 0 rfl
      have q1 := K9.out.at_ 1 rfl
      have q2 := K9.out.frozen 0
      have q3 := K9.out.frozen 1
      clear d2 r9
      go_wp2
      refine bodyPost_ret (v := .tuple #[.agg #[.bool b9, .slice A9 n9 c9], .int .i64 0]) (by simp [results, Tryz.results100, go_sem, q0, q1, q2, q3]) rfl ?_
      exact opq_end hR ⟨by rw [if_pos hn'.out, if_pos hl'.out, if_neg hb'.out]; exact ⟨_, rfl, R9.out.only K9.out (by decide) (((Only.refl _ _).set _ _).set _ _)⟩, (by (repeat (first | exact B9 | exact Below.refl _ _ | refine Below.setCell ?_ (by first | (simp; done) | (simp; omega)) _ | refine Below.alloc ?_ (by first | (simp; done) | (simp; omega)) _)))⟩
end Go.Proofs.YtfadehkagbcjaaaGreatDoor
