/- ints: Back, Text, Parse; SameInt. -/
import Derived.Test.YtnpfochbpdfcmaaGreatDoorIg
set_option linter.unusedVariables false
set_option linter.unusedSimpArgs false
set_option maxRecDepth 100000
namespace Go.Proofs.YtnpfochbpdfcmaaGreatDoor
open Go.RowKit

theorem two63 : (9223372036854775808 : Nat) < 18446744073709551616 := by decide
theorem wrapN {N : Nat} (h : N ≤ 9223372036854775807) : IntKind.i64.wrap (N : Int) = N := by
  simp only [IntKind.wrap_i64]; omega
theorem wrapNeg {N : Nat} (h : N ≤ 9223372036854775807) : wrap64 (-(N : Int)) = -(N : Int) := by
  simp only [wrap64]; omega
/-- What Back answers of a number. -/
def back64 (z : Int) : Array Value := if -9223372036854775808 ≤ z ∧ z < 9223372036854775808 then #[.int .i64 z, .int .i64 0] else #[.int .i64 0, .int .i64 3]
set_option maxHeartbeats 1000000 in
theorem iBack_ok {w : World} {v : Value} {z : Int} (h : ICan w v z) (hl : L z.natAbs ≤ 1000000000000) :
    Calls Tryz.prog 37 #[v] w fun e w' => e = .returned (.tuple (back64 z)) ∧ Hid (Below w.heap.size w w') := by
  refine opq fun R hR => ?_
  have HP := hide (h.prt (L_up hl (by decide)))
  obtain ⟨u, rfl, hu⟩ := h
  obtain ⟨A, n, c, rfl⟩ : ∃ A n c, u = .slice A n c := by obtain ⟨A, c, q, _⟩ := hu; exact ⟨A, _, c, q⟩
  have U := hide hu
  clear hu hl
  have HK := hide (iok_self z)
  obtain ⟨b, eb⟩ : ∃ b, Hid (decide (z < 0) = b) := ⟨_, rfl⟩
  rw [eb.out] at HP HK ⊢
  have B0 := hide ((Below.refl w.heap.size w).alloc (Nat.le_refl _) (.cells #[.bool b, .slice A n c] 25))
  have K0 := hide (Blk.new w 25 #[.bool b, .slice A n c])
  go_enter Tryz.func37, Tryz.ntmps37
  go_wp2_with fail
  refine (iCheck_ok (HP.out.below B0.out)).mono ?_
  rw [HK.out]
  rintro e w1 ⟨rfl, d1⟩
  have K1 := hide (K0.out.below' d1.out)
  have B1 := hide (below_tr B0.out d1.out)
  have a0 := K1.out.at_ 0 rfl
  have a1 := K1.out.at_ 1 rfl
  clear d1 B0 K0 HP HK
  go_wp2_with fail
  have HB := hide (Back_can (U.out.below B1.out))
  clear U a0 a1
  by_cases hN : z.natAbs < 18446744073709551616
  case neg =>
    rw [if_neg hN] at HB
    refine HB.out.mono ?_
    rintro e w2 ⟨rfl, d2⟩
    have B2 := hide (below_tr B1.out d2.out)
    have hr : Hid (back64 z = #[.int .i64 0, .int .i64 3]) := by show _ = _; unfold back64; rw [if_neg (by omega)]
    clear hN d2
    go_wp2
    exact opq_end hR ⟨by rw [hr.out]; rfl, B2⟩
  rw [if_pos hN] at HB
  refine HB.out.mono ?_
  rintro e w2 ⟨rfl, d2⟩
  have B2 := hide (below_tr B1.out d2.out)
  have K2 := hide (K1.out.below' d2.out)
  have a0 := K2.out.at_ 0 rfl
  have a1 := K2.out.at_ 1 rfl
  clear d2 B1 HB K1
  cases b
  · have hz : 0 ≤ z := by have := eb.out; simp at this; omega
    obtain ⟨N, rfl⟩ := Int.eq_ofNat_of_zero_le hz
    simp only [Int.natAbs_natCast] at *
    by_cases h63 : N ≤ 9223372036854775807
    · have hr : Hid (back64 (N : Int) = #[.int .i64 (N : Int), .int .i64 0]) := by show _ = _; unfold back64; rw [if_pos (by omega)]
      have hw := wrapN h63
      have e1 : decide ((9223372036854775807 : Int) < N) = false := by simp; omega
      clear hN h63 hz
      go_wp2
      exact opq_end hR ⟨by rw [hr.out]; rfl, B2⟩
    · have hr : Hid (back64 (N : Int) = #[.int .i64 0, .int .i64 3]) := by show _ = _; unfold back64; rw [if_neg (by omega)]
      have e1 : decide ((9223372036854775807 : Int) < N) = true := by simp; omega
      clear hN h63 hz
      go_wp2
      exact opq_end hR ⟨by rw [hr.out]; rfl, B2⟩
  · obtain ⟨N, hzN⟩ : ∃ N : Nat, z = -(N : Int) := ⟨z.natAbs, by have := eb.out; simp at this; omega⟩
    subst hzN
    simp only [Int.natAbs_neg, Int.natAbs_natCast] at *
    by_cases h63 : N = 9223372036854775808
    · have hr : Hid (back64 (-(N : Int)) = #[.int .i64 (-9223372036854775808), .int .i64 0]) := by show _ = _; unfold back64; rw [if_pos (by omega)]; subst h63; rfl
      have e1 : ((N : Int) == 9223372036854775808) = true := by rw [h63]; rfl
      clear hN h63 eb
      go_wp2
      exact opq_end hR ⟨by rw [hr.out]; rfl, B2⟩
    · have e0 : ((N : Int) == 9223372036854775808) = false := by simp; omega
      by_cases h62 : N ≤ 9223372036854775807
      · have hr : Hid (back64 (-(N : Int)) = #[.int .i64 (-(N : Int)), .int .i64 0]) := by show _ = _; unfold back64; rw [if_pos (by omega)]
        have hw := wrapN h62
        have hw2 := wrapNeg h62
        have e1 : decide ((9223372036854775807 : Int) < N) = false := by simp; omega
        clear hN h63 eb h62
        go_wp2
        exact opq_end hR ⟨by rw [hr.out, hw2]; rfl, B2⟩
      · have hr : Hid (back64 (-(N : Int)) = #[.int .i64 0, .int .i64 3]) := by show _ = _; unfold back64; rw [if_neg (by omega)]
        have e1 : decide ((9223372036854775807 : Int) < N) = true := by simp; omega
        clear hN h63 eb h62
        go_wp2
        exact opq_end hR ⟨by rw [hr.out]; rfl, B2⟩
theorem decs_len : ∀ (m n : Nat), n < 10 ^ m → (decs n).length ≤ m := by
  intro m
  induction m with
  | zero => intro n h; rw [Nat.pow_zero] at h; obtain rfl : n = 0 := by omega
            rw [decs_zero]; simp
  | succ m ih =>
    intro n h
    by_cases h0 : n = 0
    · subst h0; rw [decs_zero]; simp
    · rw [decs_pos h0, List.length_append, List.length_singleton]
      have := ih (n / 10) (by rw [Nat.pow_succ] at h; omega)
      omega
theorem txt_len {N k : Nat} (h : L N ≤ k) : (txt N).length ≤ 10 * k + 1 := by
  unfold txt
  split
  · simp
  · have h1 : N < 10 ^ (10 * k) := by
      rw [Nat.pow_mul]
      exact Nat.lt_of_lt_of_le (L_le.1 h) (Nat.pow_le_pow_left (by omega) k)
    have := decs_len _ _ h1
    omega
/-- A number's text. -/
def itxt (z : Int) : List Nat := if z < 0 then 45 :: txt z.natAbs else txt z.natAbs
set_option maxHeartbeats 1000000 in
theorem iText_ok {w : World} {v1 : Value} {x : Int} (h1 : IArg w v1 x) (hl : L x.natAbs ≤ 1000000) :
    Calls Tryz.prog 50 #[v1] w fun e w' => e = .returned (vstr (bts (itxt x))) ∧ Hid (Below w.heap.size w w') := by
  refine opq fun R hR => ?_
  obtain ⟨b1, A1, n1, c1, rfl⟩ := h1.slice
  have S1 := hide hl
  replace h1 := hide h1
  have BW := hide ((Below.refl w.heap.size w).alloc (Nat.le_refl _) (.cells #[.bool b1, .slice A1 n1 c1] 25))
  go_enter Tryz.func50, Tryz.ntmps50
  go_wp2_with fail
  refine (iof_F h1.out BW.out).mono ?_
  rintro e w1 ⟨v8, rfl, d1, f8⟩
  have B1 := hide (BW.out.trans (d1.mono BW.out.size))
  obtain ⟨u8, rfl, hu8⟩ := f8
  obtain ⟨A8, n8, c8, rfl⟩ : ∃ A n c, u8 = .slice A n c := by obtain ⟨A, c, q, _⟩ := hu8; exact ⟨A, _, c, q⟩
  have U8 := hide (hu8.below B1.out)
  clear hu8 d1
  by_cases hx : x < 0
  · have e0 : decide (x < 0) = true := by simpa using hx
    have e1 : Hid (bts (itxt x) = 45 :: bts (txt x.natAbs)) := by show _ = _; unfold itxt; rw [if_pos hx]; rfl
    rw [e0]
    clear e0 hx
    have BV := hide ((Below.refl w1.heap.size w1).alloc (Nat.le_refl _) (.cells #[.bool true, .slice A8 n8 c8] 95))
    have T := hide (Text_can (U8.out.below BV.out) S1.out)
    have hT : (bts (txt x.natAbs)).length ≤ 10000001 := by rw [bts, List.length_map]; exact txt_len S1.out
    generalize bts (txt x.natAbs) = t at *
    clear U8 h1 S1
    go_wp2_with fail
    refine T.out.mono ?_
    rintro e w2 ⟨rfl, d2⟩
    have B2 := hide (B1.out.trans ((below_tr BV.out d2.out).mono B1.out.size))
    clear d2
    go_wp2
    exact opq_end hR ⟨by rw [e1.out]; rfl, B2⟩
  · have e0 : decide (x < 0) = false := by simpa using hx
    have e1 : Hid (bts (itxt x) = bts (txt x.natAbs)) := by show _ = _; unfold itxt; rw [if_neg hx]
    rw [e0]
    clear e0 hx
    have BV := hide ((Below.refl w1.heap.size w1).alloc (Nat.le_refl _) (.cells #[.bool false, .slice A8 n8 c8] 95))
    have T := hide (Text_can (U8.out.below BV.out) S1.out)
    have hT : (bts (txt x.natAbs)).length ≤ 10000001 := by rw [bts, List.length_map]; exact txt_len S1.out
    generalize bts (txt x.natAbs) = t at *
    clear U8 h1 S1
    go_wp2_with fail
    refine T.out.mono ?_
    rintro e w2 ⟨rfl, d2⟩
    have B2 := hide (B1.out.trans ((below_tr BV.out d2.out).mono B1.out.size))
    clear d2
    go_wp2
    exact opq_end hR ⟨by rw [e1.out]; rfl, B2⟩

/-- A text's sign, and the rest of it. -/
def isgn (l : List Nat) : Bool × List Nat := if l.head? = some 45 then (true, l.tail) else (false, l)
def hyphen : ByteArray := ⟨#[45]⟩
theorem cut_hyphen (s : ByteArray) : ∃ d : ByteArray, (⟨(Lib.trimPrefix s.data.toList hyphen.data.toList).toArray⟩ : ByteArray) = d ∧ byt d = (isgn (byt s)).2 ∧ Lib.hasPrefix s.data.toList hyphen.data.toList = (isgn (byt s)).1 ∧ d.size ≤ s.size := by
  refine ⟨_, rfl, ?_⟩
  have hsz : s.size = s.data.toList.length := Array.length_toList.symm
  rw [hsz]
  show _ ∧ _ ∧ (Lib.trimPrefix s.data.toList hyphen.data.toList).toArray.size ≤ _
  have hb : ∀ l : List UInt8, byt ⟨l.toArray⟩ = l.map UInt8.toNat := fun l => rfl
  rw [hb]
  unfold byt Lib.trimPrefix Lib.hasPrefix isgn hyphen
  generalize s.data.toList = l
  rcases l with _ | ⟨a, l⟩
  · simp [List.isPrefixOf]
  · by_cases ha : a = 45
    · subst ha
      simp [List.isPrefixOf]
    · have h1 : a.toNat ≠ 45 := fun e => ha (by rw [← UInt8.toNat_inj]; exact e)
      have h2 : ((45 : UInt8) == a) = false := by simpa using fun e => ha e.symm
      simp [List.isPrefixOf, h1, h2, ha]
set_option maxHeartbeats 400000 in
theorem iSame_ok {w : World} {v v' : Value} {x y : Int} (h : ICan w v x) (h' : ICan w v' y) :
    Calls Tryz.prog 86 #[v, v'] w fun e w' => ∃ u, e = .returned u ∧ Below w.heap.size w w' ∧ u = .bool (decide (x = y)) := by
  refine opq fun R hR => ?_
  obtain ⟨u1, rfl, hu1⟩ := h
  obtain ⟨u2, rfl, hu2⟩ := h'
  obtain ⟨A1, n1, c1, rfl⟩ : ∃ A n c, u1 = .slice A n c := by obtain ⟨A, c, q, _⟩ := hu1; exact ⟨A, _, c, q⟩
  obtain ⟨A2, n2, c2, rfl⟩ : ∃ A n c, u2 = .slice A n c := by obtain ⟨A, c, q, _⟩ := hu2; exact ⟨A, _, c, q⟩
  obtain ⟨W, hW, K1, K2, BW, ZW⟩ := alloc2 w #[.bool (decide (x < 0)), .slice A1 n1 c1] #[.bool (decide (y < 0)), .slice A2 n2 c2] 25 25
  have S := hide (Same_can (hu1.below BW.out) (hu2.below BW.out))
  have e : Hid (decide (x = y) = ((decide (x < 0) == decide (y < 0)) && decide (x.natAbs = y.natAbs))) := by
    show _ = _
    rw [Bool.eq_iff_iff]
    simp only [decide_eq_true_eq, Bool.and_eq_true, beq_iff_eq, decide_eq_decide]
    omega
  clear hu1 hu2
  generalize decide (x.natAbs = y.natAbs) = r at *
  generalize decide (x < 0) = b1 at *
  generalize decide (y < 0) = b2 at *
  have a0 := K1.out.at_ 0 rfl
  have a1 := K1.out.at_ 1 rfl
  have a2 := K2.out.at_ 0 rfl
  have a3 := K2.out.at_ 1 rfl
  cases b1 <;> cases b2
  all_goals
    go_enter Tryz.func86, Tryz.ntmps86
    go_wp2_with fail
    first
      | (refine S.out.mono ?_
         rintro e' w2 ⟨rfl, d2⟩
         have B2 := hide (below_tr BW.out d2.out)
         clear d2
         go_wp2
         exact opq_end hR ⟨_, rfl, B2.out, by rw [e.out]; rfl⟩)
      | (go_wp2
         exact opq_end hR ⟨_, rfl, BW.out, by rw [e.out]; rfl⟩)
end Go.Proofs.YtnpfochbpdfcmaaGreatDoor
