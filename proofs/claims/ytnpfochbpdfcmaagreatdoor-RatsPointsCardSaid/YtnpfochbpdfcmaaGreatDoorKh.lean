/- rats: digits, plain, number. -/
import Derived.Test.YtnpfochbpdfcmaaGreatDoorKg
import Derived.Test.YtnpfochbpdfcmaaGreatDoorLp
set_option linter.unusedVariables false
set_option linter.unusedSimpArgs false
set_option maxRecDepth 100000
namespace Go.Proofs.YtnpfochbpdfcmaaGreatDoor
open Go.RowKit

theorem byt_nil {s : ByteArray} : byt s = [] ↔ s.size = 0 := by
  rw [← byt_length, List.length_eq_zero_iff]
theorem isDigs_iff (s : ByteArray) : isDigs (byt s) = true ↔ s.size ≠ 0 ∧ ∀ x ∈ byt s, isDig x = true := by
  simp only [isDigs, Bool.and_eq_true, Bool.not_eq_true', List.isEmpty_eq_false_iff, ne_eq, byt_nil, List.all_eq_true]
set_option maxHeartbeats 1000000 in
theorem rdigits_P (w : World) (s : ByteArray) (hs : s.size ≤ 9223372036854775807) (r : Bool) (hr : isDigs (byt s) = r) :
    Calls Tryz.prog 56 #[.string s] w fun e w' => ∃ u, e = .returned u ∧ Below w.heap.size w w' ∧ u = .bool r := by
  refine opq fun R hR => ?_
  have T := hide (Tryz.strings_Trim_laid s digits w hs (by decide) (ascii_of_all (by decide)))
  have hd := trim_digits s
  have hi := isDigs_iff s
  generalize Lib.trimS s.data.toList digits.data.toList = tr at *
  unfold digits at T
  have es := empty_size s
  by_cases h0 : s.size = 0
  · have t1 : s.toList.isEmpty = true := by rw [es]; simpa using h0
    have hn : Hid (r = false) := by
      show _ = _
      rw [← hr, Bool.eq_false_iff]
      exact fun h => (hi.1 h).1 h0
    clear es T hd hi hr
    rw [hn.out] at hR
    go_enter Tryz.func56, Tryz.ntmps56
    go_wp2
    exact opq_end hR ⟨_, rfl, Below.refl _ _, rfl⟩
  have t1 : s.toList.isEmpty = false := by rw [es]; simpa using h0
  clear es
  by_cases htr : tr = []
  case neg =>
    have hn : Hid (r = false) := by
      show _ = _
      rw [← hr, Bool.eq_false_iff]
      exact fun h => htr (hd.2 (hi.1 h).2)
    clear hd hi hr
    rw [hn.out] at hR
    rcases tr with _ | ⟨a, tr⟩
    · exact absurd rfl htr
    clear htr
    go_enter Tryz.func56, Tryz.ntmps56
    go_wp2_with fail
    refine T.out.mono ?_
    rintro e w1 ⟨rfl, b1⟩
    have B1 := hide b1
    clear b1 T
    go_wp2
    exact opq_end hR ⟨_, rfl, B1.out, rfl⟩
  subst htr
  have hn : Hid (r = true) := by
    show _ = _
    rw [← hr]
    exact hi.2 ⟨h0, hd.1 rfl⟩
  clear hd hi hr
  rw [hn.out] at hR
  go_enter Tryz.func56, Tryz.ntmps56
  go_wp2_with fail
  refine T.out.mono ?_
  rintro e w1 ⟨rfl, b1⟩
  have B1 := hide b1
  clear b1 T
  go_wp2
  exact opq_end hR ⟨_, rfl, B1.out, rfl⟩
theorem n_byt_inj' {s t : ByteArray} (h : byt s = byt t) : s = t := by
  have h1 : s.data.toList = t.data.toList := (List.map_inj_right (fun a b e => UInt8.toNat_inj.1 e)).1 h
  cases s; cases t
  simp only [ByteArray.mk.injEq]
  exact Array.toList_inj.1 h1
theorem str_ne {s : ByteArray} {l : List UInt8} : (s.toList == l) = false ↔ s ≠ ⟨l.toArray⟩ := by
  rw [ByteArray.toList_eq, beq_eq_false_iff_ne, ne_eq, ne_eq, not_congr]
  constructor
  · intro h; cases s; simp only [ByteArray.mk.injEq]; rw [← h]
  · intro h; subst h; simp
theorem eq_zero_str (s : ByteArray) (hp : 0 < s.size) : s = ⟨#[48]⟩ ↔ s.size = 1 ∧ (s[0]'hp).toNat = 48 := by
  constructor
  · intro e; subst e; exact ⟨rfl, rfl⟩
  · rintro ⟨h1, h2⟩
    have a := byt_head s hp
    have b := byt_length s
    refine n_byt_inj' ?_
    cases hb : byt s with
    | nil => rw [hb] at b; simp at b; omega
    | cons x l =>
      rw [hb] at a b
      have hl : l = [] := List.eq_nil_of_length_eq_zero (by simp at b; omega)
      subst hl
      simp at a
      rw [a, h2]; rfl
set_option maxHeartbeats 1000000 in
theorem rplain_P (w : World) (s : ByteArray) (hs : s.size ≤ 9223372036854775807) (r : Bool) (hr : isNum (byt s) = r) :
    Calls Tryz.prog 55 #[.string s] w fun e w' => ∃ u, e = .returned u ∧ Below w.heap.size w w' ∧ u = .bool r := by
  refine opq fun R hR => ?_
  cases hd : isDigs (byt s)
  · have hn : Hid (r = false) := by
      show _ = _
      rw [← hr, Bool.eq_false_iff]
      exact fun h => by rw [isNum_digs h] at hd; cases hd
    have D := hide (rdigits_P w s hs false hd)
    clear hd hr
    rw [hn.out] at hR
    go_enter Tryz.func55, Tryz.ntmps55
    go_wp2_with fail
    refine D.out.mono ?_
    rintro e w1 ⟨_, rfl, d0, rfl⟩
    have B1 := hide d0
    clear d0 D
    go_wp2
    exact opq_end hR ⟨_, rfl, B1.out, rfl⟩
  · have D := hide (rdigits_P w s hs true hd)
    obtain ⟨h0, ha⟩ := (isDigs_iff s).1 hd
    have hp : 0 < s.size := by omega
    have ez := eq_zero_str s hp
    have hy := isNum_yes hp ha
    have hz := fun h1 => isNum_zero (s := s) h1
    clear hd ha
    by_cases h1 : s.size = 1 ∧ (s[0]'hp).toNat = 48
    · have e := ez.2 h1
      have hn : Hid (r = true) := by show _ = _; rw [← hr]; exact hy (.inl h1.1)
      rw [hn.out] at hR
      clear hy hz ez h1 hr hn
      subst e
      go_enter Tryz.func55, Tryz.ntmps55
      go_wp2_with fail
      refine D.out.mono ?_
      rintro e w1 ⟨_, rfl, d0, rfl⟩
      have B1 := hide d0
      clear d0 D
      go_wp2
      exact opq_end hR ⟨_, rfl, B1.out, rfl⟩
    · have t1 : (s.toList == [48]) = false := by rw [str_ne]; exact fun e => h1 (ez.1 e)
      by_cases h2 : (s[0]'hp).toNat = 48
      · have hn : Hid (r = false) := by show _ = _; rw [← hr]; exact hz (by have : s.size ≠ 1 := fun q => h1 ⟨q, h2⟩; omega) h2
        rw [hn.out] at hR
        have h3 : (((s[0]'hp).toNat : Int) != 48) = false := by rw [h2]; rfl
        clear hy hz ez h1 hr hn
        go_enter Tryz.func55, Tryz.ntmps55
        go_wp2_with fail
        refine D.out.mono ?_
        rintro e w1 ⟨_, rfl, d0, rfl⟩
        have B1 := hide d0
        clear d0 D
        go_wp2
        exact opq_end hR ⟨_, rfl, B1.out, rfl⟩
      · have hn : Hid (r = true) := by show _ = _; rw [← hr]; exact hy (.inr h2)
        rw [hn.out] at hR
        have h3 : (((s[0]'hp).toNat : Int) != 48) = true := by simp; omega
        clear hy hz ez h1 hr hn
        go_enter Tryz.func55, Tryz.ntmps55
        go_wp2_with fail
        refine D.out.mono ?_
        rintro e w1 ⟨_, rfl, d0, rfl⟩
        have B1 := hide d0
        clear d0 D
        go_wp2
        exact opq_end hR ⟨_, rfl, B1.out, rfl⟩
theorem byt_drop0 (s : ByteArray) : ∃ t : ByteArray, (⟨(Lib.trimLeftB s.data.toList 48).toArray⟩ : ByteArray) = t ∧ byt t = (byt s).dropWhile (· == 48) ∧ t.size ≤ s.size := by
  refine ⟨_, rfl, ?_, ?_⟩
  · unfold byt Lib.trimLeftB
    rw [List.toList_toArray, List.dropWhile_map]
    congr 1
    have : ((fun x => x == 48) ∘ UInt8.toNat) = (fun x : UInt8 => x == 48) := by
      funext b
      show (b.toNat == 48) = (b == 48)
      rw [Bool.eq_iff_iff, beq_iff_eq, beq_iff_eq]
      exact ⟨fun h => UInt8.toNat_inj.1 h, fun h => by subst h; rfl⟩
    rw [this]
  · show (Lib.trimLeftB s.data.toList 48).toArray.size ≤ _
    rw [List.size_toArray]
    have := (List.dropWhile_sublist (· == (48 : UInt8)) (l := s.data.toList)).length_le
    rw [Array.length_toList] at this
    exact this
theorem rnumber_long (w : World) (s : ByteArray) (hs : 200 < s.size) (hs2 : s.size ≤ 9223372036854775807) :
    Calls Tryz.prog 59 #[.string s] w fun e w' => e = .returned (.tuple #[.slice none 0 0, .int .i64 3]) ∧ Below w.heap.size w w' := by
  refine opq fun R hR => ?_
  go_enter Tryz.func59, Tryz.ntmps59
  go_wp2
  exact opq_end hR ⟨rfl, Below.refl _ _⟩
set_option maxHeartbeats 1000000 in
theorem rnumber_ok (w : World) (s : ByteArray) (hs : s.size ≤ 200) (hd : ∀ x ∈ byt s, isDig x = true) :
    Calls Tryz.prog 59 #[.string s] w fun e w' => ∃ u, e = .returned (.tuple #[u, .int .i64 0]) ∧ Below w.heap.size w w' ∧ NatR (num (byt s)) w.heap.size w' u := by
  refine opq fun R hR => ?_
  obtain ⟨t, et, hb, hl⟩ := byt_drop0 s
  have T := hide (Tryz.strings_TrimLeft_one s 48 (by decide) w)
  rw [et] at T
  have hv : num (byt t) = num (byt s) := by rw [hb, num_drop0]
  have hn : byt t ≠ [] → isNum (byt t) = true := fun h => by rw [hb]; exact drop0_num hd (by rw [← hb]; exact h)
  clear et hb hd
  have es := empty_size t
  by_cases h0 : t.size = 0
  · have t1 : t.toList.isEmpty = true := by rw [es]; simpa using h0
    have e0 : Hid (num (byt s) = 0) := by show _ = _; rw [← hv, byt_nil.2 h0]; rfl
    clear hv hn es
    go_enter Tryz.func59, Tryz.ntmps59
    go_wp2_with fail
    refine T.out.mono ?_
    rintro e w1 ⟨rfl, rfl⟩
    go_wp2
    exact opq_end hR ⟨_, rfl, Below.refl _ _, by rw [e0.out]; exact NatR.zero _ _⟩
  · have t1 : t.toList.isEmpty = false := by rw [es]; simpa using h0
    have P := hide (Parse_yes w t (hn (fun e => h0 (byt_nil.1 e))) (by omega))
    rw [hv] at P
    clear hv hn es
    go_enter Tryz.func59, Tryz.ntmps59
    go_wp2_with fail
    refine T.out.mono ?_
    rintro e w1 ⟨rfl, rfl⟩
    go_wp2_with fail
    refine P.out.mono ?_
    rintro e w1 ⟨v, rfl, r1, d1⟩
    have D1 := hide d1.out
    have R1 := hide r1.out
    clear d1 r1 P T
    go_wp2
    exact opq_end hR ⟨_, rfl, D1.out, R1.out⟩
end Go.Proofs.YtnpfochbpdfcmaaGreatDoor
