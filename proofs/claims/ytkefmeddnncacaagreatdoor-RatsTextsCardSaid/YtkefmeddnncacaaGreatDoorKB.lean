/- rats: Parse; contracts in words of the laws. -/
import Derived.Test.YtkefmeddnncacaaGreatDoorKA
import Derived.Test.YtkefmeddnncacaaGreatDoorLz
/- rats: digits, plain, number. -/
set_option linter.unusedVariables false
set_option linter.unusedSimpArgs false
set_option maxRecDepth 100000
namespace Go.Proofs.YtkefmeddnncacaaGreatDoor
open Go.RowKit

theorem byt_nil {s : ByteArray} : byt s = [] ↔ s.size = 0 := by
  rw [← byt_length, List.length_eq_zero_iff]
theorem isDigs_iff (s : ByteArray) : isDigs (byt s) = true ↔ s.size ≠ 0 ∧ ∀ x ∈ byt s, isDig x = true := by
  simp only [isDigs, Bool.and_eq_true, Bool.not_eq_true', List.isEmpty_eq_false_iff, ne_eq, byt_nil, List.all_eq_true]
set_option maxHeartbeats 1000000 in
theorem rdigits_P (w : World) (s : ByteArray) (hs : s.size ≤ 9223372036854775807) (r : Bool) (hr : isDigs (byt s) = r) :
    Calls Tryz.prog 76 #[.string s] w fun e w' => ∃ u, e = .returned u ∧ Below w.heap.size w w' ∧ u = .bool r := by
  refine opq fun R hR => ?_
  have T := hide (Tryz.strings_Trim_laid s digits w hs (by decide) (ascii_of_all (by decide)))
  have hd := trim_digits s
  have hi := isDigs_iff s
  generalize Lib.trimS s.data.toList digits.data.toList = tr at *
  unfold digits at T
  have es := empty_size s
  by_cases h0 : s.size = 0
  · have t1 : s.toList.isEmpty = true := by rw [es]; simpa using h0
    have hn : Hid (r = false) := by
      show _ = _
      rw [← hr, Bool.eq_false_iff]
      exact fun h => (hi.1 h).1 h0
    clear es T hd hi hr
    rw [hn.out] at hR
    go_enter Tryz.func76, Tryz.ntmps76
    go_wp2
    exact opq_end hR ⟨_, rfl, Below.refl _ _, rfl⟩
  have t1 : s.toList.isEmpty = false := by rw [es]; simpa using h0
  clear es
  by_cases htr : tr = []
  case neg =>
    have hn : Hid (r = false) := by
      show _ = _
      rw [← hr, Bool.eq_false_iff]
      exact fun h => htr (hd.2 (hi.1 h).2)
    clear hd hi hr
    rw [hn.out] at hR
    rcases tr with _ | ⟨a, tr⟩
    · exact absurd rfl htr
    clear htr
    go_enter Tryz.func76, Tryz.ntmps76
    go_wp2_with fail
    refine T.out.mono ?_
    rintro e w1 ⟨rfl, b1⟩
    have B1 := hide b1
    clear b1 T
    go_wp2
    exact opq_end hR ⟨_, rfl, B1.out, rfl⟩
  subst htr
  have hn : Hid (r = true) := by
    show _ = _
    rw [← hr]
    exact hi.2 ⟨h0, hd.1 rfl⟩
  clear hd hi hr
  rw [hn.out] at hR
  go_enter Tryz.func76, Tryz.ntmps76
  go_wp2_with fail
  refine T.out.mono ?_
  rintro e w1 ⟨rfl, b1⟩
  have B1 := hide b1
  clear b1 T
  go_wp2
  exact opq_end hR ⟨_, rfl, B1.out, rfl⟩
theorem n_byt_inj' {s t : ByteArray} (h : byt s = byt t) : s = t := by
  have h1 : s.data.toList = t.data.toList := (List.map_inj_right (fun a b e => UInt8.toNat_inj.1 e)).1 h
  cases s; cases t
  simp only [ByteArray.mk.injEq]
  exact Array.toList_inj.1 h1
theorem str_ne {s : ByteArray} {l : List UInt8} : (s.toList == l) = false ↔ s ≠ ⟨l.toArray⟩ := by
  rw [ByteArray.toList_eq, beq_eq_false_iff_ne, ne_eq, ne_eq, not_congr]
  constructor
  · intro h; cases s; simp only [ByteArray.mk.injEq]; rw [← h]
  · intro h; subst h; simp
theorem eq_zero_str (s : ByteArray) (hp : 0 < s.size) : s = ⟨#[48]⟩ ↔ s.size = 1 ∧ (s[0]'hp).toNat = 48 := by
  constructor
  · intro e; subst e; exact ⟨rfl, rfl⟩
  · rintro ⟨h1, h2⟩
    have a := byt_head s hp
    have b := byt_length s
    refine n_byt_inj' ?_
    cases hb : byt s with
    | nil => rw [hb] at b; simp at b; omega
    | cons x l =>
      rw [hb] at a b
      have hl : l = [] := List.eq_nil_of_length_eq_zero (by simp at b; omega)
      subst hl
      simp at a
      rw [a, h2]; rfl
set_option maxHeartbeats 1000000 in
theorem rplain_P (w : World) (s : ByteArray) (hs : s.size ≤ 9223372036854775807) (r : Bool) (hr : isNum (byt s) = r) :
    Calls Tryz.prog 75 #[.string s] w fun e w' => ∃ u, e = .returned u ∧ Below w.heap.size w w' ∧ u = .bool r := by
  refine opq fun R hR => ?_
  cases hd : isDigs (byt s)
  · have hn : Hid (r = false) := by
      show _ = _
      rw [← hr, Bool.eq_false_iff]
      exact fun h => by rw [isNum_digs h] at hd; cases hd
    have D := hide (rdigits_P w s hs false hd)
    clear hd hr
    rw [hn.out] at hR
    go_enter Tryz.func75, Tryz.ntmps75
    go_wp2_with fail
    refine D.out.mono ?_
    rintro e w1 ⟨_, rfl, d0, rfl⟩
    have B1 := hide d0
    clear d0 D
    go_wp2
    exact opq_end hR ⟨_, rfl, B1.out, rfl⟩
  · have D := hide (rdigits_P w s hs true hd)
    obtain ⟨h0, ha⟩ := (isDigs_iff s).1 hd
    have hp : 0 < s.size := by omega
    have ez := eq_zero_str s hp
    have hy := isNum_yes hp ha
    have hz := fun h1 => isNum_zero (s := s) h1
    clear hd ha
    by_cases h1 : s.size = 1 ∧ (s[0]'hp).toNat = 48
    · have e := ez.2 h1
      have hn : Hid (r = true) := by show _ = _; rw [← hr]; exact hy (.inl h1.1)
      rw [hn.out] at hR
      clear hy hz ez h1 hr hn
      subst e
      go_enter Tryz.func75, Tryz.ntmps75
      go_wp2_with fail
      refine D.out.mono ?_
      rintro e w1 ⟨_, rfl, d0, rfl⟩
      have B1 := hide d0
      clear d0 D
      go_wp2
      exact opq_end hR ⟨_, rfl, B1.out, rfl⟩
    · have t1 : (s.toList == [48]) = false := by rw [str_ne]; exact fun e => h1 (ez.1 e)
      by_cases h2 : (s[0]'hp).toNat = 48
      · have hn : Hid (r = false) := by show _ = _; rw [← hr]; exact hz (by have : s.size ≠ 1 := fun q => h1 ⟨q, h2⟩; omega) h2
        rw [hn.out] at hR
        have h3 : (((s[0]'hp).toNat : Int) != 48) = false := by rw [h2]; rfl
        clear hy hz ez h1 hr hn
        go_enter Tryz.func75, Tryz.ntmps75
        go_wp2_with fail
        refine D.out.mono ?_
        rintro e w1 ⟨_, rfl, d0, rfl⟩
        have B1 := hide d0
        clear d0 D
        go_wp2
        exact opq_end hR ⟨_, rfl, B1.out, rfl⟩
      · have hn : Hid (r = true) := by show _ = _; rw [← hr]; exact hy (.inr h2)
        rw [hn.out] at hR
        have h3 : (((s[0]'hp).toNat : Int) != 48) = true := by simp; omega
        clear hy hz ez h1 hr hn
        go_enter Tryz.func75, Tryz.ntmps75
        go_wp2_with fail
        refine D.out.mono ?_
        rintro e w1 ⟨_, rfl, d0, rfl⟩
        have B1 := hide d0
        clear d0 D
        go_wp2
        exact opq_end hR ⟨_, rfl, B1.out, rfl⟩
theorem byt_drop0 (s : ByteArray) : ∃ t : ByteArray, (⟨(Lib.trimLeftB s.data.toList 48).toArray⟩ : ByteArray) = t ∧ byt t = (byt s).dropWhile (· == 48) ∧ t.size ≤ s.size := by
  refine ⟨_, rfl, ?_, ?_⟩
  · unfold byt Lib.trimLeftB
    rw [List.toList_toArray, List.dropWhile_map]
    congr 1
    have : ((fun x => x == 48) ∘ UInt8.toNat) = (fun x : UInt8 => x == 48) := by
      funext b
      show (b.toNat == 48) = (b == 48)
      rw [Bool.eq_iff_iff, beq_iff_eq, beq_iff_eq]
      exact ⟨fun h => UInt8.toNat_inj.1 h, fun h => by subst h; rfl⟩
    rw [this]
  · show (Lib.trimLeftB s.data.toList 48).toArray.size ≤ _
    rw [List.size_toArray]
    have := (List.dropWhile_sublist (· == (48 : UInt8)) (l := s.data.toList)).length_le
    rw [Array.length_toList] at this
    exact this
theorem rnumber_long (w : World) (s : ByteArray) (hs : 200 < s.size) (hs2 : s.size ≤ 9223372036854775807) :
    Calls Tryz.prog 79 #[.string s] w fun e w' => e = .returned (.tuple #[.slice none 0 0, .int .i64 3]) ∧ Below w.heap.size w w' := by
  refine opq fun R hR => ?_
  go_enter Tryz.func79, Tryz.ntmps79
  go_wp2
  exact opq_end hR ⟨rfl, Below.refl _ _⟩
set_option maxHeartbeats 1000000 in
theorem rnumber_ok (w : World) (s : ByteArray) (hs : s.size ≤ 200) (hd : ∀ x ∈ byt s, isDig x = true) :
    Calls Tryz.prog 79 #[.string s] w fun e w' => ∃ u, e = .returned (.tuple #[u, .int .i64 0]) ∧ Below w.heap.size w w' ∧ NatR (num (byt s)) w.heap.size w' u := by
  refine opq fun R hR => ?_
  obtain ⟨t, et, hb, hl⟩ := byt_drop0 s
  have T := hide (Tryz.strings_TrimLeft_one s 48 (by decide) w)
  rw [et] at T
  have hv : num (byt t) = num (byt s) := by rw [hb, num_drop0]
  have hn : byt t ≠ [] → isNum (byt t) = true := fun h => by rw [hb]; exact drop0_num hd (by rw [← hb]; exact h)
  clear et hb hd
  have es := empty_size t
  by_cases h0 : t.size = 0
  · have t1 : t.toList.isEmpty = true := by rw [es]; simpa using h0
    have e0 : Hid (num (byt s) = 0) := by show _ = _; rw [← hv, byt_nil.2 h0]; rfl
    clear hv hn es
    go_enter Tryz.func79, Tryz.ntmps79
    go_wp2_with fail
    refine T.out.mono ?_
    rintro e w1 ⟨rfl, rfl⟩
    go_wp2
    exact opq_end hR ⟨_, rfl, Below.refl _ _, by rw [e0.out]; exact NatR.zero _ _⟩
  · have t1 : t.toList.isEmpty = false := by rw [es]; simpa using h0
    have P := hide (Parse_yes w t (hn (fun e => h0 (byt_nil.1 e))) (by omega))
    rw [hv] at P
    clear hv hn es
    go_enter Tryz.func79, Tryz.ntmps79
    go_wp2_with fail
    refine T.out.mono ?_
    rintro e w1 ⟨rfl, rfl⟩
    go_wp2_with fail
    refine P.out.mono ?_
    rintro e w1 ⟨v, rfl, r1, d1⟩
    have D1 := hide d1.out
    have R1 := hide r1.out
    clear d1 r1 P T
    go_wp2
    exact opq_end hR ⟨_, rfl, D1.out, R1.out⟩
end Go.Proofs.YtkefmeddnncacaaGreatDoor

/- rats: Parse. -/
set_option linter.unusedVariables false
set_option linter.unusedSimpArgs false
set_option maxRecDepth 100000
namespace Go.Proofs.YtkefmeddnncacaaGreatDoor
open Go.RowKit

/-- The library's own number of bytes up to which it searches in one go. -/
def MaxL (w : World) : Prop := ∃ m, w.cell? ⟨1, 0, none⟩ = some (.int .i64 m)
theorem MaxL.below {w w' : World} (h : MaxL w) (hb : Below w.heap.size w w') : MaxL w' := by
  obtain ⟨m, h⟩ := h
  exact ⟨m, cell_below hb h⟩
theorem cut_P (w : World) (s : ByteArray) (c : UInt8) (hs : s.size ≤ 4294967000) (hM : MaxL w) :
    Calls Tryz.prog 74 #[.string s, .string ⟨#[c]⟩] w fun e w' => ∃ (f1 f2 : ByteArray) (p : Bool), e = .returned (.tuple #[.string f1, .string f2, .bool p]) ∧ Below w.heap.size w w' ∧ scut c.toNat (byt s) = (byt f1, byt f2, p) ∧ f1.size ≤ s.size ∧ f2.size ≤ s.size := by
  obtain ⟨m, hm⟩ := hM
  refine (Tryz.strings_Cut s ⟨#[c]⟩ m w (by omega) hm).mono ?_
  rintro e w' ⟨rfl, n, rfl⟩
  have hc := cut_map s.data.toList c
  have hl : (Lib.cut s.data.toList [c]).1.length ≤ s.size ∧ (Lib.cut s.data.toList [c]).2.1.length ≤ s.size := by
    have e0 : s.data.toList.length = s.size := Array.length_toList
    rw [cut_one]
    cases s.data.toList.contains c
    · exact ⟨Nat.le_of_eq e0, Nat.zero_le _⟩
    · simp only [if_true]
      have h1 := (List.takeWhile_sublist (· != c) (l := s.data.toList)).length_le
      have h2 := (List.dropWhile_sublist (· != c) (l := s.data.toList)).length_le
      refine ⟨by omega, ?_⟩
      rw [List.length_drop]; omega
  refine ⟨_, _, _, rfl, below_drewN (Below.refl _ _) _, ?_, ?_, ?_⟩
  · unfold byt
    simp only [List.toList_toArray]
    exact hc.symm
  · show (Lib.cut s.data.toList [c]).1.toArray.size ≤ _; rw [List.size_toArray]; exact hl.1
  · show (Lib.cut s.data.toList [c]).2.1.toArray.size ≤ _; rw [List.size_toArray]; exact hl.2
theorem repeatL_one (c : UInt8) : ∀ k, Lib.repeatL [c] k = List.replicate k c
  | 0 => rfl
  | k + 1 => by rw [Lib.repeatL, repeatL_one c k]; rfl
theorem rep_P (w : World) (k : Nat) (hk : k ≤ 200) :
    Calls Tryz.prog 77 #[.string ⟨#[48]⟩, .int .i64 (k : Nat)] w fun e w' => ∃ z : ByteArray, e = .returned (.string z) ∧ Below w.heap.size w w' ∧ byt z = List.replicate k 48 := by
  refine (Tryz.strings_Repeat ⟨#[48]⟩ k w (by omega) (by show 1 * k ≤ _; omega)).mono ?_
  rintro e w' ⟨rfl, hb⟩
  refine ⟨_, rfl, hb, ?_⟩
  unfold byt
  rw [List.toList_toArray, show (⟨#[48]⟩ : ByteArray).data.toList = [48] from rfl, repeatL_one, List.map_replicate]
  rfl
theorem trim_nil (l cs : List UInt8) : Lib.trimS l cs = [] ↔ ∀ b ∈ l, cs.contains b = true := by
  have dw : ∀ (l : List UInt8) (p : UInt8 → Bool), l.dropWhile p = [] ↔ ∀ b ∈ l, p b = true := by
    intro l p
    induction l with
    | nil => simp
    | cons a l ih =>
      rw [List.dropWhile_cons]
      by_cases h : p a = true
      · rw [if_pos h, ih]; simp [h]
      · rw [if_neg h]; simp [h]
  unfold Lib.trimS
  simp only [Lib.trimLeftS, Lib.trimRightS]
  constructor
  · intro h b hb
    rw [dw] at h
    by_cases hq : ∀ c ∈ l, cs.contains c = true
    · exact hq b hb
    · exfalso
      apply hq
      have h2 : (l.reverse.dropWhile (cs.contains ·)) = [] := by
        cases hr : l.reverse.dropWhile (cs.contains ·) with
        | nil => rfl
        | cons x r =>
          have hx := List.head_dropWhile_not (p := (cs.contains ·)) (l := l.reverse) (by rw [hr]; simp)
          simp only [hr, List.head_cons] at hx
          have := h x (by rw [hr]; simp)
          rw [this] at hx
          cases hx
      rw [dw] at h2
      intro c hc
      exact h2 c (List.mem_reverse.2 hc)
  · intro h
    have : l.reverse.dropWhile (cs.contains ·) = [] := by
      rw [dw]
      intro b hb
      exact h b (List.mem_reverse.1 hb)
    rw [this]
    rfl
theorem trim_zero (s : ByteArray) : Lib.trimS s.data.toList [48] = [] ↔ ∀ x ∈ byt s, x = 48 := by
  rw [trim_nil]
  constructor
  · intro h x hx
    obtain ⟨b, hb, rfl⟩ := List.mem_map.1 hx
    have := h b hb
    simp at this
    subst this; rfl
  · intro h b hb
    have := h _ (List.mem_map_of_mem hb)
    have e : b = 48 := UInt8.toNat_inj.1 this
    subst e; rfl
theorem rsplit_A {l a b : List Nat} (h : scut 46 l = (a, b, true)) : rsplit l = if isNum a && isDigs b then some (a ++ b, 49 :: List.replicate (min b.length 200) 48) else none := by
  unfold rsplit; rw [h]; rfl
theorem rsplit_B {l a b x y : List Nat} (h : scut 46 l = (x, y, false)) {p : Bool} (h2 : scut 47 l = (a, b, p)) (d : List Nat) (hd : (if p then b else [49]) = d) : rsplit l = if isNum a && isNum d && !decide (d = [48]) then some (a, d) else none := by
  subst hd
  unfold rsplit; rw [h, h2]; rfl
/-- What a text comes to. -/
def RPost (r : Rat ⊕ Int) (B : Nat) (e : Ending) (w : World) : Prop :=
  match r with
  | .inl q => ∃ u, e = .returned (.tuple #[u, .int .i64 0]) ∧ RatR q B w u
  | .inr c => e = .returned (.tuple #[.agg #[.bool false, .slice none 0 0, .slice none 0 0], .int .i64 c])
theorem byt_append (a b : ByteArray) : byt (a ++ b) = byt a ++ byt b := by
  unfold byt
  rw [← List.map_append]
  congr 1
theorem clone_P {w : World} {v : Value} {N : Nat} (h : Can w v N) (hl : L N ≤ 4398046511104) :
    Calls Tryz.prog 81 #[v] w fun e w' => ∃ u, e = .returned u ∧ Below w.heap.size w w' ∧ NatR N w.heap.size w' u := clone_F w.heap.size (Nat.le_refl _) h hl
theorem num_L {l : List Nat} (h : ∀ x ∈ l, isDig x = true) (hl : l.length ≤ 200) : L (num l) ≤ 4398046511104 :=
  L_up (L_le.2 (Nat.lt_of_lt_of_le (num_lt l (dig58 h)) (Nat.le_trans (Nat.pow_le_pow_right (by decide) hl) (by decide +kernel : 10 ^ 200 ≤ 4294967296 ^ 200)))) (by decide)
theorem ican_sgn {w : World} {u : Value} {N : Nat} {b : Bool} (h : Can w u N) (hb : b = true → N ≠ 0) : ICan w (.agg #[.bool b, u]) (sgn b N) := by
  refine ⟨u, ?_, by rw [sgn_abs]; exact h⟩
  rw [sgn_neg]
  cases b
  · rfl
  · simp [hb rfl]
set_option maxHeartbeats 4000000 in
theorem rParse_P (w : World) (s : ByteArray) (hs : s.size ≤ 4294967000) (hT : Tab w) (hM : MaxL w) (r : Rat ⊕ Int) (hr : rmake (isgn (byt s)).1 (rsplit (isgn (byt s)).2) = r) :
    Calls Tryz.prog 12 #[.string s] w fun e w' => RPost r w.heap.size e w' ∧ Below w.heap.size w w' := by
  refine opq fun R hR => ?_
  have T := hide hT
  have M := hide hM
  obtain ⟨d, hd, hd2, hd3, hd4⟩ := cut_hyphen s
  have C := hide (fun W => Tryz.strings_CutPrefix s hyphen W)
  rw [hd, hd3] at C
  unfold hyphen at C
  have hds : d.size ≤ 4294967000 := by omega
  rw [← hd2] at hr
  replace hr := hide hr
  generalize (isgn (byt s)).1 = b at *
  clear hd hd2 hd3 hd4 hT hM
  go_enter Tryz.func12, Tryz.ntmps12
  have b0 := hide (Below.refl w.heap.size w)
  have K := hide (Blk.new_at w (w.heap.size) (by simp) 27 #[.bool false, .slice none 0 0, .slice none 0 0])
  have y := (Below.refl w.heap.size w).alloc (Nat.le_refl _) (.cells #[.bool false, .slice none 0 0, .slice none 0 0] 27)
  replace b0 := hide (below_tr b0.out y)
  clear y
  go_wp2_with fail
  refine (C.out _).mono ?_
  rintro e w' ⟨rfl, rfl⟩
  clear C
  go_wp2_with fail
  refine (cut_P _ d 46 hds (M.out.below b0.out)).mono ?_
  rintro e w1 ⟨f1, f2, p, rfl, d0, ep, lf1, lf2⟩
  replace K := hide (K.out.below' d0)
  replace b0 := hide (below_tr b0.out d0)
  clear d0
  cases p
  case true =>
    have hA := hide (rsplit_A ep)
    clear ep
    rw [hA.out] at hr
    cases q1 : isNum (byt f1)
    case false =>
      go_wp2_with fail
      refine (rplain_P _ f1 (by omega) false q1).mono ?_
      rintro e w2 ⟨_, rfl, d0, rfl⟩
      replace K := hide (K.out.below' d0)
      replace b0 := hide (below_tr b0.out d0)
      clear d0
      have er : Hid (r = .inr 4) := by show _ = _; rw [← hr.out]; rw [q1]; rfl
      clear hr
      have Kc0 : w2.cell? ⟨w.heap.size, 0, none⟩ = some (.bool false) := K.out.at_ 0 rfl
      have Kc1 : w2.cell? ⟨w.heap.size, 1, none⟩ = some (.slice none 0 0) := K.out.at_ 1 rfl
      have Kc2 : w2.cell? ⟨w.heap.size, 2, none⟩ = some (.slice none 0 0) := K.out.at_ 2 rfl
      have p0 : w2.frozen? ⟨w.heap.size, 0, none⟩ = false := K.out.frozen 0
      have p1 : w2.frozen? ⟨w.heap.size, 1, none⟩ = false := K.out.frozen 1
      have p2 : w2.frozen? ⟨w.heap.size, 2, none⟩ = false := K.out.frozen 2
      go_wp2
      refine bodyPost_ret (v := .tuple #[.agg #[.bool false, .slice none 0 0, .slice none 0 0], .int .i64 4]) (by simp [results, Tryz.results12, go_sem, Kc0, Kc1, Kc2, p0, p1, p2]) rfl ?_
      exact opq_end hR ⟨by rw [er.out]; exact rfl, (by (repeat (first | exact b0 | exact Below.refl _ _ | refine Below.setCell ?_ (by first | (simp; done) | (simp; omega)) _ | refine Below.alloc ?_ (by first | (simp; done) | (simp; omega)) _)))⟩
    case true =>
      go_wp2_with fail
      refine (rplain_P _ f1 (by omega) true q1).mono ?_
      rintro e w2 ⟨_, rfl, d0, rfl⟩
      replace K := hide (K.out.below' d0)
      replace b0 := hide (below_tr b0.out d0)
      clear d0
      cases q2 : isDigs (byt f2)
      case false =>
        go_wp2_with fail
        refine (rdigits_P _ f2 (by omega) false q2).mono ?_
        rintro e w3 ⟨_, rfl, d0, rfl⟩
        replace K := hide (K.out.below' d0)
        replace b0 := hide (below_tr b0.out d0)
        clear d0
        have er : Hid (r = .inr 4) := by show _ = _; rw [← hr.out]; rw [q1, q2]; rfl
        clear hr
        have Kc0 : w3.cell? ⟨w.heap.size, 0, none⟩ = some (.bool false) := K.out.at_ 0 rfl
        have Kc1 : w3.cell? ⟨w.heap.size, 1, none⟩ = some (.slice none 0 0) := K.out.at_ 1 rfl
        have Kc2 : w3.cell? ⟨w.heap.size, 2, none⟩ = some (.slice none 0 0) := K.out.at_ 2 rfl
        have p0 : w3.frozen? ⟨w.heap.size, 0, none⟩ = false := K.out.frozen 0
        have p1 : w3.frozen? ⟨w.heap.size, 1, none⟩ = false := K.out.frozen 1
        have p2 : w3.frozen? ⟨w.heap.size, 2, none⟩ = false := K.out.frozen 2
        go_wp2
        refine bodyPost_ret (v := .tuple #[.agg #[.bool false, .slice none 0 0, .slice none 0 0], .int .i64 4]) (by simp [results, Tryz.results12, go_sem, Kc0, Kc1, Kc2, p0, p1, p2]) rfl ?_
        exact opq_end hR ⟨by rw [er.out]; exact rfl, (by (repeat (first | exact b0 | exact Below.refl _ _ | refine Below.setCell ?_ (by first | (simp; done) | (simp; omega)) _ | refine Below.alloc ?_ (by first | (simp; done) | (simp; omega)) _)))⟩
      case true =>
        go_wp2_with fail
        refine (rdigits_P _ f2 (by omega) true q2).mono ?_
        rintro e w3 ⟨_, rfl, d0, rfl⟩
        replace K := hide (K.out.below' d0)
        replace b0 := hide (below_tr b0.out d0)
        clear d0
        rw [q1, q2] at hA hr
        have s2 := byt_length f2
        obtain ⟨k, hk⟩ : ∃ k, min (byt f2).length 200 = k := ⟨_, rfl⟩
        rw [hk] at hA hr
        have hmin : min (f2.size : Int) 200 = (k : Nat) := by rw [← hk, s2]; omega
        have hk2 : k ≤ 200 := by omega
        clear hk
        go_wp2_with fail
        refine (rep_P _ k hk2).mono ?_
        rintro e w4 ⟨z, rfl, d0, hz⟩
        replace K := hide (K.out.below' d0)
        replace b0 := hide (below_tr b0.out d0)
        clear d0
        have zs : z.size = k := by rw [← byt_length, hz, List.length_replicate]
        obtain ⟨A, hA2⟩ : ∃ A, f1 ++ f2 = A := ⟨_, rfl⟩
        obtain ⟨D, hD2⟩ : ∃ D, (⟨#[49]⟩ : ByteArray) ++ z = D := ⟨_, rfl⟩
        have bA : byt A = byt f1 ++ byt f2 := by rw [← hA2, byt_append]
        have bD : byt D = 49 :: List.replicate k 48 := by rw [← hD2, byt_append, hz]; rfl
        have hsp : Hid (rsplit (byt d) = some (byt A, byt D)) := by show _ = _; rw [hA.out, bA, bD]; rfl
        have hr' := hr
        have sA : A.size = f1.size + f2.size := by rw [← byt_length, bA, List.length_append, byt_length, byt_length]
        have sD : D.size = k + 1 := by rw [← byt_length, bD]; simp
        rw [← hA.out] at hr
        clear hA bA bD hz hr'
        obtain ⟨dA, dD, nD⟩ := rsplit_all hsp.out
        rw [hsp.out] at hr
        replace dA := hide dA
        replace dD := hide dD
        replace nD := hide nD
        clear hsp
        cases b
        case false =>
          have nz : Hid ((false && decide (num (byt A) = 0)) = false) := by show _ = _; rfl
          by_cases hA : 200 < (A).size
          case pos =>
            go_wp2_with fail
            refine (rnumber_long _ A hA (by omega)).mono ?_
            rintro e w5 ⟨rfl, d0⟩
            replace K := hide (K.out.below' d0)
            replace b0 := hide (below_tr b0.out d0)
            clear d0
            by_cases hD : 200 < (D).size
            case pos =>
              go_wp2_with fail
              refine (rnumber_long _ D hD (by omega)).mono ?_
              rintro e w6 ⟨rfl, d0⟩
              replace K := hide (K.out.below' d0)
              replace b0 := hide (below_tr b0.out d0)
              clear d0
              have er : Hid (r = .inr 3) := by show _ = _; rw [← hr.out]; rw [rmake, nz.out, if_neg (by decide), if_pos (by rw [byt_length, byt_length]; omega)]
              clear hr
              have Kc0 : w6.cell? ⟨w.heap.size, 0, none⟩ = some (.bool false) := K.out.at_ 0 rfl
              have Kc1 : w6.cell? ⟨w.heap.size, 1, none⟩ = some (.slice none 0 0) := K.out.at_ 1 rfl
              have Kc2 : w6.cell? ⟨w.heap.size, 2, none⟩ = some (.slice none 0 0) := K.out.at_ 2 rfl
              have p0 : w6.frozen? ⟨w.heap.size, 0, none⟩ = false := K.out.frozen 0
              have p1 : w6.frozen? ⟨w.heap.size, 1, none⟩ = false := K.out.frozen 1
              have p2 : w6.frozen? ⟨w.heap.size, 2, none⟩ = false := K.out.frozen 2
              go_wp2
              refine bodyPost_ret (v := .tuple #[.agg #[.bool false, .slice none 0 0, .slice none 0 0], .int .i64 3]) (by simp [results, Tryz.results12, go_sem, Kc0, Kc1, Kc2, p0, p1, p2]) rfl ?_
              exact opq_end hR ⟨by rw [er.out]; exact rfl, (by (repeat (first | exact b0 | exact Below.refl _ _ | refine Below.setCell ?_ (by first | (simp; done) | (simp; omega)) _ | refine Below.alloc ?_ (by first | (simp; done) | (simp; omega)) _)))⟩
            go_wp2_with fail
            refine (rnumber_ok _ D (by omega) dD.out).mono ?_
            rintro e w6 ⟨v5, rfl, d0, r5⟩
            replace K := hide (K.out.below' d0)
            replace b0 := hide (below_tr b0.out d0)
            clear d0
            obtain ⟨A5, n5, c5, rfl⟩ := r5.slice
            clear r5
            have er : Hid (r = .inr 3) := by show _ = _; rw [← hr.out]; rw [rmake, nz.out, if_neg (by decide), if_pos (by rw [byt_length, byt_length]; omega)]
            clear hr
            have Kc0 : w6.cell? ⟨w.heap.size, 0, none⟩ = some (.bool false) := K.out.at_ 0 rfl
            have Kc1 : w6.cell? ⟨w.heap.size, 1, none⟩ = some (.slice none 0 0) := K.out.at_ 1 rfl
            have Kc2 : w6.cell? ⟨w.heap.size, 2, none⟩ = some (.slice none 0 0) := K.out.at_ 2 rfl
            have p0 : w6.frozen? ⟨w.heap.size, 0, none⟩ = false := K.out.frozen 0
            have p1 : w6.frozen? ⟨w.heap.size, 1, none⟩ = false := K.out.frozen 1
            have p2 : w6.frozen? ⟨w.heap.size, 2, none⟩ = false := K.out.frozen 2
            go_wp2
            refine bodyPost_ret (v := .tuple #[.agg #[.bool false, .slice none 0 0, .slice none 0 0], .int .i64 3]) (by simp [results, Tryz.results12, go_sem, Kc0, Kc1, Kc2, p0, p1, p2]) rfl ?_
            exact opq_end hR ⟨by rw [er.out]; exact rfl, (by (repeat (first | exact b0 | exact Below.refl _ _ | refine Below.setCell ?_ (by first | (simp; done) | (simp; omega)) _ | refine Below.alloc ?_ (by first | (simp; done) | (simp; omega)) _)))⟩
          go_wp2_with fail
          refine (rnumber_ok _ A (by omega) dA.out).mono ?_
          rintro e w5 ⟨v4, rfl, d0, r4⟩
          replace K := hide (K.out.below' d0)
          replace b0 := hide (below_tr b0.out d0)
          have N4 := hide (r4.can)
          clear d0
          clear r4
          obtain ⟨A4, n4, c4, rfl⟩ := N4.out.slice
          by_cases hD : 200 < (D).size
          case pos =>
            go_wp2_with fail
            refine (rnumber_long _ D hD (by omega)).mono ?_
            rintro e w6 ⟨rfl, d0⟩
            replace K := hide (K.out.below' d0)
            replace N4 := hide (N4.out.below d0)
            replace b0 := hide (below_tr b0.out d0)
            clear d0
            have er : Hid (r = .inr 3) := by show _ = _; rw [← hr.out]; rw [rmake, nz.out, if_neg (by decide), if_pos (by rw [byt_length, byt_length]; omega)]
            clear hr
            have Kc0 : w6.cell? ⟨w.heap.size, 0, none⟩ = some (.bool false) := K.out.at_ 0 rfl
            have Kc1 : w6.cell? ⟨w.heap.size, 1, none⟩ = some (.slice none 0 0) := K.out.at_ 1 rfl
            have Kc2 : w6.cell? ⟨w.heap.size, 2, none⟩ = some (.slice none 0 0) := K.out.at_ 2 rfl
            have p0 : w6.frozen? ⟨w.heap.size, 0, none⟩ = false := K.out.frozen 0
            have p1 : w6.frozen? ⟨w.heap.size, 1, none⟩ = false := K.out.frozen 1
            have p2 : w6.frozen? ⟨w.heap.size, 2, none⟩ = false := K.out.frozen 2
            go_wp2
            refine bodyPost_ret (v := .tuple #[.agg #[.bool false, .slice none 0 0, .slice none 0 0], .int .i64 3]) (by simp [results, Tryz.results12, go_sem, Kc0, Kc1, Kc2, p0, p1, p2]) rfl ?_
            exact opq_end hR ⟨by rw [er.out]; exact rfl, (by (repeat (first | exact b0 | exact Below.refl _ _ | refine Below.setCell ?_ (by first | (simp; done) | (simp; omega)) _ | refine Below.alloc ?_ (by first | (simp; done) | (simp; omega)) _)))⟩
          go_wp2_with fail
          refine (rnumber_ok _ D (by omega) dD.out).mono ?_
          rintro e w6 ⟨v5, rfl, d0, r5⟩
          replace K := hide (K.out.below' d0)
          replace N4 := hide (N4.out.below d0)
          replace b0 := hide (below_tr b0.out d0)
          have N5 := hide (r5.can)
          clear d0
          clear r5
          obtain ⟨A5, n5, c5, rfl⟩ := N5.out.slice
          have la := hide (num_L dA.out (by rw [byt_length]; omega))
          have ld := hide (num_L dD.out (by rw [byt_length]; omega))
          have er : Hid (r = .inl (mkRat (sgn false (num (byt A))) (num (byt D)))) := by show _ = _; rw [← hr.out, rmake, nz.out, if_neg (by decide), if_neg (by rw [byt_length, byt_length]; omega)]
          clear hr
          go_wp2_with fail
          refine (clone_P N4.out la.out).mono ?_
          rintro e w7 ⟨v6, rfl, d0, r6⟩
          replace K := hide (K.out.below' d0)
          replace N4 := hide (N4.out.below d0)
          replace N5 := hide (N5.out.below d0)
          replace b0 := hide (below_tr b0.out d0)
          have N6 := hide (r6.can)
          clear d0
          clear r6
          obtain ⟨A6, n6, c6, rfl⟩ := N6.out.slice
          go_wp2_with fail
          refine (rlowest_P (ican_sgn (b := false) N6.out (fun h => by cases h)) N5.out (by rw [sgn_abs]; exact la.out) ld.out nD.out (T.out.below b0.out)).mono ?_
          rintro e w8 ⟨v8, rfl, d0, r8⟩
          have bz := b0.out.size
          replace K := hide (K.out.below' d0)
          replace N4 := hide (N4.out.below d0)
          replace N5 := hide (N5.out.below d0)
          replace N6 := hide (N6.out.below d0)
          replace b0 := hide (below_tr b0.out d0)
          have R8 := hide (r8.mono (B' := w.heap.size) bz)
          clear d0 bz
          clear r8
          obtain ⟨b8, A8, n8, c8, D8, m8, k8, rfl⟩ := R8.out.slice
          have Kc0 : w8.cell? ⟨w.heap.size, 0, none⟩ = some (.bool false) := K.out.at_ 0 rfl
          have Kc1 : w8.cell? ⟨w.heap.size, 1, none⟩ = some (.slice none 0 0) := K.out.at_ 1 rfl
          have Kc2 : w8.cell? ⟨w.heap.size, 2, none⟩ = some (.slice none 0 0) := K.out.at_ 2 rfl
          have p0 : w8.frozen? ⟨w.heap.size, 0, none⟩ = false := K.out.frozen 0
          have p1 : w8.frozen? ⟨w.heap.size, 1, none⟩ = false := K.out.frozen 1
          have p2 : w8.frozen? ⟨w.heap.size, 2, none⟩ = false := K.out.frozen 2
          go_wp2
          refine bodyPost_ret (v := .tuple #[.agg #[.bool b8, .slice A8 n8 c8, .slice D8 m8 k8], .int .i64 0]) (by simp [results, Tryz.results12, go_sem, Kc0, Kc1, Kc2, p0, p1, p2]) rfl ?_
          exact opq_end hR ⟨by rw [er.out]; exact ⟨_, rfl, R8.out.only K.out (by decide) ((((Only.refl _ _).set _ _).set _ _).set _ _)⟩, (by (repeat (first | exact b0 | exact Below.refl _ _ | refine Below.setCell ?_ (by first | (simp; done) | (simp; omega)) _ | refine Below.alloc ?_ (by first | (simp; done) | (simp; omega)) _)))⟩
        case true =>
          have TR := hide (fun W => Tryz.strings_Trim_laid A ⟨#[48]⟩ W (by omega) (by decide) (ascii_of_all (by decide)))
          have tz := trim_zero A
          rw [show (⟨#[48]⟩ : ByteArray).data.toList = [48] from rfl] at TR
          generalize Lib.trimS (A).data.toList [48] = tr at *
          by_cases hz : tr = []
          case pos =>
            subst hz
            have e0 : num (byt A) = 0 := (num0_iff dA.out).2 (tz.1 rfl)
            clear tz
            replace e0 := hide e0
            go_wp2_with fail
            refine (TR.out _).mono ?_
            rintro e w5 ⟨rfl, d0⟩
            replace K := hide (K.out.below' d0)
            replace b0 := hide (below_tr b0.out d0)
            clear d0
            clear TR
            have er : Hid (r = .inr 4) := by show _ = _; rw [← hr.out]; rw [rmake, e0.out]; rfl
            clear hr
            have Kc0 : w5.cell? ⟨w.heap.size, 0, none⟩ = some (.bool false) := K.out.at_ 0 rfl
            have Kc1 : w5.cell? ⟨w.heap.size, 1, none⟩ = some (.slice none 0 0) := K.out.at_ 1 rfl
            have Kc2 : w5.cell? ⟨w.heap.size, 2, none⟩ = some (.slice none 0 0) := K.out.at_ 2 rfl
            have p0 : w5.frozen? ⟨w.heap.size, 0, none⟩ = false := K.out.frozen 0
            have p1 : w5.frozen? ⟨w.heap.size, 1, none⟩ = false := K.out.frozen 1
            have p2 : w5.frozen? ⟨w.heap.size, 2, none⟩ = false := K.out.frozen 2
            go_wp2
            refine bodyPost_ret (v := .tuple #[.agg #[.bool false, .slice none 0 0, .slice none 0 0], .int .i64 4]) (by simp [results, Tryz.results12, go_sem, Kc0, Kc1, Kc2, p0, p1, p2]) rfl ?_
            exact opq_end hR ⟨by rw [er.out]; exact rfl, (by (repeat (first | exact b0 | exact Below.refl _ _ | refine Below.setCell ?_ (by first | (simp; done) | (simp; omega)) _ | refine Below.alloc ?_ (by first | (simp; done) | (simp; omega)) _)))⟩
          have nb : Hid (num (byt A) ≠ 0) := fun e => hz (tz.2 ((num0_iff dA.out).1 e))
          clear tz
          rcases tr with _ | ⟨t0, tr⟩
          · exact absurd rfl hz
          clear hz
          go_wp2_with fail
          refine (TR.out _).mono ?_
          rintro e w5 ⟨rfl, d0⟩
          replace K := hide (K.out.below' d0)
          replace b0 := hide (below_tr b0.out d0)
          clear d0
          clear TR
          have nz : Hid ((true && decide (num (byt A) = 0)) = false) := by show _ = _; simpa using nb.out
          by_cases hA : 200 < (A).size
          case pos =>
            go_wp2_with fail
            refine (rnumber_long _ A hA (by omega)).mono ?_
            rintro e w6 ⟨rfl, d0⟩
            replace K := hide (K.out.below' d0)
            replace b0 := hide (below_tr b0.out d0)
            clear d0
            by_cases hD : 200 < (D).size
            case pos =>
              go_wp2_with fail
              refine (rnumber_long _ D hD (by omega)).mono ?_
              rintro e w7 ⟨rfl, d0⟩
              replace K := hide (K.out.below' d0)
              replace b0 := hide (below_tr b0.out d0)
              clear d0
              have er : Hid (r = .inr 3) := by show _ = _; rw [← hr.out]; rw [rmake, nz.out, if_neg (by decide), if_pos (by rw [byt_length, byt_length]; omega)]
              clear hr
              have Kc0 : w7.cell? ⟨w.heap.size, 0, none⟩ = some (.bool false) := K.out.at_ 0 rfl
              have Kc1 : w7.cell? ⟨w.heap.size, 1, none⟩ = some (.slice none 0 0) := K.out.at_ 1 rfl
              have Kc2 : w7.cell? ⟨w.heap.size, 2, none⟩ = some (.slice none 0 0) := K.out.at_ 2 rfl
              have p0 : w7.frozen? ⟨w.heap.size, 0, none⟩ = false := K.out.frozen 0
              have p1 : w7.frozen? ⟨w.heap.size, 1, none⟩ = false := K.out.frozen 1
              have p2 : w7.frozen? ⟨w.heap.size, 2, none⟩ = false := K.out.frozen 2
              go_wp2
              refine bodyPost_ret (v := .tuple #[.agg #[.bool false, .slice none 0 0, .slice none 0 0], .int .i64 3]) (by simp [results, Tryz.results12, go_sem, Kc0, Kc1, Kc2, p0, p1, p2]) rfl ?_
              exact opq_end hR ⟨by rw [er.out]; exact rfl, (by (repeat (first | exact b0 | exact Below.refl _ _ | refine Below.setCell ?_ (by first | (simp; done) | (simp; omega)) _ | refine Below.alloc ?_ (by first | (simp; done) | (simp; omega)) _)))⟩
            go_wp2_with fail
            refine (rnumber_ok _ D (by omega) dD.out).mono ?_
            rintro e w7 ⟨v5, rfl, d0, r5⟩
            replace K := hide (K.out.below' d0)
            replace b0 := hide (below_tr b0.out d0)
            clear d0
            obtain ⟨A5, n5, c5, rfl⟩ := r5.slice
            clear r5
            have er : Hid (r = .inr 3) := by show _ = _; rw [← hr.out]; rw [rmake, nz.out, if_neg (by decide), if_pos (by rw [byt_length, byt_length]; omega)]
            clear hr
            have Kc0 : w7.cell? ⟨w.heap.size, 0, none⟩ = some (.bool false) := K.out.at_ 0 rfl
            have Kc1 : w7.cell? ⟨w.heap.size, 1, none⟩ = some (.slice none 0 0) := K.out.at_ 1 rfl
            have Kc2 : w7.cell? ⟨w.heap.size, 2, none⟩ = some (.slice none 0 0) := K.out.at_ 2 rfl
            have p0 : w7.frozen? ⟨w.heap.size, 0, none⟩ = false := K.out.frozen 0
            have p1 : w7.frozen? ⟨w.heap.size, 1, none⟩ = false := K.out.frozen 1
            have p2 : w7.frozen? ⟨w.heap.size, 2, none⟩ = false := K.out.frozen 2
            go_wp2
            refine bodyPost_ret (v := .tuple #[.agg #[.bool false, .slice none 0 0, .slice none 0 0], .int .i64 3]) (by simp [results, Tryz.results12, go_sem, Kc0, Kc1, Kc2, p0, p1, p2]) rfl ?_
            exact opq_end hR ⟨by rw [er.out]; exact rfl, (by (repeat (first | exact b0 | exact Below.refl _ _ | refine Below.setCell ?_ (by first | (simp; done) | (simp; omega)) _ | refine Below.alloc ?_ (by first | (simp; done) | (simp; omega)) _)))⟩
          go_wp2_with fail
          refine (rnumber_ok _ A (by omega) dA.out).mono ?_
          rintro e w6 ⟨v4, rfl, d0, r4⟩
          replace K := hide (K.out.below' d0)
          replace b0 := hide (below_tr b0.out d0)
          have N4 := hide (r4.can)
          clear d0
          clear r4
          obtain ⟨A4, n4, c4, rfl⟩ := N4.out.slice
          by_cases hD : 200 < (D).size
          case pos =>
            go_wp2_with fail
            refine (rnumber_long _ D hD (by omega)).mono ?_
            rintro e w7 ⟨rfl, d0⟩
            replace K := hide (K.out.below' d0)
            replace N4 := hide (N4.out.below d0)
            replace b0 := hide (below_tr b0.out d0)
            clear d0
            have er : Hid (r = .inr 3) := by show _ = _; rw [← hr.out]; rw [rmake, nz.out, if_neg (by decide), if_pos (by rw [byt_length, byt_length]; omega)]
            clear hr
            have Kc0 : w7.cell? ⟨w.heap.size, 0, none⟩ = some (.bool false) := K.out.at_ 0 rfl
            have Kc1 : w7.cell? ⟨w.heap.size, 1, none⟩ = some (.slice none 0 0) := K.out.at_ 1 rfl
            have Kc2 : w7.cell? ⟨w.heap.size, 2, none⟩ = some (.slice none 0 0) := K.out.at_ 2 rfl
            have p0 : w7.frozen? ⟨w.heap.size, 0, none⟩ = false := K.out.frozen 0
            have p1 : w7.frozen? ⟨w.heap.size, 1, none⟩ = false := K.out.frozen 1
            have p2 : w7.frozen? ⟨w.heap.size, 2, none⟩ = false := K.out.frozen 2
            go_wp2
            refine bodyPost_ret (v := .tuple #[.agg #[.bool false, .slice none 0 0, .slice none 0 0], .int .i64 3]) (by simp [results, Tryz.results12, go_sem, Kc0, Kc1, Kc2, p0, p1, p2]) rfl ?_
            exact opq_end hR ⟨by rw [er.out]; exact rfl, (by (repeat (first | exact b0 | exact Below.refl _ _ | refine Below.setCell ?_ (by first | (simp; done) | (simp; omega)) _ | refine Below.alloc ?_ (by first | (simp; done) | (simp; omega)) _)))⟩
          go_wp2_with fail
          refine (rnumber_ok _ D (by omega) dD.out).mono ?_
          rintro e w7 ⟨v5, rfl, d0, r5⟩
          replace K := hide (K.out.below' d0)
          replace N4 := hide (N4.out.below d0)
          replace b0 := hide (below_tr b0.out d0)
          have N5 := hide (r5.can)
          clear d0
          clear r5
          obtain ⟨A5, n5, c5, rfl⟩ := N5.out.slice
          have la := hide (num_L dA.out (by rw [byt_length]; omega))
          have ld := hide (num_L dD.out (by rw [byt_length]; omega))
          have er : Hid (r = .inl (mkRat (sgn true (num (byt A))) (num (byt D)))) := by show _ = _; rw [← hr.out, rmake, nz.out, if_neg (by decide), if_neg (by rw [byt_length, byt_length]; omega)]
          clear hr
          go_wp2_with fail
          refine (clone_P N4.out la.out).mono ?_
          rintro e w8 ⟨v6, rfl, d0, r6⟩
          replace K := hide (K.out.below' d0)
          replace N4 := hide (N4.out.below d0)
          replace N5 := hide (N5.out.below d0)
          replace b0 := hide (below_tr b0.out d0)
          have N6 := hide (r6.can)
          clear d0
          clear r6
          obtain ⟨A6, n6, c6, rfl⟩ := N6.out.slice
          go_wp2_with fail
          refine (rlowest_P (ican_sgn (b := true) N6.out (fun _ => nb.out)) N5.out (by rw [sgn_abs]; exact la.out) ld.out nD.out (T.out.below b0.out)).mono ?_
          rintro e w9 ⟨v8, rfl, d0, r8⟩
          have bz := b0.out.size
          replace K := hide (K.out.below' d0)
          replace N4 := hide (N4.out.below d0)
          replace N5 := hide (N5.out.below d0)
          replace N6 := hide (N6.out.below d0)
          replace b0 := hide (below_tr b0.out d0)
          have R8 := hide (r8.mono (B' := w.heap.size) bz)
          clear d0 bz
          clear r8
          obtain ⟨b8, A8, n8, c8, D8, m8, k8, rfl⟩ := R8.out.slice
          have Kc0 : w9.cell? ⟨w.heap.size, 0, none⟩ = some (.bool false) := K.out.at_ 0 rfl
          have Kc1 : w9.cell? ⟨w.heap.size, 1, none⟩ = some (.slice none 0 0) := K.out.at_ 1 rfl
          have Kc2 : w9.cell? ⟨w.heap.size, 2, none⟩ = some (.slice none 0 0) := K.out.at_ 2 rfl
          have p0 : w9.frozen? ⟨w.heap.size, 0, none⟩ = false := K.out.frozen 0
          have p1 : w9.frozen? ⟨w.heap.size, 1, none⟩ = false := K.out.frozen 1
          have p2 : w9.frozen? ⟨w.heap.size, 2, none⟩ = false := K.out.frozen 2
          go_wp2
          refine bodyPost_ret (v := .tuple #[.agg #[.bool b8, .slice A8 n8 c8, .slice D8 m8 k8], .int .i64 0]) (by simp [results, Tryz.results12, go_sem, Kc0, Kc1, Kc2, p0, p1, p2]) rfl ?_
          exact opq_end hR ⟨by rw [er.out]; exact ⟨_, rfl, R8.out.only K.out (by decide) ((((Only.refl _ _).set _ _).set _ _).set _ _)⟩, (by (repeat (first | exact b0 | exact Below.refl _ _ | refine Below.setCell ?_ (by first | (simp; done) | (simp; omega)) _ | refine Below.alloc ?_ (by first | (simp; done) | (simp; omega)) _)))⟩
  case false =>
    have ep0 := ep
    clear ep
    go_wp2_with fail
    refine (cut_P _ d 47 hds (M.out.below b0.out)).mono ?_
    rintro e w2 ⟨g1, g2, p, rfl, d0, ep, lg1, lg2⟩
    replace K := hide (K.out.below' d0)
    replace b0 := hide (below_tr b0.out d0)
    clear d0
    have hB := hide (fun D hD => rsplit_B ep0 ep D hD)
    clear ep ep0
    cases p
    case true =>
      replace hB := hide (hB.out (byt g2) rfl)
      cases q1 : isNum (byt g1)
      case false =>
        go_wp2_with fail
        refine (rplain_P _ g1 (by omega) false q1).mono ?_
        rintro e w3 ⟨_, rfl, d0, rfl⟩
        replace K := hide (K.out.below' d0)
        replace b0 := hide (below_tr b0.out d0)
        clear d0
        have er : Hid (r = .inr 4) := by show _ = _; rw [← hr.out]; rw [hB.out, q1]; rfl
        clear hr
        have Kc0 : w3.cell? ⟨w.heap.size, 0, none⟩ = some (.bool false) := K.out.at_ 0 rfl
        have Kc1 : w3.cell? ⟨w.heap.size, 1, none⟩ = some (.slice none 0 0) := K.out.at_ 1 rfl
        have Kc2 : w3.cell? ⟨w.heap.size, 2, none⟩ = some (.slice none 0 0) := K.out.at_ 2 rfl
        have p0 : w3.frozen? ⟨w.heap.size, 0, none⟩ = false := K.out.frozen 0
        have p1 : w3.frozen? ⟨w.heap.size, 1, none⟩ = false := K.out.frozen 1
        have p2 : w3.frozen? ⟨w.heap.size, 2, none⟩ = false := K.out.frozen 2
        go_wp2
        refine bodyPost_ret (v := .tuple #[.agg #[.bool false, .slice none 0 0, .slice none 0 0], .int .i64 4]) (by simp [results, Tryz.results12, go_sem, Kc0, Kc1, Kc2, p0, p1, p2]) rfl ?_
        exact opq_end hR ⟨by rw [er.out]; exact rfl, (by (repeat (first | exact b0 | exact Below.refl _ _ | refine Below.setCell ?_ (by first | (simp; done) | (simp; omega)) _ | refine Below.alloc ?_ (by first | (simp; done) | (simp; omega)) _)))⟩
      case true =>
        go_wp2_with fail
        refine (rplain_P _ g1 (by omega) true q1).mono ?_
        rintro e w3 ⟨_, rfl, d0, rfl⟩
        replace K := hide (K.out.below' d0)
        replace b0 := hide (below_tr b0.out d0)
        clear d0
        cases q2 : isNum (byt g2)
        case false =>
          go_wp2_with fail
          refine (rplain_P _ g2 (by omega) false q2).mono ?_
          rintro e w4 ⟨_, rfl, d0, rfl⟩
          replace K := hide (K.out.below' d0)
          replace b0 := hide (below_tr b0.out d0)
          clear d0
          have er : Hid (r = .inr 4) := by show _ = _; rw [← hr.out]; rw [hB.out, q1, q2]; rfl
          clear hr
          have Kc0 : w4.cell? ⟨w.heap.size, 0, none⟩ = some (.bool false) := K.out.at_ 0 rfl
          have Kc1 : w4.cell? ⟨w.heap.size, 1, none⟩ = some (.slice none 0 0) := K.out.at_ 1 rfl
          have Kc2 : w4.cell? ⟨w.heap.size, 2, none⟩ = some (.slice none 0 0) := K.out.at_ 2 rfl
          have p0 : w4.frozen? ⟨w.heap.size, 0, none⟩ = false := K.out.frozen 0
          have p1 : w4.frozen? ⟨w.heap.size, 1, none⟩ = false := K.out.frozen 1
          have p2 : w4.frozen? ⟨w.heap.size, 2, none⟩ = false := K.out.frozen 2
          go_wp2
          refine bodyPost_ret (v := .tuple #[.agg #[.bool false, .slice none 0 0, .slice none 0 0], .int .i64 4]) (by simp [results, Tryz.results12, go_sem, Kc0, Kc1, Kc2, p0, p1, p2]) rfl ?_
          exact opq_end hR ⟨by rw [er.out]; exact rfl, (by (repeat (first | exact b0 | exact Below.refl _ _ | refine Below.setCell ?_ (by first | (simp; done) | (simp; omega)) _ | refine Below.alloc ?_ (by first | (simp; done) | (simp; omega)) _)))⟩
        case true =>
          go_wp2_with fail
          refine (rplain_P _ g2 (by omega) true q2).mono ?_
          rintro e w4 ⟨_, rfl, d0, rfl⟩
          replace K := hide (K.out.below' d0)
          replace b0 := hide (below_tr b0.out d0)
          clear d0
          by_cases q3 : byt g2 = [48]
          case pos =>
            have er0 : Hid (rsplit (byt d) = none) := by show _ = _; rw [hB.out, q3]; simp
            have e3 : g2 = ⟨#[48]⟩ := n_byt_inj' (by rw [q3]; rfl)
            clear q2 lg2 lg1 q1
            subst e3
            have er : Hid (r = .inr 4) := by show _ = _; rw [← hr.out]; rw [er0.out]; rfl
            clear hr
            have Kc0 : w4.cell? ⟨w.heap.size, 0, none⟩ = some (.bool false) := K.out.at_ 0 rfl
            have Kc1 : w4.cell? ⟨w.heap.size, 1, none⟩ = some (.slice none 0 0) := K.out.at_ 1 rfl
            have Kc2 : w4.cell? ⟨w.heap.size, 2, none⟩ = some (.slice none 0 0) := K.out.at_ 2 rfl
            have p0 : w4.frozen? ⟨w.heap.size, 0, none⟩ = false := K.out.frozen 0
            have p1 : w4.frozen? ⟨w.heap.size, 1, none⟩ = false := K.out.frozen 1
            have p2 : w4.frozen? ⟨w.heap.size, 2, none⟩ = false := K.out.frozen 2
            go_wp2
            refine bodyPost_ret (v := .tuple #[.agg #[.bool false, .slice none 0 0, .slice none 0 0], .int .i64 4]) (by simp [results, Tryz.results12, go_sem, Kc0, Kc1, Kc2, p0, p1, p2]) rfl ?_
            exact opq_end hR ⟨by rw [er.out]; exact rfl, (by (repeat (first | exact b0 | exact Below.refl _ _ | refine Below.setCell ?_ (by first | (simp; done) | (simp; omega)) _ | refine Below.alloc ?_ (by first | (simp; done) | (simp; omega)) _)))⟩
          have t3 : (g2.toList == [48]) = false := by rw [str_ne]; intro e; exact q3 (by rw [e]; rfl)
          have hsp : Hid (rsplit (byt d) = some (byt g1, byt g2)) := by show _ = _; rw [hB.out, q1, q2]; simp [q3]
          clear q3 hB
          obtain ⟨dA, dD, nD⟩ := rsplit_all hsp.out
          rw [hsp.out] at hr
          replace dA := hide dA
          replace dD := hide dD
          replace nD := hide nD
          clear hsp
          cases b
          case false =>
            have nz : Hid ((false && decide (num (byt g1) = 0)) = false) := by show _ = _; rfl
            by_cases hA : 200 < (g1).size
            case pos =>
              go_wp2_with fail
              refine (rnumber_long _ g1 hA (by omega)).mono ?_
              rintro e w5 ⟨rfl, d0⟩
              replace K := hide (K.out.below' d0)
              replace b0 := hide (below_tr b0.out d0)
              clear d0
              by_cases hD : 200 < (g2).size
              case pos =>
                go_wp2_with fail
                refine (rnumber_long _ g2 hD (by omega)).mono ?_
                rintro e w6 ⟨rfl, d0⟩
                replace K := hide (K.out.below' d0)
                replace b0 := hide (below_tr b0.out d0)
                clear d0
                have er : Hid (r = .inr 3) := by show _ = _; rw [← hr.out]; rw [rmake, nz.out, if_neg (by decide), if_pos (by rw [byt_length, byt_length]; omega)]
                clear hr
                have Kc0 : w6.cell? ⟨w.heap.size, 0, none⟩ = some (.bool false) := K.out.at_ 0 rfl
                have Kc1 : w6.cell? ⟨w.heap.size, 1, none⟩ = some (.slice none 0 0) := K.out.at_ 1 rfl
                have Kc2 : w6.cell? ⟨w.heap.size, 2, none⟩ = some (.slice none 0 0) := K.out.at_ 2 rfl
                have p0 : w6.frozen? ⟨w.heap.size, 0, none⟩ = false := K.out.frozen 0
                have p1 : w6.frozen? ⟨w.heap.size, 1, none⟩ = false := K.out.frozen 1
                have p2 : w6.frozen? ⟨w.heap.size, 2, none⟩ = false := K.out.frozen 2
                go_wp2
                refine bodyPost_ret (v := .tuple #[.agg #[.bool false, .slice none 0 0, .slice none 0 0], .int .i64 3]) (by simp [results, Tryz.results12, go_sem, Kc0, Kc1, Kc2, p0, p1, p2]) rfl ?_
                exact opq_end hR ⟨by rw [er.out]; exact rfl, (by (repeat (first | exact b0 | exact Below.refl _ _ | refine Below.setCell ?_ (by first | (simp; done) | (simp; omega)) _ | refine Below.alloc ?_ (by first | (simp; done) | (simp; omega)) _)))⟩
              go_wp2_with fail
              refine (rnumber_ok _ g2 (by omega) dD.out).mono ?_
              rintro e w6 ⟨v5, rfl, d0, r5⟩
              replace K := hide (K.out.below' d0)
              replace b0 := hide (below_tr b0.out d0)
              clear d0
              obtain ⟨A5, n5, c5, rfl⟩ := r5.slice
              clear r5
              have er : Hid (r = .inr 3) := by show _ = _; rw [← hr.out]; rw [rmake, nz.out, if_neg (by decide), if_pos (by rw [byt_length, byt_length]; omega)]
              clear hr
              have Kc0 : w6.cell? ⟨w.heap.size, 0, none⟩ = some (.bool false) := K.out.at_ 0 rfl
              have Kc1 : w6.cell? ⟨w.heap.size, 1, none⟩ = some (.slice none 0 0) := K.out.at_ 1 rfl
              have Kc2 : w6.cell? ⟨w.heap.size, 2, none⟩ = some (.slice none 0 0) := K.out.at_ 2 rfl
              have p0 : w6.frozen? ⟨w.heap.size, 0, none⟩ = false := K.out.frozen 0
              have p1 : w6.frozen? ⟨w.heap.size, 1, none⟩ = false := K.out.frozen 1
              have p2 : w6.frozen? ⟨w.heap.size, 2, none⟩ = false := K.out.frozen 2
              go_wp2
              refine bodyPost_ret (v := .tuple #[.agg #[.bool false, .slice none 0 0, .slice none 0 0], .int .i64 3]) (by simp [results, Tryz.results12, go_sem, Kc0, Kc1, Kc2, p0, p1, p2]) rfl ?_
              exact opq_end hR ⟨by rw [er.out]; exact rfl, (by (repeat (first | exact b0 | exact Below.refl _ _ | refine Below.setCell ?_ (by first | (simp; done) | (simp; omega)) _ | refine Below.alloc ?_ (by first | (simp; done) | (simp; omega)) _)))⟩
            go_wp2_with fail
            refine (rnumber_ok _ g1 (by omega) dA.out).mono ?_
            rintro e w5 ⟨v4, rfl, d0, r4⟩
            replace K := hide (K.out.below' d0)
            replace b0 := hide (below_tr b0.out d0)
            have N4 := hide (r4.can)
            clear d0
            clear r4
            obtain ⟨A4, n4, c4, rfl⟩ := N4.out.slice
            by_cases hD : 200 < (g2).size
            case pos =>
              go_wp2_with fail
              refine (rnumber_long _ g2 hD (by omega)).mono ?_
              rintro e w6 ⟨rfl, d0⟩
              replace K := hide (K.out.below' d0)
              replace N4 := hide (N4.out.below d0)
              replace b0 := hide (below_tr b0.out d0)
              clear d0
              have er : Hid (r = .inr 3) := by show _ = _; rw [← hr.out]; rw [rmake, nz.out, if_neg (by decide), if_pos (by rw [byt_length, byt_length]; omega)]
              clear hr
              have Kc0 : w6.cell? ⟨w.heap.size, 0, none⟩ = some (.bool false) := K.out.at_ 0 rfl
              have Kc1 : w6.cell? ⟨w.heap.size, 1, none⟩ = some (.slice none 0 0) := K.out.at_ 1 rfl
              have Kc2 : w6.cell? ⟨w.heap.size, 2, none⟩ = some (.slice none 0 0) := K.out.at_ 2 rfl
              have p0 : w6.frozen? ⟨w.heap.size, 0, none⟩ = false := K.out.frozen 0
              have p1 : w6.frozen? ⟨w.heap.size, 1, none⟩ = false := K.out.frozen 1
              have p2 : w6.frozen? ⟨w.heap.size, 2, none⟩ = false := K.out.frozen 2
              go_wp2
              refine bodyPost_ret (v := .tuple #[.agg #[.bool false, .slice none 0 0, .slice none 0 0], .int .i64 3]) (by simp [results, Tryz.results12, go_sem, Kc0, Kc1, Kc2, p0, p1, p2]) rfl ?_
              exact opq_end hR ⟨by rw [er.out]; exact rfl, (by (repeat (first | exact b0 | exact Below.refl _ _ | refine Below.setCell ?_ (by first | (simp; done) | (simp; omega)) _ | refine Below.alloc ?_ (by first | (simp; done) | (simp; omega)) _)))⟩
            go_wp2_with fail
            refine (rnumber_ok _ g2 (by omega) dD.out).mono ?_
            rintro e w6 ⟨v5, rfl, d0, r5⟩
            replace K := hide (K.out.below' d0)
            replace N4 := hide (N4.out.below d0)
            replace b0 := hide (below_tr b0.out d0)
            have N5 := hide (r5.can)
            clear d0
            clear r5
            obtain ⟨A5, n5, c5, rfl⟩ := N5.out.slice
            have la := hide (num_L dA.out (by rw [byt_length]; omega))
            have ld := hide (num_L dD.out (by rw [byt_length]; omega))
            have er : Hid (r = .inl (mkRat (sgn false (num (byt g1))) (num (byt g2)))) := by show _ = _; rw [← hr.out, rmake, nz.out, if_neg (by decide), if_neg (by rw [byt_length, byt_length]; omega)]
            clear hr
            go_wp2_with fail
            refine (clone_P N4.out la.out).mono ?_
            rintro e w7 ⟨v6, rfl, d0, r6⟩
            replace K := hide (K.out.below' d0)
            replace N4 := hide (N4.out.below d0)
            replace N5 := hide (N5.out.below d0)
            replace b0 := hide (below_tr b0.out d0)
            have N6 := hide (r6.can)
            clear d0
            clear r6
            obtain ⟨A6, n6, c6, rfl⟩ := N6.out.slice
            go_wp2_with fail
            refine (rlowest_P (ican_sgn (b := false) N6.out (fun h => by cases h)) N5.out (by rw [sgn_abs]; exact la.out) ld.out nD.out (T.out.below b0.out)).mono ?_
            rintro e w8 ⟨v8, rfl, d0, r8⟩
            have bz := b0.out.size
            replace K := hide (K.out.below' d0)
            replace N4 := hide (N4.out.below d0)
            replace N5 := hide (N5.out.below d0)
            replace N6 := hide (N6.out.below d0)
            replace b0 := hide (below_tr b0.out d0)
            have R8 := hide (r8.mono (B' := w.heap.size) bz)
            clear d0 bz
            clear r8
            obtain ⟨b8, A8, n8, c8, D8, m8, k8, rfl⟩ := R8.out.slice
            have Kc0 : w8.cell? ⟨w.heap.size, 0, none⟩ = some (.bool false) := K.out.at_ 0 rfl
            have Kc1 : w8.cell? ⟨w.heap.size, 1, none⟩ = some (.slice none 0 0) := K.out.at_ 1 rfl
            have Kc2 : w8.cell? ⟨w.heap.size, 2, none⟩ = some (.slice none 0 0) := K.out.at_ 2 rfl
            have p0 : w8.frozen? ⟨w.heap.size, 0, none⟩ = false := K.out.frozen 0
            have p1 : w8.frozen? ⟨w.heap.size, 1, none⟩ = false := K.out.frozen 1
            have p2 : w8.frozen? ⟨w.heap.size, 2, none⟩ = false := K.out.frozen 2
            go_wp2
            refine bodyPost_ret (v := .tuple #[.agg #[.bool b8, .slice A8 n8 c8, .slice D8 m8 k8], .int .i64 0]) (by simp [results, Tryz.results12, go_sem, Kc0, Kc1, Kc2, p0, p1, p2]) rfl ?_
            exact opq_end hR ⟨by rw [er.out]; exact ⟨_, rfl, R8.out.only K.out (by decide) ((((Only.refl _ _).set _ _).set _ _).set _ _)⟩, (by (repeat (first | exact b0 | exact Below.refl _ _ | refine Below.setCell ?_ (by first | (simp; done) | (simp; omega)) _ | refine Below.alloc ?_ (by first | (simp; done) | (simp; omega)) _)))⟩
          case true =>
            have TR := hide (fun W => Tryz.strings_Trim_laid g1 ⟨#[48]⟩ W (by omega) (by decide) (ascii_of_all (by decide)))
            have tz := trim_zero g1
            rw [show (⟨#[48]⟩ : ByteArray).data.toList = [48] from rfl] at TR
            generalize Lib.trimS (g1).data.toList [48] = tr at *
            by_cases hz : tr = []
            case pos =>
              subst hz
              have e0 : num (byt g1) = 0 := (num0_iff dA.out).2 (tz.1 rfl)
              clear tz
              replace e0 := hide e0
              go_wp2_with fail
              refine (TR.out _).mono ?_
              rintro e w5 ⟨rfl, d0⟩
              replace K := hide (K.out.below' d0)
              replace b0 := hide (below_tr b0.out d0)
              clear d0
              clear TR
              have er : Hid (r = .inr 4) := by show _ = _; rw [← hr.out]; rw [rmake, e0.out]; rfl
              clear hr
              have Kc0 : w5.cell? ⟨w.heap.size, 0, none⟩ = some (.bool false) := K.out.at_ 0 rfl
              have Kc1 : w5.cell? ⟨w.heap.size, 1, none⟩ = some (.slice none 0 0) := K.out.at_ 1 rfl
              have Kc2 : w5.cell? ⟨w.heap.size, 2, none⟩ = some (.slice none 0 0) := K.out.at_ 2 rfl
              have p0 : w5.frozen? ⟨w.heap.size, 0, none⟩ = false := K.out.frozen 0
              have p1 : w5.frozen? ⟨w.heap.size, 1, none⟩ = false := K.out.frozen 1
              have p2 : w5.frozen? ⟨w.heap.size, 2, none⟩ = false := K.out.frozen 2
              go_wp2
              refine bodyPost_ret (v := .tuple #[.agg #[.bool false, .slice none 0 0, .slice none 0 0], .int .i64 4]) (by simp [results, Tryz.results12, go_sem, Kc0, Kc1, Kc2, p0, p1, p2]) rfl ?_
              exact opq_end hR ⟨by rw [er.out]; exact rfl, (by (repeat (first | exact b0 | exact Below.refl _ _ | refine Below.setCell ?_ (by first | (simp; done) | (simp; omega)) _ | refine Below.alloc ?_ (by first | (simp; done) | (simp; omega)) _)))⟩
            have nb : Hid (num (byt g1) ≠ 0) := fun e => hz (tz.2 ((num0_iff dA.out).1 e))
            clear tz
            rcases tr with _ | ⟨t0, tr⟩
            · exact absurd rfl hz
            clear hz
            go_wp2_with fail
            refine (TR.out _).mono ?_
            rintro e w5 ⟨rfl, d0⟩
            replace K := hide (K.out.below' d0)
            replace b0 := hide (below_tr b0.out d0)
            clear d0
            clear TR
            have nz : Hid ((true && decide (num (byt g1) = 0)) = false) := by show _ = _; simpa using nb.out
            by_cases hA : 200 < (g1).size
            case pos =>
              go_wp2_with fail
              refine (rnumber_long _ g1 hA (by omega)).mono ?_
              rintro e w6 ⟨rfl, d0⟩
              replace K := hide (K.out.below' d0)
              replace b0 := hide (below_tr b0.out d0)
              clear d0
              by_cases hD : 200 < (g2).size
              case pos =>
                go_wp2_with fail
                refine (rnumber_long _ g2 hD (by omega)).mono ?_
                rintro e w7 ⟨rfl, d0⟩
                replace K := hide (K.out.below' d0)
                replace b0 := hide (below_tr b0.out d0)
                clear d0
                have er : Hid (r = .inr 3) := by show _ = _; rw [← hr.out]; rw [rmake, nz.out, if_neg (by decide), if_pos (by rw [byt_length, byt_length]; omega)]
                clear hr
                have Kc0 : w7.cell? ⟨w.heap.size, 0, none⟩ = some (.bool false) := K.out.at_ 0 rfl
                have Kc1 : w7.cell? ⟨w.heap.size, 1, none⟩ = some (.slice none 0 0) := K.out.at_ 1 rfl
                have Kc2 : w7.cell? ⟨w.heap.size, 2, none⟩ = some (.slice none 0 0) := K.out.at_ 2 rfl
                have p0 : w7.frozen? ⟨w.heap.size, 0, none⟩ = false := K.out.frozen 0
                have p1 : w7.frozen? ⟨w.heap.size, 1, none⟩ = false := K.out.frozen 1
                have p2 : w7.frozen? ⟨w.heap.size, 2, none⟩ = false := K.out.frozen 2
                go_wp2
                refine bodyPost_ret (v := .tuple #[.agg #[.bool false, .slice none 0 0, .slice none 0 0], .int .i64 3]) (by simp [results, Tryz.results12, go_sem, Kc0, Kc1, Kc2, p0, p1, p2]) rfl ?_
                exact opq_end hR ⟨by rw [er.out]; exact rfl, (by (repeat (first | exact b0 | exact Below.refl _ _ | refine Below.setCell ?_ (by first | (simp; done) | (simp; omega)) _ | refine Below.alloc ?_ (by first | (simp; done) | (simp; omega)) _)))⟩
              go_wp2_with fail
              refine (rnumber_ok _ g2 (by omega) dD.out).mono ?_
              rintro e w7 ⟨v5, rfl, d0, r5⟩
              replace K := hide (K.out.below' d0)
              replace b0 := hide (below_tr b0.out d0)
              clear d0
              obtain ⟨A5, n5, c5, rfl⟩ := r5.slice
              clear r5
              have er : Hid (r = .inr 3) := by show _ = _; rw [← hr.out]; rw [rmake, nz.out, if_neg (by decide), if_pos (by rw [byt_length, byt_length]; omega)]
              clear hr
              have Kc0 : w7.cell? ⟨w.heap.size, 0, none⟩ = some (.bool false) := K.out.at_ 0 rfl
              have Kc1 : w7.cell? ⟨w.heap.size, 1, none⟩ = some (.slice none 0 0) := K.out.at_ 1 rfl
              have Kc2 : w7.cell? ⟨w.heap.size, 2, none⟩ = some (.slice none 0 0) := K.out.at_ 2 rfl
              have p0 : w7.frozen? ⟨w.heap.size, 0, none⟩ = false := K.out.frozen 0
              have p1 : w7.frozen? ⟨w.heap.size, 1, none⟩ = false := K.out.frozen 1
              have p2 : w7.frozen? ⟨w.heap.size, 2, none⟩ = false := K.out.frozen 2
              go_wp2
              refine bodyPost_ret (v := .tuple #[.agg #[.bool false, .slice none 0 0, .slice none 0 0], .int .i64 3]) (by simp [results, Tryz.results12, go_sem, Kc0, Kc1, Kc2, p0, p1, p2]) rfl ?_
              exact opq_end hR ⟨by rw [er.out]; exact rfl, (by (repeat (first | exact b0 | exact Below.refl _ _ | refine Below.setCell ?_ (by first | (simp; done) | (simp; omega)) _ | refine Below.alloc ?_ (by first | (simp; done) | (simp; omega)) _)))⟩
            go_wp2_with fail
            refine (rnumber_ok _ g1 (by omega) dA.out).mono ?_
            rintro e w6 ⟨v4, rfl, d0, r4⟩
            replace K := hide (K.out.below' d0)
            replace b0 := hide (below_tr b0.out d0)
            have N4 := hide (r4.can)
            clear d0
            clear r4
            obtain ⟨A4, n4, c4, rfl⟩ := N4.out.slice
            by_cases hD : 200 < (g2).size
            case pos =>
              go_wp2_with fail
              refine (rnumber_long _ g2 hD (by omega)).mono ?_
              rintro e w7 ⟨rfl, d0⟩
              replace K := hide (K.out.below' d0)
              replace N4 := hide (N4.out.below d0)
              replace b0 := hide (below_tr b0.out d0)
              clear d0
              have er : Hid (r = .inr 3) := by show _ = _; rw [← hr.out]; rw [rmake, nz.out, if_neg (by decide), if_pos (by rw [byt_length, byt_length]; omega)]
              clear hr
              have Kc0 : w7.cell? ⟨w.heap.size, 0, none⟩ = some (.bool false) := K.out.at_ 0 rfl
              have Kc1 : w7.cell? ⟨w.heap.size, 1, none⟩ = some (.slice none 0 0) := K.out.at_ 1 rfl
              have Kc2 : w7.cell? ⟨w.heap.size, 2, none⟩ = some (.slice none 0 0) := K.out.at_ 2 rfl
              have p0 : w7.frozen? ⟨w.heap.size, 0, none⟩ = false := K.out.frozen 0
              have p1 : w7.frozen? ⟨w.heap.size, 1, none⟩ = false := K.out.frozen 1
              have p2 : w7.frozen? ⟨w.heap.size, 2, none⟩ = false := K.out.frozen 2
              go_wp2
              refine bodyPost_ret (v := .tuple #[.agg #[.bool false, .slice none 0 0, .slice none 0 0], .int .i64 3]) (by simp [results, Tryz.results12, go_sem, Kc0, Kc1, Kc2, p0, p1, p2]) rfl ?_
              exact opq_end hR ⟨by rw [er.out]; exact rfl, (by (repeat (first | exact b0 | exact Below.refl _ _ | refine Below.setCell ?_ (by first | (simp; done) | (simp; omega)) _ | refine Below.alloc ?_ (by first | (simp; done) | (simp; omega)) _)))⟩
            go_wp2_with fail
            refine (rnumber_ok _ g2 (by omega) dD.out).mono ?_
            rintro e w7 ⟨v5, rfl, d0, r5⟩
            replace K := hide (K.out.below' d0)
            replace N4 := hide (N4.out.below d0)
            replace b0 := hide (below_tr b0.out d0)
            have N5 := hide (r5.can)
            clear d0
            clear r5
            obtain ⟨A5, n5, c5, rfl⟩ := N5.out.slice
            have la := hide (num_L dA.out (by rw [byt_length]; omega))
            have ld := hide (num_L dD.out (by rw [byt_length]; omega))
            have er : Hid (r = .inl (mkRat (sgn true (num (byt g1))) (num (byt g2)))) := by show _ = _; rw [← hr.out, rmake, nz.out, if_neg (by decide), if_neg (by rw [byt_length, byt_length]; omega)]
            clear hr
            go_wp2_with fail
            refine (clone_P N4.out la.out).mono ?_
            rintro e w8 ⟨v6, rfl, d0, r6⟩
            replace K := hide (K.out.below' d0)
            replace N4 := hide (N4.out.below d0)
            replace N5 := hide (N5.out.below d0)
            replace b0 := hide (below_tr b0.out d0)
            have N6 := hide (r6.can)
            clear d0
            clear r6
            obtain ⟨A6, n6, c6, rfl⟩ := N6.out.slice
            go_wp2_with fail
            refine (rlowest_P (ican_sgn (b := true) N6.out (fun _ => nb.out)) N5.out (by rw [sgn_abs]; exact la.out) ld.out nD.out (T.out.below b0.out)).mono ?_
            rintro e w9 ⟨v8, rfl, d0, r8⟩
            have bz := b0.out.size
            replace K := hide (K.out.below' d0)
            replace N4 := hide (N4.out.below d0)
            replace N5 := hide (N5.out.below d0)
            replace N6 := hide (N6.out.below d0)
            replace b0 := hide (below_tr b0.out d0)
            have R8 := hide (r8.mono (B' := w.heap.size) bz)
            clear d0 bz
            clear r8
            obtain ⟨b8, A8, n8, c8, D8, m8, k8, rfl⟩ := R8.out.slice
            have Kc0 : w9.cell? ⟨w.heap.size, 0, none⟩ = some (.bool false) := K.out.at_ 0 rfl
            have Kc1 : w9.cell? ⟨w.heap.size, 1, none⟩ = some (.slice none 0 0) := K.out.at_ 1 rfl
            have Kc2 : w9.cell? ⟨w.heap.size, 2, none⟩ = some (.slice none 0 0) := K.out.at_ 2 rfl
            have p0 : w9.frozen? ⟨w.heap.size, 0, none⟩ = false := K.out.frozen 0
            have p1 : w9.frozen? ⟨w.heap.size, 1, none⟩ = false := K.out.frozen 1
            have p2 : w9.frozen? ⟨w.heap.size, 2, none⟩ = false := K.out.frozen 2
            go_wp2
            refine bodyPost_ret (v := .tuple #[.agg #[.bool b8, .slice A8 n8 c8, .slice D8 m8 k8], .int .i64 0]) (by simp [results, Tryz.results12, go_sem, Kc0, Kc1, Kc2, p0, p1, p2]) rfl ?_
            exact opq_end hR ⟨by rw [er.out]; exact ⟨_, rfl, R8.out.only K.out (by decide) ((((Only.refl _ _).set _ _).set _ _).set _ _)⟩, (by (repeat (first | exact b0 | exact Below.refl _ _ | refine Below.setCell ?_ (by first | (simp; done) | (simp; omega)) _ | refine Below.alloc ?_ (by first | (simp; done) | (simp; omega)) _)))⟩
    case false =>
      replace hB := hide (hB.out [49] rfl)
      cases q1 : isNum (byt g1)
      case false =>
        go_wp2_with fail
        refine (rplain_P _ g1 (by omega) false q1).mono ?_
        rintro e w3 ⟨_, rfl, d0, rfl⟩
        replace K := hide (K.out.below' d0)
        replace b0 := hide (below_tr b0.out d0)
        clear d0
        have er : Hid (r = .inr 4) := by show _ = _; rw [← hr.out]; rw [hB.out, q1]; rfl
        clear hr
        have Kc0 : w3.cell? ⟨w.heap.size, 0, none⟩ = some (.bool false) := K.out.at_ 0 rfl
        have Kc1 : w3.cell? ⟨w.heap.size, 1, none⟩ = some (.slice none 0 0) := K.out.at_ 1 rfl
        have Kc2 : w3.cell? ⟨w.heap.size, 2, none⟩ = some (.slice none 0 0) := K.out.at_ 2 rfl
        have p0 : w3.frozen? ⟨w.heap.size, 0, none⟩ = false := K.out.frozen 0
        have p1 : w3.frozen? ⟨w.heap.size, 1, none⟩ = false := K.out.frozen 1
        have p2 : w3.frozen? ⟨w.heap.size, 2, none⟩ = false := K.out.frozen 2
        go_wp2
        refine bodyPost_ret (v := .tuple #[.agg #[.bool false, .slice none 0 0, .slice none 0 0], .int .i64 4]) (by simp [results, Tryz.results12, go_sem, Kc0, Kc1, Kc2, p0, p1, p2]) rfl ?_
        exact opq_end hR ⟨by rw [er.out]; exact rfl, (by (repeat (first | exact b0 | exact Below.refl _ _ | refine Below.setCell ?_ (by first | (simp; done) | (simp; omega)) _ | refine Below.alloc ?_ (by first | (simp; done) | (simp; omega)) _)))⟩
      case true =>
        go_wp2_with fail
        refine (rplain_P _ g1 (by omega) true q1).mono ?_
        rintro e w3 ⟨_, rfl, d0, rfl⟩
        replace K := hide (K.out.below' d0)
        replace b0 := hide (below_tr b0.out d0)
        clear d0
        go_wp2_with fail
        refine (rplain_P _ (⟨#[49]⟩ : ByteArray) (by decide) true rfl).mono ?_
        rintro e w4 ⟨_, rfl, d0, rfl⟩
        replace K := hide (K.out.below' d0)
        replace b0 := hide (below_tr b0.out d0)
        clear d0
        have hsp : Hid (rsplit (byt d) = some (byt g1, byt (⟨#[49]⟩ : ByteArray))) := by show _ = _; rw [hB.out, q1]; rfl
        clear hB
        have sD : ((⟨#[49]⟩ : ByteArray) : ByteArray).size = 1 := rfl
        obtain ⟨dA, dD, nD⟩ := rsplit_all hsp.out
        rw [hsp.out] at hr
        replace dA := hide dA
        replace dD := hide dD
        replace nD := hide nD
        clear hsp
        cases b
        case false =>
          have nz : Hid ((false && decide (num (byt g1) = 0)) = false) := by show _ = _; rfl
          by_cases hA : 200 < (g1).size
          case pos =>
            go_wp2_with fail
            refine (rnumber_long _ g1 hA (by omega)).mono ?_
            rintro e w5 ⟨rfl, d0⟩
            replace K := hide (K.out.below' d0)
            replace b0 := hide (below_tr b0.out d0)
            clear d0
            by_cases hD : 200 < ((⟨#[49]⟩ : ByteArray)).size
            case pos =>
              exact absurd hD (by decide)
            go_wp2_with fail
            refine (rnumber_ok _ (⟨#[49]⟩ : ByteArray) (by omega) dD.out).mono ?_
            rintro e w6 ⟨v5, rfl, d0, r5⟩
            replace K := hide (K.out.below' d0)
            replace b0 := hide (below_tr b0.out d0)
            clear d0
            obtain ⟨A5, n5, c5, rfl⟩ := r5.slice
            clear r5
            have er : Hid (r = .inr 3) := by show _ = _; rw [← hr.out]; rw [rmake, nz.out, if_neg (by decide), if_pos (by rw [byt_length, byt_length]; omega)]
            clear hr
            have Kc0 : w6.cell? ⟨w.heap.size, 0, none⟩ = some (.bool false) := K.out.at_ 0 rfl
            have Kc1 : w6.cell? ⟨w.heap.size, 1, none⟩ = some (.slice none 0 0) := K.out.at_ 1 rfl
            have Kc2 : w6.cell? ⟨w.heap.size, 2, none⟩ = some (.slice none 0 0) := K.out.at_ 2 rfl
            have p0 : w6.frozen? ⟨w.heap.size, 0, none⟩ = false := K.out.frozen 0
            have p1 : w6.frozen? ⟨w.heap.size, 1, none⟩ = false := K.out.frozen 1
            have p2 : w6.frozen? ⟨w.heap.size, 2, none⟩ = false := K.out.frozen 2
            go_wp2
            refine bodyPost_ret (v := .tuple #[.agg #[.bool false, .slice none 0 0, .slice none 0 0], .int .i64 3]) (by simp [results, Tryz.results12, go_sem, Kc0, Kc1, Kc2, p0, p1, p2]) rfl ?_
            exact opq_end hR ⟨by rw [er.out]; exact rfl, (by (repeat (first | exact b0 | exact Below.refl _ _ | refine Below.setCell ?_ (by first | (simp; done) | (simp; omega)) _ | refine Below.alloc ?_ (by first | (simp; done) | (simp; omega)) _)))⟩
          go_wp2_with fail
          refine (rnumber_ok _ g1 (by omega) dA.out).mono ?_
          rintro e w5 ⟨v4, rfl, d0, r4⟩
          replace K := hide (K.out.below' d0)
          replace b0 := hide (below_tr b0.out d0)
          have N4 := hide (r4.can)
          clear d0
          clear r4
          obtain ⟨A4, n4, c4, rfl⟩ := N4.out.slice
          by_cases hD : 200 < ((⟨#[49]⟩ : ByteArray)).size
          case pos =>
            exact absurd hD (by decide)
          go_wp2_with fail
          refine (rnumber_ok _ (⟨#[49]⟩ : ByteArray) (by omega) dD.out).mono ?_
          rintro e w6 ⟨v5, rfl, d0, r5⟩
          replace K := hide (K.out.below' d0)
          replace N4 := hide (N4.out.below d0)
          replace b0 := hide (below_tr b0.out d0)
          have N5 := hide (r5.can)
          clear d0
          clear r5
          obtain ⟨A5, n5, c5, rfl⟩ := N5.out.slice
          have la := hide (num_L dA.out (by rw [byt_length]; omega))
          have ld := hide (num_L dD.out (by rw [byt_length]; omega))
          have er : Hid (r = .inl (mkRat (sgn false (num (byt g1))) (num (byt (⟨#[49]⟩ : ByteArray))))) := by show _ = _; rw [← hr.out, rmake, nz.out, if_neg (by decide), if_neg (by rw [byt_length, byt_length]; omega)]
          clear hr
          go_wp2_with fail
          refine (clone_P N4.out la.out).mono ?_
          rintro e w7 ⟨v6, rfl, d0, r6⟩
          replace K := hide (K.out.below' d0)
          replace N4 := hide (N4.out.below d0)
          replace N5 := hide (N5.out.below d0)
          replace b0 := hide (below_tr b0.out d0)
          have N6 := hide (r6.can)
          clear d0
          clear r6
          obtain ⟨A6, n6, c6, rfl⟩ := N6.out.slice
          go_wp2_with fail
          refine (rlowest_P (ican_sgn (b := false) N6.out (fun h => by cases h)) N5.out (by rw [sgn_abs]; exact la.out) ld.out nD.out (T.out.below b0.out)).mono ?_
          rintro e w8 ⟨v8, rfl, d0, r8⟩
          have bz := b0.out.size
          replace K := hide (K.out.below' d0)
          replace N4 := hide (N4.out.below d0)
          replace N5 := hide (N5.out.below d0)
          replace N6 := hide (N6.out.below d0)
          replace b0 := hide (below_tr b0.out d0)
          have R8 := hide (r8.mono (B' := w.heap.size) bz)
          clear d0 bz
          clear r8
          obtain ⟨b8, A8, n8, c8, D8, m8, k8, rfl⟩ := R8.out.slice
          have Kc0 : w8.cell? ⟨w.heap.size, 0, none⟩ = some (.bool false) := K.out.at_ 0 rfl
          have Kc1 : w8.cell? ⟨w.heap.size, 1, none⟩ = some (.slice none 0 0) := K.out.at_ 1 rfl
          have Kc2 : w8.cell? ⟨w.heap.size, 2, none⟩ = some (.slice none 0 0) := K.out.at_ 2 rfl
          have p0 : w8.frozen? ⟨w.heap.size, 0, none⟩ = false := K.out.frozen 0
          have p1 : w8.frozen? ⟨w.heap.size, 1, none⟩ = false := K.out.frozen 1
          have p2 : w8.frozen? ⟨w.heap.size, 2, none⟩ = false := K.out.frozen 2
          go_wp2
          refine bodyPost_ret (v := .tuple #[.agg #[.bool b8, .slice A8 n8 c8, .slice D8 m8 k8], .int .i64 0]) (by simp [results, Tryz.results12, go_sem, Kc0, Kc1, Kc2, p0, p1, p2]) rfl ?_
          exact opq_end hR ⟨by rw [er.out]; exact ⟨_, rfl, R8.out.only K.out (by decide) ((((Only.refl _ _).set _ _).set _ _).set _ _)⟩, (by (repeat (first | exact b0 | exact Below.refl _ _ | refine Below.setCell ?_ (by first | (simp; done) | (simp; omega)) _ | refine Below.alloc ?_ (by first | (simp; done) | (simp; omega)) _)))⟩
        case true =>
          have TR := hide (fun W => Tryz.strings_Trim_laid g1 ⟨#[48]⟩ W (by omega) (by decide) (ascii_of_all (by decide)))
          have tz := trim_zero g1
          rw [show (⟨#[48]⟩ : ByteArray).data.toList = [48] from rfl] at TR
          generalize Lib.trimS (g1).data.toList [48] = tr at *
          by_cases hz : tr = []
          case pos =>
            subst hz
            have e0 : num (byt g1) = 0 := (num0_iff dA.out).2 (tz.1 rfl)
            clear tz
            replace e0 := hide e0
            go_wp2_with fail
            refine (TR.out _).mono ?_
            rintro e w5 ⟨rfl, d0⟩
            replace K := hide (K.out.below' d0)
            replace b0 := hide (below_tr b0.out d0)
            clear d0
            clear TR
            have er : Hid (r = .inr 4) := by show _ = _; rw [← hr.out]; rw [rmake, e0.out]; rfl
            clear hr
            have Kc0 : w5.cell? ⟨w.heap.size, 0, none⟩ = some (.bool false) := K.out.at_ 0 rfl
            have Kc1 : w5.cell? ⟨w.heap.size, 1, none⟩ = some (.slice none 0 0) := K.out.at_ 1 rfl
            have Kc2 : w5.cell? ⟨w.heap.size, 2, none⟩ = some (.slice none 0 0) := K.out.at_ 2 rfl
            have p0 : w5.frozen? ⟨w.heap.size, 0, none⟩ = false := K.out.frozen 0
            have p1 : w5.frozen? ⟨w.heap.size, 1, none⟩ = false := K.out.frozen 1
            have p2 : w5.frozen? ⟨w.heap.size, 2, none⟩ = false := K.out.frozen 2
            go_wp2
            refine bodyPost_ret (v := .tuple #[.agg #[.bool false, .slice none 0 0, .slice none 0 0], .int .i64 4]) (by simp [results, Tryz.results12, go_sem, Kc0, Kc1, Kc2, p0, p1, p2]) rfl ?_
            exact opq_end hR ⟨by rw [er.out]; exact rfl, (by (repeat (first | exact b0 | exact Below.refl _ _ | refine Below.setCell ?_ (by first | (simp; done) | (simp; omega)) _ | refine Below.alloc ?_ (by first | (simp; done) | (simp; omega)) _)))⟩
          have nb : Hid (num (byt g1) ≠ 0) := fun e => hz (tz.2 ((num0_iff dA.out).1 e))
          clear tz
          rcases tr with _ | ⟨t0, tr⟩
          · exact absurd rfl hz
          clear hz
          go_wp2_with fail
          refine (TR.out _).mono ?_
          rintro e w5 ⟨rfl, d0⟩
          replace K := hide (K.out.below' d0)
          replace b0 := hide (below_tr b0.out d0)
          clear d0
          clear TR
          have nz : Hid ((true && decide (num (byt g1) = 0)) = false) := by show _ = _; simpa using nb.out
          by_cases hA : 200 < (g1).size
          case pos =>
            go_wp2_with fail
            refine (rnumber_long _ g1 hA (by omega)).mono ?_
            rintro e w6 ⟨rfl, d0⟩
            replace K := hide (K.out.below' d0)
            replace b0 := hide (below_tr b0.out d0)
            clear d0
            by_cases hD : 200 < ((⟨#[49]⟩ : ByteArray)).size
            case pos =>
              exact absurd hD (by decide)
            go_wp2_with fail
            refine (rnumber_ok _ (⟨#[49]⟩ : ByteArray) (by omega) dD.out).mono ?_
            rintro e w7 ⟨v5, rfl, d0, r5⟩
            replace K := hide (K.out.below' d0)
            replace b0 := hide (below_tr b0.out d0)
            clear d0
            obtain ⟨A5, n5, c5, rfl⟩ := r5.slice
            clear r5
            have er : Hid (r = .inr 3) := by show _ = _; rw [← hr.out]; rw [rmake, nz.out, if_neg (by decide), if_pos (by rw [byt_length, byt_length]; omega)]
            clear hr
            have Kc0 : w7.cell? ⟨w.heap.size, 0, none⟩ = some (.bool false) := K.out.at_ 0 rfl
            have Kc1 : w7.cell? ⟨w.heap.size, 1, none⟩ = some (.slice none 0 0) := K.out.at_ 1 rfl
            have Kc2 : w7.cell? ⟨w.heap.size, 2, none⟩ = some (.slice none 0 0) := K.out.at_ 2 rfl
            have p0 : w7.frozen? ⟨w.heap.size, 0, none⟩ = false := K.out.frozen 0
            have p1 : w7.frozen? ⟨w.heap.size, 1, none⟩ = false := K.out.frozen 1
            have p2 : w7.frozen? ⟨w.heap.size, 2, none⟩ = false := K.out.frozen 2
            go_wp2
            refine bodyPost_ret (v := .tuple #[.agg #[.bool false, .slice none 0 0, .slice none 0 0], .int .i64 3]) (by simp [results, Tryz.results12, go_sem, Kc0, Kc1, Kc2, p0, p1, p2]) rfl ?_
            exact opq_end hR ⟨by rw [er.out]; exact rfl, (by (repeat (first | exact b0 | exact Below.refl _ _ | refine Below.setCell ?_ (by first | (simp; done) | (simp; omega)) _ | refine Below.alloc ?_ (by first | (simp; done) | (simp; omega)) _)))⟩
          go_wp2_with fail
          refine (rnumber_ok _ g1 (by omega) dA.out).mono ?_
          rintro e w6 ⟨v4, rfl, d0, r4⟩
          replace K := hide (K.out.below' d0)
          replace b0 := hide (below_tr b0.out d0)
          have N4 := hide (r4.can)
          clear d0
          clear r4
          obtain ⟨A4, n4, c4, rfl⟩ := N4.out.slice
          by_cases hD : 200 < ((⟨#[49]⟩ : ByteArray)).size
          case pos =>
            exact absurd hD (by decide)
          go_wp2_with fail
          refine (rnumber_ok _ (⟨#[49]⟩ : ByteArray) (by omega) dD.out).mono ?_
          rintro e w7 ⟨v5, rfl, d0, r5⟩
          replace K := hide (K.out.below' d0)
          replace N4 := hide (N4.out.below d0)
          replace b0 := hide (below_tr b0.out d0)
          have N5 := hide (r5.can)
          clear d0
          clear r5
          obtain ⟨A5, n5, c5, rfl⟩ := N5.out.slice
          have la := hide (num_L dA.out (by rw [byt_length]; omega))
          have ld := hide (num_L dD.out (by rw [byt_length]; omega))
          have er : Hid (r = .inl (mkRat (sgn true (num (byt g1))) (num (byt (⟨#[49]⟩ : ByteArray))))) := by show _ = _; rw [← hr.out, rmake, nz.out, if_neg (by decide), if_neg (by rw [byt_length, byt_length]; omega)]
          clear hr
          go_wp2_with fail
          refine (clone_P N4.out la.out).mono ?_
          rintro e w8 ⟨v6, rfl, d0, r6⟩
          replace K := hide (K.out.below' d0)
          replace N4 := hide (N4.out.below d0)
          replace N5 := hide (N5.out.below d0)
          replace b0 := hide (below_tr b0.out d0)
          have N6 := hide (r6.can)
          clear d0
          clear r6
          obtain ⟨A6, n6, c6, rfl⟩ := N6.out.slice
          go_wp2_with fail
          refine (rlowest_P (ican_sgn (b := true) N6.out (fun _ => nb.out)) N5.out (by rw [sgn_abs]; exact la.out) ld.out nD.out (T.out.below b0.out)).mono ?_
          rintro e w9 ⟨v8, rfl, d0, r8⟩
          have bz := b0.out.size
          replace K := hide (K.out.below' d0)
          replace N4 := hide (N4.out.below d0)
          replace N5 := hide (N5.out.below d0)
          replace N6 := hide (N6.out.below d0)
          replace b0 := hide (below_tr b0.out d0)
          have R8 := hide (r8.mono (B' := w.heap.size) bz)
          clear d0 bz
          clear r8
          obtain ⟨b8, A8, n8, c8, D8, m8, k8, rfl⟩ := R8.out.slice
          have Kc0 : w9.cell? ⟨w.heap.size, 0, none⟩ = some (.bool false) := K.out.at_ 0 rfl
          have Kc1 : w9.cell? ⟨w.heap.size, 1, none⟩ = some (.slice none 0 0) := K.out.at_ 1 rfl
          have Kc2 : w9.cell? ⟨w.heap.size, 2, none⟩ = some (.slice none 0 0) := K.out.at_ 2 rfl
          have p0 : w9.frozen? ⟨w.heap.size, 0, none⟩ = false := K.out.frozen 0
          have p1 : w9.frozen? ⟨w.heap.size, 1, none⟩ = false := K.out.frozen 1
          have p2 : w9.frozen? ⟨w.heap.size, 2, none⟩ = false := K.out.frozen 2
          go_wp2
          refine bodyPost_ret (v := .tuple #[.agg #[.bool b8, .slice A8 n8 c8, .slice D8 m8 k8], .int .i64 0]) (by simp [results, Tryz.results12, go_sem, Kc0, Kc1, Kc2, p0, p1, p2]) rfl ?_
          exact opq_end hR ⟨by rw [er.out]; exact ⟨_, rfl, R8.out.only K.out (by decide) ((((Only.refl _ _).set _ _).set _ _).set _ _)⟩, (by (repeat (first | exact b0 | exact Below.refl _ _ | refine Below.setCell ?_ (by first | (simp; done) | (simp; omega)) _ | refine Below.alloc ?_ (by first | (simp; done) | (simp; omega)) _)))⟩
end Go.Proofs.YtkefmeddnncacaaGreatDoor

/- rats: the laws' read; some answers that the document fixes. -/
set_option linter.unusedVariables false
set_option linter.unusedSimpArgs false
set_option maxRecDepth 100000
namespace Go.Proofs.YtkefmeddnncacaaGreatDoor
open Go.RowKit

def s_1_0 : ByteArray := ⟨#[49, 47, 48]⟩
def Fact.prt2 (N M : Nat) : Fact := ⟨fun v w => RPrt w v false (limbs N) (limbs M), fun _ _ _ h hb => h.below hb⟩
end Go.Proofs.YtkefmeddnncacaaGreatDoor

/- the laws of rats: contracts as their walks ask. -/
set_option linter.unusedVariables false
set_option linter.unusedSimpArgs false
set_option maxRecDepth 100000
namespace Go.Proofs.YtkefmeddnncacaaGreatDoor
open Go.RowKit

theorem rWhole_eq {w : World} {v : Value} {q : Rat} (h : RArg w v q) (hT : Tab w) (r : Bool) (hr : decide (q.den = 1) = r) :
    Calls Tryz.prog 16 #[v] w fun e w' => ∃ u, e = .returned u ∧ Below w.heap.size w w' ∧ u = .bool r :=
  (rWhole_P h hT).mono fun e w' ⟨u, h1, h2, h3⟩ => ⟨u, h1, h2, by rw [h3, hr]⟩
theorem RPrt.arg {w : World} {v : Value} {b : Bool} {xs ys : List Nat} (h : RPrt w v b xs ys) (l1 : xs.length ≤ 100000000000) (l2 : ys.length ≤ 100000000000) : RArg w v (rv b xs ys) := ⟨b, xs, ys, h, l1, l2, rfl⟩
end Go.Proofs.YtkefmeddnncacaaGreatDoor

/- What stands behind a region that makes a variable: its store. -/
set_option linter.unusedVariables false
set_option linter.unusedSimpArgs false
set_option maxRecDepth 100000
namespace Go.Proofs.YtkefmeddnncacaaGreatDoor
open Go.RowKit

/-- What one gives, beside something that is known. -/
def Fact.tupE (f : Fact) (c : Value) : Fact := ⟨fun v w => ∃ u, v = .tuple #[u, c] ∧ f.holds u w, fun _ w w' ⟨u, h1, h2⟩ hb => ⟨u, h1, f.stable _ w w' h2 hb⟩⟩
section
variable {V w : World} {g : Nat} {ops : Array Oper} {Q : Exit → Act → World → Prop} {o : Oper} {rest : List Oper} {a : Act} {p x : Operand}
end
end Go.Proofs.YtkefmeddnncacaaGreatDoor
