/- the laws of nats: NatsRead. -/
import Derived.Test.YtcdejccbamjdoaaDoorNE
import Derived.Test.YtcdejccbamjdoaaDoorSc
import Derived.Test.YtcdejccbamjdoaaDoorSd
set_option linter.unusedVariables false
set_option linter.unusedSimpArgs false
set_option maxRecDepth 100000
namespace Go.Proofs.YtcdejccbamjdoaaDoor
open Go.RowKit

theorem nalive_F {w : World} (h : Tab w) : Calls Tryd.prog 37 #[] w fun e w' => ∃ u, e = .returned u ∧ Below w.heap.size w w' ∧ u = .bool true :=
  (alive_ok w h).mono fun e w' ⟨h1, h2⟩ => ⟨_, h1, h2.out, rfl⟩
theorem ncheck_F {w : World} {A : Option Addr} {n c : Nat} {xs : List Nat} (h : Rd w A n xs) (r : Bool) (hr : chk xs = r) :
    Calls Tryd.prog 32 #[.slice A n c] w fun e w' => ∃ u, e = .returned u ∧ Below w.heap.size w w' ∧ u = .bool r :=
  (Check_ok w A n c xs h).mono fun e w' ⟨h1, h2⟩ => ⟨_, h1, h2 ▸ Below.refl _ _, by rw [hr]⟩
theorem ngreat1 {w : World} {A1 : Option Addr} {n1 c1 : Nat} {t : TypeId} {g : Nat} (hg : w.heap.size = g) (r : Bool) (hr : decide (300 < n1) = r) :
    Calls Tryd.prog 39 #[.slice (some ⟨g, 0, none⟩) 1 1] (w.alloc (.cells #[.slice A1 n1 c1] t)) fun e w' => ∃ u, e = .returned u ∧ Below (w.alloc (.cells #[.slice A1 n1 c1] t)).heap.size (w.alloc (.cells #[.slice A1 n1 c1] t)) w' ∧ u = .bool r := by
  subst hg
  have B := Blk.new w t #[.slice A1 n1 c1]
  have := great_ok (w.alloc (.cells #[.slice A1 n1 c1] t)) w.heap.size [(A1, n1, c1)] (fun j x hx => by
    rw [B.cell]
    match j, hx with
    | 0, hx => cases hx; rfl) (by simp)
  exact this.mono fun e w' ⟨h1, h2⟩ => ⟨_, h1, h2 ▸ Below.refl _ _, by simp [hr]⟩
theorem n_decs_len : ∀ (m n : Nat), n < 10 ^ m → (decs n).length ≤ m := by
  intro m
  induction m with
  | zero => intro n h; rw [Nat.pow_zero] at h; obtain rfl : n = 0 := by omega
            rw [decs_zero]; simp
  | succ m ih =>
    intro n h
    by_cases h0 : n = 0
    · subst h0; rw [decs_zero]; simp
    · rw [decs_pos h0, List.length_append, List.length_singleton]
      have := ih (n / 10) (by rw [Nat.pow_succ] at h; omega)
      omega
theorem n_txt_len {N k : Nat} (h : L N ≤ k) : (txt N).length ≤ 10 * k + 1 := by
  unfold txt
  split
  · simp
  · have h1 : N < 10 ^ (10 * k) := by
      rw [Nat.pow_mul]
      exact Nat.lt_of_lt_of_le (L_le.1 h) (Nat.pow_le_pow_left (by omega) k)
    have := n_decs_len _ _ h1
    omega
theorem ncheckc_F {w : World} {v : Value} {M : Nat} (h : Can w v M) :
    Calls Tryd.prog 32 #[v] w fun e w' => ∃ u, e = .returned u ∧ Below w.heap.size w w' ∧ u = .bool true :=
  (Check_can h).mono fun e w' ⟨e1, e2⟩ => ⟨_, e1, by subst e2; exact Below.refl _ _, rfl⟩
theorem nsame_F {w : World} {v v' : Value} {M : Nat} (h : Can w v M) (h' : Can w v' M) :
    Calls Tryd.prog 33 #[v, v'] w fun e w' => ∃ u, e = .returned u ∧ Below w.heap.size w w' ∧ u = .bool true :=
  (Same_can h h').mono fun e w' ⟨e1, e2⟩ => ⟨_, e1, e2.out, by simp⟩
theorem n_txt_lt (n : Nat) : ∀ x ∈ txt n, 48 ≤ x ∧ x < 58 := by
  intro x hx
  unfold txt at hx
  split at hx
  · simp at hx; omega
  · exact decs_lt x hx
theorem n_byt_bts (l : List Nat) (h : ∀ x ∈ l, x < 256) : byt ⟨(bts l).toArray⟩ = l := by
  show ((bts l).toArray.toList).map UInt8.toNat = l
  rw [List.toList_toArray]
  unfold bts
  rw [List.map_map]
  conv => rhs; rw [← List.map_id l]
  apply List.map_congr_left
  intro x hx
  simp [Nat.mod_eq_of_lt (h x hx)]
theorem n_byt_inj {s t : ByteArray} (h : byt s = byt t) : s = t := by
  have h1 : s.data.toList = t.data.toList := (List.map_inj_right (fun a b e => UInt8.toNat_inj.1 e)).1 h
  cases s; cases t
  simp only [ByteArray.mk.injEq]
  exact Array.toList_inj.1 h1
theorem n_txt_byt (n : Nat) : byt ⟨(bts (txt n)).toArray⟩ = txt n := n_byt_bts _ (fun x hx => by have := n_txt_lt n x hx; omega)
theorem n_txt_bytes (n : Nat) : ∃ t : ByteArray, byt t = txt n ∧ t.size = (txt n).length := ⟨_, n_txt_byt n, by rw [← byt_length, n_txt_byt n]⟩
theorem nText_F {w : World} {A : Option Addr} {n c : Nat} {xs : List Nat} (h : Rd w A n xs) (h32 : Is32 xs) (hn : n ≤ 1000000) (hc : n ≤ c) (t : ByteArray) (ht : byt t = txt (nv xs)) :
    Calls Tryd.prog 42 #[.slice A n c] w fun e w' => ∃ u, e = .returned u ∧ Below w.heap.size w w' ∧ u = .string t :=
  (Text_ok w A n c xs h h32 hn hc).mono fun e w' ⟨e1, h2⟩ => ⟨_, e1, h2, by rw [show t = ⟨(bts (txt (nv xs))).toArray⟩ from n_byt_inj (by rw [ht, n_txt_byt])]⟩
theorem nText_C {w : World} {v : Value} {M : Nat} (h : Can w v M) (hl : L M ≤ 1000000) (t : ByteArray) (ht : byt t = txt M) :
    Calls Tryd.prog 42 #[v] w fun e w' => ∃ u, e = .returned u ∧ Below w.heap.size w w' ∧ u = .string t :=
  (Text_can h hl).mono fun e w' ⟨e1, h2⟩ => ⟨_, e1, h2.out, by rw [show t = ⟨(bts (txt M)).toArray⟩ from n_byt_inj (by rw [ht, n_txt_byt])]⟩
theorem nParse_yes {w : World} {s : ByteArray} (hs : s.size ≤ 9223372036854775807) (n : Nat) (h1 : isNum (byt s) = true) (h2 : s.size ≤ 200) (hn : num (byt s) = n) :
    Calls Tryd.prog 43 #[.string s] w fun e w' => ∃ v, e = .returned (.tuple #[v, .int .i64 0]) ∧ Below w.heap.size w w' ∧ NatR n w.heap.size w' v :=
  (Parse_ok w s hs).mono fun e w' ⟨h4, h5⟩ => by
    rw [if_pos h1, if_pos h2, hn] at h4
    obtain ⟨v, e1, h6⟩ := h4
    exact ⟨v, e1, h5, h6⟩
theorem nParse_form {w : World} {s : ByteArray} (hs : s.size ≤ 9223372036854775807) (h1 : isNum (byt s) = false) :
    Calls Tryd.prog 43 #[.string s] w fun e w' => e = .returned (.tuple #[.slice none 0 0, .int .i64 4]) ∧ Below w.heap.size w w' :=
  (Parse_ok w s hs).mono fun e w' ⟨h4, h5⟩ => by
    rw [if_neg (by rw [h1]; decide)] at h4
    exact ⟨h4, h5⟩
theorem nParse_limit {w : World} {s : ByteArray} (hs : s.size ≤ 9223372036854775807) (h1 : isNum (byt s) = true) (h2 : 200 < s.size) :
    Calls Tryd.prog 43 #[.string s] w fun e w' => e = .returned (.tuple #[.slice none 0 0, .int .i64 3]) ∧ Below w.heap.size w w' :=
  (Parse_ok w s hs).mono fun e w' ⟨h4, h5⟩ => by
    rw [if_pos h1, if_neg (by omega)] at h4
    exact ⟨h4, h5⟩
theorem n_isNum_lt {l : List Nat} (h : isNum l = true) : ∀ c ∈ l, c < 58 := by
  intro c hc
  unfold isNum at h
  simp only [Bool.and_eq_true, List.all_eq_true] at h
  have := h.1.2 c hc
  simp only [isDig, Bool.and_eq_true, decide_eq_true_eq] at this
  exact this.2
set_option maxHeartbeats 4000000 in
theorem NatsRead_ok (w : World) (A1 : Option Addr) (n1 c1 : Nat) (xs1 : List Nat) (s : ByteArray) (h1 : Rd w A1 n1 xs1) (i1 : Is32 xs1) (l1 : n1 ≤ c1) (hs : s.size ≤ 9223372036854775807) (T : Tab w) :
    Calls Tryd.prog 13 #[.slice A1 n1 c1, .string s] w fun e w' => e = .returned (.bool true) ∧ Hid (Below w.heap.size w w') := by
  refine opq fun R hR => ?_
  have m1 := h1.2.1
  replace h1 := hide h1
  replace i1 := hide i1
  replace T := hide T
  go_enter Tryd.func13, Tryd.ntmps13
  have b0 := hide (Below.refl w.heap.size w)
  go_wp2_with fail
  refine (nalive_F (T.out.below b0.out)).mono ?_
  rintro e w1 ⟨_, rfl, d0, rfl⟩
  replace b0 := hide (below_tr b0.out d0)
  clear d0
  by_cases gg : 300 < n1
  case pos =>
    have y := (Below.refl w1.heap.size w1).alloc (Nat.le_refl _) (.cells #[.slice A1 n1 c1] 23)
    replace b0 := hide (below_tr b0.out y)
    clear y
    go_wp2_with fail
    refine (ngreat1 (w := w1) (by simp) true (by simp; omega)).mono ?_
    rintro e w2 ⟨_, rfl, d0, rfl⟩
    replace b0 := hide (below_tr b0.out d0)
    clear d0
    go_wp2_with fail
    refine (nalive_F (T.out.below b0.out)).mono ?_
    rintro e w3 ⟨_, rfl, d0, rfl⟩
    replace b0 := hide (below_tr b0.out d0)
    clear d0
    go_wp2
    exact opq_end hR ⟨rfl, b0⟩
  have y := (Below.refl w1.heap.size w1).alloc (Nat.le_refl _) (.cells #[.slice A1 n1 c1] 23)
  replace b0 := hide (below_tr b0.out y)
  clear y
  go_wp2_with fail
  refine (ngreat1 (w := w1) (by simp) false (by simp; omega)).mono ?_
  rintro e w2 ⟨_, rfl, d0, rfl⟩
  replace b0 := hide (below_tr b0.out d0)
  clear d0
  by_cases bb : 1048576 < s.size
  case pos =>
    have y := (Below.refl w2.heap.size w2).alloc (Nat.le_refl _) (.cells #[.int .i64 (s.size : Nat)] 3)
    replace b0 := hide (below_tr b0.out y)
    clear y
    go_wp2_with fail
    refine (beyond1 (w := w2) rfl hs true (by simp; omega)).mono ?_
    rintro e w3 ⟨_, rfl, d0, rfl⟩
    replace b0 := hide (below_tr b0.out d0)
    clear d0
    go_wp2_with fail
    refine (nalive_F (T.out.below b0.out)).mono ?_
    rintro e w4 ⟨_, rfl, d0, rfl⟩
    replace b0 := hide (below_tr b0.out d0)
    clear d0
    go_wp2
    exact opq_end hR ⟨rfl, b0⟩
  have y := (Below.refl w2.heap.size w2).alloc (Nat.le_refl _) (.cells #[.int .i64 (s.size : Nat)] 3)
  replace b0 := hide (below_tr b0.out y)
  clear y
  go_wp2_with fail
  refine (beyond1 (w := w2) rfl hs false (by simp; omega)).mono ?_
  rintro e w3 ⟨_, rfl, d0, rfl⟩
  replace b0 := hide (below_tr b0.out d0)
  clear d0
  obtain ⟨t, ht, hl⟩ := n_txt_bytes (nv xs1)
  have htl := n_txt_len (show L (nv xs1) ≤ 300 from Nat.le_trans (L_nv i1.out) (by rw [h1.out.1]; omega))
  replace ht := hide ht
  have ts : t.size ≤ 9223372036854775807 := by omega
  go_wp2_with fail
  refine (nText_F (h1.out.below b0.out) i1.out (by omega) l1 t ht.out).mono ?_
  rintro e w4 ⟨_, rfl, d0, rfl⟩
  replace b0 := hide (below_tr b0.out d0)
  clear d0
  by_cases k1 : chk xs1 = false
  case pos =>
    have e0 : nv xs1 = 0 := by unfold nv; rw [k1]; rfl
    rw [e0] at ht hl
    have et : t = ⟨#[48]⟩ := n_byt_inj (by rw [ht.out]; rfl)
    subst et
    clear hl e0
    go_wp2_with fail
    refine (nParse_yes ts 0 (by rw [ht.out]; exact isNum_txt 0) (by decide) (by rw [ht.out]; rfl)).mono ?_
    rintro e w5 ⟨v6, rfl, d0, r6⟩
    replace b0 := hide (below_tr b0.out d0)
    clear d0
    obtain ⟨A6, n6, c6, rfl⟩ : ∃ A n c, v6 = .slice A n c := by obtain ⟨A, c, q, _⟩ := r6; exact ⟨A, _, c, q⟩
    clear r6
    go_wp2_with fail
    refine (ncheck_F (h1.out.below b0.out) false k1).mono ?_
    rintro e w6 ⟨_, rfl, d0, rfl⟩
    replace b0 := hide (below_tr b0.out d0)
    clear d0
    go_wp2_with fail
    refine (ncheck_F (h1.out.below b0.out) false k1).mono ?_
    rintro e w7 ⟨_, rfl, d0, rfl⟩
    replace b0 := hide (below_tr b0.out d0)
    clear d0

    by_cases p1 : isNum (byt s) = false
    case pos =>
      go_wp2_with fail
      refine (nParse_form hs p1).mono ?_
      rintro e w8 ⟨rfl, d0⟩
      replace b0 := hide (below_tr b0.out d0)
      clear d0
      go_wp2
      exact opq_end hR ⟨rfl, b0⟩
    replace p1 : isNum (byt s) = true := by simpa using p1
    by_cases p2 : 200 < s.size
    case pos =>
      go_wp2_with fail
      refine (nParse_limit hs p1 p2).mono ?_
      rintro e w8 ⟨rfl, d0⟩
      replace b0 := hide (below_tr b0.out d0)
      clear d0
      go_wp2
      exact opq_end hR ⟨rfl, b0⟩
    replace p2 := Nat.not_lt.1 p2
    obtain ⟨z, hz⟩ : ∃ z, num (byt s) = z := ⟨_, rfl⟩
    have E : Hid (byt s = txt z) := by
      show _ = _
      rw [← hz, txt_num p1]
    have Z1 : Hid (L z ≤ 700) := by
      show _ ≤ _
      rw [← hz]
      refine L_le.2 (Nat.lt_of_lt_of_le (num_lt _ (n_isNum_lt p1)) (Nat.le_trans (Nat.pow_le_pow_right (by decide) (by rw [byt_length]; exact p2)) (by decide +kernel)))
    replace p1 := hide p1
    replace hz := hide hz
    go_wp2_with fail
    refine (nParse_yes hs z p1.out p2 hz.out).mono ?_
    rintro e w8 ⟨v9, rfl, d0, r9⟩
    replace b0 := hide (below_tr b0.out d0)
    have c9 := hide (r9.can)
    clear d0
    clear r9
    obtain ⟨A9, n9, c9', rfl⟩ : ∃ A n c, v9 = .slice A n c := by obtain ⟨A, c, q, _⟩ := c9.out; exact ⟨A, _, c, q⟩
    go_wp2_with fail
    refine (ncheckc_F c9.out).mono ?_
    rintro e w9 ⟨_, rfl, d0, rfl⟩
    replace c9 := hide (c9.out.below d0)
    replace b0 := hide (below_tr b0.out d0)
    clear d0
    go_wp2_with fail
    refine (nText_C c9.out (L_up Z1.out (by decide)) s E.out).mono ?_
    rintro e w10 ⟨_, rfl, d0, rfl⟩
    replace c9 := hide (c9.out.below d0)
    replace b0 := hide (below_tr b0.out d0)
    clear d0
    go_wp2
    exact opq_end hR ⟨ret_bool (decide_eq_true (by omega)), b0⟩
  replace k1 : chk xs1 = true := by simpa using k1
  have a1 := hide (can_of h1.out i1.out k1 l1)
  have en : nv xs1 = val xs1 := by unfold nv; rw [k1]; rfl
  rw [en] at ht hl
  clear en
  by_cases p0 : 200 < t.size
  case pos =>
    go_wp2_with fail
    refine (nParse_limit ts (by rw [ht.out]; exact isNum_txt _) p0).mono ?_
    rintro e w5 ⟨rfl, d0⟩
    replace b0 := hide (below_tr b0.out d0)
    clear d0
    go_wp2_with fail
    refine (ncheck_F (h1.out.below b0.out) true k1).mono ?_
    rintro e w6 ⟨_, rfl, d0, rfl⟩
    replace b0 := hide (below_tr b0.out d0)
    clear d0
    go_wp2_with fail
    refine (ncheck_F (h1.out.below b0.out) true k1).mono ?_
    rintro e w7 ⟨_, rfl, d0, rfl⟩
    replace b0 := hide (below_tr b0.out d0)
    clear d0

    by_cases p1 : isNum (byt s) = false
    case pos =>
      go_wp2_with fail
      refine (nParse_form hs p1).mono ?_
      rintro e w8 ⟨rfl, d0⟩
      replace b0 := hide (below_tr b0.out d0)
      clear d0
      go_wp2
      exact opq_end hR ⟨rfl, b0⟩
    replace p1 : isNum (byt s) = true := by simpa using p1
    by_cases p2 : 200 < s.size
    case pos =>
      go_wp2_with fail
      refine (nParse_limit hs p1 p2).mono ?_
      rintro e w8 ⟨rfl, d0⟩
      replace b0 := hide (below_tr b0.out d0)
      clear d0
      go_wp2
      exact opq_end hR ⟨rfl, b0⟩
    replace p2 := Nat.not_lt.1 p2
    obtain ⟨z, hz⟩ : ∃ z, num (byt s) = z := ⟨_, rfl⟩
    have E : Hid (byt s = txt z) := by
      show _ = _
      rw [← hz, txt_num p1]
    have Z1 : Hid (L z ≤ 700) := by
      show _ ≤ _
      rw [← hz]
      refine L_le.2 (Nat.lt_of_lt_of_le (num_lt _ (n_isNum_lt p1)) (Nat.le_trans (Nat.pow_le_pow_right (by decide) (by rw [byt_length]; exact p2)) (by decide +kernel)))
    replace p1 := hide p1
    replace hz := hide hz
    go_wp2_with fail
    refine (nParse_yes hs z p1.out p2 hz.out).mono ?_
    rintro e w8 ⟨v9, rfl, d0, r9⟩
    replace b0 := hide (below_tr b0.out d0)
    have c9 := hide (r9.can)
    clear d0
    clear r9
    obtain ⟨A9, n9, c9', rfl⟩ : ∃ A n c, v9 = .slice A n c := by obtain ⟨A, c, q, _⟩ := c9.out; exact ⟨A, _, c, q⟩
    go_wp2_with fail
    refine (ncheckc_F c9.out).mono ?_
    rintro e w9 ⟨_, rfl, d0, rfl⟩
    replace c9 := hide (c9.out.below d0)
    replace b0 := hide (below_tr b0.out d0)
    clear d0
    go_wp2_with fail
    refine (nText_C c9.out (L_up Z1.out (by decide)) s E.out).mono ?_
    rintro e w10 ⟨_, rfl, d0, rfl⟩
    replace c9 := hide (c9.out.below d0)
    replace b0 := hide (below_tr b0.out d0)
    clear d0
    go_wp2
    exact opq_end hR ⟨ret_bool (decide_eq_true (by omega)), b0⟩
  go_wp2_with fail
  refine (nParse_yes ts (val xs1) (by rw [ht.out]; exact isNum_txt _) (Nat.not_lt.1 p0) (by rw [ht.out]; exact num_txt _)).mono ?_
  rintro e w5 ⟨v6, rfl, d0, r6⟩
  replace b0 := hide (below_tr b0.out d0)
  have c6 := hide (r6.can)
  clear d0
  clear r6
  obtain ⟨A6, n6, c6', rfl⟩ : ∃ A n c, v6 = .slice A n c := by obtain ⟨A, c, q, _⟩ := c6.out; exact ⟨A, _, c, q⟩
  go_wp2_with fail
  refine (ncheck_F (h1.out.below b0.out) true k1).mono ?_
  rintro e w6 ⟨_, rfl, d0, rfl⟩
  replace c6 := hide (c6.out.below d0)
  replace b0 := hide (below_tr b0.out d0)
  clear d0
  go_wp2_with fail
  refine (nsame_F c6.out (a1.out.below b0.out)).mono ?_
  rintro e w7 ⟨_, rfl, d0, rfl⟩
  replace c6 := hide (c6.out.below d0)
  replace b0 := hide (below_tr b0.out d0)
  clear d0
  go_wp2_with fail
  refine (ncheck_F (h1.out.below b0.out) true k1).mono ?_
  rintro e w8 ⟨_, rfl, d0, rfl⟩
  replace c6 := hide (c6.out.below d0)
  replace b0 := hide (below_tr b0.out d0)
  clear d0
  by_cases p1 : isNum (byt s) = false
  case pos =>
    go_wp2_with fail
    refine (nParse_form hs p1).mono ?_
    rintro e w9 ⟨rfl, d0⟩
    replace c6 := hide (c6.out.below d0)
    replace b0 := hide (below_tr b0.out d0)
    clear d0
    go_wp2
    exact opq_end hR ⟨rfl, b0⟩
  replace p1 : isNum (byt s) = true := by simpa using p1
  by_cases p2 : 200 < s.size
  case pos =>
    go_wp2_with fail
    refine (nParse_limit hs p1 p2).mono ?_
    rintro e w9 ⟨rfl, d0⟩
    replace c6 := hide (c6.out.below d0)
    replace b0 := hide (below_tr b0.out d0)
    clear d0
    go_wp2
    exact opq_end hR ⟨rfl, b0⟩
  replace p2 := Nat.not_lt.1 p2
  obtain ⟨z, hz⟩ : ∃ z, num (byt s) = z := ⟨_, rfl⟩
  have E : Hid (byt s = txt z) := by
    show _ = _
    rw [← hz, txt_num p1]
  have Z1 : Hid (L z ≤ 700) := by
    show _ ≤ _
    rw [← hz]
    refine L_le.2 (Nat.lt_of_lt_of_le (num_lt _ (n_isNum_lt p1)) (Nat.le_trans (Nat.pow_le_pow_right (by decide) (by rw [byt_length]; exact p2)) (by decide +kernel)))
  replace p1 := hide p1
  replace hz := hide hz
  go_wp2_with fail
  refine (nParse_yes hs z p1.out p2 hz.out).mono ?_
  rintro e w9 ⟨v9, rfl, d0, r9⟩
  replace c6 := hide (c6.out.below d0)
  replace b0 := hide (below_tr b0.out d0)
  have c9 := hide (r9.can)
  clear d0
  clear r9
  obtain ⟨A9, n9, c9', rfl⟩ : ∃ A n c, v9 = .slice A n c := by obtain ⟨A, c, q, _⟩ := c9.out; exact ⟨A, _, c, q⟩
  go_wp2_with fail
  refine (ncheckc_F c9.out).mono ?_
  rintro e w10 ⟨_, rfl, d0, rfl⟩
  replace c6 := hide (c6.out.below d0)
  replace c9 := hide (c9.out.below d0)
  replace b0 := hide (below_tr b0.out d0)
  clear d0
  go_wp2_with fail
  refine (nText_C c9.out (L_up Z1.out (by decide)) s E.out).mono ?_
  rintro e w11 ⟨_, rfl, d0, rfl⟩
  replace c6 := hide (c6.out.below d0)
  replace c9 := hide (c9.out.below d0)
  replace b0 := hide (below_tr b0.out d0)
  clear d0
  go_wp2
  exact opq_end hR ⟨ret_bool (decide_eq_true (by omega)), b0⟩
end Go.Proofs.YtcdejccbamjdoaaDoor
