/- nats: Check, fine, at, cut. -/
import Derived.Test.YtcdejccbamjdoaaDoorCore
import Derived.Test.YtcdejccbamjdoaaDoorChecked
set_option linter.unusedVariables false
set_option linter.unusedSimpArgs false
namespace Go.Proofs.YtcdejccbamjdoaaDoor
open Go.RowKit

set_option maxHeartbeats 400000 in
theorem Check_ok (w : World) (A : Option Addr) (n c : Nat) (xs : List Nat) (h : Rd w A n xs) :
    Calls Tryd.prog 32 #[.slice A n c] w fun e w' => e = .returned (.bool (chk xs)) ∧ w = w' := by
  refine opq fun R hR => ?_
  obtain ⟨hl, hm, h⟩ := h
  rcases Nat.eq_zero_or_pos n with h0 | h0
  · subst h0
    have hx : xs = [] := List.eq_nil_of_length_eq_zero hl
    subst hx
    go_enter Tryd.func32, Tryd.ntmps32
    go_wp2
    exact opq_end hR ⟨rfl, rfl⟩
  · obtain ⟨ad, rfl, hb, hc⟩ := h h0
    have hk := hc (n-1) (by omega)
    have e1 : ((n : Int) == 0) = false := by simp; omega
    have hx : Hid (xs.getD (n-1) 0 = xs.getLastD 1) := by
      show _ = _
      rw [List.getLastD_eq_getLast?, List.getLast?_eq_getElem?, hl, List.getD_eq_getElem?_getD, List.getElem?_eq_getElem (by omega)]
      rfl
    clear h hc hl
    generalize xs.getD (n-1) 0 = x at *
    go_enter Tryd.func32, Tryd.ntmps32
    go_wp2
    refine opq_end hR ⟨ret_bool ?_, rfl⟩
    unfold chk
    rw [← hx.out]
    exact bne_nat0 x

set_option maxHeartbeats 400000 in
theorem at_ok (w : World) (A : Option Addr) (n c : Nat) (xs : List Nat) (i : Int) (h : Rd w A n xs) (h32 : Is32 xs) :
    Calls Tryd.prog 58 #[.slice A n c, .int .i64 i] w fun e w' => e = .returned (.int .u64 (if 0 ≤ i then xs.getD i.toNat 0 else 0 : Nat)) ∧ w = w' := by
  refine opq fun R hR => ?_
  have hlt := is32_get h32 i.toNat
  obtain ⟨hl, hm, h⟩ := h
  by_cases h0 : i < 0
  · have e1 : decide (i < 0) = true := by simpa using h0
    go_enter Tryd.func58, Tryd.ntmps58
    go_wp2
    exact opq_end hR ⟨ret_nat (by rw [if_neg (by omega)]), rfl⟩
  · have e0 : decide (i < 0) = false := by simpa using h0
    obtain ⟨k, rfl⟩ : ∃ k : Nat, i = k := ⟨i.toNat, by omega⟩
    by_cases h1 : n ≤ k
    · have e1 : decide ((n:Int) ≤ k) = true := by simpa using h1
      clear h hlt
      go_enter Tryd.func58, Tryd.ntmps58
      go_wp2
      exact opq_end hR ⟨ret_nat (by rw [if_pos (by omega), getD_ge (by simp; omega)]), rfl⟩
    · have e1 : decide ((n:Int) ≤ k) = false := by simpa using h1
      obtain ⟨ad, rfl, hb, hc⟩ := h (by omega)
      have hk := hc k (by omega)
      have hi : k < n := by omega
      clear hc h0 h1 h h32
      simp only [Int.toNat_natCast] at *
      obtain ⟨x, hx⟩ : ∃ x, Hid (xs.getD k 0 = x) := ⟨_, rfl⟩
      rw [hx.out] at hk hlt
      go_enter Tryd.func58, Tryd.ntmps58
      go_wp2
      exact opq_end hR ⟨ret_nat (by rw [if_pos (by omega), hx.out]), rfl⟩

set_option maxHeartbeats 400000 in
theorem fine_ok (w : World) (A : Option Addr) (n c : Nat) (xs : List Nat) (h : Rd w A n xs) :
    Calls Tryd.prog 56 #[.slice A n c] w fun e w' => e = .returned (if chk xs then .slice A n c else .slice none 0 0) ∧ w = w' := by
  refine opq fun R hR => ?_
  have H := hide (Check_ok w A n c xs h)
  cases hc : chk xs
  all_goals
    rw [hc] at H
    go_enter Tryd.func56, Tryd.ntmps56
    go_wp2_with (go_at_call 32; refine H.out.mono ?_; rintro e w' ⟨rfl, rfl⟩)
    exact opq_end hR ⟨by simp [hc], rfl⟩

set_option maxHeartbeats 400000 in
theorem clip_ok (w : World) (A : Option Addr) (n c : Nat) (hn : n ≤ c) (hm : n ≤ 9223372036854775807) :
    Calls Tryd.prog 74 #[.slice A n c] w fun e w' => e = .returned (.slice A n n) ∧ w = w' := by
  refine opq fun R hR => ?_
  go_enter Tryd.func74, Tryd.ntmps74
  go_wp2
  exact opq_end hR ⟨rfl, rfl⟩

theorem strip_take_zero {xs : List Nat} {k : Nat} (hk : k < xs.length) (h0 : xs.getD k 0 = 0) : strip (xs.take (k + 1)) = strip (xs.take k) := by
  rw [List.take_succ_eq_append_getElem hk]
  rw [getD_lt hk] at h0
  rw [h0, strip_zero]
theorem strip_take_nz {xs : List Nat} {k : Nat} (hk : k < xs.length) (h0 : xs.getD k 0 ≠ 0) : (strip (xs.take (k + 1))).length = k + 1 := by
  rw [getD_lt hk] at h0
  rw [List.take_succ_eq_append_getElem hk, strip_nz _ h0]
  simp; omega

set_option maxHeartbeats 400000 in
theorem cut_ok (w : World) (A : Option Addr) (n c : Nat) (xs : List Nat) (h : Rd w A n xs) (hn : n ≤ c) :
    Calls Tryd.prog 59 #[.slice A n c] w fun e w' => e = .returned (.slice A (strip xs).length (strip xs).length) ∧ w = w' := by
  refine opq fun R hR => ?_
  obtain ⟨hl, hm, h⟩ := h
  go_enter Tryd.func59, Tryd.ntmps59
  go_wp2
  go_loop [3] (fun v => ∃ k : Nat, k ≤ n ∧ v = .int .i64 k ∧ Hid (strip (xs.take k) = strip xs)) (fun v => (intOf v).toNat)
  case atStart => exact ⟨n, Nat.le_refl _, rfl, by rw [List.take_of_length_le (by omega)]; exact rfl⟩
  case round =>
    obtain ⟨k, hk, rfl, hs⟩ := hrel
    rcases Nat.eq_zero_or_pos k with h0 | h0
    · subst h0
      have hs0 : Hid ((strip xs).length = 0) := by rw [← hs.out]; exact rfl
      clear h hl
      go_wp2_with (go_at_call 74; refine (clip_ok _ _ _ _ (by omega) (by omega)).mono ?_; rintro e w' ⟨rfl, rfl⟩)
      exact opq_end hR ⟨by rw [hs0.out]; rfl, rfl⟩
    · obtain ⟨ad, rfl, hb, hc⟩ := h (by omega)
      have hx := hc (k - 1) (by omega)
      clear hc h
      obtain ⟨j, rfl⟩ : ∃ j, k = j + 1 := ⟨k - 1, by omega⟩
      have hj : j < xs.length := by omega
      by_cases hz : xs.getD j 0 = 0
      · have hs2 : Hid (strip (xs.take j) = strip xs) := by rw [← strip_take_zero hj hz]; exact hs
        simp only [Nat.add_sub_cancel, hz] at hx
        clear hs hl hz hj
        go_wp2
        go_round
        case rel => exact ⟨j, by omega, by go_num, hs2⟩
        case measure => simp [intOf]
      · have hs2 : Hid ((strip xs).length = j + 1) := by rw [← hs.out]; exact strip_take_nz hj hz
        have hz' : (((xs.getD j 0 : Nat) : Int) == 0) = false := by rw [beq_nat0]; simpa using hz
        simp only [Nat.add_sub_cancel] at hx
        clear hs hl hz hj
        generalize xs.getD j 0 = x at *
        go_wp2_with (go_at_call 74; refine (clip_ok _ _ _ _ (by omega) (by omega)).mono ?_; rintro e w' ⟨rfl, rfl⟩)
        exact opq_end hR ⟨by rw [hs2.out]; rfl, rfl⟩

theorem at_nat (w : World) (A : Option Addr) (n c : Nat) (xs : List Nat) (k : Nat) (h : Rd w A n xs) (h32 : Is32 xs) :
    Calls Tryd.prog 58 #[.slice A n c, .int .i64 (k : Nat)] w fun e w' => e = .returned (.int .u64 (xs.getD k 0 : Nat)) ∧ w = w' :=
  (at_ok w A n c xs k h h32).mono fun e w' ⟨h1, h2⟩ => ⟨by rw [h1, if_pos (by omega)]; rfl, h2⟩
/-- fine, all at once: what it answers reads as a number that may be. -/
theorem fine_any (w : World) (A : Option Addr) (n c : Nat) (xs : List Nat) (h : Rd w A n xs) (h32 : Is32 xs) (hc : n ≤ c) :
    Calls Tryd.prog 56 #[.slice A n c] w fun e w' => ∃ A' n' c' xs', e = .returned (.slice A' n' c') ∧ w = w' ∧ Hid (Rd w A' n' xs') ∧ Hid (Is32 xs' ∧ chk xs' = true ∧ val xs' = nv xs) ∧ n' ≤ n ∧ n' ≤ c' := by
  refine (fine_ok w A n c xs h).mono ?_
  rintro e w' ⟨rfl, rfl⟩
  by_cases hx : chk xs = true
  · exact ⟨A, n, c, xs, by rw [if_pos hx], rfl, h, ⟨h32, hx, by rw [nv, if_pos hx]⟩, Nat.le_refl _, hc⟩
  · exact ⟨none, 0, 0, [], by rw [if_neg hx], rfl, Rdk.nil _ _ _, ⟨is32_nil, rfl, by rw [nv, if_neg hx]; rfl⟩, by omega, by omega⟩
end Go.Proofs.YtcdejccbamjdoaaDoor
