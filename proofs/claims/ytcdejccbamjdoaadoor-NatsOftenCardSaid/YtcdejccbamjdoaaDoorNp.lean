/- nats: Div. -/
import Derived.Test.YtcdejccbamjdoaaDoorNo
import Derived.OwnWalk
set_option linter.unusedVariables false
set_option linter.unusedSimpArgs false
set_option maxRecDepth 100000
namespace Go.Proofs.YtcdejccbamjdoaaDoor
open Go.RowKit

/-- Nothing that the one may come to write is the other's. -/
def Sep (v u : Value) : Prop := ∀ A n c A' n' c', v = .slice A n c → u = .slice A' n' c' → c = 0 ∨ c' = 0 ∨ ∃ a a', A = some a ∧ A' = some a' ∧ a.block ≠ a'.block
theorem Sep.symm {v u : Value} (h : Sep v u) : Sep u v := fun A n c A' n' c' e e' => by
  rcases h A' n' c' A n c e' e with h1 | h1 | ⟨a, a', h1, h2, h3⟩
  · exact .inr (.inl h1)
  · exact .inl h1
  · exact .inr (.inr ⟨a', a, h2, h1, fun q => h3 q.symm⟩)
theorem sep_of {t t' : TypeId} {B : Nat} {w w' : World} {A A' : Option Addr} {n n' c c' : Nat} (h : Fr t B w A c) (h' : Fr t' w.heap.size w' A' c') : Sep (.slice A n c) (.slice A' n' c') := fun _ _ _ _ _ _ e e' => by
  cases e; cases e'
  rcases h with h | ⟨g, cs, e, hg, hk, hc⟩
  · exact .inl h
  · rcases h' with h' | ⟨g', cs', e', hg', hk', hc'⟩
    · exact .inr (.inl h')
    · exact .inr (.inr ⟨_, _, e, e', by have := hk.lt; show g ≠ g'; omega⟩)
theorem NatR.sep {M N B : Nat} {w w' : World} {v u : Value} (h : NatR M B w v) (h' : NatR N w.heap.size w' u) : Sep v u := by
  obtain ⟨A, c, rfl, _, f, _⟩ := h
  obtain ⟨A', c', rfl, _, f', _⟩ := h'
  exact sep_of f f'
theorem NatR.zero (B : Nat) (w : World) : NatR 0 B w (.slice none 0 0) := by
  refine ⟨none, 0, by rw [limbs_zero]; rfl, by rw [limbs_zero]; exact Rdk.nil _ _ _, .inl rfl, by rw [limbs_zero]; exact Nat.le_refl _⟩
theorem Sep.nil (v : Value) : Sep (.slice none 0 0) v := fun _ _ _ _ _ _ e _ => by cases e; exact .inl rfl
theorem can_of {w : World} {A : Option Addr} {n c : Nat} {xs : List Nat} (h : Rd w A n xs) (h32 : Is32 xs) (hc : chk xs = true) (hl : n ≤ c) : Can w (.slice A n c) (val xs) := by
  have e := limbs_val_chk h32 hc
  exact ⟨A, c, by rw [e, h.1], by rw [e, h.1]; exact hl, by rw [e, h.1]; exact h⟩
theorem sm_shift {N k : Nat} (h : (limbs N).length ≤ 17592186044415) (hk : k ≤ 32) : Sm (N * 2 ^ k) := by
  refine Nat.le_trans (limbs_length_le.2 ?_ : _ ≤ (limbs N).length + 1) (by omega)
  have h1 := (limbs_length_le (n := N)).1 (Nat.le_refl _)
  rw [Nat.pow_succ]
  have h2 : (2:Nat) ^ k ≤ 2 ^ 32 := Nat.pow_le_pow_right (by omega) hk
  have h3 : (2:Nat) ^ k ≤ 4294967296 := h2
  refine Nat.lt_of_le_of_lt (Nat.mul_le_mul_left _ h3) ?_
  exact Nat.mul_lt_mul_of_pos_right h1 (by omega)
theorem addr0 (ad : Addr) : ad.add (1 - 1) = ad := by unfold Addr.add; split <;> simp_all
theorem div_shift (M N k : Nat) : M * 2 ^ k / (N * 2 ^ k) = M / N := Nat.mul_div_mul_right _ _ (Nat.pow_pos (by omega))
theorem mod_shift (M N k : Nat) : M * 2 ^ k % (N * 2 ^ k) / 2 ^ k = M % N := by
  rw [Nat.mul_mod_mul_right, Nat.mul_div_cancel _ (Nat.pow_pos (by omega))]
theorem limbs_shift_len {N k : Nat} (h : 2 ≤ (limbs N).length) : 2 ≤ (limbs (N * 2 ^ k)).length := by
  refine Nat.le_trans h (limbs_len_mono ?_)
  exact Nat.le_mul_of_pos_right _ (Nat.pow_pos (by omega))

set_option maxHeartbeats 2000000 in
theorem Div_ok (w : World) (A A' : Option Addr) (n n' c c' : Nat) (xs ys : List Nat) (h : Rd w A n xs) (h' : Rd w A' n' ys) (h32 : Is32 xs) (h32' : Is32 ys) (hn : n ≤ 8796093022208) (hn' : n' ≤ 8796093022208) (hc : n ≤ c) (hc' : n' ≤ c') :
    Calls Tryd.prog 38 #[.slice A n c, .slice A' n' c'] w fun e w' =>
      (if chk xs = true ∧ chk ys = true then
        if ys = [] then e = .returned (.tuple #[.slice none 0 0, .slice none 0 0, .int .i64 10])
        else ∃ v u, e = .returned (.tuple #[v, u, .int .i64 0]) ∧ NatR (val xs / val ys) w.heap.size w' v ∧ NatR (val xs % val ys) w.heap.size w' u ∧ Sep v u
      else e = .returned (.tuple #[.slice none 0 0, .slice none 0 0, .int .i64 1])) ∧ Below w.heap.size w w' := by
  refine opq fun R hR => ?_
  have r1 := hide h
  have r2 := hide h'
  have p1 := hide h32
  have p2 := hide h32'
  have C1 := hide (Check_ok w A n c xs h)
  have C2 := hide (Check_ok w A' n' c' ys h')
  clear h h' h32 h32'
  go_enter Tryd.func38, Tryd.ntmps38
  by_cases k1 : chk xs = true
  case neg =>
    have k2 : chk xs = false := by simpa using k1
    rw [k2] at C1
    go_wp2_with (go_at_call 32; refine C1.out.mono ?_; rintro e w' ⟨rfl, rfl⟩)
    go_ret3
    refine opq_end hR ?_
    refine ⟨?_, Below.refl _ _⟩
    rw [if_neg (fun q => k1 q.1)]
    rfl
  rw [k1] at C1
  by_cases k3 : chk ys = true
  case neg =>
    have k2 : chk ys = false := by simpa using k3
    rw [k2] at C2
    go_wp2_with fail
    refine C1.out.mono ?_; rintro e w' ⟨rfl, rfl⟩
    go_wp2_with fail
    refine C2.out.mono ?_; rintro e w' ⟨rfl, rfl⟩
    go_wp2
    go_ret3
    refine opq_end hR ?_
    refine ⟨?_, Below.refl _ _⟩
    rw [if_neg (fun q => k3 q.2)]
    rfl
  rw [k3] at C2
  go_wp2_with fail
  refine C1.out.mono ?_; rintro e w' ⟨rfl, rfl⟩
  go_wp2_with fail
  refine C2.out.mono ?_; rintro e w' ⟨rfl, rfl⟩
  by_cases h0 : n' = 0
  · subst h0
    go_wp2
    go_ret3
    refine opq_end hR ?_
    refine ⟨?_, Below.refl _ _⟩
    rw [if_pos ⟨k1, k3⟩, if_pos r2.out.nil_iff]
    rfl
  have m1 := hide (can_of r1.out p1.out k1 hc)
  have m2 := hide (can_of r2.out p2.out k3 hc')
  have s1 : Hid ((limbs (val xs)).length ≤ 8796093022208) := by
    show _ ≤ _
    rw [limbs_val_chk p1.out k1, r1.out.1]; exact hn
  have e2 : Hid ((limbs (val ys)).length = n') := by
    show _ = _
    rw [limbs_val_chk p2.out k3, r2.out.1]
  have s2 : Hid ((limbs (val ys)).length ≤ 8796093022208) := by
    show _ ≤ _
    rw [e2.out]; exact hn'
  have yn : ¬ ys = [] := fun q => h0 (by rw [← r2.out.1, q]; rfl)
  have t0 : ((n' : Int) == 0) = false := by rw [beq_nat0]; simpa using h0
  have CC := hide (Cmp_can m1.out m2.out (Nat.le_trans s1.out (by omega)) (Nat.le_trans s2.out (by omega)))
  by_cases lt : val xs < val ys
  · have cm : cmpN (val xs) (val ys) = -1 := by unfold cmpN; rw [if_pos lt]
    rw [cm] at CC
    go_wp2_with fail
    refine CC.out.mono ?_; rintro e w1 ⟨rfl, b1⟩
    have B1 := hide b1
    clear b1
    go_wp2_with fail
    refine (clone_fine w1 A n c xs (r1.out.below B1.out) ⟨p1.out, k1⟩ (by omega)).mono ?_
    rintro e w2 ⟨A1, c1, rfl, N1, B2⟩
    go_wp2
    go_ret3
    refine opq_end hR ?_
    refine ⟨?_, below_tr B1.out B2.out⟩
    rw [if_pos ⟨k1, k3⟩, if_neg yn]
    refine ⟨_, _, rfl, ?_, ?_, Sep.nil _⟩
    · rw [Nat.div_eq_of_lt lt]; exact NatR.zero _ _
    · rw [Nat.mod_eq_of_lt lt]; exact N1.out.mono B1.out.size
  have cm : decide (cmpN (val xs) (val ys) < 0) = false := by unfold cmpN; rw [if_neg lt]; split <;> decide
  have hle : Hid (val ys ≤ val xs) := Nat.le_of_not_lt lt
  obtain ⟨ad, rfl, had, hcl⟩ := r2.out.2.2 (by omega)
  have hy := hcl (n' - 1) (by omega)
  have by_ := is32_get p2.out (n' - 1)
  clear hcl
  obtain ⟨y, ey'⟩ : ∃ y, Hid (ys.getD (n' - 1) 0 = y) := ⟨_, hide rfl⟩
  rw [ey'.out] at hy by_
  generalize cmpN (val xs) (val ys) = cc at *
  by_cases h1 : n' = 1
  · subst h1
    rw [addr0] at hy
    have evy : Hid (val ys = y) := by
      show _ = _
      rcases ys with _ | ⟨z, zs⟩
      · exact absurd rfl yn
      · have := r2.out.1
        obtain rfl : zs = [] := List.eq_nil_of_length_eq_zero (by simpa using this)
        have e := ey'.out
        rw [val_cons, val_nil]
        simpa using e
    have y0 : 0 < y := by
      rw [← evy.out]
      rcases Nat.eq_zero_or_pos (val ys) with q | q
      · have := e2.out
        rw [q, limbs_zero] at this
        exact absurd this (by decide)
      · exact q
    go_wp2_with fail
    refine CC.out.mono ?_; rintro e w1 ⟨rfl, b1⟩
    have B1 := hide b1
    have hy1 := cell_below b1 hy
    clear b1
    go_wp2_with fail
    refine (short_can y (m1.out.below B1.out) (Nat.le_trans s1.out (by omega)) y0 by_).mono ?_
    rintro e w2 ⟨u, rfl, N2, B2⟩
    have ml : val xs % y < 18446744073709551616 := by have := Nat.mod_lt (val xs) y0; omega
    go_wp2_with fail
    refine (Of_ok w2 (val xs % y) ml).mono ?_
    rintro e w3 ⟨t, rfl, N3, B3⟩
    go_wp2
    go_ret3
    refine opq_end hR ?_
    refine ⟨?_, below_tr (below_tr B1.out B2.out) B3⟩
    rw [if_pos ⟨k1, k3⟩, if_neg yn, evy.out]
    exact ⟨_, _, rfl, (N2.out.below B3).mono B1.out.size, N3.mono (Nat.le_trans B1.out.size B2.out.size), N2.out.sep N3⟩
  · have t1 : ((n' : Int) == 1) = false := by simp; omega
    have k2n : 2 ≤ n' := by omega
    go_wp2_with fail
    refine CC.out.mono ?_; rintro e w1 ⟨rfl, b1⟩
    have B1 := hide b1
    have hy1 := cell_below b1 hy
    clear b1
    go_wp2_with fail
    refine (lead32_ok w1 y by_).mono ?_
    rintro e w' ⟨k, rfl, hk, rfl⟩
    go_wp2_with fail
    refine (shift_can k (m1.out.below B1.out) (Nat.le_trans s1.out (by omega)) (by omega)).mono ?_
    rintro e w2 ⟨u2, rfl, N2, B2⟩
    go_wp2_with fail
    refine (shift_can k ((m2.out.below B1.out).below B2.out) (Nat.le_trans s2.out (by omega)) (by omega)).mono ?_
    rintro e w3 ⟨u3, rfl, N3, B3⟩
    have SM := hide (sm_shift (Nat.le_trans s1.out (by omega)) hk)
    go_wp2_with fail
    refine (long_can (N2.out.can.below B3.out) N3.out.can SM.out (Nat.mul_le_mul_right _ hle.out) (limbs_shift_len (by rw [e2.out]; exact k2n))).mono ?_
    rintro e w4 ⟨u4, t4, rfl, N4, M4, B4⟩
    rw [div_shift] at N4
    have SR := hide (SM.out.mono (Nat.mod_le (val xs * 2 ^ k) (val ys * 2 ^ k)))
    go_wp2_with fail
    refine (back_can k M4.out.can SR.out (by omega)).mono ?_
    rintro e w5 ⟨u5, rfl, N5, B5⟩
    rw [mod_shift] at N5
    go_wp2
    have z1 := B1.out.size
    have z2 := B2.out.size
    have z3 := B3.out.size
    have z4 := B4.out.size
    go_ret3
    refine opq_end hR ?_
    refine ⟨?_, below_tr (below_tr (below_tr (below_tr B1.out B2.out) B3.out) B4.out) B5.out⟩
    rw [if_pos ⟨k1, k3⟩, if_neg yn]
    exact ⟨_, _, rfl, (N4.out.below B5.out).mono (by omega), N5.out.mono (by omega), N4.out.sep N5.out⟩
end Go.Proofs.YtcdejccbamjdoaaDoor
