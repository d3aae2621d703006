/- the laws of nats: NatsSmall. -/
import Derived.Test.YtnpfochbpdfcmaaDoorNE
set_option linter.unusedVariables false
set_option linter.unusedSimpArgs false
set_option maxRecDepth 100000
namespace Go.Proofs.YtnpfochbpdfcmaaDoor
open Go.RowKit

theorem nalive_f {w : World} (h : Tab w) : Calls Tryd.prog 11 #[] w fun e w' => ∃ u, e = .returned u ∧ Below w.heap.size w w' ∧ u = .bool true :=
  (alive_ok w h).mono fun e w' ⟨h1, h2⟩ => ⟨_, h1, h2.out, rfl⟩
theorem nOf_f (w : World) (x : Nat) (hx : x < 18446744073709551616) :
    Calls Tryd.prog 7 #[.int .u64 (x : Nat)] w fun e w' => ∃ A n c, e = .returned (.slice A n c) ∧ Below w.heap.size w w' ∧ Can w' (.slice A n c) x :=
  (Of_ok w x hx).mono fun e w' ⟨v, h1, h2, h3⟩ => by
    obtain ⟨A, c, rfl, h⟩ := h2.can
    exact ⟨_, _, _, h1, h3, A, c, rfl, h⟩
theorem nBack_f {w : World} {v : Value} {M : Nat} (h : Can w v M) (r : Array Value) (hr : (if M < 18446744073709551616 then #[.int .u64 (M : Nat), .int .i64 0] else #[.int .u64 0, .int .i64 3]) = r) :
    Calls Tryd.prog 8 #[v] w fun e w' => e = .returned (.tuple r) ∧ Below w.heap.size w w' := (Back_can h).mono fun e w' ⟨h1, h2⟩ => ⟨by rw [h1, hr], h2.out⟩
theorem can_slice {w : World} {v : Value} {N : Nat} (h : Can w v N) : ∃ A n c, v = .slice A n c := by obtain ⟨A, c, q, _⟩ := h; exact ⟨A, _, c, q⟩
theorem nAdd_f {w : World} {v v' : Value} {M N : Nat} (h : Can w v M) (h' : Can w v' N) (s : L M ≤ 4398046511104) (s' : L N ≤ 4398046511104) :
    Calls Tryd.prog 9 #[v, v'] w fun e w' => ∃ A n c, e = .returned (.slice A n c) ∧ Below w.heap.size w w' ∧ Can w' (.slice A n c) (M + N) :=
  (Add_arg (h.arg s) (h'.arg s')).mono fun e w' ⟨u, h1, h2, h3⟩ => by
    obtain ⟨A, c, rfl, h⟩ := h2.out.can
    exact ⟨_, _, _, h1, h3.out, A, c, rfl, h⟩
theorem nMul_f {w : World} {v v' : Value} {M N : Nat} (h : Can w v M) (h' : Can w v' N) (s : L M ≤ 4398046511104) (s' : L N ≤ 4398046511104) :
    Calls Tryd.prog 10 #[v, v'] w fun e w' => ∃ A n c, e = .returned (.slice A n c) ∧ Below w.heap.size w w' ∧ Can w' (.slice A n c) (M * N) :=
  (Mul_arg (h.arg s) (h'.arg s')).mono fun e w' ⟨u, h1, h2, h3⟩ => by
    obtain ⟨A, c, rfl, h⟩ := h2.out.can
    exact ⟨_, _, _, h1, h3.out, A, c, rfl, h⟩
theorem nCmp_f {w : World} {v v' : Value} {M N : Nat} (h : Can w v M) (h' : Can w v' N) (s : L M ≤ 4398046511104) (s' : L N ≤ 4398046511104) (r : Int) (hr : cmpN M N = r) :
    Calls Tryd.prog 12 #[v, v'] w fun e w' => e = .returned (.int .i64 r) ∧ Below w.heap.size w w' := (Cmp_arg (h.arg s) (h'.arg s')).mono fun e w' ⟨h1, h2⟩ => ⟨by rw [h1, hr], h2.out⟩
theorem nDiv_f {w : World} {v v' : Value} {M N : Nat} (h : Can w v M) (h' : Can w v' N) (s : L M ≤ 4398046511104) (s' : L N ≤ 4398046511104) (hl : N ≠ 0) :
    Calls Tryd.prog 13 #[v, v'] w fun e w' => ∃ A n c A' n' c', e = .returned (.tuple #[.slice A n c, .slice A' n' c', .int .i64 0]) ∧ Below w.heap.size w w' ∧ Can w' (.slice A n c) (M / N) ∧ Can w' (.slice A' n' c') (M % N) :=
  (Div_pos h h' s s' hl).mono fun e w' ⟨q, t, e1, h1, h2, h3, h4⟩ => by
    obtain ⟨A, c, rfl, k1⟩ := h1.out.can
    obtain ⟨A', c', rfl, k2⟩ := h2.out.can
    exact ⟨_, _, _, _, _, _, e1, h4.out, ⟨A, c, rfl, k1⟩, ⟨A', c', rfl, k2⟩⟩
theorem nDiv_z {w : World} {v v' : Value} {M N : Nat} (h : Can w v M) (h' : Can w v' N) (s : L M ≤ 4398046511104) (s' : L N ≤ 4398046511104) (hl : N = 0) :
    Calls Tryd.prog 13 #[v, v'] w fun e w' => e = .returned (.tuple #[.slice none 0 0, .slice none 0 0, .int .i64 10]) ∧ Below w.heap.size w w' := (Div_zero h h' s s' hl).mono fun e w' ⟨h1, h2⟩ => ⟨h1, h2.out⟩
theorem L64 {N : Nat} (h : N < 18446744073709551616) : L N ≤ 4398046511104 := L_up (L_le.2 h : L N ≤ 2) (by decide)
theorem shr32 (m : Nat) : (m : Int) / 4294967296 = ((m / 4294967296 : Nat) : Int) := by omega
set_option maxHeartbeats 4000000 in
theorem NatsSmall_ok (w : World) (m n : Nat) (hm : m < 18446744073709551616) (hn : n < 18446744073709551616) (hT : Tab w) :
    Calls Tryd.prog 3 #[.int .u64 (m : Nat), .int .u64 (n : Nat)] w fun e w' => e = .returned (.bool true) ∧ Hid (Below w.heap.size w w') := by
  refine opq fun R hR => ?_
  have T := hide hT
  have sm := hide (L64 hm)
  have sn := hide (L64 hn)
  obtain ⟨x, hx⟩ : ∃ x : Nat, m / 4294967296 = x := ⟨_, rfl⟩
  obtain ⟨y, hy⟩ : ∃ y : Nat, n / 4294967296 = y := ⟨_, rfl⟩
  have hx1 : (m : Int) / 4294967296 = (x : Nat) := by omega
  have hy1 : (n : Int) / 4294967296 = (y : Nat) := by omega
  have hx2 : x < 4294967296 := by omega
  have hy2 : y < 4294967296 := by omega
  have hp : Hid (x * y < 18446744073709551616) := by
    show _ < _
    have := Nat.mul_lt_mul'' hx2 hy2
    omega
  have hp1 : ((x : Int) * (y : Int)) % 18446744073709551616 = ((x * y : Nat) : Int) := by
    rw [← Int.natCast_mul]; have := hp.out; omega
  clear hT hx hy
  go_enter Tryd.func3, Tryd.ntmps3
  have b0 := hide (Below.refl w.heap.size w)
  go_wp2_with fail
  refine (nOf_f _ m hm).mono ?_
  rintro e w1 ⟨A1, n1, c1, rfl, d0, r1⟩
  replace b0 := hide (below_tr b0.out d0)
  have a := hide (r1)
  clear d0
  clear r1
  go_wp2_with fail
  refine (nOf_f _ n hn).mono ?_
  rintro e w2 ⟨A2, n2, c2, rfl, d0, r2⟩
  replace a := hide (a.out.below d0)
  replace b0 := hide (below_tr b0.out d0)
  have b := hide (r2)
  clear d0
  clear r2
  go_wp2_with fail
  refine (nBack_f a.out _ (if_pos hm)).mono ?_
  rintro e w3 ⟨rfl, d0⟩
  replace a := hide (a.out.below d0)
  replace b := hide (b.out.below d0)
  replace b0 := hide (below_tr b0.out d0)
  clear d0
  go_wp2_with fail
  refine (nAdd_f a.out b.out sm.out sn.out).mono ?_
  rintro e w4 ⟨A3, n3, c3, rfl, d0, r3⟩
  replace a := hide (a.out.below d0)
  replace b := hide (b.out.below d0)
  replace b0 := hide (below_tr b0.out d0)
  have s := hide (r3)
  clear d0
  clear r3
  by_cases ho : m + n < 18446744073709551616
  case neg =>
    obtain ⟨k, hk, hk2⟩ : ∃ k : Nat, ((m : Int) + (n : Int)) % 18446744073709551616 = (k : Nat) ∧ k < m := ⟨m + n - 18446744073709551616, by omega, by omega⟩
    have hw : IntKind.u64.wrap ((m : Int) + (n : Int)) = (k : Nat) := hk
    have hO := hide ho
    clear ho
    go_wp2_with fail
    refine (nBack_f s.out _ (if_neg hO.out)).mono ?_
    rintro e w5 ⟨rfl, d0⟩
    replace a := hide (a.out.below d0)
    replace b := hide (b.out.below d0)
    replace s := hide (s.out.below d0)
    replace b0 := hide (below_tr b0.out d0)
    clear d0
    clear s
    go_wp2_with fail
    refine (nOf_f _ x (by omega)).mono ?_
    rintro e w6 ⟨A4, n4, c4, rfl, d0, r4⟩
    replace a := hide (a.out.below d0)
    replace b := hide (b.out.below d0)
    replace b0 := hide (below_tr b0.out d0)
    have p := hide (r4)
    clear d0
    clear r4
    go_wp2_with fail
    refine (nOf_f _ y (by omega)).mono ?_
    rintro e w7 ⟨A5, n5, c5, rfl, d0, r5⟩
    replace a := hide (a.out.below d0)
    replace b := hide (b.out.below d0)
    replace p := hide (p.out.below d0)
    replace b0 := hide (below_tr b0.out d0)
    have q := hide (r5)
    clear d0
    clear r5
    go_wp2_with fail
    refine (nMul_f p.out q.out (L64 (by omega)) (L64 (by omega))).mono ?_
    rintro e w8 ⟨A6, n6, c6, rfl, d0, r6⟩
    replace a := hide (a.out.below d0)
    replace b := hide (b.out.below d0)
    replace p := hide (p.out.below d0)
    replace q := hide (q.out.below d0)
    replace b0 := hide (below_tr b0.out d0)
    have u := hide (r6)
    clear d0
    clear r6
    clear p q
    go_wp2_with fail
    refine (nBack_f u.out _ (if_pos hp.out)).mono ?_
    rintro e w9 ⟨rfl, d0⟩
    replace a := hide (a.out.below d0)
    replace b := hide (b.out.below d0)
    replace u := hide (u.out.below d0)
    replace b0 := hide (below_tr b0.out d0)
    clear d0
    clear u
    go_wp2_with fail
    refine (nalive_f (T.out.below b0.out)).mono ?_
    rintro e w10 ⟨_, rfl, d0, rfl⟩
    replace a := hide (a.out.below d0)
    replace b := hide (b.out.below d0)
    replace b0 := hide (below_tr b0.out d0)
    clear d0
    rcases Nat.lt_trichotomy m n with hc | hc | hc
    case inl =>
      go_wp2_with fail
      refine (nCmp_f a.out b.out sm.out sn.out (-1) (cmpN_lt hc)).mono ?_
      rintro e w11 ⟨rfl, d0⟩
      replace a := hide (a.out.below d0)
      replace b := hide (b.out.below d0)
      replace b0 := hide (below_tr b0.out d0)
      clear d0
      go_wp2_with fail
      refine (nCmp_f a.out b.out sm.out sn.out (-1) (cmpN_lt hc)).mono ?_
      rintro e w12 ⟨rfl, d0⟩
      replace a := hide (a.out.below d0)
      replace b := hide (b.out.below d0)
      replace b0 := hide (below_tr b0.out d0)
      clear d0
      have hz : n ≠ 0 := by omega
      go_wp2_with fail
      refine (nDiv_f a.out b.out sm.out sn.out hz).mono ?_
      rintro e w13 ⟨A7, n7, c7, A8, n8, c8, rfl, d0, r7, r8⟩
      replace a := hide (a.out.below d0)
      replace b := hide (b.out.below d0)
      replace b0 := hide (below_tr b0.out d0)
      have v := hide (r7)
      have t := hide (r8)
      clear d0
      clear r7 r8
      have k1 : m / n < 18446744073709551616 := Nat.lt_of_le_of_lt (Nat.div_le_self m n) hm
      have k2 : m % n < 18446744073709551616 := Nat.lt_of_le_of_lt (Nat.mod_le m n) hm
      obtain ⟨qq, q0⟩ : ∃ q, m / n = q := ⟨_, rfl⟩
      obtain ⟨qr, q1⟩ : ∃ q, m % n = q := ⟨_, rfl⟩
      rw [q0] at v k1
      rw [q1] at t k2
      have q2 : (m : Int) / (n : Int) = (qq : Nat) := by rw [← q0]; rfl
      have q3 : (m : Int) % (n : Int) = (qr : Nat) := by rw [← q1]; rfl
      clear q0 q1
      go_wp2_with fail
      refine (nBack_f v.out _ (if_pos k1)).mono ?_
      rintro e w14 ⟨rfl, d0⟩
      replace a := hide (a.out.below d0)
      replace b := hide (b.out.below d0)
      replace v := hide (v.out.below d0)
      replace t := hide (t.out.below d0)
      replace b0 := hide (below_tr b0.out d0)
      clear d0
      go_wp2_with fail
      refine (nBack_f t.out _ (if_pos k2)).mono ?_
      rintro e w15 ⟨rfl, d0⟩
      replace a := hide (a.out.below d0)
      replace b := hide (b.out.below d0)
      replace v := hide (v.out.below d0)
      replace t := hide (t.out.below d0)
      replace b0 := hide (below_tr b0.out d0)
      clear d0
      have z1 : ((n : Int) == 0) = false := by simp; omega
      go_wp2
      exact opq_end hR ⟨rfl, b0⟩
    case inr.inl =>
      subst hc
      obtain rfl : x = y := by omega
      go_wp2_with fail
      refine (nCmp_f a.out b.out sm.out sn.out (0) (cmpN_eq m)).mono ?_
      rintro e w11 ⟨rfl, d0⟩
      replace a := hide (a.out.below d0)
      replace b := hide (b.out.below d0)
      replace b0 := hide (below_tr b0.out d0)
      clear d0
      go_wp2_with fail
      refine (nCmp_f a.out b.out sm.out sn.out (0) (cmpN_eq m)).mono ?_
      rintro e w12 ⟨rfl, d0⟩
      replace a := hide (a.out.below d0)
      replace b := hide (b.out.below d0)
      replace b0 := hide (below_tr b0.out d0)
      clear d0
      by_cases hz : m = 0
      case pos => exact absurd hO.out (by omega)
      go_wp2_with fail
      refine (nDiv_f a.out b.out sm.out sn.out hz).mono ?_
      rintro e w13 ⟨A7, n7, c7, A8, n8, c8, rfl, d0, r7, r8⟩
      replace a := hide (a.out.below d0)
      replace b := hide (b.out.below d0)
      replace b0 := hide (below_tr b0.out d0)
      have v := hide (r7)
      have t := hide (r8)
      clear d0
      clear r7 r8
      rw [Nat.div_self (Nat.pos_of_ne_zero hz)] at v
      rw [Nat.mod_self] at t
      have k1 : 1 < 18446744073709551616 := by decide
      have k2 : 0 < 18446744073709551616 := by decide
      go_wp2_with fail
      refine (nBack_f v.out _ (if_pos k1)).mono ?_
      rintro e w14 ⟨rfl, d0⟩
      replace a := hide (a.out.below d0)
      replace b := hide (b.out.below d0)
      replace v := hide (v.out.below d0)
      replace t := hide (t.out.below d0)
      replace b0 := hide (below_tr b0.out d0)
      clear d0
      go_wp2_with fail
      refine (nBack_f t.out _ (if_pos k2)).mono ?_
      rintro e w15 ⟨rfl, d0⟩
      replace a := hide (a.out.below d0)
      replace b := hide (b.out.below d0)
      replace v := hide (v.out.below d0)
      replace t := hide (t.out.below d0)
      replace b0 := hide (below_tr b0.out d0)
      clear d0
      have z1 : ((m : Int) == 0) = false := by simp; omega
      go_wp2
      exact opq_end hR ⟨rfl, b0⟩
    case inr.inr =>
      go_wp2_with fail
      refine (nCmp_f a.out b.out sm.out sn.out (1) (cmpN_gt hc)).mono ?_
      rintro e w11 ⟨rfl, d0⟩
      replace a := hide (a.out.below d0)
      replace b := hide (b.out.below d0)
      replace b0 := hide (below_tr b0.out d0)
      clear d0
      go_wp2_with fail
      refine (nCmp_f a.out b.out sm.out sn.out (1) (cmpN_gt hc)).mono ?_
      rintro e w12 ⟨rfl, d0⟩
      replace a := hide (a.out.below d0)
      replace b := hide (b.out.below d0)
      replace b0 := hide (below_tr b0.out d0)
      clear d0
      by_cases hz : n = 0
      case pos => exact absurd hO.out (by omega)
      go_wp2_with fail
      refine (nDiv_f a.out b.out sm.out sn.out hz).mono ?_
      rintro e w13 ⟨A7, n7, c7, A8, n8, c8, rfl, d0, r7, r8⟩
      replace a := hide (a.out.below d0)
      replace b := hide (b.out.below d0)
      replace b0 := hide (below_tr b0.out d0)
      have v := hide (r7)
      have t := hide (r8)
      clear d0
      clear r7 r8
      have k1 : m / n < 18446744073709551616 := Nat.lt_of_le_of_lt (Nat.div_le_self m n) hm
      have k2 : m % n < 18446744073709551616 := Nat.lt_of_le_of_lt (Nat.mod_le m n) hm
      obtain ⟨qq, q0⟩ : ∃ q, m / n = q := ⟨_, rfl⟩
      obtain ⟨qr, q1⟩ : ∃ q, m % n = q := ⟨_, rfl⟩
      rw [q0] at v k1
      rw [q1] at t k2
      have q2 : (m : Int) / (n : Int) = (qq : Nat) := by rw [← q0]; rfl
      have q3 : (m : Int) % (n : Int) = (qr : Nat) := by rw [← q1]; rfl
      clear q0 q1
      go_wp2_with fail
      refine (nBack_f v.out _ (if_pos k1)).mono ?_
      rintro e w14 ⟨rfl, d0⟩
      replace a := hide (a.out.below d0)
      replace b := hide (b.out.below d0)
      replace v := hide (v.out.below d0)
      replace t := hide (t.out.below d0)
      replace b0 := hide (below_tr b0.out d0)
      clear d0
      go_wp2_with fail
      refine (nBack_f t.out _ (if_pos k2)).mono ?_
      rintro e w15 ⟨rfl, d0⟩
      replace a := hide (a.out.below d0)
      replace b := hide (b.out.below d0)
      replace v := hide (v.out.below d0)
      replace t := hide (t.out.below d0)
      replace b0 := hide (below_tr b0.out d0)
      clear d0
      have z1 : ((n : Int) == 0) = false := by simp; omega
      go_wp2
      exact opq_end hR ⟨rfl, b0⟩
  obtain ⟨k, hk0, hk, hk2, hO⟩ : ∃ k : Nat, m + n = k ∧ ((m : Int) + (n : Int)) % 18446744073709551616 = (k : Nat) ∧ m ≤ k ∧ Hid (k < 18446744073709551616) := ⟨m + n, rfl, by omega, by omega, ho⟩
  rw [hk0] at s
  have hw : IntKind.u64.wrap ((m : Int) + (n : Int)) = (k : Nat) := hk
  clear ho hk0
  go_wp2_with fail
  refine (nBack_f s.out _ (if_pos hO.out)).mono ?_
  rintro e w5 ⟨rfl, d0⟩
  replace a := hide (a.out.below d0)
  replace b := hide (b.out.below d0)
  replace s := hide (s.out.below d0)
  replace b0 := hide (below_tr b0.out d0)
  clear d0
  clear s
  go_wp2_with fail
  refine (nOf_f _ x (by omega)).mono ?_
  rintro e w6 ⟨A4, n4, c4, rfl, d0, r4⟩
  replace a := hide (a.out.below d0)
  replace b := hide (b.out.below d0)
  replace b0 := hide (below_tr b0.out d0)
  have p := hide (r4)
  clear d0
  clear r4
  go_wp2_with fail
  refine (nOf_f _ y (by omega)).mono ?_
  rintro e w7 ⟨A5, n5, c5, rfl, d0, r5⟩
  replace a := hide (a.out.below d0)
  replace b := hide (b.out.below d0)
  replace p := hide (p.out.below d0)
  replace b0 := hide (below_tr b0.out d0)
  have q := hide (r5)
  clear d0
  clear r5
  go_wp2_with fail
  refine (nMul_f p.out q.out (L64 (by omega)) (L64 (by omega))).mono ?_
  rintro e w8 ⟨A6, n6, c6, rfl, d0, r6⟩
  replace a := hide (a.out.below d0)
  replace b := hide (b.out.below d0)
  replace p := hide (p.out.below d0)
  replace q := hide (q.out.below d0)
  replace b0 := hide (below_tr b0.out d0)
  have u := hide (r6)
  clear d0
  clear r6
  clear p q
  go_wp2_with fail
  refine (nBack_f u.out _ (if_pos hp.out)).mono ?_
  rintro e w9 ⟨rfl, d0⟩
  replace a := hide (a.out.below d0)
  replace b := hide (b.out.below d0)
  replace u := hide (u.out.below d0)
  replace b0 := hide (below_tr b0.out d0)
  clear d0
  clear u
  go_wp2_with fail
  refine (nalive_f (T.out.below b0.out)).mono ?_
  rintro e w10 ⟨_, rfl, d0, rfl⟩
  replace a := hide (a.out.below d0)
  replace b := hide (b.out.below d0)
  replace b0 := hide (below_tr b0.out d0)
  clear d0
  rcases Nat.lt_trichotomy m n with hc | hc | hc
  case inl =>
    go_wp2_with fail
    refine (nCmp_f a.out b.out sm.out sn.out (-1) (cmpN_lt hc)).mono ?_
    rintro e w11 ⟨rfl, d0⟩
    replace a := hide (a.out.below d0)
    replace b := hide (b.out.below d0)
    replace b0 := hide (below_tr b0.out d0)
    clear d0
    go_wp2_with fail
    refine (nCmp_f a.out b.out sm.out sn.out (-1) (cmpN_lt hc)).mono ?_
    rintro e w12 ⟨rfl, d0⟩
    replace a := hide (a.out.below d0)
    replace b := hide (b.out.below d0)
    replace b0 := hide (below_tr b0.out d0)
    clear d0
    have hz : n ≠ 0 := by omega
    go_wp2_with fail
    refine (nDiv_f a.out b.out sm.out sn.out hz).mono ?_
    rintro e w13 ⟨A7, n7, c7, A8, n8, c8, rfl, d0, r7, r8⟩
    replace a := hide (a.out.below d0)
    replace b := hide (b.out.below d0)
    replace b0 := hide (below_tr b0.out d0)
    have v := hide (r7)
    have t := hide (r8)
    clear d0
    clear r7 r8
    have k1 : m / n < 18446744073709551616 := Nat.lt_of_le_of_lt (Nat.div_le_self m n) hm
    have k2 : m % n < 18446744073709551616 := Nat.lt_of_le_of_lt (Nat.mod_le m n) hm
    obtain ⟨qq, q0⟩ : ∃ q, m / n = q := ⟨_, rfl⟩
    obtain ⟨qr, q1⟩ : ∃ q, m % n = q := ⟨_, rfl⟩
    rw [q0] at v k1
    rw [q1] at t k2
    have q2 : (m : Int) / (n : Int) = (qq : Nat) := by rw [← q0]; rfl
    have q3 : (m : Int) % (n : Int) = (qr : Nat) := by rw [← q1]; rfl
    clear q0 q1
    go_wp2_with fail
    refine (nBack_f v.out _ (if_pos k1)).mono ?_
    rintro e w14 ⟨rfl, d0⟩
    replace a := hide (a.out.below d0)
    replace b := hide (b.out.below d0)
    replace v := hide (v.out.below d0)
    replace t := hide (t.out.below d0)
    replace b0 := hide (below_tr b0.out d0)
    clear d0
    go_wp2_with fail
    refine (nBack_f t.out _ (if_pos k2)).mono ?_
    rintro e w15 ⟨rfl, d0⟩
    replace a := hide (a.out.below d0)
    replace b := hide (b.out.below d0)
    replace v := hide (v.out.below d0)
    replace t := hide (t.out.below d0)
    replace b0 := hide (below_tr b0.out d0)
    clear d0
    have z1 : ((n : Int) == 0) = false := by simp; omega
    go_wp2
    exact opq_end hR ⟨rfl, b0⟩
  case inr.inl =>
    subst hc
    obtain rfl : x = y := by omega
    go_wp2_with fail
    refine (nCmp_f a.out b.out sm.out sn.out (0) (cmpN_eq m)).mono ?_
    rintro e w11 ⟨rfl, d0⟩
    replace a := hide (a.out.below d0)
    replace b := hide (b.out.below d0)
    replace b0 := hide (below_tr b0.out d0)
    clear d0
    go_wp2_with fail
    refine (nCmp_f a.out b.out sm.out sn.out (0) (cmpN_eq m)).mono ?_
    rintro e w12 ⟨rfl, d0⟩
    replace a := hide (a.out.below d0)
    replace b := hide (b.out.below d0)
    replace b0 := hide (below_tr b0.out d0)
    clear d0
    by_cases hz : m = 0
    case pos =>
      replace hz := hide hz
      go_wp2_with fail
      refine (nDiv_z a.out b.out sm.out sn.out hz.out).mono ?_
      rintro e w13 ⟨rfl, d0⟩
      replace a := hide (a.out.below d0)
      replace b := hide (b.out.below d0)
      replace b0 := hide (below_tr b0.out d0)
      clear d0
      have hz := hz.out
      subst hz
      go_wp2
      exact opq_end hR ⟨rfl, b0⟩
    go_wp2_with fail
    refine (nDiv_f a.out b.out sm.out sn.out hz).mono ?_
    rintro e w13 ⟨A7, n7, c7, A8, n8, c8, rfl, d0, r7, r8⟩
    replace a := hide (a.out.below d0)
    replace b := hide (b.out.below d0)
    replace b0 := hide (below_tr b0.out d0)
    have v := hide (r7)
    have t := hide (r8)
    clear d0
    clear r7 r8
    rw [Nat.div_self (Nat.pos_of_ne_zero hz)] at v
    rw [Nat.mod_self] at t
    have k1 : 1 < 18446744073709551616 := by decide
    have k2 : 0 < 18446744073709551616 := by decide
    go_wp2_with fail
    refine (nBack_f v.out _ (if_pos k1)).mono ?_
    rintro e w14 ⟨rfl, d0⟩
    replace a := hide (a.out.below d0)
    replace b := hide (b.out.below d0)
    replace v := hide (v.out.below d0)
    replace t := hide (t.out.below d0)
    replace b0 := hide (below_tr b0.out d0)
    clear d0
    go_wp2_with fail
    refine (nBack_f t.out _ (if_pos k2)).mono ?_
    rintro e w15 ⟨rfl, d0⟩
    replace a := hide (a.out.below d0)
    replace b := hide (b.out.below d0)
    replace v := hide (v.out.below d0)
    replace t := hide (t.out.below d0)
    replace b0 := hide (below_tr b0.out d0)
    clear d0
    have z1 : ((m : Int) == 0) = false := by simp; omega
    go_wp2
    exact opq_end hR ⟨rfl, b0⟩
  case inr.inr =>
    go_wp2_with fail
    refine (nCmp_f a.out b.out sm.out sn.out (1) (cmpN_gt hc)).mono ?_
    rintro e w11 ⟨rfl, d0⟩
    replace a := hide (a.out.below d0)
    replace b := hide (b.out.below d0)
    replace b0 := hide (below_tr b0.out d0)
    clear d0
    go_wp2_with fail
    refine (nCmp_f a.out b.out sm.out sn.out (1) (cmpN_gt hc)).mono ?_
    rintro e w12 ⟨rfl, d0⟩
    replace a := hide (a.out.below d0)
    replace b := hide (b.out.below d0)
    replace b0 := hide (below_tr b0.out d0)
    clear d0
    by_cases hz : n = 0
    case pos =>
      replace hz := hide hz
      go_wp2_with fail
      refine (nDiv_z a.out b.out sm.out sn.out hz.out).mono ?_
      rintro e w13 ⟨rfl, d0⟩
      replace a := hide (a.out.below d0)
      replace b := hide (b.out.below d0)
      replace b0 := hide (below_tr b0.out d0)
      clear d0
      have hz := hz.out
      subst hz
      go_wp2
      exact opq_end hR ⟨rfl, b0⟩
    go_wp2_with fail
    refine (nDiv_f a.out b.out sm.out sn.out hz).mono ?_
    rintro e w13 ⟨A7, n7, c7, A8, n8, c8, rfl, d0, r7, r8⟩
    replace a := hide (a.out.below d0)
    replace b := hide (b.out.below d0)
    replace b0 := hide (below_tr b0.out d0)
    have v := hide (r7)
    have t := hide (r8)
    clear d0
    clear r7 r8
    have k1 : m / n < 18446744073709551616 := Nat.lt_of_le_of_lt (Nat.div_le_self m n) hm
    have k2 : m % n < 18446744073709551616 := Nat.lt_of_le_of_lt (Nat.mod_le m n) hm
    obtain ⟨qq, q0⟩ : ∃ q, m / n = q := ⟨_, rfl⟩
    obtain ⟨qr, q1⟩ : ∃ q, m % n = q := ⟨_, rfl⟩
    rw [q0] at v k1
    rw [q1] at t k2
    have q2 : (m : Int) / (n : Int) = (qq : Nat) := by rw [← q0]; rfl
    have q3 : (m : Int) % (n : Int) = (qr : Nat) := by rw [← q1]; rfl
    clear q0 q1
    go_wp2_with fail
    refine (nBack_f v.out _ (if_pos k1)).mono ?_
    rintro e w14 ⟨rfl, d0⟩
    replace a := hide (a.out.below d0)
    replace b := hide (b.out.below d0)
    replace v := hide (v.out.below d0)
    replace t := hide (t.out.below d0)
    replace b0 := hide (below_tr b0.out d0)
    clear d0
    go_wp2_with fail
    refine (nBack_f t.out _ (if_pos k2)).mono ?_
    rintro e w15 ⟨rfl, d0⟩
    replace a := hide (a.out.below d0)
    replace b := hide (b.out.below d0)
    replace v := hide (v.out.below d0)
    replace t := hide (t.out.below d0)
    replace b0 := hide (below_tr b0.out d0)
    clear d0
    have z1 : ((n : Int) == 0) = false := by simp; omega
    go_wp2
    exact opq_end hR ⟨rfl, b0⟩
end Go.Proofs.YtnpfochbpdfcmaaDoor
