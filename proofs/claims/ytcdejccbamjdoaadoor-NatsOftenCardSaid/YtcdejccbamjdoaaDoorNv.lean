/- nats: contracts at arguments of whatever kind, and what they answer. -/
import Derived.Test.YtcdejccbamjdoaaDoorNu
import Derived.Test.YtcdejccbamjdoaaDoorSa
set_option linter.unusedVariables false
set_option linter.unusedSimpArgs false
set_option maxRecDepth 100000
namespace Go.Proofs.YtcdejccbamjdoaaDoor
open Go.RowKit

/-- How many parts. -/
def L (N : Nat) : Nat := (limbs N).length
theorem L_le {N k : Nat} : L N ≤ k ↔ N < 4294967296 ^ k := limbs_length_le
theorem L_self (N : Nat) : N < 4294967296 ^ L N := L_le.1 (Nat.le_refl _)
theorem L_mono {M N : Nat} (h : M ≤ N) : L M ≤ L N := limbs_len_mono h
theorem L_add {M N k : Nat} (h : L M ≤ k) (h' : L N ≤ k) : L (M + N) ≤ k + 1 := by
  rw [L_le] at *
  rw [Nat.pow_succ]
  have : 0 < 4294967296 ^ k := Nat.pow_pos (by omega)
  generalize 4294967296 ^ k = p at *
  omega
theorem L_mul {M N k k' : Nat} (h : L M ≤ k) (h' : L N ≤ k') : L (M * N) ≤ k + k' := by
  rw [L_le] at *
  rw [Nat.pow_add]
  exact Nat.mul_lt_mul'' h h'
theorem L_small {N : Nat} (h : N < 4294967296) : L N ≤ 1 := by rw [L_le, Nat.pow_one]; exact h
theorem L_zero : L 0 = 0 := by rw [L, limbs_zero]; rfl

/-- A list of parts of whatever kind, not too long, that counts as N. -/
def Arg (w : World) (v : Value) (N : Nat) : Prop := ∃ A n c xs, v = .slice A n c ∧ n ≤ c ∧ n ≤ 1000000 ∧ Rd w A n xs ∧ Is32 xs ∧ nv xs = N
theorem Can.arg {w : World} {v : Value} {N : Nat} (h : Can w v N) (hl : L N ≤ 1000000) : Arg w v N := by
  obtain ⟨A, c, rfl, l, r⟩ := h
  exact ⟨A, _, c, _, rfl, l, hl, r, is32_limbs N, nv_limbs N⟩
theorem Arg.below {w w' : World} {v : Value} {N : Nat} (h : Arg w v N) (hb : Below w.heap.size w w') : Arg w' v N := by
  obtain ⟨A, n, c, xs, e, h1, h2, h3, h4, h5⟩ := h
  exact ⟨A, n, c, xs, e, h1, h2, h3.below hb, h4, h5⟩
theorem arg_nil (w : World) : Arg w (.slice none 0 0) 0 := ⟨none, 0, 0, [], rfl, Nat.le_refl _, by omega, Rdk.nil _ _ _, is32_nil, nv_nil⟩
theorem can_nil (w : World) : Can w (.slice none 0 0) 0 := (NatR.zero 0 w).can

theorem Add_arg {w : World} {v v' : Value} {M N : Nat} (h : Arg w v M) (h' : Arg w v' N) :
    Calls Tryd.prog 34 #[v, v'] w fun e w' => ∃ u, e = .returned u ∧ Hid (NatR (M + N) w.heap.size w' u) ∧ Hid (Below w.heap.size w w') := by
  obtain ⟨A, n, c, xs, rfl, h1, h2, h3, h4, rfl⟩ := h
  obtain ⟨A', n', c', xs', rfl, h1', h2', h3', h4', rfl⟩ := h'
  exact Add_ok w A A' n n' c c' xs xs' h3 h3' h4 h4' (by omega) (by omega) h1 h1'
theorem Mul_arg {w : World} {v v' : Value} {M N : Nat} (h : Arg w v M) (h' : Arg w v' N) :
    Calls Tryd.prog 35 #[v, v'] w fun e w' => ∃ u, e = .returned u ∧ Hid (NatR (M * N) w.heap.size w' u) ∧ Hid (Below w.heap.size w w') := by
  obtain ⟨A, n, c, xs, rfl, h1, h2, h3, h4, rfl⟩ := h
  obtain ⟨A', n', c', xs', rfl, h1', h2', h3', h4', rfl⟩ := h'
  exact Mul_ok w A A' n n' c c' xs xs' h3 h3' h4 h4' (by omega) (by omega) h1 h1'
theorem Cmp_arg {w : World} {v v' : Value} {M N : Nat} (h : Arg w v M) (h' : Arg w v' N) :
    Calls Tryd.prog 36 #[v, v'] w fun e w' => e = .returned (.int .i64 (cmpN M N)) ∧ Hid (Below w.heap.size w w') := by
  obtain ⟨A, n, c, xs, rfl, h1, h2, h3, h4, rfl⟩ := h
  obtain ⟨A', n', c', xs', rfl, h1', h2', h3', h4', rfl⟩ := h'
  exact Cmp_ok w A A' n n' c c' xs xs' h3 h3' h4 h4' (by omega) (by omega) h1 h1'
theorem Gcd_arg {w : World} {v v' : Value} {M N : Nat} (h : Arg w v M) (h' : Arg w v' N) (hT : Tab w) :
    Calls Tryd.prog 41 #[v, v'] w fun e w' => ∃ u, e = .returned u ∧ Hid (NatR (Nat.gcd M N) w.heap.size w' u) ∧ Hid (Below w.heap.size w w') := by
  obtain ⟨A, n, c, xs, rfl, h1, h2, h3, h4, rfl⟩ := h
  obtain ⟨A', n', c', xs', rfl, h1', h2', h3', h4', rfl⟩ := h'
  exact Gcd_ok w A A' n n' c c' xs xs' h3 h3' h4 h4' (by omega) (by omega) h1 h1' hT
theorem Text_arg {w : World} {v : Value} {M : Nat} (h : Arg w v M) :
    Calls Tryd.prog 42 #[v] w fun e w' => e = .returned (vstr (bts (txt M))) ∧ Hid (Below w.heap.size w w') := by
  obtain ⟨A, n, c, xs, rfl, h1, h2, h3, h4, rfl⟩ := h
  exact Text_ok w A n c xs h3 h4 h2 h1
theorem Check_can {w : World} {v : Value} {M : Nat} (h : Can w v M) :
    Calls Tryd.prog 32 #[v] w fun e w' => e = .returned (.bool true) ∧ w = w' := by
  obtain ⟨A, c, rfl, l, r⟩ := h
  have := Check_ok w A _ c _ r
  rw [chk_limbs] at this
  exact this
theorem Same_can {w : World} {v v' : Value} {M N : Nat} (h : Can w v M) (h' : Can w v' N) :
    Calls Tryd.prog 33 #[v, v'] w fun e w' => e = .returned (.bool (decide (M = N))) ∧ Hid (Below w.heap.size w w') := by
  obtain ⟨A, c, rfl, l, r⟩ := h
  obtain ⟨A', c', rfl, l', r'⟩ := h'
  refine (SameNat_ok w A A' _ _ c c' _ _ r r').mono ?_
  rintro e w' ⟨rfl, h2⟩
  refine ⟨?_, h2⟩
  congr 2
  rw [decide_eq_decide]
  exact ⟨limbs_inj, fun e => by rw [e]⟩
theorem Sub_can {w : World} {v v' : Value} {M N : Nat} (h : Can w v M) (h' : Can w v' N) (s : L M ≤ 1000000) (s' : L N ≤ 1000000) :
    Calls Tryd.prog 40 #[v, v'] w fun e w' => (if N ≤ M then ∃ u, e = .returned (.tuple #[u, .int .i64 0]) ∧ NatR (M - N) w.heap.size w' u else e = .returned (.tuple #[.slice none 0 0, .int .i64 1])) ∧ Hid (Below w.heap.size w w') := by
  obtain ⟨A, c, rfl, l, r⟩ := h
  obtain ⟨A', c', rfl, l', r'⟩ := h'
  unfold L at s s'
  have := Sub_ok w A A' _ _ c c' _ _ r r' (is32_limbs M) (is32_limbs N) (by omega) (by omega) l l'
  rw [val_limbs, val_limbs, chk_limbs, chk_limbs] at this
  refine this.mono ?_
  rintro e w' ⟨h1, h2⟩
  refine ⟨?_, h2⟩
  by_cases q : N ≤ M
  · rw [if_pos ⟨rfl, rfl, q⟩] at h1
    rw [if_pos q]
    exact h1
  · rw [if_neg (fun z => q z.2.2)] at h1
    rw [if_neg q]
    exact h1
theorem Div_can {w : World} {v v' : Value} {M N : Nat} (h : Can w v M) (h' : Can w v' N) (s : L M ≤ 1000000) (s' : L N ≤ 1000000) :
    Calls Tryd.prog 38 #[v, v'] w fun e w' => (if N = 0 then e = .returned (.tuple #[.slice none 0 0, .slice none 0 0, .int .i64 10])
      else ∃ q t, e = .returned (.tuple #[q, t, .int .i64 0]) ∧ NatR (M / N) w.heap.size w' q ∧ NatR (M % N) w.heap.size w' t ∧ Sep q t) ∧ Hid (Below w.heap.size w w') := by
  obtain ⟨A, c, rfl, l, r⟩ := h
  obtain ⟨A', c', rfl, l', r'⟩ := h'
  unfold L at s s'
  have := Div_ok w A A' _ _ c c' _ _ r r' (is32_limbs M) (is32_limbs N) (by omega) (by omega) l l'
  rw [val_limbs, val_limbs, chk_limbs, chk_limbs] at this
  refine this.mono ?_
  rintro e w' ⟨h1, h2⟩
  refine ⟨?_, h2⟩
  rw [if_pos ⟨rfl, rfl⟩] at h1
  by_cases q : N = 0
  · rw [if_pos (limbs_eq_nil.2 q)] at h1
    rw [if_pos q]
    exact h1
  · rw [if_neg (fun z => q (limbs_eq_nil.1 z))] at h1
    rw [if_neg q]
    exact h1
theorem Back_can {w : World} {v : Value} {M : Nat} (h : Can w v M) :
    Calls Tryd.prog 45 #[v] w fun e w' => e = .returned (.tuple (if M < 18446744073709551616 then #[.int .u64 (M : Nat), .int .i64 0] else #[.int .u64 0, .int .i64 3])) ∧ Hid (Below w.heap.size w w') := by
  obtain ⟨A, c, rfl, l, r⟩ := h
  have := Back_ok w A _ c _ r (is32_limbs M)
  rw [val_limbs, chk_limbs] at this
  refine this.mono ?_
  rintro e w' ⟨h1, h2⟩
  refine ⟨?_, h2⟩
  rw [h1, if_pos rfl]
  have e : (limbs M).length ≤ 2 ↔ M < 18446744073709551616 := by rw [limbs_length_le]
  by_cases q : M < 18446744073709551616
  · rw [if_pos (e.2 q), if_pos q]
  · rw [if_neg (fun z => q (e.1 z)), if_neg q]
/-- Parts that are written out. -/
theorem can_lit (w : World) (xs : List Nat) (h : Is32 xs) (hc : chk xs = true) (hl : xs.length ≤ 1000) : Can (w.alloc (.cells (cellsOf .u32 xs) T32)) (.slice (some ⟨w.heap.size, 0, none⟩) xs.length xs.length) (val xs) := by
  have e := limbs_val_chk h hc
  refine ⟨_, xs.length, by rw [e], by rw [e]; exact Nat.le_refl _, ?_⟩
  rw [e]
  have := (Blk.new w T32 (cellsOf .u32 xs)).rd xs.length (Nat.le_refl _) (by omega)
  rwa [List.take_length] at this
theorem lit (w : World) (xs : List Nat) (N : Nat) (hN : val xs = N) (h : Is32 xs) (hc : chk xs = true) (hl : xs.length ≤ 1000) : Can (w.alloc (.cells (cellsOf .u32 xs) T32)) (.slice (some ⟨w.heap.size, 0, none⟩) xs.length xs.length) N := hN ▸ can_lit w xs h hc hl
theorem Back_lt {w : World} {v : Value} {M : Nat} (h : Can w v M) (hM : M < 18446744073709551616) :
    Calls Tryd.prog 45 #[v] w fun e w' => e = .returned (.tuple #[.int .u64 (M : Nat), .int .i64 0]) ∧ Hid (Below w.heap.size w w') :=
  (Back_can h).mono fun e w' ⟨h1, h2⟩ => ⟨by rw [h1, if_pos hM], h2⟩
theorem Back_ge {w : World} {v : Value} {M : Nat} (h : Can w v M) (hM : 18446744073709551616 ≤ M) :
    Calls Tryd.prog 45 #[v] w fun e w' => e = .returned (.tuple #[.int .u64 0, .int .i64 3]) ∧ Hid (Below w.heap.size w w') :=
  (Back_can h).mono fun e w' ⟨h1, h2⟩ => ⟨by rw [h1, if_neg (by omega)], h2⟩
theorem Sub_ge {w : World} {v v' : Value} {M N : Nat} (h : Can w v M) (h' : Can w v' N) (s : L M ≤ 1000000) (s' : L N ≤ 1000000) (hl : N ≤ M) :
    Calls Tryd.prog 40 #[v, v'] w fun e w' => ∃ u, e = .returned (.tuple #[u, .int .i64 0]) ∧ Hid (NatR (M - N) w.heap.size w' u) ∧ Hid (Below w.heap.size w w') :=
  (Sub_can h h' s s').mono fun e w' ⟨h1, h2⟩ => by
    rw [if_pos hl] at h1
    obtain ⟨u, e1, h3⟩ := h1
    exact ⟨u, e1, h3, h2⟩
theorem Sub_lt {w : World} {v v' : Value} {M N : Nat} (h : Can w v M) (h' : Can w v' N) (s : L M ≤ 1000000) (s' : L N ≤ 1000000) (hl : M < N) :
    Calls Tryd.prog 40 #[v, v'] w fun e w' => e = .returned (.tuple #[.slice none 0 0, .int .i64 1]) ∧ Hid (Below w.heap.size w w') :=
  (Sub_can h h' s s').mono fun e w' ⟨h1, h2⟩ => ⟨by rw [if_neg (by omega)] at h1; exact h1, h2⟩
theorem Div_zero {w : World} {v v' : Value} {M N : Nat} (h : Can w v M) (h' : Can w v' N) (s : L M ≤ 1000000) (s' : L N ≤ 1000000) (hl : N = 0) :
    Calls Tryd.prog 38 #[v, v'] w fun e w' => e = .returned (.tuple #[.slice none 0 0, .slice none 0 0, .int .i64 10]) ∧ Hid (Below w.heap.size w w') :=
  (Div_can h h' s s').mono fun e w' ⟨h1, h2⟩ => ⟨by rw [if_pos hl] at h1; exact h1, h2⟩
theorem Div_pos {w : World} {v v' : Value} {M N : Nat} (h : Can w v M) (h' : Can w v' N) (s : L M ≤ 1000000) (s' : L N ≤ 1000000) (hl : N ≠ 0) :
    Calls Tryd.prog 38 #[v, v'] w fun e w' => ∃ q t, e = .returned (.tuple #[q, t, .int .i64 0]) ∧ Hid (NatR (M / N) w.heap.size w' q) ∧ Hid (NatR (M % N) w.heap.size w' t) ∧ Sep q t ∧ Hid (Below w.heap.size w w') :=
  (Div_can h h' s s').mono fun e w' ⟨h1, h2⟩ => by
    rw [if_neg hl] at h1
    obtain ⟨q, t, e1, h3, h4, h5⟩ := h1
    exact ⟨q, t, e1, h3, h4, h5, h2⟩
end Go.Proofs.YtcdejccbamjdoaaDoor
