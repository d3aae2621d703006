/- nats: contracts at numbers that may be. -/
import Derived.Test.YtcdejccbamjdoaaDoorNj
import Derived.Deep.LoopGhost
set_option linter.unusedVariables false
set_option linter.unusedSimpArgs false
set_option maxRecDepth 100000
namespace Go.Proofs.YtcdejccbamjdoaaDoor
open Go.RowKit

/-- The value reads as the number N. -/
def Can (w : World) (v : Value) (N : Nat) : Prop := ∃ A c, v = .slice A (limbs N).length c ∧ (limbs N).length ≤ c ∧ Rd w A (limbs N).length (limbs N)
theorem NatR.can {N B : Nat} {w : World} {v : Value} (h : NatR N B w v) : Can w v N := by
  obtain ⟨A, c, e, r, f, l⟩ := h
  exact ⟨A, c, e, l, r⟩
theorem NatR.below {N B : Nat} {w w' : World} {v : Value} (h : NatR N B w v) (hb : Below w.heap.size w w') : NatR N B w' v := by
  obtain ⟨A, c, e, r, f, l⟩ := h
  exact ⟨A, c, e, r.below hb, f.below hb, l⟩
theorem Can.below {w w' : World} {v : Value} {N : Nat} (h : Can w v N) (hb : Below w.heap.size w w') : Can w' v N := by
  obtain ⟨A, c, e, l, r⟩ := h
  exact ⟨A, c, e, l, r.below hb⟩
/-- Numbers that a call may be asked for. -/
def Sm (N : Nat) : Prop := (limbs N).length ≤ 17592186044416
theorem limbs_len_mono {M N : Nat} (h : M ≤ N) : (limbs M).length ≤ (limbs N).length := limbs_length_le.2 (Nat.lt_of_le_of_lt h (limbs_length_le.1 (Nat.le_refl _)))
theorem Sm.mono {M N : Nat} (h : Sm N) (hl : M ≤ N) : Sm M := Nat.le_trans (limbs_len_mono hl) h
theorem is_zero_len {N : Nat} : (limbs N).length = 0 ↔ N = 0 := by rw [List.length_eq_zero_iff, limbs_eq_nil]

theorem Cmp_can {w : World} {v v' : Value} {M N : Nat} (h : Can w v M) (h' : Can w v' N) (s : Sm M) (s' : Sm N) :
    Calls Tryd.prog 36 #[v, v'] w fun e w' => e = .returned (.int .i64 (cmpN M N)) ∧ Below w.heap.size w w' := by
  obtain ⟨A, c, rfl, l, r⟩ := h
  obtain ⟨A', c', rfl, l', r'⟩ := h'
  have s0 : (limbs M).length ≤ 17592186044416 := s
  have s1 : (limbs N).length ≤ 17592186044416 := s'
  have := Cmp_ok w A A' _ _ c c' _ _ r r' (is32_limbs M) (is32_limbs N) (by omega) (by omega) l l'
  rw [nv_limbs, nv_limbs] at this
  exact this
theorem minus_can {w : World} {v v' : Value} {M N : Nat} (h : Can w v M) (h' : Can w v' N) (s : Sm M) (hl : N ≤ M) :
    Calls Tryd.prog 66 #[v, v'] w fun e w' => ∃ u, e = .returned u ∧ Hid (NatR (M - N) w.heap.size w' u) ∧ Hid (Below w.heap.size w w') := by
  obtain ⟨A, c, rfl, l, r⟩ := h
  obtain ⟨A', c', rfl, l', r'⟩ := h'
  have s0 : (limbs M).length ≤ 17592186044416 := s
  have := minus_ok w A A' _ _ c c' _ _ r r' (is32_limbs M) (is32_limbs N) (by omega) (limbs_len_mono hl) (by rw [val_limbs, val_limbs]; exact hl)
  rw [val_limbs, val_limbs] at this
  exact this
theorem back_can {w : World} {v : Value} {N : Nat} (b : Nat) (h : Can w v N) (s : Sm N) (hb : b ≤ 1125899906842624) :
    Calls Tryd.prog 65 #[v, .int .u64 (b : Nat)] w fun e w' => ∃ u, e = .returned u ∧ Hid (NatR (N / 2 ^ b) w.heap.size w' u) ∧ Hid (Below w.heap.size w w') := by
  obtain ⟨A, c, rfl, l, r⟩ := h
  have := back_ok w A _ c b _ r (is32_limbs N) s hb
  rw [val_limbs] at this
  exact this
theorem shift_can {w : World} {v : Value} {N : Nat} (b : Nat) (h : Can w v N) (s : Sm N) (hb : b ≤ 562949953421312) :
    Calls Tryd.prog 64 #[v, .int .u64 (b : Nat)] w fun e w' => ∃ u, e = .returned u ∧ Hid (NatR (N * 2 ^ b) w.heap.size w' u) ∧ Hid (Below w.heap.size w w') := by
  obtain ⟨A, c, rfl, l, r⟩ := h
  have := shift_ok w A _ c b _ r (is32_limbs N) s hb
  rw [val_limbs] at this
  exact this
theorem noughts_can {w : World} {v : Value} {N : Nat} (h : Can w v N) (s : Sm N) (h0 : N ≠ 0) (hT : Tab w) :
    Calls Tryd.prog 67 #[v] w fun e w' => ∃ k m, e = .returned (.int .u64 (k : Nat)) ∧ w = w' ∧ k ≤ 562949953421312 ∧ Hid (N = 2 ^ k * (2 * m + 1)) := by
  obtain ⟨A, c, rfl, l, r⟩ := h
  have s0 : (limbs N).length ≤ 17592186044416 := s
  have := noughts_ok w A _ c _ r (is32_limbs N) s (by rw [val_limbs]; exact h0) hT
  rw [val_limbs] at this
  refine this.mono ?_
  rintro e w' ⟨k, m, h1, h2, h3, h4⟩
  exact ⟨k, m, h1, h2, by omega, h4⟩

theorem clone_fine (w : World) (A : Option Addr) (n c : Nat) (xs : List Nat) (h : Rd w A n xs) (hc : Is32 xs ∧ chk xs = true) (hn : n ≤ 17592186044416) :
    Calls Tryd.prog 54 #[.slice A n c] w fun e w' => ∃ A' c', e = .returned (.slice A' (limbs (val xs)).length c') ∧ Hid (NatR (val xs) w.heap.size w' (.slice A' (limbs (val xs)).length c')) ∧ Hid (Below w.heap.size w w') := by
  refine (clone_ok w A n c xs h (by omega)).mono ?_
  rintro e w' ⟨A', c', rfl, h1, h2, h3, h4, _⟩
  have e1 := limbs_val_chk hc.1 hc.2
  have e2 : (limbs (val xs)).length = n := by rw [e1]; exact h.1
  exact ⟨A', c', by rw [e2], ⟨A', c', rfl, by rw [e2, e1]; exact h2, h3, by omega⟩, h4⟩
theorem run_min_nat {P : Program} (ts : Array TypeId) (t : TypeId) (k : IntKind) (a b m : Nat) (h : m = min a b) (W : World) :
    (Builtin.min_ ts t #[.int k (a : Int), .int k (b : Int)]).run P W = .ok (.int k (m : Int)) W := by
  have e : (if (b : Int) < a then (b : Int) else a) = (m : Int) := by split <;> omega
  simp [Builtin.min_, Builtin.min2]
  simpa using e
end Go.Proofs.YtcdejccbamjdoaaDoor
