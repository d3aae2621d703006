/- nats: noughts. -/
import Derived.Test.YtcdejccbamjdoaaDoorNi
import Derived.Lib.TrailingZeros
set_option linter.unusedVariables false
set_option linter.unusedSimpArgs false
set_option maxRecDepth 100000
namespace Go.Proofs.YtcdejccbamjdoaaDoor
open Go.RowKit

/-- The table of the library lies where it was laid. -/
structure Tab (w : World) : Prop where
  cell : ∀ j, j < 32 → w.cell? ⟨1, j, none⟩ = some (.int .u8 (Lib.deBruijn32tab.getD j 0 : Nat))
theorem Tab.below {w w' : World} (h : Tab w) (hb : Below w.heap.size w w') : Tab w' := ⟨fun j hj => cell_below hb (h.cell j hj)⟩
theorem Tab.drew {w : World} (h : Tab w) : Tab w.drew := ⟨h.cell⟩
theorem Tab.drewN {w : World} (h : Tab w) (n : Nat) : Tab (w.drewN n) := ⟨h.cell⟩

theorem tz_key (x a : Nat) (hx : x < 4294967296) (hx0 : x ≠ 0) (hlow : x &&& (4294967296 - x) = a) :
    bits BinOp.and IntKind.u32 (x : Int) (-(x : Int) % 4294967296) * 125613361 % 4294967296 / 134217728 = ((a * 125613361 % 4294967296 / 134217728 : Nat) : Int) := by
  have e1 : -(x : Int) % 4294967296 = ((4294967296 - x : Nat) : Int) := by omega
  rw [e1, u32_and_nat x _ hx (by omega), hlow]
  omega
set_option maxHeartbeats 400000 in
theorem tz_core (x k idx : Nat) (w : World) (hx0 : ((x : Int) == 0) = false)
    (key : bits BinOp.and IntKind.u32 (x : Int) (-(x : Int) % 4294967296) * 125613361 % 4294967296 / 134217728 = (idx : Int))
    (hi : idx < 32) (hk : k < 32) (hcell : w.cell? ⟨1, idx, none⟩ = some (.int .u8 (k : Nat))) :
    Calls Tryd.prog 79 #[.int .u32 (x : Nat)] w fun e w' => e = .returned (.int .i64 (k : Nat)) ∧ w = w' := by
  refine opq fun R hR => ?_
  go_enter Tryd.func79, Tryd.ntmps79
  go_wp2_with (simp only [key])
  exact opq_end hR ⟨rfl, rfl⟩
theorem tz_ok (x : Nat) (hx : x < 4294967296) (hx0 : x ≠ 0) (w : World) (hT : Tab w) :
    Calls Tryd.prog 79 #[.int .u32 (x : Nat)] w fun e w' => ∃ k m, e = .returned (.int .i64 (k : Nat)) ∧ w = w' ∧ k < 32 ∧ Hid (x = 2 ^ k * (2 * m + 1)) := by
  obtain ⟨hlow, hk⟩ := Lib.lowest_bit 32 x hx0 hx
  obtain ⟨m, hm, _⟩ := Lib.ctzFrom_spec 32 x (by omega) hx
  have e : Lib.ctz 32 x = Lib.ctzFrom 32 x := by simp [Lib.ctz, hx0]
  obtain ⟨hi, htab⟩ := Lib.deBruijn32_at _ hk
  have hcell := hT.cell _ hi
  rw [htab] at hcell
  refine (tz_core x _ _ w (by simp; omega) (tz_key x _ hx hx0 hlow) hi hk hcell).mono ?_
  rintro e1 w' ⟨h1, h2⟩
  exact ⟨_, m, h1, h2, hk, by rw [e]; exact hm⟩

theorem odd_up {x t m v : Nat} (hx : x = 2 ^ t * (2 * m + 1)) (ht : t < 32) : x + 4294967296 * v = 2 ^ t * (2 * (m + 2 ^ (31 - t) * v) + 1) := by
  have e : (4294967296 : Nat) = 2 ^ t * (2 * 2 ^ (31 - t)) := by
    rw [← Nat.pow_succ', ← Nat.pow_add, show t + (31 - t + 1) = 32 from by omega]
  rw [hx, e, Nat.mul_assoc (2 ^ t), ← Nat.mul_add]
  congr 1
  rw [Nat.mul_add, Nat.mul_assoc]
  omega
theorem tz_lift {xs : List Nat} {i t m x : Nat} (hz : val xs = 4294967296 ^ i * val (xs.drop i)) (hx : xs.getD i 0 = x) (e : x = 2 ^ t * (2 * m + 1)) (ht : t < 32) : ∃ m', val xs = 2 ^ (32 * i + t) * (2 * m' + 1) := by
  refine ⟨m + 2 ^ (31 - t) * val (xs.drop (i + 1)), ?_⟩
  rw [hz, drop_val, hx, odd_up e ht, show (4294967296 : Nat) = 2 ^ 32 from rfl, ← Nat.pow_mul, ← Nat.mul_assoc, ← Nat.pow_add]
theorem tz_next {xs : List Nat} {i : Nat} (hz : val xs = 4294967296 ^ i * val (xs.drop i)) (hx : xs.getD i 0 = 0) : val xs = 4294967296 ^ (i + 1) * val (xs.drop (i + 1)) := by
  rw [hz, drop_val, hx, Nat.pow_succ, Nat.mul_assoc, Nat.zero_add]

set_option maxHeartbeats 400000 in
theorem noughts_ok (w : World) (A : Option Addr) (n c : Nat) (xs : List Nat) (h : Rd w A n xs) (h32 : Is32 xs) (hn : n ≤ 17592186044416) (h0 : val xs ≠ 0) (hT : Tab w) :
    Calls Tryd.prog 67 #[.slice A n c] w fun e w' => ∃ k m, e = .returned (.int .u64 (k : Nat)) ∧ w = w' ∧ k ≤ 32 * n ∧ Hid (val xs = 2 ^ k * (2 * m + 1)) := by
  refine opq fun R hR => ?_
  have r1 := hide h
  have p1 := hide h32
  have n0 := hide h0
  have T := hide hT
  clear h h32 h0 hT
  go_enter Tryd.func67, Tryd.ntmps67
  go_wp2
  go_loop [2, 7] (fun nv iv => ∃ i, i ≤ n ∧ iv = .int .i64 (i : Nat) ∧ nv = .int .u64 ((32 * i : Nat) : Int) ∧ Hid (val xs = 4294967296 ^ i * val (xs.drop i))) (fun _ iv => n - (intOf iv).toNat)
  case atStart => exact ⟨0, by omega, rfl, rfl, by show _ = _; simp⟩
  case round =>
    obtain ⟨i, hi, rfl, rfl, hz⟩ := hrel
    by_cases hlt : i < n
    · obtain ⟨ad, rfl, hb, hcl⟩ := r1.out.2.2 (by omega)
      have hx := hcl i hlt
      have bx := is32_get p1.out i
      obtain ⟨x, ex⟩ : ∃ x, Hid (xs.getD i 0 = x) := ⟨_, hide rfl⟩
      rw [ex.out] at hx bx
      clear hcl
      by_cases hx0 : x = 0
      · have Z := hide (tz_next hz.out (by rw [ex.out, hx0]))
        subst hx0
        go_wp2
        go_round
        case rel => exact ⟨i + 1, by omega, by go_num, by go_num, Z⟩
        case measure => simp [intOf]; omega
      · have e1 : ((x : Int) != 0) = true := by simp; omega
        have G := hide (tz_ok x bx hx0 w T.out)
        have L := hide (fun t m e ht => tz_lift (t := t) (m := m) hz.out ex.out e ht)
        clear hx0
        go_wp2_with (go_at_call 79; refine G.out.mono ?_; rintro e w' ⟨t, m, rfl, rfl, ht, em⟩)
        obtain ⟨m', em'⟩ := L.out t m em.out ht
        exact opq_end hR ⟨32 * i + t, m', by rfl, rfl, by omega, em'⟩
    · exfalso
      obtain rfl : i = n := by omega
      have := hz.out
      rw [List.drop_of_length_le (by rw [r1.out.1]; exact Nat.le_refl _)] at this
      exact n0.out (by rw [this]; rfl)
end Go.Proofs.YtcdejccbamjdoaaDoor
