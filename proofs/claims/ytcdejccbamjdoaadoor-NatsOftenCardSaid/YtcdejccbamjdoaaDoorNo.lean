/- nats: leading zeros. -/
import Derived.Test.YtcdejccbamjdoaaDoorNn
set_option linter.unusedVariables false
set_option linter.unusedSimpArgs false
set_option maxRecDepth 100000
namespace Go.Proofs.YtcdejccbamjdoaaDoor
open Go.RowKit

theorem wrap64_id {x : Int} (h0 : 0 ≤ x) (h1 : x ≤ 1000) : wrap64 x = x := by unfold wrap64; omega
theorem byte_le {B : ByteArray} (hB : (B.data.toList.all fun b => b.toNat ≤ 8) = true) (i : Nat) (h : i < B.size) : B[i].toNat ≤ 8 := by
  rw [List.all_eq_true] at hB
  have := hB B[i] (by
    have : B.data[i] ∈ B.data.toList := by simp
    exact this)
  simpa using this
theorem len_end (c : Int) (h0 : 0 ≤ c) (h1 : c ≤ 24) {B : ByteArray} {i : Nat} {h : i < B.size} (hB : (B.data.toList.all fun b => b.toNat ≤ 8) = true) (w : World) :
    ∃ k : Nat, Ending.returned (.int .i64 (wrap64 (c + wrap64 (B[i].toNat : Int)))) = .returned (.int .i64 (k : Nat)) ∧ k ≤ 32 ∧ w = w := by
  have hb := byte_le hB i h
  generalize B[i].toNat = b at *
  refine ⟨c.toNat + b, ?_, by omega, rfl⟩
  have e1 : wrap64 (b : Int) = b := wrap64_id (by omega) (by omega)
  rw [e1, wrap64_id (by omega) (by omega)]
  congr 2
  omega
theorem len_end0 {B : ByteArray} {i : Nat} {h : i < B.size} (hB : (B.data.toList.all fun b => b.toNat ≤ 8) = true) (w : World) :
    ∃ k : Nat, Ending.returned (.int .i64 (wrap64 (wrap64 (B[i].toNat : Int)))) = .returned (.int .i64 (k : Nat)) ∧ k ≤ 32 ∧ w = w := by
  have hb := byte_le hB i h
  generalize B[i].toNat = b at *
  refine ⟨b, ?_, by omega, rfl⟩
  have e1 : wrap64 (b : Int) = b := wrap64_id (by omega) (by omega)
  rw [e1, e1]
theorem len32_ok (w : World) (x : Nat) (hx : x < 4294967296) :
    Calls Tryd.prog 77 #[.int .u32 (x : Nat)] w fun e w' => ∃ k : Nat, e = .returned (.int .i64 (k : Nat)) ∧ k ≤ 32 ∧ w = w' := by
  refine opq fun R hR => ?_
  by_cases h1 : 65536 ≤ x
  · have t2 : decide ((65536 : Int) ≤ x) = true := by simp; omega
    by_cases h2 : 256 ≤ x / 65536
    · have t3 : decide ((x : Int) / 65536 ≥ 256) = true := by simp; omega
      go_enter Tryd.func77, Tryd.ntmps77
      go_wp2
      exact opq_end hR (len_end 24 (by decide) (by decide) (by decide) w)
    · have t3 : decide ((x : Int) / 65536 ≥ 256) = false := by simp; omega
      go_enter Tryd.func77, Tryd.ntmps77
      go_wp2
      exact opq_end hR (len_end 16 (by decide) (by decide) (by decide) w)
  · have t2 : decide ((65536 : Int) ≤ x) = false := by simp; omega
    by_cases h2 : 256 ≤ x
    · have t3 : decide ((x : Int) ≥ 256) = true := by simp; omega
      go_enter Tryd.func77, Tryd.ntmps77
      go_wp2
      exact opq_end hR (len_end 8 (by decide) (by decide) (by decide) w)
    · have t3 : decide ((x : Int) ≥ 256) = false := by simp; omega
      go_enter Tryd.func77, Tryd.ntmps77
      go_wp2
      first
        | exact opq_end hR (len_end0 (by decide) w)
        | exact opq_end hR (len_end 0 (by decide) (by decide) (by decide) w)
theorem lead32_ok (w : World) (x : Nat) (hx : x < 4294967296) :
    Calls Tryd.prog 62 #[.int .u32 (x : Nat)] w fun e w' => ∃ k : Nat, e = .returned (.int .i64 (k : Nat)) ∧ k ≤ 32 ∧ w = w' := by
  refine opq fun R hR => ?_
  have C := hide (len32_ok w x hx)
  go_enter Tryd.func62, Tryd.ntmps62
  go_wp2_with fail
  refine C.out.mono ?_
  rintro e w' ⟨k, rfl, hk, rfl⟩
  go_wp2
  exact opq_end hR ⟨32 - k, by show Ending.returned (.int .i64 _) = _; congr 2; omega, by omega, rfl⟩

theorem short_can {w : World} {v : Value} {N : Nat} (b : Nat) (h : Can w v N) (s : Sm N) (hb0 : 0 < b) (hb : b < 4294967296) :
    Calls Tryd.prog 61 #[v, .int .u32 (b : Nat)] w fun e w' => ∃ u, e = .returned (.tuple #[u, .int .u32 (N % b : Nat)]) ∧ Hid (NatR (N / b) w.heap.size w' u) ∧ Hid (Below w.heap.size w w') := by
  obtain ⟨A, c, rfl, l, r⟩ := h
  have s0 : (limbs N).length ≤ 17592186044416 := s
  have := short_ok w A _ c b _ r (is32_limbs N) (by omega) hb0 hb
  rw [val_limbs] at this
  exact this
theorem long_can {w : World} {v v' : Value} {M N : Nat} (h : Can w v M) (h' : Can w v' N) (s : Sm M) (hl : N ≤ M) (h2 : 2 ≤ (limbs N).length) :
    Calls Tryd.prog 63 #[v, v'] w fun e w' => ∃ u t, e = .returned (.tuple #[u, t]) ∧ Hid (NatR (M / N) w.heap.size w' u) ∧ Hid (NatR (M % N) w.heap.size w' t) ∧ Hid (Below w.heap.size w w') := by
  obtain ⟨A, c, rfl, l, r⟩ := h
  obtain ⟨A', c', rfl, l', r'⟩ := h'
  have := long_ok w A A' _ _ c c' _ _ r r' (is32_limbs M) (is32_limbs N) s (limbs_len_mono hl) h2 (chk_limbs N)
  rw [val_limbs, val_limbs] at this
  exact this
end Go.Proofs.YtcdejccbamjdoaaDoor
