/- nats: Back. -/
import Derived.Test.YtcdejccbamjdoaaDoorNp
set_option linter.unusedVariables false
set_option linter.unusedSimpArgs false
set_option maxRecDepth 100000
namespace Go.Proofs.YtcdejccbamjdoaaDoor
open Go.RowKit

theorem val_two {xs : List Nat} (h : xs.length ≤ 2) : xs.getD 1 0 * 4294967296 + xs.getD 0 0 = val xs := by
  rcases xs with _ | ⟨a, _ | ⟨b, _ | ⟨c, xs⟩⟩⟩
  · rfl
  · simp [val]
  · simp [val]; omega
  · simp at h
theorem Back_ok (w : World) (A : Option Addr) (n c : Nat) (xs : List Nat) (h : Rd w A n xs) (h32 : Is32 xs) :
    Calls Tryd.prog 45 #[.slice A n c] w fun e w' => e = .returned (.tuple (if chk xs = true then if xs.length ≤ 2 then #[.int .u64 (val xs : Nat), .int .i64 0] else #[.int .u64 0, .int .i64 3] else #[.int .u64 0, .int .i64 1])) ∧ Below w.heap.size w w' := by
  refine opq fun R hR => ?_
  have hm := h.2.1
  have hl := h.1
  have C := hide (Check_ok w A n c xs h)
  have G1 := hide (at_nat w A n c xs 1 h h32)
  have G0 := hide (at_nat w A n c xs 0 h h32)
  have b1 := is32_get h32 1
  have b0 := is32_get h32 0
  have o1 := or_high b0 b1
  clear h h32
  go_enter Tryd.func45, Tryd.ntmps45
  by_cases hx : chk xs = true
  · rw [hx] at C
    by_cases h2 : n ≤ 2
    · have ev := hide (val_two (xs := xs) (by omega))
      generalize xs.getD 1 0 = x1 at *
      generalize xs.getD 0 0 = x0 at *
      go_wp2_with fail
      refine C.out.mono ?_; rintro e w' ⟨rfl, rfl⟩
      go_wp2_with fail
      refine G1.out.mono ?_; rintro e w' ⟨rfl, rfl⟩
      go_wp2_with fail
      refine G0.out.mono ?_; rintro e w' ⟨rfl, rfl⟩
      go_wp2
      refine opq_end hR ⟨?_, Below.refl _ _⟩
      rw [if_pos hx, if_pos (by omega), ← ev.out]
      rfl
    · go_wp2_with fail
      refine C.out.mono ?_; rintro e w' ⟨rfl, rfl⟩
      go_wp2
      refine opq_end hR ⟨?_, Below.refl _ _⟩
      rw [if_pos hx, if_neg (by omega)]
      rfl
  · have h0 : chk xs = false := by simpa using hx
    rw [h0] at C
    go_wp2_with fail
    refine C.out.mono ?_; rintro e w' ⟨rfl, rfl⟩
    go_wp2
    refine opq_end hR ⟨?_, Below.refl _ _⟩
    rw [if_neg hx]
    rfl
end Go.Proofs.YtcdejccbamjdoaaDoor
