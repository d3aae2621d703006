/- laws of vecs that compare: words; Zero of any number. -/
import Derived.Test.YtkefmeddnncacaaDoorBz
import Derived.Test.YtkefmeddnncacaaDoorRv
set_option linter.unusedVariables false
set_option linter.unusedSimpArgs false
set_option maxRecDepth 100000
namespace Go.Proofs.YtkefmeddnncacaaDoor
open Go.RowKit

theorem BookF.new {B : Nat} {w : World} (hB : B ≤ w.heap.size) : BookF B (w.alloc (.cells #[.int .i64 0, .slice none 0 0, .slice none 0 0, .slice none 0 0, .slice none 0 0, .slice none 0 0, .slice none 0 0, .slice none 0 0, .slice none 0 0, .slice none 0 0, .slice none 0 0, .slice none 0 0, .slice none 0 0] TBK)) w.heap.size 0 (.slice none 0 0) (.slice none 0 0) [] [] :=
  ⟨⟨Blk.new w TBK _, hB, rfl, .inl ⟨rfl, rfl⟩⟩, ⟨Blk.new w TBK _, hB, rfl, .inl ⟨rfl, rfl⟩⟩⟩
theorem zN_le {z : Int} (h : ¬ (300 < z ∧ z ≤ 65536)) : zN z ≤ 300 := by
  unfold zN
  split <;> omega
set_option maxHeartbeats 1000000 in
theorem vpZero_P (w : World) (z : Int) (h0 : -9223372036854775808 ≤ z) (h1 : z < 9223372036854775808) :
    Calls Tryd.prog 11 #[.int .i64 z] w fun e w' => ∃ u, e = .returned u ∧ Below w.heap.size w w' ∧ OLst w' w.heap.size u (List.replicate (zN z) 0) := by
  by_cases hb : z < 0 ∨ 65536 < z
  · refine opq fun R hR => ?_
    have e0 : Hid (zN z = 0) := by
      show _ = _
      unfold zN
      split
      · rfl
      · omega
    go_enter Tryd.func11, Tryd.ntmps11
    rcases hb with hb | hb
    · have hd : decide (z > 65536) = false := by simp; omega
      go_wp2
      go_loopw [2, 3] (fun tv iv wr => tv = .slice none 0 0 ∧ iv = .int .i64 0 ∧ wr = w) (fun _ _ _ => 0)
      case atStart => exact ⟨rfl, rfl, rfl⟩
      case round =>
        obtain ⟨rfl, rfl, rfl⟩ := hrel
        have hd : decide ((0 : Int) < z) = false := by simp; omega
        go_wp2
        exact opq_end hR ⟨_, rfl, Below.refl _ _, by rw [e0.out]; exact OLst.nil _ _⟩
    · have hd : decide (z > 65536) = true := by simpa using hb
      go_wp2
      exact opq_end hR ⟨_, rfl, Below.refl _ _, by rw [e0.out]; exact OLst.nil _ _⟩
  · obtain ⟨n, rfl⟩ : ∃ n : Nat, z = (n : Nat) := ⟨z.toNat, by omega⟩
    have e0 : zN (n : Int) = n := by
      unfold zN
      rw [if_neg (by omega)]
      rfl
    rw [e0]
    exact (Zero_ok w n (by omega)).mono fun e w' ⟨u, h1, h2, h3⟩ => ⟨u, h1, h2.out, h3.out⟩
end Go.Proofs.YtkefmeddnncacaaDoor
