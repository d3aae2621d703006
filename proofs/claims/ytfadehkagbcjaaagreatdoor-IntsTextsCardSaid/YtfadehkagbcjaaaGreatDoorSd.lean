/- law helpers: Beyond: are some sizes, taken together, too much? -/
import Derived.Test.YtfadehkagbcjaaaGreatDoorND
set_option linter.unusedVariables false
set_option linter.unusedSimpArgs false
set_option maxRecDepth 100000
namespace Go.Proofs.YtfadehkagbcjaaaGreatDoor
open Go.RowKit

theorem sum_take_step {l : List Nat} {i x : Nat} (hx : l[i]? = some x) : (l.take (i + 1)).sum = (l.take i).sum + x := by
  obtain ⟨hi, e⟩ := List.getElem?_eq_some_iff.1 hx
  rw [List.take_succ_eq_append_getElem hi, List.sum_append, e]
  simp
theorem sum_take_le (l : List Nat) (i : Nat) : (l.take i).sum ≤ l.sum := by
  have h : (l.take i).sum + (l.drop i).sum = l.sum := by rw [← List.sum_append, List.take_append_drop]
  omega
set_option maxHeartbeats 400000 in
theorem beyond_ok (w : World) (g : Nat) (l : List Nat) (hc : ∀ (j : Nat) x, l[j]? = some x → w.cell? ⟨g, j, none⟩ = some (.int .i64 (x : Nat))) (hl : l.length ≤ 1000) (hx : ∀ (j : Nat) x, l[j]? = some x → x ≤ 9223372036854775807 ∧ (j = 0 ∨ x ≤ 4611686018427387904)) :
    Calls Tryz.prog 86 #[.slice (some ⟨g, 0, none⟩) l.length l.length] w fun e w' => e = .returned (.bool (decide (1048576 < l.sum))) ∧ w = w' := by
  refine opq fun R hR => ?_
  have HC := hide hc
  have HX := hide hx
  clear hc hx
  go_enter Tryz.func86, Tryz.ntmps86
  go_wp2
  go_loop [3, 4] (fun nv iv => ∃ i n : Nat, i ≤ l.length ∧ n ≤ 1048576 ∧ (i = 0 → n = 0) ∧ nv = .int .i64 (n : Nat) ∧ iv = .int .i64 (i : Nat) ∧ Hid ((l.take i).sum = n)) (fun nv iv => l.length - (intOf iv).toNat)
  case atStart => exact ⟨0, 0, by omega, by omega, fun _ => rfl, rfl, rfl, by simp [Hid]⟩
  case round =>
    obtain ⟨i, n, hi, hn, h0, rfl, rfl, hs⟩ := hrel
    by_cases hlt : i < l.length
    · obtain ⟨x, hx⟩ : ∃ y, l[i]? = some y := ⟨_, List.getElem?_eq_getElem hlt⟩
      have hcell := HC.out i _ hx
      obtain ⟨b1, b2⟩ := HX.out i _ hx
      have b3 : n + x ≤ 9223372036854775807 := by
        rcases b2 with q | q
        · have := h0 q; omega
        · omega
      have S1 := hide (sum_take_step hx)
      have S2 := hide (sum_take_le l (i + 1))
      clear hx b2
      by_cases hm : 1048576 < n + x
      · have S3 : Hid (decide (1048576 < l.sum) = true) := by
          show _ = _
          have := S1.out; have := S2.out; have := hs.out
          simp only [decide_eq_true_eq]; omega
        go_wp2
        exact opq_end hR ⟨ret_bool S3.out.symm, rfl⟩
      · have S3 : Hid ((l.take (i + 1)).sum = n + x) := by
          show _ = _
          rw [S1.out, hs.out]
        clear S1 S2
        go_wp2
        go_round
        case rel => exact ⟨i + 1, n + x, by omega, by omega, by omega, by go_num, by go_num, S3⟩
        case measure => simp [intOf]; omega
    · obtain rfl : i = l.length := by omega
      have e := hs.out
      rw [List.take_length] at e
      have E : Hid (decide (1048576 < l.sum) = false) := by
        show _ = _
        simp only [decide_eq_false_iff_not]; omega
      clear e
      go_wp2
      exact opq_end hR ⟨ret_bool E.out.symm, rfl⟩
theorem beyond1 {w : World} {n : Nat} {t : TypeId} {g : Nat} (hg : w.heap.size = g) (hn : n ≤ 9223372036854775807) (r : Bool) (hr : decide (1048576 < n) = r) :
    Calls Tryz.prog 86 #[.slice (some ⟨g, 0, none⟩) 1 1] (w.alloc (.cells #[.int .i64 (n : Nat)] t)) fun e w' => ∃ u, e = .returned u ∧ Below (w.alloc (.cells #[.int .i64 (n : Nat)] t)).heap.size (w.alloc (.cells #[.int .i64 (n : Nat)] t)) w' ∧ u = .bool r := by
  subst hg
  have B := Blk.new w t #[.int .i64 (n : Nat)]
  have := beyond_ok (w.alloc (.cells #[.int .i64 (n : Nat)] t)) w.heap.size [n] (fun j x hx => by
    rw [B.cell]
    match j, hx with
    | 0, hx => cases hx; rfl) (by simp) (fun j x hx => by
    match j, hx with
    | 0, hx => cases hx; exact ⟨hn, .inl rfl⟩)
  exact this.mono fun e w' ⟨h1, h2⟩ => ⟨_, h1, h2 ▸ Below.refl _ _, by rw [← hr]; exact congrArg Value.bool (decide_eq_decide.2 (by simp))⟩
end Go.Proofs.YtfadehkagbcjaaaGreatDoor
