/- law helpers: greatNat. -/
import Derived.Test.YtcdejccbamjdoaaDoorND
set_option linter.unusedVariables false
set_option linter.unusedSimpArgs false
set_option maxRecDepth 100000
namespace Go.Proofs.YtcdejccbamjdoaaDoor
open Go.RowKit

theorem any_take_step {l : List (Option Addr × Nat × Nat)} {p : Option Addr × Nat × Nat → Bool} {i : Nat} {x : Option Addr × Nat × Nat} (h : (l.take i).any p = false) (hx : l[i]? = some x) (hp : p x = false) : (l.take (i + 1)).any p = false := by
  obtain ⟨hi, e⟩ := List.getElem?_eq_some_iff.1 hx
  rw [List.take_succ_eq_append_getElem hi, List.any_append, h, e]
  simp [hp]
theorem great_ok (w : World) (g : Nat) (l : List (Option Addr × Nat × Nat)) (hc : ∀ (j : Nat) x, l[j]? = some x → w.cell? ⟨g, j, none⟩ = some (.slice x.1 x.2.1 x.2.2)) (hl : l.length ≤ 1000) :
    Calls Tryd.prog 39 #[.slice (some ⟨g, 0, none⟩) l.length l.length] w fun e w' => e = .returned (.bool (l.any fun x => decide (300 < x.2.1))) ∧ w = w' := by
  refine opq fun R hR => ?_
  have HC := hide hc
  clear hc
  go_enter Tryd.func39, Tryd.ntmps39
  go_wp2
  go_loop [3] (fun iv => ∃ i : Nat, i ≤ l.length ∧ iv = .int .i64 (i : Nat) ∧ Hid ((l.take i).any (fun x => decide (300 < x.2.1)) = false)) (fun iv => l.length - (intOf iv).toNat)
  case atStart => exact ⟨0, by omega, rfl, rfl⟩
  case round =>
    obtain ⟨i, hi, rfl, hs⟩ := hrel
    by_cases hlt : i < l.length
    · obtain ⟨⟨a, n, c⟩, hx⟩ : ∃ y, l[i]? = some y := ⟨_, List.getElem?_eq_getElem hlt⟩
      have hcell := HC.out i _ hx
      have S1 := hide (fun hp => any_take_step hs.out hx hp)
      have S2 : Hid (300 < n → l.any (fun x => decide (300 < x.2.1)) = true) := fun q => List.any_eq_true.2 ⟨_, List.mem_of_getElem? hx, by simpa using q⟩
      clear hx
      by_cases hn : 300 < n
      · go_wp2
        exact opq_end hR ⟨ret_bool (S2.out hn).symm, rfl⟩
      · have S3 := hide (S1.out (by simpa using hn))
        clear S1 S2
        go_wp2
        go_round
        case rel => exact ⟨i + 1, by omega, by go_num, S3⟩
        case measure => simp [intOf]; omega
    · obtain rfl : i = l.length := by omega
      have e := hs.out
      rw [List.take_length] at e
      have E := hide e
      clear e
      go_wp2
      exact opq_end hR ⟨ret_bool E.out.symm, rfl⟩
end Go.Proofs.YtcdejccbamjdoaaDoor
