/- the laws of ints: some answers that the document fixes; small, same, great. -/
import Derived.Test.YtfadehkagbcjaaaGreatDoorNE
import Derived.Test.YtfadehkagbcjaaaGreatDoorIA
import Derived.Test.YtfadehkagbcjaaaGreatDoorIy
set_option linter.unusedVariables false
set_option linter.unusedSimpArgs false
set_option maxRecDepth 100000
namespace Go.Proofs.YtfadehkagbcjaaaGreatDoor
open Go.RowKit

theorem iParse_yes {w : World} {s : ByteArray} (hs : s.size ≤ 9223372036854775807) (z : Int) (h1 : isNum (isgn (byt s)).2 = true) (h2 : (isgn (byt s)).2.length ≤ 200) (h3 : ¬((isgn (byt s)).1 = true ∧ num (isgn (byt s)).2 = 0)) (hz : sgn (isgn (byt s)).1 (num (isgn (byt s)).2) = z) :
    Calls Tryz.prog 99 #[.string s] w fun e w' => ∃ v, e = .returned (.tuple #[v, .int .i64 0]) ∧ Below w.heap.size w w' ∧ IntR z w.heap.size w' v :=
  (iParse_ok w s hs).mono fun e w' ⟨h4, h5⟩ => by
    rw [if_pos h1, if_pos h2, if_neg h3, hz] at h4
    obtain ⟨v, e1, h6⟩ := h4
    exact ⟨v, e1, h5.out, h6⟩
theorem iParse_form {w : World} {s : ByteArray} (hs : s.size ≤ 9223372036854775807) (h1 : isNum (isgn (byt s)).2 = false ∨ ((isgn (byt s)).2.length ≤ 200 ∧ (isgn (byt s)).1 = true ∧ num (isgn (byt s)).2 = 0)) :
    Calls Tryz.prog 99 #[.string s] w fun e w' => e = .returned (.tuple #[.agg #[.bool false, .slice none 0 0], .int .i64 4]) ∧ Below w.heap.size w w' :=
  (iParse_ok w s hs).mono fun e w' ⟨h4, h5⟩ => by
    refine ⟨?_, h5.out⟩
    rcases h1 with h1 | ⟨h2, h3⟩
    · rw [if_neg (by rw [h1]; decide)] at h4; exact h4
    · by_cases h1 : isNum (isgn (byt s)).2 = true
      · rw [if_pos h1, if_pos h2, if_pos h3] at h4; exact h4
      · rw [if_neg h1] at h4; exact h4
theorem iParse_limit {w : World} {s : ByteArray} (hs : s.size ≤ 9223372036854775807) (h1 : isNum (isgn (byt s)).2 = true) (h2 : 200 < (isgn (byt s)).2.length) :
    Calls Tryz.prog 99 #[.string s] w fun e w' => e = .returned (.tuple #[.agg #[.bool false, .slice none 0 0], .int .i64 3]) ∧ Below w.heap.size w w' :=
  (iParse_ok w s hs).mono fun e w' ⟨h4, h5⟩ => by
    rw [if_pos h1, if_neg (by omega)] at h4
    exact ⟨h4, h5.out⟩
end Go.Proofs.YtfadehkagbcjaaaGreatDoor
