/- A region by a list of facts: what hangs on an operation that was passed over. -/
import Derived.Test.YtnpfochbpdfcmaaGreatDoorFree3
set_option linter.unusedVariables false
set_option linter.unusedSimpArgs false
namespace Go.Proofs.YtnpfochbpdfcmaaGreatDoor
open Go.RowKit
section
variable {P : Program} {ops : Array Oper} {k : Nat} {C : World → Prop} {l : List (Tmp × Fact)} {Q : Exit → Act → World → Prop}

/-- What hangs on an operation that was passed over is passed over. -/
theorem StepOk.skipU {a0 : Act} {o : Oper} (hw : ∃ g b t, g < k ∧ o.guard = some (g, b) ∧ ((ops[g]?).bind (·.dst)) = some t ∧ lookF l t = .eq undef) (h : ∀ t, o.dst = some t → lookF l t = .eq undef ∨ lookF l t = .any) : StepOk P ops k C (fun t => (lookF l t).holds) a0 o := by
  intro a w hc hs hl
  obtain ⟨g, b, t, hgk, hg, hd, hf⟩ := hw
  have hwant : Region.wanted o (yielded ops a.tmps) = false := by
    unfold Region.wanted
    obtain ⟨m1, m2⟩ := looks_guard hgk hg hd
    have hv : slot a t = undef := by
      have := hl t m1 m2
      simp only [hf] at this
      exact this
    simp only [hg]
    have hy : yielded ops a.tmps g = none := by
      unfold yielded
      rw [hd]
      unfold slot at hv
      rw [Array.getD_eq_getD_getElem?] at hv
      cases q : a.tmps[t]? with
      | none => simp [q]
      | some v => rw [q] at hv; simp at hv; subst hv; simp [q, undef]
    rw [hy]
    rfl
  rw [if_neg (by rw [hwant]; decide)]
  intro t ht
  rcases h t ht with e | e <;> simp only [e]
  · rfl
  · trivial
end
end Go.Proofs.YtnpfochbpdfcmaaGreatDoor
