/- A region by a list of facts: an operation that makes a value of which a fact is told. -/
import Derived.Test.YtnpfochbpdfcmaaGreatDoorFree4
set_option linter.unusedVariables false
set_option linter.unusedSimpArgs false
namespace Go.Proofs.YtnpfochbpdfcmaaGreatDoor
open Go.RowKit
section
variable {P : Program} {ops : Array Oper} {k : Nat} {C : World → Prop} {l : List (Tmp × Fact)} {a0 : Act} {o : Oper}
theorem StepOk.make {t : Tmp} (hw : Want ops k l o) (hna : ∀ T, o.op ≠ .alloc T) (hd : o.dst = some t)
    (h : ∀ a w, C w → (∀ t, (dstsOf (preOf ops k)).elem t = false → slot a t = slot a0 t) → (∀ t, (o.looksAt ops).elem t = true → (dstsOf (preOf ops k)).elem t = true → (lookF l t).holds (slot a t) w) →
      ∃ v, (execOp a.eval o).run P w = .ok (.value v) w ∧ (lookF l t).holds v w) : StepOk P ops k C (fun t => (lookF l t).holds) a0 o :=
  StepOk.want hw fun a w hc hs hl => by
    obtain ⟨v, h1, h2⟩ := h a w hc hs hl
    exact does_value h1 ⟨Below.refl _ _, fun t' ht => by rw [hd] at ht; cases ht; exact h2, .no hna⟩
/-- .. and makes memory. -/
theorem StepOk.makeW {t : Tmp} (hw : Want ops k l o) (hna : ∀ T, o.op ≠ .alloc T) (hd : o.dst = some t)
    (h : ∀ a w, C w → (∀ t, (dstsOf (preOf ops k)).elem t = false → slot a t = slot a0 t) → (∀ t, (o.looksAt ops).elem t = true → (dstsOf (preOf ops k)).elem t = true → (lookF l t).holds (slot a t) w) →
      ∃ v w', (execOp a.eval o).run P w = .ok (.value v) w' ∧ Below w.heap.size w w' ∧ (lookF l t).holds v w') : StepOk P ops k C (fun t => (lookF l t).holds) a0 o :=
  StepOk.want hw fun a w hc hs hl => by
    obtain ⟨v, w', h1, hb, h2⟩ := h a w hc hs hl
    unfold Does
    rw [h1]
    exact ⟨hb, fun t' ht => by rw [hd] at ht; cases ht; exact h2, .no hna⟩
end
end Go.Proofs.YtnpfochbpdfcmaaGreatDoor
