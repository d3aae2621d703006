/- The frame of the laws with a pair of numbers among what they take. -/
import Derived.Test.YtfpnhggbfakdkaaDoorFx
import Derived.OpenShut
set_option linter.unusedVariables false
set_option linter.unusedSimpArgs false
set_option maxRecDepth 100000
namespace Go.Proofs.YtfpnhggbfakdkaaDoor
open Go.ChangeShapes Go.WideShapes Go.ChangeAt Go.RowKit Go.Joins

theorem size2v {cs : Array Value} (h : cs.size = 2) : ∃ a b, cs = #[a, b] := by
  obtain ⟨l⟩ := cs
  match l, h with
  | [a, b], _ => exact ⟨a, b, rfl⟩
/-- Two numbers that came in together. -/
theorem open_pair {H : Type} {enc : TypeId × Value → H} {P : Program} {W : World} {base : Nat} {t e : TypeId} {k : IntKind} {v : Value} {d : DataW H} {ps : List MemPlace} (ht : P.underlying t = some (.array 2 e)) (he : P.underlying e = some (.int k)) (hc : P.cellsOf t = 2) (hce : P.cellsOf e = 1)
    (hval : Value.okWide P W .any base t v) (h : DataW.Trod enc P W 0 (fun _ => true) true t v d ps) : ∃ y z : Int, v = .agg #[.int k y, .int k z] ∧ (Lit.int k y).wf = true ∧ (Lit.int k z).wf = true := by
  obtain ⟨cs, rfl, hsz, _⟩ : ∃ cs, v = .agg cs ∧ cs.size = P.cellsOf t ∧ Row.okWide P W .any base t cs := by
    simpa [Value.okWide, ht] using hval
  rw [hc] at hsz
  obtain ⟨c0, c1, rfl⟩ := size2v hsz
  obtain ⟨fuel, hf⟩ := h
  obtain ⟨xs, m, rfl, hx, _, hl, hi⟩ := DataW.trod_array ht hf
  have g0 := hi 0 (by omega)
  have g1 := hi 1 (by omega)
  rw [hce] at g0 g1
  match xs, hl with
  | [x0, x1], _ =>
    obtain ⟨y, e0, _, w0⟩ := DataW.trod_int he g0
    obtain ⟨z, e1, _, w1⟩ := DataW.trod_int he g1
    simp [Value.cells] at e0 e1
    subst e0 e1
    exact ⟨y, z, rfl, w0, w1⟩
end Go.Proofs.YtfpnhggbfakdkaaDoor
