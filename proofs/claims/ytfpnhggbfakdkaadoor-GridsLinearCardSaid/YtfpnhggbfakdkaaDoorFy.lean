/- The frame of a law with a pair of lists of fractions among what it takes. -/
import Derived.Test.YtfpnhggbfakdkaaDoorFv
import Derived.Test.YtfpnhggbfakdkaaDoorGN
set_option linter.unusedVariables false
set_option linter.unusedSimpArgs false
set_option maxRecDepth 100000
namespace Go.Proofs.YtfpnhggbfakdkaaDoor
open Go.ChangeShapes Go.WideShapes Go.ChangeAt Go.RowKit Go.Joins

/-- Two lists of fractions that came in together. -/
theorem open_two {H : Type} {enc : TypeId × Value → H} {W : World} {base : Nat} {v : Value} {d : DataW H} {ps : List MemPlace}
    (hval : Value.okWide Tryd.prog W .any base 38 v) (h : DataW.Trod enc Tryd.prog W 0 (fun _ => true) true 38 v d ps) (hz : (DataW.weights Tryd.prog 38 d).all (· ≤ reachBytes) = true) :
    ∃ A1 n1 c1 es1 A2 n2 c2 es2, v = .agg #[.slice A1 n1 c1, .slice A2 n2 c2] ∧ Lst RRw W (.slice A1 n1 c1) es1 ∧ Lst RRw W (.slice A2 n2 c2) es2 := by
  have ht : Tryd.prog.underlying 38 = some (.array 2 30) := by kernel_rfl
  obtain ⟨cs, rfl, hsz, _⟩ : ∃ cs, v = .agg cs ∧ cs.size = Tryd.prog.cellsOf 38 ∧ Row.okWide Tryd.prog W .any base 38 cs := by
    simpa [Value.okWide, ht] using hval
  rw [show Tryd.prog.cellsOf 38 = 2 by kernel_rfl] at hsz
  obtain ⟨c0, c1_, rfl⟩ := size2v hsz
  obtain ⟨fuel, hf⟩ := h
  obtain ⟨xs, m, rfl, hx, _, hl, hi⟩ := DataW.trod_array ht hf
  have g0 := hi 0 (by omega)
  have g1 := hi 1 (by omega)
  rw [show Tryd.prog.cellsOf 30 = 1 by kernel_rfl] at g0 g1
  match xs, hl with
  | [x0, x1], _ =>
    simp only [Prod.mk.injEq] at hx
    obtain ⟨rfl, rfl⟩ := hx
    have hz' := hz
    simp only [DataW.weights, ht, DataW.weightsEach, DataW.weightsAll, List.map_cons, List.map_nil, List.append_nil, List.all_append, Bool.and_eq_true] at hz'
    obtain ⟨z0, z1⟩ := hz'
    obtain ⟨A1, n1, c1, es1, e1, L1⟩ := open_ratsF (by kernel_rfl) g0 z0
    obtain ⟨A2, n2, c2, es2, e2, L2⟩ := open_ratsF (by kernel_rfl) g1 z1
    have e1' : c0 = .slice A1 n1 c1 := e1
    have e2' : c1_ = .slice A2 n2 c2 := e2
    subst e1' e2'
    exact ⟨A1, n1, c1, es1, A2, n2, c2, es2, rfl, L1, L2⟩
end Go.Proofs.YtfpnhggbfakdkaaDoor
