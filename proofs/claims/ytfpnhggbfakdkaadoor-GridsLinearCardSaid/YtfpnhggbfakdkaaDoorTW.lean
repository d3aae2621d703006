/- Laws with a Book of fractions: twins of lists; what a call answers, whatever it is told. -/
import Derived.Test.YtfpnhggbfakdkaaDoorBY
import Derived.Test.YtfpnhggbfakdkaaDoorBJ
import Derived.Test.YtfpnhggbfakdkaaDoorRV
/- the laws' Book: a list of fractions' twin, and what is left of it. -/
set_option linter.unusedVariables false
set_option linter.unusedSimpArgs false
set_option maxRecDepth 100000
namespace Go.Proofs.YtfpnhggbfakdkaaDoor
open Go.RowKit

theorem RRow.made {w : World} (m : Nat) : RRow w.heap.size (w.alloc (.cells (madeCells #[.bool false, .slice none 0 0, .slice none 0 0] (m * 3)) TR)) (some ⟨w.heap.size, 0, none⟩) 0 m (flat []) :=
  ⟨rfl, Nat.zero_le _, .inr ⟨_, _, rfl, Nat.le_refl _, Blk.new w TR _, by rw [size_madeCells]; exact Nat.le_refl _, by simp [flat]⟩⟩
/-- The elements that far. -/
structure TwP (B : Nat) (w : World) (i : Nat) (us : List Value) (es : List Raw) : Prop where
  lu : us.length = i
  els : ∀ (j : Nat) u, us[j]? = some u → ∃ e, es[j]? = some e ∧ TwE B w u e
  ap : UAp us
theorem TwP.keepB {B : Nat} {w w' : World} {i : Nat} {us : List Value} {es : List Raw} (h : TwP B w i us es) (k : ∀ g cs, Blk w g T32 cs → Blk w' g T32 cs) : TwP B w' i us es :=
  ⟨h.lu, fun j u hu => by
    obtain ⟨e, he, hE⟩ := h.els j u hu
    exact ⟨e, he, hE.keepB k⟩, h.ap⟩
theorem TwP.snoc {B : Nat} {w w' : World} {i : Nat} {us : List Value} {es : List Raw} {u : Value} {e : Raw} (h : TwP B w i us es) (k : ∀ g cs, Blk w g T32 cs → Blk w' g T32 cs) (hE : TwE w.heap.size w' u e) (he : es[i]? = some e) (hB : B ≤ w.heap.size) : TwP B w' (i + 1) (us ++ [u]) es := by
  refine ⟨by simp [h.lu], fun j v hj => ?_, h.ap.snoc fun v hv g hg hg' => ?_⟩
  · by_cases hl : j < us.length
    · rw [List.getElem?_append_left hl] at hj
      obtain ⟨e', he', hE'⟩ := h.els j v hj
      exact ⟨e', he', hE'.keepB k⟩
    · rw [List.getElem?_append_right (by omega)] at hj
      have := (List.getElem?_eq_some_iff.1 hj).1
      simp at this
      obtain rfl : j = us.length := by omega
      simp at hj
      subst hj
      exact ⟨e, by rw [h.lu]; exact he, hE.mono hB⟩
  · obtain ⟨j, hj, rfl⟩ := List.getElem_of_mem hv
    obtain ⟨e', he', hE'⟩ := h.els j _ (List.getElem?_eq_getElem hj)
    have := (hE'.own_blk hg).2
    have := (hE.own_blk hg').1
    omega
/-- How long an element's parts are. -/
def SmE (e : Raw) : Prop := e.2.1.length ≤ 100000 ∧ e.2.2.length ≤ 100000
theorem TwL.last {B : Nat} {w : World} {A : Option Addr} {n c : Nat} {us : List Value} {es : List Raw} (h : TwL B w A n c us es) :
    ∃ g q d, A = some ⟨g, 0, none⟩ ∧ w.cell? ⟨g, n * 3, none⟩ = some (.bool false) ∧ w.cell? ⟨g, n * 3 + 1, none⟩ = some (.slice none 0 0) ∧ w.cell? ⟨g, n * 3 + 2, none⟩ = some (.slice (some ⟨q, 0, none⟩) 1 d) ∧ w.cell? ⟨q, 0, none⟩ = some (.int .u32 77) := by
  obtain ⟨q, d, cs, h1, h2, h3⟩ := h.row
  have hf := h.flen
  obtain ⟨g, e, _, _, _, c0, _⟩ := h1.at_ (i := n * 3) (by omega)
  obtain ⟨g1, e1, _, _, _, c1, _⟩ := h1.at_ (i := n * 3 + 1) (by omega)
  obtain ⟨g2, e2, _, _, _, c2, _⟩ := h1.at_ (i := n * 3 + 2) (by omega)
  rw [e] at e1 e2
  cases e1
  cases e2
  refine ⟨g, q, d, e, ?_, ?_, ?_, h2.at_ 0 h3⟩
  · rw [c0, List.getElem?_append_right (by omega), hf, Nat.sub_self]; rfl
  · rw [c1, List.getElem?_append_right (by omega), hf, show n * 3 + 1 - n * 3 = 1 by omega]; rfl
  · rw [c2, List.getElem?_append_right (by omega), hf, show n * 3 + 2 - n * 3 = 2 by omega]; rfl
end Go.Proofs.YtfpnhggbfakdkaaDoor

/- laws of vecs that compare: what a call answers, whatever it is told. -/
set_option linter.unusedVariables false
set_option linter.unusedSimpArgs false
set_option maxRecDepth 100000
namespace Go.Proofs.YtfpnhggbfakdkaaDoor
open Go.RowKit

theorem Tw.xs {B : Nat} {w : World} {A : Option Addr} {n c : Nat} {xs : List Nat} (h : Tw B w A n c xs) : xs.length = n := by
  have := h.rd.1
  simp at this
  omega
theorem TwE.arg {B : Nat} {w : World} {u : Value} {e : Raw} (h : TwE B w u e) : RArg w u (rvE e) := by
  obtain ⟨X, nx, cx, Y, ny, cy, e1, h1, h2, h3⟩ := h
  have l1 := h1.len
  have l2 := h2.len
  have x1 := h1.xs
  have x2 := h2.xs
  exact ⟨e.1, e.2.1, e.2.2, ⟨_, _, e1, h1.prt, h2.prt⟩, by omega, by omega, rfl⟩
section
variable (es fs : List Raw) (e0 : Raw)
def dotK : Int := if fits es fs = true then 0 else 1
def dotZ : Int := if fits es fs = true then (dot (es.map rvE) (fs.map rvE)).num else 0
def dotN : Nat := if fits es fs = true then (dot (es.map rvE) (fs.map rvE)).den else 0
def addK : Int := if (fits es fs && rk e0) = true then 0 else 1
def addL : List Rat := if (fits es fs && rk e0) = true then axpy (es.map rvE) (fs.map rvE) (rvE e0) else []
def sameB : Bool := fits es fs && decide (es.map rvE = fs.map rvE)
end
section
variable {w : World} {v v' u0 : Value} {es fs : List Raw} {e0 : Raw} {k : Nat}
end
end Go.Proofs.YtfpnhggbfakdkaaDoor
