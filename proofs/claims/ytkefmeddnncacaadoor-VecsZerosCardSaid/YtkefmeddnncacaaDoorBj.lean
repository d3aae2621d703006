/- laws of ints that compare with the document's answer: words. -/
import Derived.Test.YtkefmeddnncacaaDoorBi
import Derived.Test.YtkefmeddnncacaaDoorRh
import Derived.Test.YtkefmeddnncacaaDoorJd
set_option linter.unusedVariables false
set_option linter.unusedSimpArgs false
set_option maxRecDepth 100000
namespace Go.Proofs.YtkefmeddnncacaaDoor
open Go.RowKit

theorem Tw.only {B g B' : Nat} {w W : World} {A : Option Addr} {n c : Nat} {xs : List Nat} {t : TypeId} {cs : Array Value} (h : Tw B' w A n c xs) (hB : B ≤ B') (hb : Blk w g t cs) (ht : T32 ≠ t) (F : Only g w W) : Tw B W A n c xs := by
  obtain ⟨h1, h2, h3, h4, h5⟩ := h
  rcases h2 with h2 | ⟨ga, ca, rfl, hg, hk, hc⟩
  · omega
  · have hne : ga ≠ g := fun e => by subst e; exact hk.type_ne hb ht rfl
    have hk' : Blk W ga T32 ca := hk.keep (F.block ga hne)
    refine ⟨⟨h1.1, h1.2.1, fun hn => ?_⟩, .inr ⟨ga, ca, rfl, Nat.le_trans hB hg, hk', hc⟩, h3, h4, h5⟩
    obtain ⟨ad, e, hl, hcl⟩ := h1.2.2 hn
    cases e
    refine ⟨_, rfl, hk'.lt, fun j hj => ?_⟩
    have := hcl j hj
    rw [add0, hk.cell] at this
    rw [add0, hk'.cell]
    exact this
theorem IntR.lrow {z : Int} {B : Nat} {w : World} {s : Bool} {A : Option Addr} {n c : Nat} (h : IntR z B w (.agg #[.bool s, .slice A n c])) : ∃ xs, LRow B w A n c xs := by
  obtain ⟨u, e1, r⟩ := h
  have : u = .slice A n c := by simp at e1; exact e1.2.symm
  subst this
  exact r.lrow
theorem intR_len {z : Int} {B : Nat} {w : World} {s : Bool} {A : Option Addr} {n c : Nat} (h : IntR z B w (.agg #[.bool s, .slice A n c])) : n = L z.natAbs := by
  obtain ⟨u, e1, r⟩ := h
  have : u = .slice A n c := by simp at e1; exact e1.2.symm
  subst this
  exact natR_len r
end Go.Proofs.YtkefmeddnncacaaDoor
