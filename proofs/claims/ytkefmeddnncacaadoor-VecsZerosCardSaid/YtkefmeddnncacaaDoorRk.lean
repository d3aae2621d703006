/- the document's answer for nats: guess, takes, gives. -/
import Derived.Test.YtkefmeddnncacaaDoorRj
import Derived.Test.YtkefmeddnncacaaDoorIA
set_option linter.unusedVariables false
set_option linter.unusedSimpArgs false
set_option maxRecDepth 100000
namespace Go.Proofs.YtkefmeddnncacaaDoor
open Go.RowKit

theorem Only.drewN {g : Nat} {w W : World} (h : Only g w W) (n : Nat) : Only g w (W.drewN n) := ⟨h.size, h.block⟩
theorem Only.rd {g : Nat} {w W : World} (h : Only g w W) {k : IntKind} {A : Option Addr} {n : Nat} {xs : List Nat} (r : Rdk k w A n xs) (hne : ∀ ad, A = some ad → ad.block ≠ g) : Rdk k W A n xs :=
  ⟨r.1, r.2.1, fun h0 => by
    obtain ⟨ad, e, hl, hc⟩ := r.2.2 h0
    exact ⟨ad, e, by rw [h.size]; exact hl, fun j hj => by
      have hb : (ad.add j).block = ad.block := by unfold Addr.add; split <;> rfl
      rw [h.cell (by rw [hb]; exact hne ad e)]
      exact hc j hj⟩⟩
theorem Only.blk {g g' : Nat} {w W : World} (h : Only g w W) {t : TypeId} {cs : Array Value} (k : Blk w g' t cs) (hne : g' ≠ g) : Blk W g' t cs := k.keep (h.block g' hne)
end Go.Proofs.YtkefmeddnncacaaDoor
