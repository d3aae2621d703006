/- lists of fractions in regions that draw and write. -/
import Derived.Test.YthnhcbdecgkacaaGreatDoorVt
set_option linter.unusedVariables false
set_option linter.unusedSimpArgs false
set_option maxRecDepth 100000
namespace Go.Proofs.YthnhcbdecgkacaaGreatDoor.RR
open Go.RowKit

def Fact.lst0 {B : Nat} (w : World) (qs : List Rat) : Fact B := ⟨fun v _ => Lst RCan w v qs, fun _ _ _ h _ => h⟩
theorem vDot_R {w : World} {v v' : Value} {ps qs : List Rat} {k : Nat} (B : Nat) (hB : B ≤ w.heap.size) (h : Lst RCan w v ps) (h' : Lst RCan w v' qs) (hl : ps.length = qs.length) (hp : Hs ps k) (hq : Hs qs k) (hk : 1 + ps.length * (2 * k + 1) ≤ 100000000000) (hT : Tab w) {B' : Nat} :
    Calls Tryz.prog 46 #[v, v'] w fun e w' => ∃ u, e = .returned u ∧ Below w.heap.size w w' ∧ (Fact.tupE (B := B') (.ratR (dot ps qs) B) (.int .i64 0)).holds u w' := by
  obtain ⟨A, c, rfl⟩ := h.sl
  obtain ⟨A', c', rfl⟩ := h'.sl
  rw [← hl] at h' ⊢
  exact (vDot_ok w A A' _ c c' ps qs k h h' hp hq hk hT).mono fun e w' ⟨u, h1, h2, h3⟩ => ⟨_, h1, h2, u, rfl, h3.mono hB⟩
end Go.Proofs.YthnhcbdecgkacaaGreatDoor.RR
