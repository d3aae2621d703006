/- the document's answer for rats: Of, Neg, Sub, Sign, Whole, Div, Make. -/
import Derived.Test.YtkefmeddnncacaaGreatDoorRp
set_option linter.unusedVariables false
set_option linter.unusedSimpArgs false
set_option maxRecDepth 100000
namespace Go.Proofs.YtkefmeddnncacaaGreatDoor
open Go.RowKit

def Fact.negR (p : Rat) (B : Nat) : Fact := ⟨fun v w => ∃ b A n c D m k, v = .agg #[.bool b, .slice A n c, .slice D m k] ∧ IntR (-p.num) B w (.agg #[.bool b, .slice A n c]) ∧ NatR p.den B w (.slice D m k), fun _ _ _ ⟨b, A, n, c, D, m, k, h1, h2, h3⟩ hb => ⟨b, A, n, c, D, m, k, h1, h2.below hb, h3.below hb⟩⟩
set_option maxHeartbeats 2000000 in
theorem krWhole_P {w : World} {v : Value} {p : Rat} (h : RArg w v p) :
    Calls Tryz.prog 17 #[v] w fun e w' => ∃ u, e = .returned u ∧ Below w.heap.size w w' ∧ u = .bool (decide (p.den = 1)) := by
  refine opq fun R hR => ?_
  obtain ⟨b1, A1, n1, c1, D1, m1, k1, rfl⟩ := h.slice
  have S1 := hide h.size
  replace h := hide h
  go_enter Tryz.func17, Tryz.ntmps17
  have b0 := hide (Below.refl w.heap.size w)
  have K1 := hide (Blk.new_at w (w.heap.size) (by simp) 27 #[.bool b1, .slice A1 n1 c1, .slice D1 m1 k1])
  have y := (Below.refl w.heap.size w).alloc (Nat.le_refl _) (.cells #[.bool b1, .slice A1 n1 c1, .slice D1 m1 k1] 27)
  replace b0 := hide (below_tr b0.out y)
  clear y
  have K1c0 : (w.alloc (.cells #[.bool b1, .slice A1 n1 c1, .slice D1 m1 k1] 27)).cell? ⟨w.heap.size, 0, none⟩ = some (.bool b1) := K1.out.at_ 0 rfl
  have K1c1 : (w.alloc (.cells #[.bool b1, .slice A1 n1 c1, .slice D1 m1 k1] 27)).cell? ⟨w.heap.size, 1, none⟩ = some (.slice A1 n1 c1) := K1.out.at_ 1 rfl
  have K1c2 : (w.alloc (.cells #[.bool b1, .slice A1 n1 c1, .slice D1 m1 k1] 27)).cell? ⟨w.heap.size, 2, none⟩ = some (.slice D1 m1 k1) := K1.out.at_ 2 rfl
  go_wp2_with fail
  refine (krFit_P h.out b0.out w.heap.size b0.out.size).mono ?_
  rintro e w1 ⟨v7, rfl, d0, r7⟩
  replace K1 := hide (K1.out.below' d0)
  replace b0 := hide (below_tr b0.out d0)
  clear d0
  have P1 := hide r7
  clear r7
  obtain ⟨b7, A7, n7, c7, D7, m7, k7, rfl⟩ := P1.out.slice
  clear K1c0 K1c1 K1c2
  have K1f0 : w1.frozen? ⟨w.heap.size, 0, none⟩ = false := K1.out.frozen 0
  have K1f1 : w1.frozen? ⟨w.heap.size, 1, none⟩ = false := K1.out.frozen 1
  have K1f2 : w1.frozen? ⟨w.heap.size, 2, none⟩ = false := K1.out.frozen 2
  have K1c0 : w1.cell? ⟨w.heap.size, 0, none⟩ = some (.bool b1) := K1.out.at_ 0 rfl
  have K1c1 : w1.cell? ⟨w.heap.size, 1, none⟩ = some (.slice A1 n1 c1) := K1.out.at_ 1 rfl
  have K1c2 : w1.cell? ⟨w.heap.size, 2, none⟩ = some (.slice D1 m1 k1) := K1.out.at_ 2 rfl
  have F : Only (w.heap.size) w1 (((w1.setCell ⟨w.heap.size, 0, none⟩ (.bool b7)).setCell ⟨w.heap.size, 1, none⟩ (.slice A7 n7 c7)).setCell ⟨w.heap.size, 2, none⟩ (.slice D7 m7 k7)) := ((((Only.refl _ _).set _ _).set _ _).set _ _)
  have b1' : Hid (Below w.heap.size w (((w1.setCell ⟨w.heap.size, 0, none⟩ (.bool b7)).setCell ⟨w.heap.size, 1, none⟩ (.slice A7 n7 c7)).setCell ⟨w.heap.size, 2, none⟩ (.slice D7 m7 k7))) := (by (repeat (first | exact b0 | exact Below.refl _ _ | refine Below.setCell ?_ (by first | (simp; done) | (simp; omega)) _ | refine Below.alloc ?_ (by first | (simp; done) | (simp; omega)) _)))
  have G := hide (RCan.den ((P1.out.only K1.out (by decide) F).can b1'.out))
  clear F P1
  rcases can_is1 G.out with ⟨e1, rfl, ad, rfl, hc⟩ | ⟨e1, rfl, ad, x, rfl, hc, hx⟩ | ⟨e1, hx⟩
  · replace e1 := hide e1
    go_wp2
    exact opq_end hR ⟨_, rfl, b1'.out, by simp [e1.out]⟩
  · replace e1 := hide e1
    go_wp2
    exact opq_end hR ⟨_, rfl, b1'.out, by simp [e1.out]⟩
  · replace e1 := hide e1
    go_wp2
    exact opq_end hR ⟨_, rfl, b1'.out, by simp [e1.out]⟩
theorem ICan.sign {w : World} {b : Bool} {u : Value} {z : Int} (h : ICan w (.agg #[.bool b, u]) z) : decide (z < 0) = b := h.nat.2
end Go.Proofs.YtkefmeddnncacaaGreatDoor
