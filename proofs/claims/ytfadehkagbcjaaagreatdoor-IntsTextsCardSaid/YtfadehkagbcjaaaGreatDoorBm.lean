/- laws of ints that compare: contracts as their regions ask. -/
import Derived.Test.YtfadehkagbcjaaaGreatDoorBj
import Derived.Test.YtfadehkagbcjaaaGreatDoorKA
set_option linter.unusedVariables false
set_option linter.unusedSimpArgs false
set_option maxRecDepth 100000
namespace Go.Proofs.YtfadehkagbcjaaaGreatDoor
open Go.RowKit

theorem qCmp_eq {w : World} {v v' : Value} {x y : Int} (h : IArg w v x) (h' : IArg w v' y) (z1 : L x.natAbs ≤ 1000000) (z2 : L y.natAbs ≤ 1000000) {r : Int} (hr : cmpI x y = r) :
    Calls Tryz.prog 20 #[v, v'] w fun e w' => ∃ u, e = .returned u ∧ Below w.heap.size w w' ∧ u = .int .i64 r :=
  (qCmp_ok h h' z1 z2).mono fun e w' ⟨u, q1, q2, q3⟩ => ⟨u, q1, q2, by rw [q3, hr]⟩
theorem qSign_eq {w : World} {v : Value} {x : Int} (h : IArg w v x) {r : Int} (hr : cmpI x 0 = r) :
    Calls Tryz.prog 22 #[v] w fun e w' => ∃ u, e = .returned u ∧ Below w.heap.size w w' ∧ u = .int .i64 r :=
  (qSign_ok h).mono fun e w' ⟨u, q1, q2, q3⟩ => ⟨u, q1, q2, by rw [q3, hr]⟩
theorem qAdd_C {w : World} {v v' : Value} {x y : Int} (h : IArg w v x) (h' : IArg w v' y) :
    Calls Tryz.prog 24 #[v, v'] w fun e w' => ∃ u, e = .returned u ∧ Below w.heap.size w w' ∧ ICan w' u (x + y) := (qAdd_ok h h').mono fun e w' ⟨u, q1, q2, q3⟩ => ⟨u, q1, q2, q3.can⟩
theorem qSub_C {w : World} {v v' : Value} {x y : Int} (h : IArg w v x) (h' : IArg w v' y) :
    Calls Tryz.prog 25 #[v, v'] w fun e w' => ∃ u, e = .returned u ∧ Below w.heap.size w w' ∧ ICan w' u (x - y) := (qSub_ok h h').mono fun e w' ⟨u, q1, q2, q3⟩ => ⟨u, q1, q2, q3.can⟩
theorem qMul_C {w : World} {v v' : Value} {x y : Int} (h : IArg w v x) (h' : IArg w v' y) :
    Calls Tryz.prog 26 #[v, v'] w fun e w' => ∃ u, e = .returned u ∧ Below w.heap.size w w' ∧ ICan w' u (x * y) := (qMul_ok h h').mono fun e w' ⟨u, q1, q2, q3⟩ => ⟨u, q1, q2, q3.can⟩
theorem qNeg_C {w : World} {v : Value} {x : Int} (h : IArg w v x) :
    Calls Tryz.prog 27 #[v] w fun e w' => ∃ u, e = .returned u ∧ Below w.heap.size w w' ∧ ICan w' u (-x) := (qNeg_ok h).mono fun e w' ⟨u, q1, q2, q3⟩ => ⟨u, q1, q2, q3.can⟩
theorem sameInt_yes {w : World} {v v' : Value} {z : Int} (h : ICan w v z) (h' : ICan w v' z) :
    Calls Tryz.prog 23 #[v, v'] w fun e w' => ∃ u, e = .returned u ∧ Below w.heap.size w w' ∧ u = .bool true :=
  (iSame_ok h h').mono fun e w' ⟨u, q1, q2, q3⟩ => ⟨u, q1, q2, by rw [q3]; simp⟩
theorem left_C {B : Nat} {w : World} {A X : Option Addr} {b : Bool} {n c cx : Nat} {xs : List Nat} (h : Tw B w X n cx xs) (h' : Prt w (.slice A n c) xs) :
    Calls Tryz.prog 28 #[.agg #[.bool b, .slice X n cx], .agg #[.bool b, .slice A n c]] w fun e w' => ∃ u, e = .returned u ∧ Below w.heap.size w w' ∧ u = .bool true :=
  (ip_left h h').mono fun e w' ⟨q1, q2⟩ => ⟨_, q1, q2.out, rfl⟩
end Go.Proofs.YtfadehkagbcjaaaGreatDoor
