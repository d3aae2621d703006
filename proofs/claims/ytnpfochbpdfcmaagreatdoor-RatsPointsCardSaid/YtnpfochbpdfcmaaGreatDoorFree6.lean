/- What stands behind a region that makes a variable: its store. -/
import Derived.Test.YtnpfochbpdfcmaaGreatDoorKk
set_option linter.unusedVariables false
set_option linter.unusedSimpArgs false
set_option maxRecDepth 100000
namespace Go.Proofs.YtnpfochbpdfcmaaGreatDoor
open Go.RowKit

/-- What one gives, beside something that is known. -/
def Fact.tupE (f : Fact) (c : Value) : Fact := ⟨fun v w => ∃ u, v = .tuple #[u, c] ∧ f.holds u w, fun _ w w' ⟨u, h1, h2⟩ hb => ⟨u, h1, f.stable _ w w' h2 hb⟩⟩
section
variable {V w : World} {g : Nat} {ops : Array Oper} {Q : Exit → Act → World → Prop} {o : Oper} {rest : List Oper} {a : Act} {p x : Operand}
theorem wpList_storeR {c0 c1 c2 : Value} {b : Bool} {A D : Option Addr} {n c m k : Nat} (hC : Below V.heap.size V w) (lp : V.heap.size ≤ g) (kp : Blk w g TR #[c0, c1, c2]) (hgd : o.guard = none) (hd : o.dst = none) (ho : o.op = .store TR p x) (hp : a.eval p = .pointer (some ⟨g, 0, none⟩)) (hx : a.eval x = .agg #[.bool b, .slice A n c, .slice D m k])
    (h : ∀ W', Below V.heap.size V W' → Hid (Blk W' g TR #[.bool b, .slice A n c, .slice D m k]) → Hid (Only g w W') → wpList Tryz.prog ops Q rest a W') : wpList Tryz.prog ops Q (o :: rest) a w := by
  refine wpList_plain hgd fun K hK => ?_
  have q0 : w.cell? ⟨g, 0, none⟩ = some c0 := kp.at_ 0 rfl
  have p0 : w.frozen? ⟨g, 0, none⟩ = false := kp.frozen 0
  have q1 : w.cell? ⟨g, 1, none⟩ = some c1 := kp.at_ 1 rfl
  have p1 : w.frozen? ⟨g, 1, none⟩ = false := kp.frozen 1
  have q2 : w.cell? ⟨g, 2, none⟩ = some c2 := kp.at_ 2 rfl
  have p2 : w.frozen? ⟨g, 2, none⟩ = false := kp.frozen 2
  have e : (execOp a.eval o).run Tryz.prog w = .ok .skip (((w.setCell ⟨g, 0, none⟩ (.bool b)).setCell ⟨g, 1, none⟩ (.slice A n c)).setCell ⟨g, 2, none⟩ (.slice D m k)) := by
    simp only [execOp, ho, hp, hx]
    simp [go_sem, q0, p0, q1, p1, q2, p2]
  unfold Oper.wp
  rw [e]
  refine hK _ _ ?_
  rw [hd]
  exact h _ (((hC.setCell (p := ⟨g, 0, none⟩) lp (.bool b)).setCell (p := ⟨g, 1, none⟩) lp (.slice A n c)).setCell (p := ⟨g, 2, none⟩) lp (.slice D m k)) (((kp.set_ 0 (.bool b)).set_ 1 (.slice A n c)).set_ 2 (.slice D m k)) ((((Only.refl _ _).set _ _).set _ _).set _ _)
theorem wpList_storeI {c0 c1 : Value} {b : Bool} {A D : Option Addr} {n c m k : Nat} (hC : Below V.heap.size V w) (lp : V.heap.size ≤ g) (kp : Blk w g 25 #[c0, c1]) (hgd : o.guard = none) (hd : o.dst = none) (ho : o.op = .store 25 p x) (hp : a.eval p = .pointer (some ⟨g, 0, none⟩)) (hx : a.eval x = .agg #[.bool b, .slice A n c])
    (h : ∀ W', Below V.heap.size V W' → Hid (Blk W' g 25 #[.bool b, .slice A n c]) → Hid (Only g w W') → wpList Tryz.prog ops Q rest a W') : wpList Tryz.prog ops Q (o :: rest) a w := by
  refine wpList_plain hgd fun K hK => ?_
  have q0 : w.cell? ⟨g, 0, none⟩ = some c0 := kp.at_ 0 rfl
  have p0 : w.frozen? ⟨g, 0, none⟩ = false := kp.frozen 0
  have q1 : w.cell? ⟨g, 1, none⟩ = some c1 := kp.at_ 1 rfl
  have p1 : w.frozen? ⟨g, 1, none⟩ = false := kp.frozen 1
  have e : (execOp a.eval o).run Tryz.prog w = .ok .skip ((w.setCell ⟨g, 0, none⟩ (.bool b)).setCell ⟨g, 1, none⟩ (.slice A n c)) := by
    simp only [execOp, ho, hp, hx]
    simp [go_sem, q0, p0, q1, p1]
  unfold Oper.wp
  rw [e]
  refine hK _ _ ?_
  rw [hd]
  exact h _ ((hC.setCell (p := ⟨g, 0, none⟩) lp (.bool b)).setCell (p := ⟨g, 1, none⟩) lp (.slice A n c)) ((kp.set_ 0 (.bool b)).set_ 1 (.slice A n c)) (((Only.refl _ _).set _ _).set _ _)
end
theorem run_alloc_Rat (w : World) (a : Act) (d : Option Tmp) (t : TypeId) (p : String) (e : Array Edge) (gd : Option (Nat × Bool)) : (execOp a.eval ⟨d, .alloc TR, t, p, e, gd⟩).run Tryz.prog w = .ok (.value (.pointer (some ⟨w.heap.size, 0, none⟩))) (w.alloc (.cells (Value.agg #[.bool false, .slice none 0 0, .slice none 0 0]).cells TR)) := by
  simp [execOp, go_sem, Value.cells]
theorem run_alloc_Int_ (w : World) (a : Act) (d : Option Tmp) (t : TypeId) (p : String) (e : Array Edge) (gd : Option (Nat × Bool)) : (execOp a.eval ⟨d, .alloc 25, t, p, e, gd⟩).run Tryz.prog w = .ok (.value (.pointer (some ⟨w.heap.size, 0, none⟩))) (w.alloc (.cells (Value.agg #[.bool false, .slice none 0 0]).cells 25)) := by
  simp [execOp, go_sem, Value.cells]
theorem rDiv_T {w : World} {v1 v2 : Value} {p q : Rat} (B : Nat) (hB : B ≤ w.heap.size) (h1 : RCan w v1 p) (s1 : H p 100000000000) (h2 : RCan w v2 q) (s2 : H q 100000000000) (hT : Tab w) (hq : q ≠ 0) :
    Calls Tryz.prog 32 #[v1, v2] w fun e w' => ∃ u, e = .returned u ∧ Below w.heap.size w w' ∧ (Fact.tupE (.ratR (p / q) B) (.int .i64 0)).holds u w' :=
  (rDiv_ok h1 s1 h2 s2 hT hq).mono fun e w' ⟨u, h1, h2, h3⟩ => ⟨_, h1, h2, u, rfl, h3.mono hB⟩
theorem rDiv_Z {w : World} {v1 v2 : Value} {p q : Rat} (h1 : RCan w v1 p) (s1 : H p 100000000000) (h2 : RCan w v2 q) (s2 : H q 100000000000) (hT : Tab w) (hq : q = 0) :
    Calls Tryz.prog 32 #[v1, v2] w fun e w' => ∃ u, e = .returned u ∧ Below w.heap.size w w' ∧ u = .tuple #[.agg #[.bool false, .slice none 0 0, .slice none 0 0], .int .i64 10] :=
  (rDiv_zero h1 s1 h2 s2 hT hq).mono fun e w' ⟨h1, h2⟩ => ⟨_, h1, h2, rfl⟩
theorem rMake_T {w : World} {v1 v2 : Value} {z n : Int} (B : Nat) (hB : B ≤ w.heap.size) (h1 : ICan w v1 z) (s1 : L z.natAbs ≤ 1000000000000) (h2 : ICan w v2 n) (s2 : L n.natAbs ≤ 1000000000000) (hT : Tab w) (hq : n ≠ 0) :
    Calls Tryz.prog 27 #[v1, v2] w fun e w' => ∃ u, e = .returned u ∧ Below w.heap.size w w' ∧ (Fact.tupE (.ratR (Rat.divInt z n) B) (.int .i64 0)).holds u w' :=
  (rMake_ok h1 h2 s1 s2 hq hT).mono fun e w' ⟨u, h1, h2, h3⟩ => ⟨_, h1, h2, u, rfl, h3.mono hB⟩
theorem rMake_Z {w : World} {v1 v2 : Value} {z n : Int} (h1 : ICan w v1 z) (s1 : L z.natAbs ≤ 1000000000000) (h2 : ICan w v2 n) (s2 : L n.natAbs ≤ 1000000000000) (hT : Tab w) (hq : n = 0) :
    Calls Tryz.prog 27 #[v1, v2] w fun e w' => ∃ u, e = .returned u ∧ Below w.heap.size w w' ∧ u = .tuple #[.agg #[.bool false, .slice none 0 0, .slice none 0 0], .int .i64 10] :=
  (rMake_zero h1 h2 s1 s2 hq hT).mono fun e w' ⟨h1, h2⟩ => ⟨_, h1, h2, rfl⟩
theorem fn_rDiv (args : Array Value) (w : World) : (callFunc 32 args).run Tryz.prog w = .ok (.enter 32 args) w := callFunc_enter Tryz.func32 (by kernel_rfl) rfl args w
theorem fn_rMake (args : Array Value) (w : World) : (callFunc 27 args).run Tryz.prog w = .ok (.enter 27 args) w := callFunc_enter Tryz.func27 (by kernel_rfl) rfl args w
theorem fn_rWhole (args : Array Value) (w : World) : (callFunc 36 args).run Tryz.prog w = .ok (.enter 36 args) w := callFunc_enter Tryz.func36 (by kernel_rfl) rfl args w
theorem rAdd_R {w : World} {v v' : Value} {p q : Rat} (B : Nat) (hB : B ≤ w.heap.size) (h : RArg w v p) (h' : RArg w v' q) (hT : Tab w) :
    Calls Tryz.prog 24 #[v, v'] w fun e w' => ∃ u, e = .returned u ∧ Below w.heap.size w w' ∧ RatR (p + q) B w' u :=
  (rAdd_P h h' hT).mono fun e w' ⟨u, h1, h2, h3⟩ => ⟨u, h1, h2, h3.mono hB⟩
theorem rMul_R {w : World} {v v' : Value} {p q : Rat} (B : Nat) (hB : B ≤ w.heap.size) (h : RArg w v p) (h' : RArg w v' q) (hT : Tab w) :
    Calls Tryz.prog 25 #[v, v'] w fun e w' => ∃ u, e = .returned u ∧ Below w.heap.size w w' ∧ RatR (p * q) B w' u :=
  (rMul_P h h' hT).mono fun e w' ⟨u, h1, h2, h3⟩ => ⟨u, h1, h2, h3.mono hB⟩
end Go.Proofs.YtnpfochbpdfcmaaGreatDoor
