/- rats: Parse; contracts in words of the laws. -/
import Derived.Test.YtfpnhggbfakdkaaDoorKA
import Derived.Test.YtfpnhggbfakdkaaDoorLz
/- rats: digits, plain, number. -/
set_option linter.unusedVariables false
set_option linter.unusedSimpArgs false
set_option maxRecDepth 100000
namespace Go.Proofs.YtfpnhggbfakdkaaDoor
open Go.RowKit

end Go.Proofs.YtfpnhggbfakdkaaDoor

/- rats: Parse. -/
set_option linter.unusedVariables false
set_option linter.unusedSimpArgs false
set_option maxRecDepth 100000
namespace Go.Proofs.YtfpnhggbfakdkaaDoor
open Go.RowKit

/-- What a text comes to. -/
def RPost (r : Rat ⊕ Int) (B : Nat) (e : Ending) (w : World) : Prop :=
  match r with
  | .inl q => ∃ u, e = .returned (.tuple #[u, .int .i64 0]) ∧ RatR q B w u
  | .inr c => e = .returned (.tuple #[.agg #[.bool false, .slice none 0 0, .slice none 0 0], .int .i64 c])
end Go.Proofs.YtfpnhggbfakdkaaDoor

/- rats: the laws' read; some answers that the document fixes. -/
set_option linter.unusedVariables false
set_option linter.unusedSimpArgs false
set_option maxRecDepth 100000
namespace Go.Proofs.YtfpnhggbfakdkaaDoor
open Go.RowKit

def s_1_0 : ByteArray := ⟨#[49, 47, 48]⟩
def Fact.prt2 (N M : Nat) : Fact := ⟨fun v w => RPrt w v false (limbs N) (limbs M), fun _ _ _ h hb => h.below hb⟩
theorem rMul_C {w : World} {v v' : Value} {p q : Rat} (h : RArg w v p) (h' : RArg w v' q) (hT : Tab w) :
    Calls Tryd.prog 47 #[v, v'] w fun e w' => ∃ u, e = .returned u ∧ Below w.heap.size w w' ∧ RCan w' u (p * q) :=
  (rMul_P h h' hT).mono fun e w' ⟨u, h1, h2, h3⟩ => ⟨u, h1, h2, h3.can⟩
theorem fn_rAdd (args : Array Value) (w : World) : (callFunc 46 args).run Tryd.prog w = .ok (.enter 46 args) w := callFunc_enter Tryd.func46 (by kernel_rfl) rfl args w
theorem fn_rMul (args : Array Value) (w : World) : (callFunc 47 args).run Tryd.prog w = .ok (.enter 47 args) w := callFunc_enter Tryd.func47 (by kernel_rfl) rfl args w
end Go.Proofs.YtfpnhggbfakdkaaDoor

/- the laws of rats: contracts as their walks ask. -/
set_option linter.unusedVariables false
set_option linter.unusedSimpArgs false
set_option maxRecDepth 100000
namespace Go.Proofs.YtfpnhggbfakdkaaDoor
open Go.RowKit

theorem rCheck_can {w : World} {v : Value} {q : Rat} (h : RCan w v q) (hl : H q 100000000000) (hT : Tab w) :
    Calls Tryd.prog 24 #[v] w fun e w' => ∃ u, e = .returned u ∧ Below w.heap.size w w' ∧ u = .bool true := rCheck_P (h.prt (hl.up (by decide))) hT true (rok_self q)
theorem rCmp_eq {w : World} {v v' : Value} {p q : Rat} (h : RArg w v p) (h' : RArg w v' q) (hT : Tab w) (r : Int) (hr : cmpQ p q = r) :
    Calls Tryd.prog 43 #[v, v'] w fun e w' => ∃ u, e = .returned u ∧ Below w.heap.size w w' ∧ u = .int .i64 r :=
  (rCmp_P h h' hT).mono fun e w' ⟨u, h1, h2, h3⟩ => ⟨u, h1, h2, by rw [h3, hr]⟩
theorem rSign_eq {w : World} {v : Value} {q : Rat} (h : RArg w v q) (hT : Tab w) (r : Int) (hr : cmpQ q 0 = r) :
    Calls Tryd.prog 56 #[v] w fun e w' => ∃ u, e = .returned u ∧ Below w.heap.size w w' ∧ u = .int .i64 r :=
  (rSign_P h hT).mono fun e w' ⟨u, h1, h2, h3⟩ => ⟨u, h1, h2, by rw [h3, hr]⟩
/-- The parts of an argument. -/
theorem rprt_of {w : World} {A D : Option Addr} {n c m k : Nat} {xs ys : List Nat} (b : Bool) (h : Rd w A n xs) (h32 : Is32 xs) (hc : n ≤ c) (hn : n ≤ 4398046511104) (h' : Rd w D m ys) (h32' : Is32 ys) (hk : m ≤ k) (hm : m ≤ 4398046511104) : RPrt w (.agg #[.bool b, .slice A n c, .slice D m k]) b xs ys :=
  ⟨_, _, rfl, ⟨A, n, c, rfl, hc, hn, h, h32⟩, ⟨D, m, k, rfl, hk, hm, h', h32'⟩⟩
theorem RPrt.arg {w : World} {v : Value} {b : Bool} {xs ys : List Nat} (h : RPrt w v b xs ys) (l1 : xs.length ≤ 100000000000) (l2 : ys.length ≤ 100000000000) : RArg w v (rv b xs ys) := ⟨b, xs, ys, h, l1, l2, rfl⟩
theorem cmpQ_e {a b : Rat} (h : a = b) : cmpQ a b = 0 := by rw [h]; exact cmpQ_eq b
end Go.Proofs.YtfpnhggbfakdkaaDoor

/- What stands behind a region that makes a variable: its store. -/
set_option linter.unusedVariables false
set_option linter.unusedSimpArgs false
set_option maxRecDepth 100000
namespace Go.Proofs.YtfpnhggbfakdkaaDoor
open Go.RowKit

/-- What one gives, beside something that is known. -/
def Fact.tupE (f : Fact) (c : Value) : Fact := ⟨fun v w => ∃ u, v = .tuple #[u, c] ∧ f.holds u w, fun _ w w' ⟨u, h1, h2⟩ hb => ⟨u, h1, f.stable _ w w' h2 hb⟩⟩
section
variable {V w : World} {g : Nat} {ops : Array Oper} {Q : Exit → Act → World → Prop} {o : Oper} {rest : List Oper} {a : Act} {p x : Operand}
end
theorem run_alloc_Rat (w : World) (a : Act) (d : Option Tmp) (t : TypeId) (p : String) (e : Array Edge) (gd : Option (Nat × Bool)) : (execOp a.eval ⟨d, .alloc TR, t, p, e, gd⟩).run Tryd.prog w = .ok (.value (.pointer (some ⟨w.heap.size, 0, none⟩))) (w.alloc (.cells (Value.agg #[.bool false, .slice none 0 0, .slice none 0 0]).cells TR)) := by
  simp [execOp, go_sem, Value.cells]
theorem rDiv_T {w : World} {v1 v2 : Value} {p q : Rat} (B : Nat) (hB : B ≤ w.heap.size) (h1 : RCan w v1 p) (s1 : H p 100000000000) (h2 : RCan w v2 q) (s2 : H q 100000000000) (hT : Tab w) (hq : q ≠ 0) :
    Calls Tryd.prog 40 #[v1, v2] w fun e w' => ∃ u, e = .returned u ∧ Below w.heap.size w w' ∧ (Fact.tupE (.ratR (p / q) B) (.int .i64 0)).holds u w' :=
  (rDiv_ok h1 s1 h2 s2 hT hq).mono fun e w' ⟨u, h1, h2, h3⟩ => ⟨_, h1, h2, u, rfl, h3.mono hB⟩
theorem rAdd_R {w : World} {v v' : Value} {p q : Rat} (B : Nat) (hB : B ≤ w.heap.size) (h : RArg w v p) (h' : RArg w v' q) (hT : Tab w) :
    Calls Tryd.prog 46 #[v, v'] w fun e w' => ∃ u, e = .returned u ∧ Below w.heap.size w w' ∧ RatR (p + q) B w' u :=
  (rAdd_P h h' hT).mono fun e w' ⟨u, h1, h2, h3⟩ => ⟨u, h1, h2, h3.mono hB⟩
end Go.Proofs.YtfpnhggbfakdkaaDoor
