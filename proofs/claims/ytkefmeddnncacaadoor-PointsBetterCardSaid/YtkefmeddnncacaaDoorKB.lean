/- rats: Parse; contracts in words of the laws. -/
import Derived.Test.YtkefmeddnncacaaDoorKA
import Derived.Test.YtkefmeddnncacaaDoorLz
/- rats: digits, plain, number. -/
set_option linter.unusedVariables false
set_option linter.unusedSimpArgs false
set_option maxRecDepth 100000
namespace Go.Proofs.YtkefmeddnncacaaDoor
open Go.RowKit

end Go.Proofs.YtkefmeddnncacaaDoor

/- rats: Parse. -/
set_option linter.unusedVariables false
set_option linter.unusedSimpArgs false
set_option maxRecDepth 100000
namespace Go.Proofs.YtkefmeddnncacaaDoor
open Go.RowKit

/-- What a text comes to. -/
def RPost (r : Rat ⊕ Int) (B : Nat) (e : Ending) (w : World) : Prop :=
  match r with
  | .inl q => ∃ u, e = .returned (.tuple #[u, .int .i64 0]) ∧ RatR q B w u
  | .inr c => e = .returned (.tuple #[.agg #[.bool false, .slice none 0 0, .slice none 0 0], .int .i64 c])
end Go.Proofs.YtkefmeddnncacaaDoor

/- rats: the laws' read; some answers that the document fixes. -/
set_option linter.unusedVariables false
set_option linter.unusedSimpArgs false
set_option maxRecDepth 100000
namespace Go.Proofs.YtkefmeddnncacaaDoor
open Go.RowKit

def s_1_0 : ByteArray := ⟨#[49, 47, 48]⟩
def Fact.prt2 (N M : Nat) : Fact := ⟨fun v w => RPrt w v false (limbs N) (limbs M), fun _ _ _ h hb => h.below hb⟩
end Go.Proofs.YtkefmeddnncacaaDoor

/- the laws of rats: contracts as their walks ask. -/
set_option linter.unusedVariables false
set_option linter.unusedSimpArgs false
set_option maxRecDepth 100000
namespace Go.Proofs.YtkefmeddnncacaaDoor
open Go.RowKit

theorem rCmp_eq {w : World} {v v' : Value} {p q : Rat} (h : RArg w v p) (h' : RArg w v' q) (hT : Tab w) (r : Int) (hr : cmpQ p q = r) :
    Calls Tryd.prog 85 #[v, v'] w fun e w' => ∃ u, e = .returned u ∧ Below w.heap.size w w' ∧ u = .int .i64 r :=
  (rCmp_P h h' hT).mono fun e w' ⟨u, h1, h2, h3⟩ => ⟨u, h1, h2, by rw [h3, hr]⟩
/-- The parts of an argument. -/
theorem rprt_of {w : World} {A D : Option Addr} {n c m k : Nat} {xs ys : List Nat} (b : Bool) (h : Rd w A n xs) (h32 : Is32 xs) (hc : n ≤ c) (hn : n ≤ 4398046511104) (h' : Rd w D m ys) (h32' : Is32 ys) (hk : m ≤ k) (hm : m ≤ 4398046511104) : RPrt w (.agg #[.bool b, .slice A n c, .slice D m k]) b xs ys :=
  ⟨_, _, rfl, ⟨A, n, c, rfl, hc, hn, h, h32⟩, ⟨D, m, k, rfl, hk, hm, h', h32'⟩⟩
theorem RPrt.arg {w : World} {v : Value} {b : Bool} {xs ys : List Nat} (h : RPrt w v b xs ys) (l1 : xs.length ≤ 100000000000) (l2 : ys.length ≤ 100000000000) : RArg w v (rv b xs ys) := ⟨b, xs, ys, h, l1, l2, rfl⟩
end Go.Proofs.YtkefmeddnncacaaDoor

/- What stands behind a region that makes a variable: its store. -/
set_option linter.unusedVariables false
set_option linter.unusedSimpArgs false
set_option maxRecDepth 100000
namespace Go.Proofs.YtkefmeddnncacaaDoor
open Go.RowKit

/-- What one gives, beside something that is known. -/
def Fact.tupE (f : Fact) (c : Value) : Fact := ⟨fun v w => ∃ u, v = .tuple #[u, c] ∧ f.holds u w, fun _ w w' ⟨u, h1, h2⟩ hb => ⟨u, h1, f.stable _ w w' h2 hb⟩⟩
section
variable {V w : World} {g : Nat} {ops : Array Oper} {Q : Exit → Act → World → Prop} {o : Oper} {rest : List Oper} {a : Act} {p x : Operand}
end
end Go.Proofs.YtkefmeddnncacaaDoor
