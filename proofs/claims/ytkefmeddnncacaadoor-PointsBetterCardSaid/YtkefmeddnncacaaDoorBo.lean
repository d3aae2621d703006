/- laws of rats that compare: what a call answers, by its parts. -/
import Derived.Test.YtkefmeddnncacaaDoorBn
import Derived.Test.YtkefmeddnncacaaDoorKA
import Derived.Test.YtkefmeddnncacaaDoorKB
set_option linter.unusedVariables false
set_option linter.unusedSimpArgs false
set_option maxRecDepth 100000
namespace Go.Proofs.YtkefmeddnncacaaDoor
open Go.RowKit

/-- A whole number above, and one below, in memory of their own. -/
structure PR (z : Int) (N B : Nat) (w : World) (s : Bool) (A : Option Addr) (n c : Nat) (D : Option Addr) (m k : Nat) : Prop where
  i : IntR z B w (.agg #[.bool s, .slice A n c])
  d : NatR N B w (.slice D m k)
  sp : Sep (.slice A n c) (.slice D m k)
theorem PR.below {z : Int} {N B : Nat} {w w' : World} {s : Bool} {A D : Option Addr} {n c m k : Nat} (h : PR z N B w s A n c D m k) (hb : Below w.heap.size w w') : PR z N B w' s A n c D m k := ⟨h.i.below hb, h.d.below hb, h.sp⟩
theorem PR.of {q : Rat} {B : Nat} {w : World} {s : Bool} {A D : Option Addr} {n c m k : Nat} (h : RatR q B w (.agg #[.bool s, .slice A n c, .slice D m k])) : PR q.num q.den B w s A n c D m k := by
  obtain ⟨u, d, e, h1, h2, h3⟩ := h
  cases e
  exact ⟨⟨_, rfl, h1⟩, h2, h3⟩
theorem PR.zero (B : Nat) (w : World) : PR 0 0 B w false none 0 0 none 0 0 := ⟨⟨_, rfl, NatR.zero _ _⟩, NatR.zero _ _, Sep.nil _⟩
theorem PR.len {z : Int} {N B : Nat} {w : World} {s : Bool} {A D : Option Addr} {n c m k : Nat} (h : PR z N B w s A n c D m k) : n = L z.natAbs ∧ m = L N := ⟨intR_len h.i, natR_len h.d⟩
theorem PR.next {B : Nat} {w w' : World} {es : List Ent} {z : Int} {N : Nat} {s : Bool} {A D : Option Addr} {n c m k : Nat} (h : HW B w es) (kb : Below w.heap.size w w') (r : PR z N w.heap.size w' s A n c D m k) (hB : B ≤ w.heap.size) (l1 : L z.natAbs ≤ 500000) (l2 : L N ≤ 500000) {i i' : Nat} (hk : i ≤ 100000) (hk' : i' ≤ 100000) :
    HW B w' (es ++ [⟨A, n, c, none, 0, 0, i⟩] ++ [⟨D, m, k, none, 0, 0, i'⟩]) := by
  obtain ⟨_, e1⟩ := r.i.lrow
  obtain ⟨_, e2⟩ := r.d.lrow
  exact HW.next2 h kb e1 e2 r.sp hB (by rw [r.len.1]; exact l1) (by rw [r.len.2]; exact l2) hk hk'
theorem Tw.next {B : Nat} {w w' : World} {es : List Ent} {xs ys : List Nat} {X Y : Option Addr} {n c m k : Nat} (h : HW B w es) (kb : Below w.heap.size w w') (t1 : Tw w.heap.size w' X n c xs) (t2 : Tw w.heap.size w' Y m k ys) (sp : Sep (.slice X n c) (.slice Y m k)) (hB : B ≤ w.heap.size) {i i' : Nat} (hk : i ≤ 100000) (hk' : i' ≤ 100000) :
    HW B w' (es ++ [⟨X, n, c, none, 0, 0, i⟩] ++ [⟨Y, m, k, none, 0, 0, i'⟩]) := by
  obtain ⟨_, e1⟩ := t1.lrow
  obtain ⟨_, e2⟩ := t2.lrow
  exact HW.next2 h kb e1 e2 sp hB (by have := t1.len; omega) (by have := t2.len; omega) hk hk'
/-! ### a quotient -/
def dvZ (b1 : Bool) (xs1 ys1 : List Nat) (b2 : Bool) (xs2 ys2 : List Nat) : Int := if (rok b1 xs1 ys1 && rok b2 xs2 ys2) = true then if rv b2 xs2 ys2 = 0 then 0 else (rv b1 xs1 ys1 / rv b2 xs2 ys2).num else 0
def dvN (b1 : Bool) (xs1 ys1 : List Nat) (b2 : Bool) (xs2 ys2 : List Nat) : Nat := if (rok b1 xs1 ys1 && rok b2 xs2 ys2) = true then if rv b2 xs2 ys2 = 0 then 0 else (rv b1 xs1 ys1 / rv b2 xs2 ys2).den else 0
def dvK (b1 : Bool) (xs1 ys1 : List Nat) (b2 : Bool) (xs2 ys2 : List Nat) : Int := if (rok b1 xs1 ys1 && rok b2 xs2 ys2) = true then if rv b2 xs2 ys2 = 0 then 10 else 0 else 1
section
variable {w : World} {v v' : Value} {b1 b2 : Bool} {xs1 ys1 xs2 ys2 : List Nat}
end
theorem krCmp_eq {w : World} {v v' : Value} {p q : Rat} (h : RArg w v p) (h' : RArg w v' q) (z1 : H p 100000) (z2 : H q 100000) {r : Int} (hr : cmpQ p q = r) :
    Calls Tryd.prog 86 #[v, v'] w fun e w' => ∃ u, e = .returned u ∧ Below w.heap.size w w' ∧ u = .int .i64 r := (krCmp_P h h' z1 z2).mono fun e w' ⟨u, q1, q2, q3⟩ => ⟨u, q1, q2, by rw [q3, hr]⟩
end Go.Proofs.YtkefmeddnncacaaDoor
