/- the laws of ints: contracts as the walks of regions ask. -/
import Derived.Test.YtcdejccbamjdoaaDoorJa
set_option linter.unusedVariables false
set_option linter.unusedSimpArgs false
set_option maxRecDepth 100000
namespace Go.Proofs.YtcdejccbamjdoaaDoor
open Go.RowKit

theorem iAdd_C {w : World} {v v' : Value} {x y : Int} (h : IArg w v x) (h' : IArg w v' y) : Calls Tryd.prog 18 #[v, v'] w fun e w' => ∃ u, e = .returned u ∧ Below w.heap.size w w' ∧ ICan w' u (x + y) :=
  (iAdd_ok h h').mono fun e w' ⟨u, h1, h2, h3⟩ => ⟨u, h1, h2, h3.can⟩
theorem iSub_C {w : World} {v v' : Value} {x y : Int} (h : IArg w v x) (h' : IArg w v' y) : Calls Tryd.prog 25 #[v, v'] w fun e w' => ∃ u, e = .returned u ∧ Below w.heap.size w w' ∧ ICan w' u (x - y) :=
  (iSub_ok h h').mono fun e w' ⟨u, h1, h2, h3⟩ => ⟨u, h1, h2, h3.can⟩
theorem iMul_C {w : World} {v v' : Value} {x y : Int} (h : IArg w v x) (h' : IArg w v' y) : Calls Tryd.prog 19 #[v, v'] w fun e w' => ∃ u, e = .returned u ∧ Below w.heap.size w w' ∧ ICan w' u (x * y) :=
  (iMul_ok h h').mono fun e w' ⟨u, h1, h2, h3⟩ => ⟨u, h1, h2, h3.can⟩
theorem iNeg_C {w : World} {v : Value} {x : Int} (h : IArg w v x) : Calls Tryd.prog 26 #[v] w fun e w' => ∃ u, e = .returned u ∧ Below w.heap.size w w' ∧ ICan w' u (-x) :=
  (iNeg_ok h).mono fun e w' ⟨u, h1, h2, h3⟩ => ⟨u, h1, h2, h3.can⟩
theorem iCheck_can {w : World} {v : Value} {x : Int} (h : ICan w v x) (hl : L x.natAbs ≤ 1000000000000) : Calls Tryd.prog 20 #[v] w fun e w' => ∃ u, e = .returned u ∧ Below w.heap.size w w' ∧ u = .bool true :=
  (iCheck_ok (h.prt (L_up hl (by decide)))).mono fun e w' ⟨h1, h2⟩ => ⟨_, h1, h2.out, by rw [iok_self]⟩
theorem iCmp_eq {w : World} {v v' : Value} {x y r : Int} (h : IArg w v x) (h' : IArg w v' y) (hr : cmpI x y = r) : Calls Tryd.prog 23 #[v, v'] w fun e w' => ∃ u, e = .returned u ∧ Below w.heap.size w w' ∧ u = .int .i64 r :=
  (iCmp_ok h h').mono fun e w' ⟨u, h1, h2, h3⟩ => ⟨u, h1, h2, by rw [h3, hr]⟩
theorem iSign_eq {w : World} {v : Value} {x r : Int} (h : IArg w v x) (hr : cmpI x 0 = r) : Calls Tryd.prog 24 #[v] w fun e w' => ∃ u, e = .returned u ∧ Below w.heap.size w w' ∧ u = .int .i64 r :=
  (iSign_ok h).mono fun e w' ⟨u, h1, h2, h3⟩ => ⟨u, h1, h2, by rw [h3, hr]⟩
theorem ialive_F (w : World) : Calls Tryd.prog 17 #[] w fun e w' => ∃ u, e = .returned u ∧ Below w.heap.size w w' ∧ u = .bool true :=
  (ialive_ok w).mono fun e w' ⟨h1, h2⟩ => ⟨_, h1, h2.out, rfl⟩
theorem fn_iAdd (args : Array Value) (w : World) : (callFunc 18 args).run Tryd.prog w = .ok (.enter 18 args) w := callFunc_enter Tryd.func18 (by kernel_rfl) rfl args w
theorem fn_iSub (args : Array Value) (w : World) : (callFunc 25 args).run Tryd.prog w = .ok (.enter 25 args) w := callFunc_enter Tryd.func25 (by kernel_rfl) rfl args w
theorem fn_iMul (args : Array Value) (w : World) : (callFunc 19 args).run Tryd.prog w = .ok (.enter 19 args) w := callFunc_enter Tryd.func19 (by kernel_rfl) rfl args w
theorem fn_iNeg (args : Array Value) (w : World) : (callFunc 26 args).run Tryd.prog w = .ok (.enter 26 args) w := callFunc_enter Tryd.func26 (by kernel_rfl) rfl args w
theorem fn_iCheck (args : Array Value) (w : World) : (callFunc 20 args).run Tryd.prog w = .ok (.enter 20 args) w := callFunc_enter Tryd.func20 (by kernel_rfl) rfl args w
theorem fn_iCmp (args : Array Value) (w : World) : (callFunc 23 args).run Tryd.prog w = .ok (.enter 23 args) w := callFunc_enter Tryd.func23 (by kernel_rfl) rfl args w
theorem fn_iSign (args : Array Value) (w : World) : (callFunc 24 args).run Tryd.prog w = .ok (.enter 24 args) w := callFunc_enter Tryd.func24 (by kernel_rfl) rfl args w
theorem fn_isame (args : Array Value) (w : World) : (callFunc 21 args).run Tryd.prog w = .ok (.enter 21 args) w := callFunc_enter Tryd.func21 (by kernel_rfl) rfl args w
theorem fn_ismall (args : Array Value) (w : World) : (callFunc 31 args).run Tryd.prog w = .ok (.enter 31 args) w := callFunc_enter Tryd.func31 (by kernel_rfl) rfl args w
theorem fn_ialive (args : Array Value) (w : World) : (callFunc 17 args).run Tryd.prog w = .ok (.enter 17 args) w := callFunc_enter Tryd.func17 (by kernel_rfl) rfl args w
theorem does_zero {o : Oper} {a : Act} {w : World} {G : Tmp → Value → World → Prop} (ho : o.op = .build 25 #[]) (h : ∀ t, o.dst = some t → G t (.agg #[.bool false, .slice none 0 0]) w) :
    Does Tryd.prog o a w (fun v w' => Below w.heap.size w w' ∧ (∀ t, o.dst = some t → G t v w') ∧ NewB o v w w') :=
  does_value (v := .agg #[.bool false, .slice none 0 0]) (by simp [execOp, ho, go_sem]) ⟨Below.refl _ _, h, .no fun T e => by rw [ho] at e; cases e⟩
/-- The parts of an argument. -/
theorem iprt_of {w : World} {A : Option Addr} {n c : Nat} {xs : List Nat} {b : Bool} (h : Rd w A n xs) (h32 : Is32 xs) (hc : n ≤ c) (hn : n ≤ 1000000000000) : IArg w (.agg #[.bool b, .slice A n c]) (iv b xs) :=
  ⟨b, xs, ⟨_, rfl, A, n, c, rfl, hc, Nat.le_trans hn (by decide), h, h32⟩, by rw [h.1]; exact hn, rfl⟩
end Go.Proofs.YtcdejccbamjdoaaDoor
