/- ints: contracts as the walks of regions ask. -/
import Derived.Test.YtnpfochbpdfcmaaGreatDoorIh
set_option linter.unusedVariables false
set_option linter.unusedSimpArgs false
set_option maxRecDepth 100000
namespace Go.Proofs.YtnpfochbpdfcmaaGreatDoor
open Go.RowKit

theorem back64_in {z : Int} (h0 : -9223372036854775808 ≤ z) (h1 : z < 9223372036854775808) : back64 z = #[.int .i64 z, .int .i64 0] := by unfold back64; rw [if_pos ⟨h0, h1⟩]
theorem back64_out {z : Int} (h : ¬(-9223372036854775808 ≤ z ∧ z < 9223372036854775808)) : back64 z = #[.int .i64 0, .int .i64 3] := by unfold back64; rw [if_neg h]
theorem Z_64 {z : Int} (h0 : -9223372036854775808 ≤ z) (h1 : z < 9223372036854775808) : L z.natAbs ≤ 2 := L_le.2 (by show z.natAbs < 18446744073709551616; omega)
theorem int_one {z : Int} {B : Nat} {w : World} {v : Value} (h : IntR z B w v) (h0 : 0 < z.natAbs) (h1 : z.natAbs < 4294967296) : ∃ g c, v = .agg #[.bool (decide (z < 0)), .slice (some ⟨g, 0, none⟩) 1 c] ∧ 1 ≤ c ∧ w.cell? ⟨g, 0, none⟩ = some (.int .u32 (z.natAbs : Int)) ∧ g < w.heap.size := by
  obtain ⟨u, rfl, A, c, rfl, r, f, l⟩ := h
  have e := limbs_small h0 h1
  rw [e] at r l ⊢
  rcases f with f | ⟨g, cs, e1, hB, hk, hc⟩
  · simp at l; omega
  · subst e1
    obtain ⟨ad, e2, hl, hcl⟩ := r.2.2 (by simp)
    cases e2
    refine ⟨g, c, rfl, l, ?_, hl⟩
    have := hcl 0 (by simp)
    rw [add0] at this
    exact this
theorem iBack_in {w : World} {v : Value} {z : Int} (h : ICan w v z) (hl : L z.natAbs ≤ 1000000000000) (h0 : -9223372036854775808 ≤ z) (h1 : z < 9223372036854775808) :
    Calls Tryz.prog 37 #[v] w fun e w' => e = .returned (.tuple #[.int .i64 z, .int .i64 0]) ∧ Below w.heap.size w w' :=
  (iBack_ok h hl).mono fun e w' ⟨h2, h3⟩ => ⟨by rw [h2, back64_in h0 h1], h3.out⟩
theorem iBack_out {w : World} {v : Value} {z : Int} (h : ICan w v z) (hl : L z.natAbs ≤ 1000000000000) (h0 : z < -9223372036854775808 ∨ 9223372036854775807 < z) :
    Calls Tryz.prog 37 #[v] w fun e w' => e = .returned (.tuple #[.int .i64 0, .int .i64 3]) ∧ Below w.heap.size w w' :=
  (iBack_ok h hl).mono fun e w' ⟨h2, h3⟩ => ⟨by rw [h2, back64_out (by omega)], h3.out⟩
theorem ican_lit {w : World} {u : Value} {N : Nat} (h : Can w u N) (z : Int) (hz : z = (N : Int)) : ICan w (.agg #[.bool false, u]) z := by
  subst hz
  refine ⟨u, ?_, by rw [Int.natAbs_natCast]; exact h⟩
  rw [decide_eq_false (by omega)]
theorem big_lit : L (9223372036854775808 : Int).natAbs ≤ 1000000000000 := by
  have : (9223372036854775808 : Int).natAbs = 9223372036854775808 := rfl
  rw [this]
  exact L_up (L_le.2 (show (9223372036854775808 : Nat) < 4294967296 ^ 2 by decide)) (by decide)
theorem Blk.new_at (w : World) (g : Nat) (hg : w.heap.size = g) (t : TypeId) (cs : Array Value) : Blk (w.alloc (.cells cs t)) g t cs := by subst hg; exact Blk.new w t cs
theorem lit_at (w : World) (g : Nat) (hg : w.heap.size = g) (xs : List Nat) (N : Nat) (hN : val xs = N) (h : Is32 xs) (hc : chk xs = true) (hl : xs.length ≤ 1000) : Can (w.alloc (.cells (cellsOf .u32 xs) T32)) (.slice (some ⟨g, 0, none⟩) xs.length xs.length) N := by subst hg; exact lit w xs N hN h hc hl
/-- A cell of a block. -/
def CellAt (w : World) (a : Addr) (v : Value) : Prop := w.cell? a = some v
theorem CellAt.below {w w' : World} {a : Addr} {v : Value} (h : CellAt w a v) (hb : Below w.heap.size w w') : CellAt w' a v := cell_below hb h
theorem iAdd_C {w : World} {v v' : Value} {x y : Int} (h : IArg w v x) (h' : IArg w v' y) : Calls Tryz.prog 66 #[v, v'] w fun e w' => ∃ u, e = .returned u ∧ Below w.heap.size w w' ∧ ICan w' u (x + y) :=
  (iAdd_ok h h').mono fun e w' ⟨u, h1, h2, h3⟩ => ⟨u, h1, h2, h3.can⟩
theorem iSub_C {w : World} {v v' : Value} {x y : Int} (h : IArg w v x) (h' : IArg w v' y) : Calls Tryz.prog 75 #[v, v'] w fun e w' => ∃ u, e = .returned u ∧ Below w.heap.size w w' ∧ ICan w' u (x - y) :=
  (iSub_ok h h').mono fun e w' ⟨u, h1, h2, h3⟩ => ⟨u, h1, h2, h3.can⟩
theorem iMul_C {w : World} {v v' : Value} {x y : Int} (h : IArg w v x) (h' : IArg w v' y) : Calls Tryz.prog 28 #[v, v'] w fun e w' => ∃ u, e = .returned u ∧ Below w.heap.size w w' ∧ ICan w' u (x * y) :=
  (iMul_ok h h').mono fun e w' ⟨u, h1, h2, h3⟩ => ⟨u, h1, h2, h3.can⟩
theorem iNeg_C {w : World} {v : Value} {x : Int} (h : IArg w v x) : Calls Tryz.prog 68 #[v] w fun e w' => ∃ u, e = .returned u ∧ Below w.heap.size w w' ∧ ICan w' u (-x) :=
  (iNeg_ok h).mono fun e w' ⟨u, h1, h2, h3⟩ => ⟨u, h1, h2, h3.can⟩
theorem iCheck_can {w : World} {v : Value} {x : Int} (h : ICan w v x) (hl : L x.natAbs ≤ 1000000000000) : Calls Tryz.prog 26 #[v] w fun e w' => ∃ u, e = .returned u ∧ Below w.heap.size w w' ∧ u = .bool true :=
  (iCheck_ok (h.prt (L_up hl (by decide)))).mono fun e w' ⟨h1, h2⟩ => ⟨_, h1, h2.out, by rw [iok_self]⟩
theorem iCmp_eq {w : World} {v v' : Value} {x y r : Int} (h : IArg w v x) (h' : IArg w v' y) (hr : cmpI x y = r) : Calls Tryz.prog 78 #[v, v'] w fun e w' => ∃ u, e = .returned u ∧ Below w.heap.size w w' ∧ u = .int .i64 r :=
  (iCmp_ok h h').mono fun e w' ⟨u, h1, h2, h3⟩ => ⟨u, h1, h2, by rw [h3, hr]⟩
theorem iSign_eq {w : World} {v : Value} {x r : Int} (h : IArg w v x) (hr : cmpI x 0 = r) : Calls Tryz.prog 29 #[v] w fun e w' => ∃ u, e = .returned u ∧ Below w.heap.size w w' ∧ u = .int .i64 r :=
  (iSign_ok h).mono fun e w' ⟨u, h1, h2, h3⟩ => ⟨u, h1, h2, by rw [h3, hr]⟩
theorem fn_iAdd (args : Array Value) (w : World) : (callFunc 66 args).run Tryz.prog w = .ok (.enter 66 args) w := callFunc_enter Tryz.func66 (by kernel_rfl) rfl args w
theorem fn_iSub (args : Array Value) (w : World) : (callFunc 75 args).run Tryz.prog w = .ok (.enter 75 args) w := callFunc_enter Tryz.func75 (by kernel_rfl) rfl args w
theorem fn_iMul (args : Array Value) (w : World) : (callFunc 28 args).run Tryz.prog w = .ok (.enter 28 args) w := callFunc_enter Tryz.func28 (by kernel_rfl) rfl args w
theorem fn_iNeg (args : Array Value) (w : World) : (callFunc 68 args).run Tryz.prog w = .ok (.enter 68 args) w := callFunc_enter Tryz.func68 (by kernel_rfl) rfl args w
theorem fn_iCheck (args : Array Value) (w : World) : (callFunc 26 args).run Tryz.prog w = .ok (.enter 26 args) w := callFunc_enter Tryz.func26 (by kernel_rfl) rfl args w
theorem fn_iCmp (args : Array Value) (w : World) : (callFunc 78 args).run Tryz.prog w = .ok (.enter 78 args) w := callFunc_enter Tryz.func78 (by kernel_rfl) rfl args w
theorem fn_iSign (args : Array Value) (w : World) : (callFunc 29 args).run Tryz.prog w = .ok (.enter 29 args) w := callFunc_enter Tryz.func29 (by kernel_rfl) rfl args w
theorem does_zero {o : Oper} {a : Act} {w : World} {G : Tmp → Value → World → Prop} (ho : o.op = .build 25 #[]) (h : ∀ t, o.dst = some t → G t (.agg #[.bool false, .slice none 0 0]) w) :
    Does Tryz.prog o a w (fun v w' => Below w.heap.size w w' ∧ (∀ t, o.dst = some t → G t v w') ∧ NewB o v w w') :=
  does_value (v := .agg #[.bool false, .slice none 0 0]) (by simp [execOp, ho, go_sem]) ⟨Below.refl _ _, h, .no fun T e => by rw [ho] at e; cases e⟩
/-- The parts of an argument. -/
theorem iprt_of {w : World} {A : Option Addr} {n c : Nat} {xs : List Nat} {b : Bool} (h : Rd w A n xs) (h32 : Is32 xs) (hc : n ≤ c) (hn : n ≤ 1000000000000) : IArg w (.agg #[.bool b, .slice A n c]) (iv b xs) :=
  ⟨b, xs, ⟨_, rfl, A, n, c, rfl, hc, Nat.le_trans hn (by decide), h, h32⟩, by rw [h.1]; exact hn, rfl⟩
end Go.Proofs.YtnpfochbpdfcmaaGreatDoor
