/- ints: what the walks of regions lean on. -/
import Derived.Test.YtnpfochbpdfcmaaGreatDoorIb
set_option linter.unusedVariables false
set_option linter.unusedSimpArgs false
set_option maxRecDepth 100000
namespace Go.Proofs.YtnpfochbpdfcmaaGreatDoor
open Go.RowKit

theorem callFunc_enter {P : Program} {f : FuncId} {fn : Func} {c : Code} (hf : P.funcs[f]? = some fn) (hname : (fn.name == "runtime.NumGoroutine") = false) (hb : fn.body = some c) (args : Array Value) (w : World) :
    (callFunc f args).run P w = .ok (.enter f args) w := by
  have h1 : fn.name ≠ "runtime.NumGoroutine" := by simpa using hname
  simp [callFunc, hf, h1, hb]
theorem mixed : (Tryz.prog).follows .mixedOrders = true := by kernel_rfl
section
variable {w : World} {g : Nat}
theorem fa_Int0 : (Instr.fieldAt 25 (.pointer (some ⟨g, 0, none⟩)) 0).run Tryz.prog w = .ok (.pointer (some ⟨g, 0, none⟩)) w := by simp [go_sem]
theorem fa_Int1 : (Instr.fieldAt 25 (.pointer (some ⟨g, 0, none⟩)) 1).run Tryz.prog w = .ok (.pointer (some ⟨g, 1, none⟩)) w := by simp [go_sem]
theorem fa_whole0 : (Instr.fieldAt 95 (.pointer (some ⟨g, 0, none⟩)) 0).run Tryz.prog w = .ok (.pointer (some ⟨g, 0, none⟩)) w := by simp [go_sem]
theorem fa_whole1 : (Instr.fieldAt 95 (.pointer (some ⟨g, 0, none⟩)) 1).run Tryz.prog w = .ok (.pointer (some ⟨g, 1, none⟩)) w := by simp [go_sem]
theorem ld_bool {i : Nat} {b : Bool} (h : w.cell? ⟨g, i, none⟩ = some (.bool b)) : (Instr.loadAt 4 (.pointer (some ⟨g, i, none⟩))).run Tryz.prog w = .ok (.bool b) w := by simp [go_sem, h]
theorem ld_Nat {i n c : Nat} {A : Option Addr} (h : w.cell? ⟨g, i, none⟩ = some (.slice A n c)) : (Instr.loadAt 23 (.pointer (some ⟨g, i, none⟩))).run Tryz.prog w = .ok (.slice A n c) w := by simp [go_sem, h]
theorem ld_Int {b : Bool} {u : Value} (h : Blk w g 25 #[.bool b, u]) : (Instr.loadAt 25 (.pointer (some ⟨g, 0, none⟩))).run Tryz.prog w = .ok (.agg #[.bool b, u]) w := by
  have h0 := h.cell 0
  have h1 := h.cell 1
  simp at h0 h1
  simp [go_sem, h0, h1]
theorem ld_whole {b : Bool} {u : Value} (h : Blk w g 95 #[.bool b, u]) : (Instr.loadAt 95 (.pointer (some ⟨g, 0, none⟩))).run Tryz.prog w = .ok (.agg #[.bool b, u]) w := by
  have h0 := h.cell 0
  have h1 := h.cell 1
  simp at h0 h1
  simp [go_sem, h0, h1]
end
theorem Blk.at_ {w : World} {g : Nat} {t : TypeId} {cs : Array Value} (h : Blk w g t cs) (i : Nat) {v : Value} (hv : cs[i]? = some v) : w.cell? ⟨g, i, none⟩ = some v := (h.cell i).trans hv
theorem alloc2 (w : World) (c1 c2 : Array Value) (t1 t2 : TypeId) : ∃ W, (w.alloc (.cells c1 t1)).alloc (.cells c2 t2) = W ∧ Hid (Blk W w.heap.size t1 c1) ∧ Hid (Blk W (w.heap.size + 1) t2 c2) ∧ Hid (Below w.heap.size w W) ∧ Hid (W.heap.size = w.heap.size + 1 + 1) := by
  refine ⟨_, rfl, (Blk.new w t1 c1).alloc _, ?_, ((Below.refl _ _).alloc (Nat.le_refl _) _).alloc (by simp) _, ?_⟩
  · have := Blk.new (w.alloc (.cells c1 t1)) t2 c2
    rwa [World.size_alloc] at this
  · show _ = _
    simp
theorem alloc3 (w : World) (c1 c2 c3 : Array Value) (t1 t2 t3 : TypeId) : ∃ W, ((w.alloc (.cells c1 t1)).alloc (.cells c2 t2)).alloc (.cells c3 t3) = W ∧ Hid (Blk W w.heap.size t1 c1) ∧ Hid (Blk W (w.heap.size + 1) t2 c2) ∧ Hid (Blk W (w.heap.size + 1 + 1) t3 c3) ∧ Hid (Below w.heap.size w W) ∧ Hid (W.heap.size = w.heap.size + 1 + 1 + 1) := by
  obtain ⟨W, rfl, k1, k2, b, z⟩ := alloc2 w c1 c2 t1 t2
  refine ⟨_, rfl, k1.out.alloc _, k2.out.alloc _, ?_, b.out.alloc b.out.size _, ?_⟩
  · have := Blk.new ((w.alloc (.cells c1 t1)).alloc (.cells c2 t2)) t3 c3
    rwa [z.out] at this
  · show _ = _
    simp
theorem alloc4 (w : World) (c1 c2 c3 c4 : Array Value) (t1 t2 t3 t4 : TypeId) : ∃ W, (((w.alloc (.cells c1 t1)).alloc (.cells c2 t2)).alloc (.cells c3 t3)).alloc (.cells c4 t4) = W ∧ Hid (Blk W w.heap.size t1 c1) ∧ Hid (Blk W (w.heap.size + 1) t2 c2) ∧ Hid (Blk W (w.heap.size + 1 + 1) t3 c3) ∧ Hid (Blk W (w.heap.size + 1 + 1 + 1) t4 c4) ∧ Hid (Below w.heap.size w W) ∧ Hid (W.heap.size = w.heap.size + 1 + 1 + 1 + 1) := by
  obtain ⟨W, rfl, k1, k2, k3, b, z⟩ := alloc3 w c1 c2 c3 t1 t2 t3
  refine ⟨_, rfl, k1.out.alloc _, k2.out.alloc _, k3.out.alloc _, ?_, b.out.alloc b.out.size _, ?_⟩
  · have := Blk.new (((w.alloc (.cells c1 t1)).alloc (.cells c2 t2)).alloc (.cells c3 t3)) t4 c4
    rwa [z.out] at this
  · show _ = _
    simp
theorem IntR.only {z : Int} {B g : Nat} {w W : World} {v : Value} {t : TypeId} {cs : Array Value} (h : IntR z B w v) (hb : Blk w g t cs) (ht : T32 ≠ t) (F : Only g w W) : IntR z B W v := by
  obtain ⟨u, e, h1⟩ := h
  exact ⟨u, e, h1.only hb ht F⟩
theorem IntR.slice {z : Int} {B : Nat} {w : World} {v : Value} (h : IntR z B w v) : ∃ b A n c, v = .agg #[.bool b, .slice A n c] := by
  obtain ⟨u, e, A, c, rfl, _⟩ := h
  exact ⟨_, A, _, c, e⟩
theorem ICan.slice {z : Int} {w : World} {v : Value} (h : ICan w v z) : ∃ b A n c, v = .agg #[.bool b, .slice A n c] := by
  obtain ⟨u, e, A, c, rfl, _⟩ := h
  exact ⟨_, A, _, c, e⟩
def Fact.natR (N B : Nat) : Fact := ⟨fun v w => NatR N B w v, fun _ _ _ h hb => h.below hb⟩
def Fact.intR (z : Int) (B : Nat) : Fact := ⟨fun v w => IntR z B w v, fun _ _ _ h hb => h.below hb⟩
theorem nAdd_F {w : World} {v v' : Value} {M N : Nat} (B : Nat) (hB : B ≤ w.heap.size) (h : Can w v M) (h' : Can w v' N) (s : L M ≤ 4398046511104) (s' : L N ≤ 4398046511104) :
    Calls Tryz.prog 135 #[v, v'] w fun e w' => ∃ u, e = .returned u ∧ Below w.heap.size w w' ∧ NatR (M + N) B w' u :=
  (Add_arg (h.arg s) (h'.arg s')).mono fun e w' ⟨u, e1, h1, h2⟩ => ⟨u, e1, h2.out, h1.out.mono hB⟩
theorem nMul_F {w : World} {v v' : Value} {M N : Nat} (B : Nat) (hB : B ≤ w.heap.size) (h : Can w v M) (h' : Can w v' N) (s : L M ≤ 4398046511104) (s' : L N ≤ 4398046511104) :
    Calls Tryz.prog 71 #[v, v'] w fun e w' => ∃ u, e = .returned u ∧ Below w.heap.size w w' ∧ NatR (M * N) B w' u :=
  (Mul_arg (h.arg s) (h'.arg s')).mono fun e w' ⟨u, e1, h1, h2⟩ => ⟨u, e1, h2.out, h1.out.mono hB⟩
theorem isigned_F {w : World} {u : Value} {b : Bool} {N B : Nat} {z : Int} (h : NatR N B w u) (h1 : z.natAbs = N) (h2 : decide (z < 0) = (b && decide (N ≠ 0))) :
    Calls Tryz.prog 70 #[.bool b, u] w fun e w' => ∃ v, e = .returned v ∧ Below w.heap.size w w' ∧ IntR z B w' v :=
  (isigned_ok h.can).mono fun e w' ⟨e1, hb⟩ => ⟨_, e1, hb.out, intR_of_parts (h.below hb.out) h1 h2⟩
theorem fn_signed (args : Array Value) (w : World) : (callFunc 70 args).run Tryz.prog w = .ok (.enter 70 args) w := callFunc_enter Tryz.func70 (by kernel_rfl) rfl args w
theorem fn_of (args : Array Value) (w : World) : (callFunc 69 args).run Tryz.prog w = .ok (.enter 69 args) w := callFunc_enter Tryz.func69 (by kernel_rfl) rfl args w
theorem fn_Mul (args : Array Value) (w : World) : (callFunc 71 args).run Tryz.prog w = .ok (.enter 71 args) w := callFunc_enter Tryz.func71 (by kernel_rfl) rfl args w
theorem fn_Cmp (args : Array Value) (w : World) : (callFunc 112 args).run Tryz.prog w = .ok (.enter 112 args) w := callFunc_enter Tryz.func112 (by kernel_rfl) rfl args w
theorem fn_plus (args : Array Value) (w : World) : (callFunc 115 args).run Tryz.prog w = .ok (.enter 115 args) w := callFunc_enter Tryz.func115 (by kernel_rfl) rfl args w
theorem fn_sign (args : Array Value) (w : World) : (callFunc 72 args).run Tryz.prog w = .ok (.enter 72 args) w := callFunc_enter Tryz.func72 (by kernel_rfl) rfl args w
theorem fn_turned (args : Array Value) (w : World) : (callFunc 116 args).run Tryz.prog w = .ok (.enter 116 args) w := callFunc_enter Tryz.func116 (by kernel_rfl) rfl args w
theorem fn_Add (args : Array Value) (w : World) : (callFunc 135 args).run Tryz.prog w = .ok (.enter 135 args) w := callFunc_enter Tryz.func135 (by kernel_rfl) rfl args w
end Go.Proofs.YtnpfochbpdfcmaaGreatDoor
