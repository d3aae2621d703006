/- ints: contracts. -/
import Derived.Test.YtkefmeddnncacaaDoorND
import Derived.Test.YtkefmeddnncacaaDoorLz
import Derived.Test.YtkefmeddnncacaaDoorFz
/- ints: Check, of, signed, turned, sign. -/
set_option linter.unusedVariables false
set_option linter.unusedSimpArgs false
set_option maxRecDepth 100000
namespace Go.Proofs.YtkefmeddnncacaaDoor
open Go.RowKit

/-- A whole number as it is told: a sign and parts, not too many. -/
def IPrt (w : World) (v : Value) (b : Bool) (xs : List Nat) : Prop := ∃ u, v = .agg #[.bool b, u] ∧ Prt w u xs
/-- The value reads as the whole number z. -/
def ICan (w : World) (v : Value) (z : Int) : Prop := ∃ u, v = .agg #[.bool (decide (z < 0)), u] ∧ Can w u z.natAbs
/-- .. in memory of its own from block B on. -/
def IntR (z : Int) (B : Nat) (w : World) (v : Value) : Prop := ∃ u, v = .agg #[.bool (decide (z < 0)), u] ∧ NatR z.natAbs B w u
theorem IPrt.below {w w' : World} {v : Value} {b : Bool} {xs : List Nat} (h : IPrt w v b xs) (hb : Below w.heap.size w w') : IPrt w' v b xs := by
  obtain ⟨u, e, h1⟩ := h
  exact ⟨u, e, h1.below hb⟩
theorem ICan.below {w w' : World} {v : Value} {z : Int} (h : ICan w v z) (hb : Below w.heap.size w w') : ICan w' v z := by
  obtain ⟨u, e, h1⟩ := h
  exact ⟨u, e, h1.below hb⟩
theorem IntR.below {z : Int} {B : Nat} {w w' : World} {v : Value} (h : IntR z B w v) (hb : Below w.heap.size w w') : IntR z B w' v := by
  obtain ⟨u, e, h1⟩ := h
  exact ⟨u, e, h1.below hb⟩
theorem IntR.mono {z : Int} {B B' : Nat} {w : World} {v : Value} (h : IntR z B w v) (hB : B' ≤ B) : IntR z B' w v := by
  obtain ⟨u, e, h1⟩ := h
  exact ⟨u, e, h1.mono hB⟩
theorem IntR.can {z : Int} {B : Nat} {w : World} {v : Value} (h : IntR z B w v) : ICan w v z := by
  obtain ⟨u, e, h1⟩ := h
  exact ⟨u, e, h1.can⟩
theorem ICan.prt {w : World} {v : Value} {z : Int} (h : ICan w v z) (hl : L z.natAbs ≤ 4398046511104) : IPrt w v (decide (z < 0)) (limbs z.natAbs) := by
  obtain ⟨u, e, h1⟩ := h
  exact ⟨u, e, h1.prt hl⟩
theorem IPrt.can {w : World} {v : Value} {b : Bool} {xs : List Nat} (h : IPrt w v b xs) (hc : iok b xs = true) : ICan w v (iv b xs) := by
  obtain ⟨u, rfl, h1⟩ := h
  refine ⟨u, by rw [iok_neg hc], ?_⟩
  rw [iok_abs hc]
  exact h1.can (iok_chk hc)
def Fact.nat (N : Nat) : Fact := ⟨fun v w => Can w v N, fun _ _ _ h hb => h.below hb⟩
def Fact.int (z : Int) : Fact := ⟨fun v w => ICan w v z, fun _ _ _ h hb => h.below hb⟩

/-- A whole number of whatever kind, not too long, that counts as z. -/
def IArg (w : World) (v : Value) (z : Int) : Prop := ∃ b xs, IPrt w v b xs ∧ xs.length ≤ 1000000000000 ∧ iv b xs = z
theorem IArg.below {w w' : World} {v : Value} {z : Int} (h : IArg w v z) (hb : Below w.heap.size w w') : IArg w' v z := by
  obtain ⟨b, xs, h1, h2, h3⟩ := h
  exact ⟨b, xs, h1.below hb, h2, h3⟩
theorem IArg.slice {w : World} {v : Value} {z : Int} (h : IArg w v z) : ∃ b A n c, v = .agg #[.bool b, .slice A n c] := by
  obtain ⟨b, xs, ⟨u, rfl, A, n, c, rfl, _⟩, _⟩ := h
  exact ⟨b, A, n, c, rfl⟩
theorem IArg.size {w : World} {v : Value} {z : Int} (h : IArg w v z) : L z.natAbs ≤ 1000000000000 := by
  obtain ⟨b, xs, ⟨u, rfl, h1⟩, h2, rfl⟩ := h
  exact Nat.le_trans (iv_L h1.is32) h2
/-- .. read in one world for ever. -/
def Fact.iarg0 (w : World) (z : Int) : Fact := ⟨fun v _ => IArg w v z, fun _ _ _ h _ => h⟩
def Fact.int0 (w : World) (z : Int) : Fact := ⟨fun v _ => ICan w v z, fun _ _ _ h _ => h⟩
/-- A variable of a type, of the call's own. -/
def Fact.var (t : TypeId) (cs : Array Value) (B : Nat) : Fact := ⟨fun v w => ∃ g, v = .pointer (some ⟨g, 0, none⟩) ∧ B ≤ g ∧ Blk w g t cs, fun _ _ _ ⟨g, e, h0, h⟩ hb => ⟨g, e, h0, h.below' hb⟩⟩
end Go.Proofs.YtkefmeddnncacaaDoor

/- ints: signed, turned, sign, plus. -/
set_option linter.unusedVariables false
set_option linter.unusedSimpArgs false
set_option maxRecDepth 100000
namespace Go.Proofs.YtkefmeddnncacaaDoor
open Go.RowKit

set_option maxHeartbeats 400000 in
theorem isigned_ok {w : World} {u : Value} {b : Bool} {N : Nat} (h : Can w u N) :
    Calls Tryd.prog 178 #[.bool b, u] w fun e w' => e = .returned (.agg #[.bool (b && decide (N ≠ 0)), u]) ∧ Hid (Below w.heap.size w w') := by
  refine opq fun R hR => ?_
  obtain ⟨A, c, rfl, l, r⟩ := h
  have e0 : Hid (decide (N ≠ 0) = decide (0 < (limbs N).length)) := by
    show _ = _
    rw [decide_eq_decide]
    have := @is_zero_len N
    omega
  clear r
  generalize (limbs N).length = n at *
  have B2 := hide ((Below.refl w.heap.size w).alloc (Nat.le_refl _) (.cells #[.bool false, .slice none 0 0] 49))
  cases b
  · go_enter Tryd.func178, Tryd.ntmps178
    go_wp2
    refine bodyPost_ret (v := .agg #[.bool false, .slice A n c]) (by simp [results, Tryd.results178, go_sem]) rfl ?_
    exact opq_end hR ⟨rfl, (by (repeat (first | exact B2 | exact Below.refl _ _ | refine Below.setCell ?_ (by first | (simp; done) | (simp; omega)) _ | refine Below.alloc ?_ (by first | (simp; done) | (simp; omega)) _)))⟩
  · by_cases hn : 0 < n
    · have e1 : Hid (decide (0 < n) = true) := by show _ = _; simpa using hn
      go_enter Tryd.func178, Tryd.ntmps178
      go_wp2
      refine bodyPost_ret (v := .agg #[.bool true, .slice A n c]) (by simp [results, Tryd.results178, go_sem]) rfl ?_
      exact opq_end hR ⟨by rw [e0.out, e1.out]; rfl, (by (repeat (first | exact B2 | exact Below.refl _ _ | refine Below.setCell ?_ (by first | (simp; done) | (simp; omega)) _ | refine Below.alloc ?_ (by first | (simp; done) | (simp; omega)) _)))⟩
    · obtain rfl : n = 0 := by omega
      go_enter Tryd.func178, Tryd.ntmps178
      go_wp2
      refine bodyPost_ret (v := .agg #[.bool false, .slice A 0 c]) (by simp [results, Tryd.results178, go_sem]) rfl ?_
      exact opq_end hR ⟨by rw [e0.out]; rfl, (by (repeat (first | exact B2 | exact Below.refl _ _ | refine Below.setCell ?_ (by first | (simp; done) | (simp; omega)) _ | refine Below.alloc ?_ (by first | (simp; done) | (simp; omega)) _)))⟩
/-- Cells of one block alone have turned. -/
structure Only (g : Nat) (w W : World) : Prop where
  size : W.heap.size = w.heap.size
  block : ∀ k, k ≠ g → W.heap[k]? = w.heap[k]?
theorem Only.refl (g : Nat) (w : World) : Only g w w := ⟨rfl, fun _ _ => rfl⟩
theorem Only.set {g : Nat} {w W : World} (h : Only g w W) (i : Nat) (u : Value) : Only g w (W.setCell ⟨g, i, none⟩ u) :=
  ⟨by rw [← h.size]; simp [World.setCell], fun k hk => (Below.heap_setCell W ⟨g, i, none⟩ u k hk).trans (h.block k hk)⟩
theorem Only.cell {g : Nat} {w W : World} (h : Only g w W) {a : Addr} (ha : a.block ≠ g) : W.cell? a = w.cell? a := World.cell?_of_block (h.block a.block ha)
/-- A number in memory of its own stays as it was when a block of another type is written. -/
theorem NatR.only {N B g : Nat} {w W : World} {v : Value} {t : TypeId} {cs : Array Value} (h : NatR N B w v) (hb : Blk w g t cs) (ht : T32 ≠ t) (F : Only g w W) : NatR N B W v := by
  obtain ⟨A, c, e, r, f, l⟩ := h
  rcases f with f | ⟨g', cs', e1, hB, hk, hc⟩
  · have h0 : (limbs N).length = 0 := by omega
    have hN : limbs N = [] := List.eq_nil_of_length_eq_zero h0
    exact ⟨A, c, e, by rw [hN]; exact Rdk.nil _ _ _, .inl f, l⟩
  · have hne : g' ≠ g := hk.type_ne hb ht
    subst e1
    refine ⟨_, c, e, ⟨r.1, r.2.1, fun hn => ?_⟩, .inr ⟨g', cs', rfl, hB, hk.keep (F.block g' hne), hc⟩, l⟩
    obtain ⟨ad, e2, hl, hcl⟩ := r.2.2 hn
    cases e2
    refine ⟨_, rfl, by rw [F.size]; exact hl, fun j hj => ?_⟩
    rw [add0, F.cell hne, ← add0]
    exact hcl j hj
theorem intR_of_parts {w : World} {u : Value} {b : Bool} {N B : Nat} {z : Int} (h : NatR N B w u) (h1 : z.natAbs = N) (h2 : decide (z < 0) = (b && decide (N ≠ 0))) : IntR z B w (.agg #[.bool (b && decide (N ≠ 0)), u]) := ⟨u, by rw [h2], by rw [h1]; exact h⟩

end Go.Proofs.YtkefmeddnncacaaDoor

/- ints: what the walks of regions lean on. -/
set_option linter.unusedVariables false
set_option linter.unusedSimpArgs false
set_option maxRecDepth 100000
namespace Go.Proofs.YtkefmeddnncacaaDoor
open Go.RowKit

theorem callFunc_enter {P : Program} {f : FuncId} {fn : Func} {c : Code} (hf : P.funcs[f]? = some fn) (hname : (fn.name == "runtime.NumGoroutine") = false) (hb : fn.body = some c) (args : Array Value) (w : World) :
    (callFunc f args).run P w = .ok (.enter f args) w := by
  have h1 : fn.name ≠ "runtime.NumGoroutine" := by simpa using hname
  simp [callFunc, hf, h1, hb]
theorem mixed : (Tryd.prog).follows .mixedOrders = true := by kernel_rfl
section
variable {w : World} {g : Nat}
end
theorem Blk.at_ {w : World} {g : Nat} {t : TypeId} {cs : Array Value} (h : Blk w g t cs) (i : Nat) {v : Value} (hv : cs[i]? = some v) : w.cell? ⟨g, i, none⟩ = some v := (h.cell i).trans hv
theorem alloc2 (w : World) (c1 c2 : Array Value) (t1 t2 : TypeId) : ∃ W, (w.alloc (.cells c1 t1)).alloc (.cells c2 t2) = W ∧ Hid (Blk W w.heap.size t1 c1) ∧ Hid (Blk W (w.heap.size + 1) t2 c2) ∧ Hid (Below w.heap.size w W) ∧ Hid (W.heap.size = w.heap.size + 1 + 1) := by
  refine ⟨_, rfl, (Blk.new w t1 c1).alloc _, ?_, ((Below.refl _ _).alloc (Nat.le_refl _) _).alloc (by simp) _, ?_⟩
  · have := Blk.new (w.alloc (.cells c1 t1)) t2 c2
    rwa [World.size_alloc] at this
  · show _ = _
    simp
theorem IntR.only {z : Int} {B g : Nat} {w W : World} {v : Value} {t : TypeId} {cs : Array Value} (h : IntR z B w v) (hb : Blk w g t cs) (ht : T32 ≠ t) (F : Only g w W) : IntR z B W v := by
  obtain ⟨u, e, h1⟩ := h
  exact ⟨u, e, h1.only hb ht F⟩
theorem IntR.slice {z : Int} {B : Nat} {w : World} {v : Value} (h : IntR z B w v) : ∃ b A n c, v = .agg #[.bool b, .slice A n c] := by
  obtain ⟨u, e, A, c, rfl, _⟩ := h
  exact ⟨_, A, _, c, e⟩
theorem ICan.slice {z : Int} {w : World} {v : Value} (h : ICan w v z) : ∃ b A n c, v = .agg #[.bool b, .slice A n c] := by
  obtain ⟨u, e, A, c, rfl, _⟩ := h
  exact ⟨_, A, _, c, e⟩
def Fact.natR (N B : Nat) : Fact := ⟨fun v w => NatR N B w v, fun _ _ _ h hb => h.below hb⟩
def Fact.intR (z : Int) (B : Nat) : Fact := ⟨fun v w => IntR z B w v, fun _ _ _ h hb => h.below hb⟩
theorem isigned_F {w : World} {u : Value} {b : Bool} {N B : Nat} {z : Int} (h : NatR N B w u) (h1 : z.natAbs = N) (h2 : decide (z < 0) = (b && decide (N ≠ 0))) :
    Calls Tryd.prog 178 #[.bool b, u] w fun e w' => ∃ v, e = .returned v ∧ Below w.heap.size w w' ∧ IntR z B w' v :=
  (isigned_ok h.can).mono fun e w' ⟨e1, hb⟩ => ⟨_, e1, hb.out, intR_of_parts (h.below hb.out) h1 h2⟩
end Go.Proofs.YtkefmeddnncacaaDoor

/- ints: plus. -/
set_option linter.unusedVariables false
set_option linter.unusedSimpArgs false
set_option maxRecDepth 100000
namespace Go.Proofs.YtkefmeddnncacaaDoor
open Go.RowKit

end Go.Proofs.YtkefmeddnncacaaDoor

/- ints: Add, Sub, Mul, Neg. -/
set_option linter.unusedVariables false
set_option linter.unusedSimpArgs false
set_option maxRecDepth 100000
namespace Go.Proofs.YtkefmeddnncacaaDoor
open Go.RowKit

def Fact.nat0 (w : World) (N : Nat) : Fact := ⟨fun v _ => Can w v N, fun _ _ _ h _ => h⟩
end Go.Proofs.YtkefmeddnncacaaDoor

/- ints: Neg, Cmp, Sign, Of. -/
set_option linter.unusedVariables false
set_option linter.unusedSimpArgs false
set_option maxRecDepth 100000
namespace Go.Proofs.YtkefmeddnncacaaDoor
open Go.RowKit

end Go.Proofs.YtkefmeddnncacaaDoor

/- ints: Of, Back, Text, Parse; SameInt. -/
set_option linter.unusedVariables false
set_option linter.unusedSimpArgs false
set_option maxRecDepth 100000
namespace Go.Proofs.YtkefmeddnncacaaDoor
open Go.RowKit

theorem neg_wrap {n : Int} (h0 : n < 0) (h1 : -9223372036854775808 ≤ n) : IntKind.u64.wrap (wrap64 (-n)) = ((-n).toNat : Int) := by
  simp only [IntKind.wrap_u64, wrap64]
  omega
theorem pos_wrap {n : Int} (h0 : 0 ≤ n) (h1 : n < 9223372036854775808) : IntKind.u64.wrap n = (n.toNat : Int) := by
  simp only [IntKind.wrap_u64]
  omega
set_option maxHeartbeats 400000 in
theorem iOf_ok (w : World) (n : Int) (h0 : -9223372036854775808 ≤ n) (h1 : n < 9223372036854775808) :
    Calls Tryd.prog 117 #[.int .i64 n] w fun e w' => ∃ u, e = .returned u ∧ Below w.heap.size w w' ∧ IntR n w.heap.size w' u := by
  refine opq fun R hR => ?_
  have B0 := hide ((Below.refl w.heap.size w).alloc (Nat.le_refl _) (.cells #[.bool false, .slice none 0 0] 49))
  have K0 := hide (Blk.new w 49 #[.bool false, .slice none 0 0])
  by_cases hn : n < 0
  · have e1 : decide (n < 0) = true := by simpa using hn
    have hw := hide (neg_wrap hn h0)
    have hN : Hid ((-n).toNat < 18446744073709551616) := by show _ < _; omega
    have hZ : Hid (n.natAbs = (-n).toNat ∧ decide (n < 0) = (true && decide ((-n).toNat ≠ 0))) := by
      refine ⟨by omega, ?_⟩
      rw [Bool.eq_iff_iff]; simp <;> omega
    generalize (-n).toNat = N at *
    clear hn
    go_enter Tryd.func117, Tryd.ntmps117
    go_wp2_with fail
    rw [hw.out]
    refine (Of_ok _ N hN.out).mono ?_
    rintro e w1 ⟨u, rfl, ru, d1⟩
    have RU := hide (ru.mono (B' := w.heap.size) (by simp))
    have B1 := hide (B0.out.trans (d1.mono B0.out.size))
    have K1 := hide (K0.out.below' d1)
    clear ru d1 B0 K0
    go_wp2_with fail
    refine (isigned_F RU.out hZ.out.1 hZ.out.2).mono ?_
    rintro e w2 ⟨v9, rfl, d2, r9⟩
    obtain ⟨b9, A9, n9, c9, rfl⟩ := r9.slice
    have R9 := hide r9
    have B9 := hide (B1.out.trans (d2.mono B1.out.size))
    have K9 := hide (K1.out.below' d2)
    have q0 := K9.out.at_ 0 rfl
    have q1 := K9.out.at_ 1 rfl
    have q2 := K9.out.frozen 0
    have q3 := K9.out.frozen 1
    clear d2 r9
    go_wp2
    refine bodyPost_ret (v := .agg #[.bool b9, .slice A9 n9 c9]) (by simp [results, Tryd.results117, go_sem, q0, q1, q2, q3]) rfl ?_
    exact opq_end hR ⟨_, rfl, (by (repeat (first | exact B9 | exact Below.refl _ _ | refine Below.setCell ?_ (by first | (simp; done) | (simp; omega)) _ | refine Below.alloc ?_ (by first | (simp; done) | (simp; omega)) _))), R9.out.only K9.out (by decide) (((Only.refl _ _).set _ _).set _ _)⟩
  · have e1 : decide (n < 0) = false := by simp; omega
    have hw := hide (pos_wrap (Int.not_lt.1 hn) h1)
    have hN : Hid (n.toNat < 18446744073709551616) := by show _ < _; omega
    have hZ : Hid (n.natAbs = n.toNat ∧ decide (n < 0) = (false && decide (n.toNat ≠ 0))) := by
      refine ⟨by omega, ?_⟩
      rw [Bool.eq_iff_iff]; simp; omega
    generalize n.toNat = N at *
    clear hn
    go_enter Tryd.func117, Tryd.ntmps117
    go_wp2_with fail
    rw [hw.out]
    refine (Of_ok _ N hN.out).mono ?_
    rintro e w1 ⟨u, rfl, ru, d1⟩
    have RU := hide (ru.mono (B' := w.heap.size) (by simp))
    have B1 := hide (B0.out.trans (d1.mono B0.out.size))
    have K1 := hide (K0.out.below' d1)
    clear ru d1 B0 K0
    go_wp2_with fail
    refine (isigned_F RU.out hZ.out.1 hZ.out.2).mono ?_
    rintro e w2 ⟨v9, rfl, d2, r9⟩
    obtain ⟨b9, A9, n9, c9, rfl⟩ := r9.slice
    have R9 := hide r9
    have B9 := hide (B1.out.trans (d2.mono B1.out.size))
    have K9 := hide (K1.out.below' d2)
    have q0 := K9.out.at_ 0 rfl
    have q1 := K9.out.at_ 1 rfl
    have q2 := K9.out.frozen 0
    have q3 := K9.out.frozen 1
    clear d2 r9
    go_wp2
    refine bodyPost_ret (v := .agg #[.bool b9, .slice A9 n9 c9]) (by simp [results, Tryd.results117, go_sem, q0, q1, q2, q3]) rfl ?_
    exact opq_end hR ⟨_, rfl, (by (repeat (first | exact B9 | exact Below.refl _ _ | refine Below.setCell ?_ (by first | (simp; done) | (simp; omega)) _ | refine Below.alloc ?_ (by first | (simp; done) | (simp; omega)) _))), R9.out.only K9.out (by decide) (((Only.refl _ _).set _ _).set _ _)⟩
end Go.Proofs.YtkefmeddnncacaaDoor

/- ints: Back, Text, Parse; SameInt. -/
set_option linter.unusedVariables false
set_option linter.unusedSimpArgs false
set_option maxRecDepth 100000
namespace Go.Proofs.YtkefmeddnncacaaDoor
open Go.RowKit

/-- What Back answers of a number. -/
def back64 (z : Int) : Array Value := if -9223372036854775808 ≤ z ∧ z < 9223372036854775808 then #[.int .i64 z, .int .i64 0] else #[.int .i64 0, .int .i64 3]
/-- A number's text. -/
def itxt (z : Int) : List Nat := if z < 0 then 45 :: txt z.natAbs else txt z.natAbs
/-- A text's sign, and the rest of it. -/
def isgn (l : List Nat) : Bool × List Nat := if l.head? = some 45 then (true, l.tail) else (false, l)
def hyphen : ByteArray := ⟨#[45]⟩
set_option maxHeartbeats 400000 in
theorem iSame_ok {w : World} {v v' : Value} {x y : Int} (h : ICan w v x) (h' : ICan w v' y) :
    Calls Tryd.prog 111 #[v, v'] w fun e w' => ∃ u, e = .returned u ∧ Below w.heap.size w w' ∧ u = .bool (decide (x = y)) := by
  refine opq fun R hR => ?_
  obtain ⟨u1, rfl, hu1⟩ := h
  obtain ⟨u2, rfl, hu2⟩ := h'
  obtain ⟨A1, n1, c1, rfl⟩ : ∃ A n c, u1 = .slice A n c := by obtain ⟨A, c, q, _⟩ := hu1; exact ⟨A, _, c, q⟩
  obtain ⟨A2, n2, c2, rfl⟩ : ∃ A n c, u2 = .slice A n c := by obtain ⟨A, c, q, _⟩ := hu2; exact ⟨A, _, c, q⟩
  obtain ⟨W, hW, K1, K2, BW, ZW⟩ := alloc2 w #[.bool (decide (x < 0)), .slice A1 n1 c1] #[.bool (decide (y < 0)), .slice A2 n2 c2] 49 49
  have S := hide (Same_can (hu1.below BW.out) (hu2.below BW.out))
  have e : Hid (decide (x = y) = ((decide (x < 0) == decide (y < 0)) && decide (x.natAbs = y.natAbs))) := by
    show _ = _
    rw [Bool.eq_iff_iff]
    simp only [decide_eq_true_eq, Bool.and_eq_true, beq_iff_eq, decide_eq_decide]
    omega
  clear hu1 hu2
  generalize decide (x.natAbs = y.natAbs) = r at *
  generalize decide (x < 0) = b1 at *
  generalize decide (y < 0) = b2 at *
  have a0 := K1.out.at_ 0 rfl
  have a1 := K1.out.at_ 1 rfl
  have a2 := K2.out.at_ 0 rfl
  have a3 := K2.out.at_ 1 rfl
  cases b1 <;> cases b2
  all_goals
    go_enter Tryd.func111, Tryd.ntmps111
    go_wp2_with fail
    first
      | (refine S.out.mono ?_
         rintro e' w2 ⟨rfl, d2⟩
         have B2 := hide (below_tr BW.out d2.out)
         clear d2
         go_wp2
         exact opq_end hR ⟨_, rfl, B2.out, by rw [e.out]; rfl⟩)
      | (go_wp2
         exact opq_end hR ⟨_, rfl, BW.out, by rw [e.out]; rfl⟩)
end Go.Proofs.YtkefmeddnncacaaDoor

/- ints: contracts as the walks of regions ask. -/
set_option linter.unusedVariables false
set_option linter.unusedSimpArgs false
set_option maxRecDepth 100000
namespace Go.Proofs.YtkefmeddnncacaaDoor
open Go.RowKit

theorem Blk.new_at (w : World) (g : Nat) (hg : w.heap.size = g) (t : TypeId) (cs : Array Value) : Blk (w.alloc (.cells cs t)) g t cs := by subst hg; exact Blk.new w t cs
/-- A cell of a block. -/
def CellAt (w : World) (a : Addr) (v : Value) : Prop := w.cell? a = some v
theorem CellAt.below {w w' : World} {a : Addr} {v : Value} (h : CellAt w a v) (hb : Below w.heap.size w w') : CellAt w' a v := cell_below hb h
end Go.Proofs.YtkefmeddnncacaaDoor
