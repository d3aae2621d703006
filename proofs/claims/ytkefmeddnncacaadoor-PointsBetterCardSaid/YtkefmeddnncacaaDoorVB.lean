/- vecs: the frame of a law; Dot, Same, Add; how a law's arguments are opened. -/
import Derived.Test.YtkefmeddnncacaaDoorFx
import Derived.Test.YtkefmeddnncacaaDoorVA
import Derived.Deep.Slices
import Derived.Test.YtkefmeddnncacaaDoorFR
import Derived.RangeFuncKeeps
import Derived.RangeFuncLeaves
import Derived.Shelf.Abstract
import Derived.OwnWalkIn
import Derived.TacticsInMore
import Derived.LoopNIn
import Derived.LoopIn
import Derived.RegionIn
import Derived.OrdersIn
import Derived.BigFrameIn
import Derived.Test.YtkefmeddnncacaaDoorLz
import Derived.Test.YtkefmeddnncacaaDoorKB
/- The frame of the laws on lists of fractions: what their arguments are, how large they are. -/
set_option linter.unusedVariables false
set_option linter.unusedSimpArgs false
set_option maxRecDepth 100000
namespace Go.Proofs.YtkefmeddnncacaaDoor
open Go.ChangeShapes Go.WideShapes Go.ChangeAt Go.RowKit Go.Joins

theorem add_add (ad : Addr) (m j : Nat) : (ad.add m).add j = ad.add (m + j) := by
  unfold Addr.add
  by_cases h0 : m = 0 <;> by_cases h1 : j = 0 <;> simp_all [Nat.add_assoc]
/-- A fraction of a list, as it comes in. -/
def RRw (w : World) (u : Value) (e : Bool × List Nat × List Nat) : Prop :=
  ∃ A n c D m k, u = .agg #[.bool e.1, .slice A n c, .slice D m k] ∧ Rd w A n e.2.1 ∧ Is32 e.2.1 ∧ n ≤ c ∧ n ≤ 70368744177664 ∧ Rd w D m e.2.2 ∧ Is32 e.2.2 ∧ m ≤ k ∧ m ≤ 70368744177664
theorem tri_rw : Tri RRw := fun w u q ⟨A, n, c, D, m, k, e, _⟩ => ⟨_, A, n, c, D, m, k, e⟩
theorem list3 {cs : List Value} (h : cs.length = 3) : ∃ a b c, cs = [a, b, c] := by
  match cs, h with
  | [a, b, c], _ => exact ⟨a, b, c, rfl⟩
theorem rat_cells {H : Type} {enc : TypeId × Value → H} {W : World} {fuel : Nat} {cs : List Value} {d : DataW H} {ps : List MemPlace} (h : DataW.trod enc Tryd.prog W 0 (fun _ => true) true fuel 51 cs = some (d, ps))
    (hz : (DataW.weights Tryd.prog 51 d).all (· ≤ reachBytes) = true) : ∃ u e, cs = u.cells.toList ∧ RRw W u e := by
  obtain ⟨_, _, _, _, hlen, _⟩ := DataW.trod_struct Tryd.underlying51 h
  rw [show Tryd.prog.cellsOf 51 = 3 by kernel_rfl] at hlen
  obtain ⟨c0, c1, c2, rfl⟩ := list3 hlen
  obtain ⟨y0, y1, n, hx, _, h0, h1⟩ := trod_struct2 Tryd.underlying51 h
  simp only [Prod.mk.injEq] at hx
  obtain ⟨rfl, rfl⟩ := hx
  obtain ⟨z0, z1⟩ := weights_agg2 (t0 := 0) (t1 := 0) Tryd.underlying51 hz
  have h0' : DataW.trod enc Tryd.prog W 0 (fun _ => true) true n 49 [c0, c1] = some y0 := h0
  have h1' : DataW.trod enc Tryd.prog W 0 (fun _ => true) true n 47 [c2] = some y1 := h1
  obtain ⟨u0, u1, n', hx, _, g0, g1⟩ := trod_struct2 Tryd.underlying49 h0'
  subst hx
  obtain ⟨_, z2⟩ := weights_agg2 (t0 := 0) (t1 := 0) Tryd.underlying49 z0
  have g0' : DataW.trod enc Tryd.prog W 0 (fun _ => true) true n' 4 [c0] = some u0 := g0
  have g1' : DataW.trod enc Tryd.prog W 0 (fun _ => true) true n' 47 [c1] = some u1 := g1
  obtain ⟨b, rfl⟩ := trod_bool (by kernel_rfl) g0'
  obtain ⟨A, n1, c, xs, rfl, hc, hr, h32, hn⟩ := open_partsW (by kernel_rfl) g1' z2
  obtain ⟨D, m, k, ys, rfl, hk, hr2, h322, hm⟩ := open_partsW (by kernel_rfl) h1' z1
  exact ⟨.agg #[.bool b, .slice A n1 c, .slice D m k], (b, xs, ys), rfl, A, n1, c, D, m, k, rfl, hr, h32, hc, hn, hr2, h322, hk, hm⟩
theorem weightsAll_of {H : Type} {P : Program} {e : TypeId} {ds : List (DataW H)} (h : (DataW.weightsAll P e ds).all (· ≤ reachBytes) = true) : ∀ d ∈ ds, (DataW.weights P e d).all (· ≤ reachBytes) = true := by
  induction ds with
  | nil => intro d hd; cases hd
  | cons a ds ih =>
    simp only [DataW.weightsAll, List.all_append, Bool.and_eq_true] at h
    intro d hd
    rcases List.mem_cons.1 hd with rfl | hd
    · exact h.1
    · exact ih h.2 d hd
end Go.Proofs.YtkefmeddnncacaaDoor

/- law helpers: how large lists of fractions are; great. -/
set_option linter.unusedVariables false
set_option linter.unusedSimpArgs false
set_option maxRecDepth 100000
namespace Go.Proofs.YtkefmeddnncacaaDoor
open Go.RowKit

theorem RRw.below {w w' : World} {u : Value} {e : Raw} (h : RRw w u e) (hb : Below w.heap.size w w') : RRw w' u e := by
  obtain ⟨A, n, c, D, m, k, e1, h1, h2, h3, h4, h5, h6, h7, h8⟩ := h
  exact ⟨A, n, c, D, m, k, e1, h1.below hb, h2, h3, h4, h5.below hb, h6, h7, h8⟩
theorem Lst.rw_below {w w' : World} {v : Value} {es : List Raw} (h : Lst RRw w v es) (hb : Below w.heap.size w w') : Lst RRw w' v es := Lst.below h (fun u q h => h.below hb) hb
/-- A count that stops where it is far beyond. -/
def Cnt (r tot : Nat) : Prop := r ≤ tot ∧ (r = tot ∨ 1048576 < r)
def rsz (e : Raw) : Nat := 2 + e.2.1.length + e.2.2.length
def tsz (es : List Raw) : Nat := (es.map rsz).sum
theorem NatSize_ok (w : World) (A : Option Addr) (n c : Nat) : Calls Tryd.prog 108 #[.slice A n c] w fun e w' => e = .returned (.int .i64 (n : Nat)) ∧ Hid (Below w.heap.size w w') := by
  refine opq fun R hR => ?_
  go_enter Tryd.func108, Tryd.ntmps108
  go_wp2
  exact opq_end hR ⟨rfl, Below.refl _ _⟩
theorem IntSize_ok (w : World) (b : Bool) (A : Option Addr) (n c : Nat) (hn : n ≤ 70368744177664) (x : Nat) (hx : 1 + n = x) : Calls Tryd.prog 107 #[.agg #[.bool b, .slice A n c]] w fun e w' => e = .returned (.int .i64 (x : Nat)) ∧ Hid (Below w.heap.size w w') := by
  refine opq fun R hR => ?_
  go_enter Tryd.func107, Tryd.ntmps107
  have b0 := hide (Below.refl w.heap.size w)
  have K3 := hide (Blk.new_at w (w.heap.size) (by simp) 49 #[.bool b, .slice A n c])
  have yy := (Below.refl w.heap.size w).alloc (Nat.le_refl _) (.cells #[.bool b, .slice A n c] 49)
  replace b0 := hide (below_tr b0.out yy)
  clear yy
  go_wp2_with fail
  refine (NatSize_ok _ A n c).mono ?_
  rintro e w1 ⟨rfl, d0⟩
  replace b0 := hide (below_tr b0.out d0.out)
  clear d0
  have hx2 : (1 : Int) + (n : Int) = (x : Nat) := by omega
  go_wp2
  exact opq_end hR ⟨rfl, b0⟩
set_option maxHeartbeats 1000000 in
theorem RatSize_ok (w : World) (b : Bool) (A : Option Addr) (n c : Nat) (D : Option Addr) (m k : Nat) (hn : n ≤ 70368744177664) (hm : m ≤ 70368744177664) : Calls Tryd.prog 34 #[.agg #[.bool b, .slice A n c, .slice D m k]] w fun e w' => ∃ r : Nat, e = .returned (.int .i64 (r : Int)) ∧ Cnt r (2 + n + m) ∧ Hid (Below w.heap.size w w') := by
  refine opq fun R hR => ?_
  go_enter Tryd.func34, Tryd.ntmps34
  have b0 := hide (Below.refl w.heap.size w)
  have K3 := hide (Blk.new_at w (w.heap.size) (by simp) TR #[.bool b, .slice A n c, .slice D m k])
  have yy := (Below.refl w.heap.size w).alloc (Nat.le_refl _) (.cells #[.bool b, .slice A n c, .slice D m k] TR)
  replace b0 := hide (below_tr b0.out yy)
  replace K3 := hide K3.out
  clear yy
  go_wp2_with fail
  obtain ⟨x, hx⟩ : ∃ x, 1 + n = x := ⟨_, rfl⟩
  refine (IntSize_ok _ b A n c hn x hx).mono ?_
  rintro e w1 ⟨rfl, d0⟩
  replace b0 := hide (below_tr b0.out d0.out)
  have k0 := (K3.out.below' d0.out).at_ 0 rfl
  have k1 := (K3.out.below' d0.out).at_ 1 rfl
  have k2 := (K3.out.below' d0.out).at_ 2 rfl
  clear d0 K3
  obtain ⟨z, hz, hz2⟩ : ∃ z : Nat, (1 : Int) + (x : Nat) = (z : Nat) ∧ Hid (z = 2 + n) := ⟨2 + n, by omega, rfl⟩
  by_cases g : z ≤ 1048576
  · go_wp2_with fail
    refine (NatSize_ok _ D m k).mono ?_
    rintro e w2 ⟨rfl, d0⟩
    replace b0 := hide (below_tr b0.out d0.out)
    clear d0 k0 k1 k2
    have hC : Hid (Cnt (z + m) (2 + n + m)) := ⟨by have := hz2.out; omega, .inl (by have := hz2.out; omega)⟩
    obtain ⟨y, hy, hy2⟩ : ∃ y : Nat, (z : Int) + (m : Int) = (y : Nat) ∧ Hid (y = z + m) := ⟨z + m, by omega, rfl⟩
    rw [← hy2.out] at hC
    go_wp2
    exact opq_end hR ⟨y, rfl, hC.out, b0⟩
  · have hC : Hid (Cnt z (2 + n + m)) := ⟨by have := hz2.out; omega, .inr (by omega)⟩
    go_wp2
    exact opq_end hR ⟨z, rfl, hC.out, b0⟩
theorem tsz_snoc (es : List Raw) (e : Raw) : tsz (es ++ [e]) = tsz es + rsz e := by simp [tsz]
theorem tsz_take (es : List Raw) (i : Nat) : tsz (es.take i) ≤ tsz es := by
  have : tsz es = tsz (es.take i) + tsz (es.drop i) := by
    conv => lhs; rw [← List.take_append_drop i es]
    unfold tsz
    rw [List.map_append, List.sum_append]
  omega
abbrev GL := (Option Addr × Nat × Nat) × List Raw
def gr (x : GL) : Bool := decide (30 < x.1.2.1) || decide (300 < x.1.2.1 + tsz x.2)
end Go.Proofs.YtkefmeddnncacaaDoor

/- vecs: both: the function that it hands back. -/
set_option linter.unusedVariables false
set_option linter.unusedSimpArgs false
set_option maxRecDepth 100000
namespace Go.Proofs.YtkefmeddnncacaaDoor
open Go.RowKit Go.Shelf

theorem ld_RatAt {w : World} {p : Addr} {a b c : Value} (h0 : w.cell? p = some a) (h1 : w.cell? ⟨p.block, p.off + 1, none⟩ = some b) (h2 : w.cell? ⟨p.block, p.off + 2, none⟩ = some c) : (Instr.loadAt 51 (.pointer (some p))).run Tryd.prog w = .ok (.agg #[a, b, c]) w := by simp [go_sem, h0, h1, h2]
attribute [local go_sem] Oper.semAt_some
/-- The elements by their values. -/
def Is3 (w : World) (u x : Value) : Prop := u = x ∧ ∃ b A n c D m k, u = .agg #[.bool b, .slice A n c, .slice D m k]
/-- What a round keeps: memory below B, and the box that the iterator reads again. -/
def KpB (B B2 : Nat) (W W' : World) : Prop := Below B W W' ∧ ∀ v, W.cell? ⟨B2, 0, none⟩ = some v → W'.cell? ⟨B2, 0, none⟩ = some v
theorem KpB.b {B B2 : Nat} {w : World} (hn : B ≤ w.heap.size) (W : World) (l : Nat) (o o' : Obj) (hl : w.heap.size ≤ l) (h : W.heap[l]? = some o) (hc : o.isCells = false) (hw : o.isWalk = false) : KpB B B2 W (W.putObj l o') :=
  ⟨belowK_b hn W l o o' hl h hc hw, fun v hv => cell_kept hv (grownBy_putObj' W l o') (fun r e => by cases e; exact ⟨_, h, hc⟩)⟩
end Go.Proofs.YtkefmeddnncacaaDoor

/- vecs: both; Dot. -/
set_option linter.unusedVariables false
set_option linter.unusedSimpArgs false
set_option maxRecDepth 100000
namespace Go.Proofs.YtkefmeddnncacaaDoor
open Go.RowKit Go.Shelf

abbrev TRs : TypeId := 22
/-- The elements by their places. -/
def encL (us vs : List Value) (m : Nat) (i : Fin m) : Array Value := #[us.getD i undef, vs.getD i undef]
end Go.Proofs.YtkefmeddnncacaaDoor

/- vecs: Dot. -/
set_option linter.unusedVariables false
set_option linter.unusedSimpArgs false
set_option maxRecDepth 100000
namespace Go.Proofs.YtkefmeddnncacaaDoor
open Go.RowKit Go.Shelf
attribute [local go_sem] Oper.semAt_some

def rawOf (q : Rat) : Raw := (decide (q.num < 0), limbs q.num.natAbs, limbs q.den)
theorem Lst.is {α : Type} {E : World → Value → α → Prop} (hE : Tri E) {w : World} {v : Value} {qs : List α} (h : Lst E w v qs) : ∃ us : List Value, Lst Is3 w v us ∧ us.length = qs.length ∧ ∀ (j : Nat) q, qs[j]? = some q → ∃ u, us[j]? = some u ∧ E w u q := by
  obtain ⟨A, n, c, us, e, h1, h2, h3, h4, h5, h6⟩ := h
  refine ⟨us, ⟨A, n, c, us, e, h1, h3.symm, h3, h4, h5, fun j u hu => ⟨u, hu, rfl, ?_⟩⟩, by rw [h3, h2], h6⟩
  have hj : j < qs.length := by
    have := (List.getElem?_eq_some_iff.1 hu).1
    omega
  obtain ⟨u', hu', he⟩ := h6 j _ (List.getElem?_eq_getElem hj)
  rw [hu] at hu'
  cases hu'
  exact hE _ _ _ he
/-- The sum that far. -/
def dotI (ps qs : List Rat) (m : Nat) (pre : List (Fin m)) : Rat := dotA 0 (pre.map fun (i : Fin m) => (ps.getD i.1 0, qs.getD i.1 0))
theorem keep_own {B B' : Nat} {W W' : World} {row : Option Nat} (hg : W.grownBy W' row) (hr : ∀ r, row = some r → B' ≤ r ∧ ∃ o : Obj, W.heap[r]? = some o ∧ o.isCells = false) (hB : B ≤ B') (hs : B ≤ W.heap.size) : RR.Keep B W W' := by
  have key : ∀ b t cs, Blk W b t cs → Blk W' b t cs := fun b t cs k => k.keep (hg.block b k.lt (fun e => by
    obtain ⟨_, o, ho, hc⟩ := hr b e.symm
    rw [k.eq] at ho
    cases ho
    cases hc))
  exact ⟨(Below.refl B W).grown hg hs (fun k e => Nat.le_trans hB (hr k e).1), hg.size, fun b cs k => key b _ cs k, fun b t cs k => ⟨cs, key b t cs k, rfl⟩⟩
theorem blk_own {B' : Nat} {W W' : World} {row : Option Nat} {b : Nat} {t : TypeId} {cs : Array Value} (k : Blk W b t cs) (hg : W.grownBy W' row) (hr : ∀ r, row = some r → B' ≤ r ∧ ∃ o : Obj, W.heap[r]? = some o ∧ o.isCells = false) : Blk W' b t cs :=
  k.keep (hg.block b k.lt (fun e => by
    obtain ⟨_, o, ho, hc⟩ := hr b e.symm
    rw [k.eq] at ho
    cases ho
    cases hc))
/-- A variable that holds a fraction of the call's own. -/
def VarR (B g : Nat) (q : Rat) (W : World) : Prop := ∃ b A n c D m k, Blk W g TR #[.bool b, .slice A n c, .slice D m k] ∧ RatR q B W (.agg #[.bool b, .slice A n c, .slice D m k])
theorem VarR.below {B g : Nat} {q : Rat} {W W' : World} (h : VarR B g q W) (hb : Below W.heap.size W W') : VarR B g q W' := by
  obtain ⟨b, A, n, c, D, m, k, h1, h2⟩ := h
  exact ⟨b, A, n, c, D, m, k, h1.below' hb, h2.below hb⟩
theorem VarR.own {B g B' : Nat} {q : Rat} {W W' : World} {row : Option Nat} (h : VarR B g q W) (hg : W.grownBy W' row) (hr : ∀ r, row = some r → B' ≤ r ∧ ∃ o : Obj, W.heap[r]? = some o ∧ o.isCells = false) : VarR B g q W' := by
  obtain ⟨b, A, n, c, D, m, k, h1, h2⟩ := h
  exact ⟨b, A, n, c, D, m, k, blk_own h1 hg hr, RR.RatR.keep h2 (keep_own (B := 0) hg hr (Nat.zero_le _) (Nat.zero_le _))⟩
end Go.Proofs.YtkefmeddnncacaaDoor

/- vecs: Same. -/
set_option linter.unusedVariables false
set_option linter.unusedSimpArgs false
set_option maxRecDepth 100000
namespace Go.Proofs.YtkefmeddnncacaaDoor
open Go.RowKit Go.Shelf
attribute [local go_sem] Oper.semAt_some

abbrev TB : TypeId := 4
end Go.Proofs.YtkefmeddnncacaaDoor

/- vecs: Add. -/
set_option linter.unusedVariables false
set_option linter.unusedSimpArgs false
set_option maxRecDepth 100000
namespace Go.Proofs.YtkefmeddnncacaaDoor
open Go.RowKit Go.Shelf
attribute [local go_sem] Oper.semAt_some

theorem OLst.own {w w' : World} {B B' : Nat} {row : Option Nat} {v : Value} {qs : List Rat} (h : OLst w B v qs) (hg : w.grownBy w' row) (hr : ∀ r, row = some r → B' ≤ r ∧ ∃ o : Obj, w.heap[r]? = some o ∧ o.isCells = false) : OLst w' B v qs := by
  obtain ⟨us, h1, h2, h3, h4⟩ := h
  refine ⟨us, h1, h2.kept hg ?_, fun j q hq => ?_, h4⟩
  · cases hv : v.ownBlock with
    | none => exact .inl rfl
    | some g =>
      refine .inr fun e => ?_
      obtain ⟨_, cs, hk⟩ := own_row h2 g hv
      obtain ⟨_, o, ho, hc⟩ := hr g e.symm
      rw [hk.eq] at ho
      cases ho
      cases hc
  · obtain ⟨u, hu, hR⟩ := h3 j q hq
    exact ⟨u, hu, RR.RatR.keep hR (keep_own (B := 0) hg hr (Nat.zero_le _) (Nat.zero_le _))⟩
theorem OLst.only {w W : World} {B g : Nat} {t : TypeId} {cs : Array Value} {v : Value} {qs : List Rat} (h : OLst w B v qs) (hb : Blk w g t cs) (h1 : T32 ≠ t) (h2 : TR ≠ t) (F : Only g w W) (hg : w.grownBy W (some g)) : OLst W B v qs := by
  obtain ⟨us, e1, e2, e3, e4⟩ := h
  refine ⟨us, e1, e2.kept hg ?_, fun j q hq => ?_, e4⟩
  · cases hv : v.ownBlock with
    | none => exact .inl rfl
    | some g' =>
      refine .inr fun e => ?_
      cases e
      obtain ⟨_, cs', hk⟩ := own_row e2 g hv
      exact hk.type_ne hb h2 rfl
  · obtain ⟨u, hu, hR⟩ := e3 j q hq
    exact ⟨u, hu, hR.only hb h1 F⟩
/-- A slice of one fraction, in memory of its own. -/
def Fact.sl1 (q : Rat) (B : Nat) : Fact := ⟨fun v w => ∃ g b A n c D m k, v = .slice (some ⟨g, 0, none⟩) 1 1 ∧ Blk w g TR #[.bool b, .slice A n c, .slice D m k] ∧ RatR q B w (.agg #[.bool b, .slice A n c, .slice D m k]),
  fun _ _ _ ⟨g, b, A, n, c, D, m, k, h1, h2, h3⟩ hb => ⟨g, b, A, n, c, D, m, k, h1, h2.below' hb, h3.below hb⟩⟩
/-- The list that far. -/
def addI (ps qs : List Rat) (t : Rat) (m : Nat) (pre : List (Fin m)) : List Rat := (pre.map fun (i : Fin m) => (ps.getD i.1 0, qs.getD i.1 0)).map fun x => x.1 + x.2 * t
end Go.Proofs.YtkefmeddnncacaaDoor

/- the laws of vecs: contracts as their walks ask. -/
set_option linter.unusedVariables false
set_option linter.unusedSimpArgs false
set_option maxRecDepth 100000
namespace Go.Proofs.YtkefmeddnncacaaDoor
open Go.RowKit

/-- How long the parts of a list's fractions are. -/
def Hs (qs : List Rat) (k : Nat) : Prop := ∀ q ∈ qs, H q k
theorem Hs.up {qs : List Rat} {k m : Nat} (h : Hs qs k) (hm : k ≤ m) : Hs qs m := fun q hq => (h q hq).up hm
theorem Hs.take {qs : List Rat} {k : Nat} (h : Hs qs k) (n : Nat) : Hs (qs.take n) k := fun q hq => h q (List.mem_of_mem_take hq)
theorem Hs.drop {qs : List Rat} {k : Nat} (h : Hs qs k) (n : Nat) : Hs (qs.drop n) k := fun q hq => h q (List.mem_of_mem_drop hq)
theorem Lst.sl {α : Type} {E : World → Value → α → Prop} {w : World} {v : Value} {qs : List α} (h : Lst E w v qs) : ∃ A c, v = .slice A qs.length c := by
  obtain ⟨A, n, c, us, e, h1, h2, h3, h4, h5, h6⟩ := h
  subst h2
  exact ⟨A, c, e⟩
def Fact.lst (qs : List Rat) : Fact := ⟨fun v w => Lst RCan w v qs, fun _ _ _ h hb => h.can_below hb⟩
def Fact.lst0 (w : World) (qs : List Rat) : Fact := ⟨fun v _ => Lst RCan w v qs, fun _ _ _ h _ => h⟩
end Go.Proofs.YtkefmeddnncacaaDoor

/- the laws of vecs: how their arguments are opened. -/
set_option linter.unusedVariables false
set_option linter.unusedSimpArgs false
set_option maxRecDepth 100000
namespace Go.Proofs.YtkefmeddnncacaaDoor
open Go.RowKit

abbrev gl (A : Option Addr) (n c : Nat) (es : List Raw) : GL := ((A, n, c), es)
def slv (x : GL) : Value := .slice x.1.1 x.1.2.1 x.1.2.2
theorem lst_two {α : Type} {E : World → Value → α → Prop} {w : World} {g : Nat} {t : TypeId} {u v : Value} {e f : α} (hT : Tri E) {cs : Array Value} (hcs : cs = (u.cells.toList ++ v.cells.toList).toArray) (hg : Blk w g t cs) (h : E w u e) (h' : E w v f) : Lst E w (.slice (some ⟨g, 0, none⟩) 2 2) [e, f] := by
  subst hcs
  refine ⟨_, 2, 2, [u, v], rfl, Nat.le_refl _, rfl, rfl, by omega, fun _ => ⟨_, rfl, hg.lt, fun j x hx => ?_⟩, fun j q hq => ?_⟩
  · rw [add0, hg.cell]
    simpa [flat] using hx
  · match j with
    | 0 => simp at hq; subst hq; exact ⟨u, rfl, h⟩
    | 1 => simp at hq; subst hq; exact ⟨v, rfl, h'⟩
    | j + 2 => simp at hq
def rvE (e : Raw) : Rat := rv e.1 e.2.1 e.2.2
theorem tsz_mem {es : List Raw} {e : Raw} (h : e ∈ es) : rsz e ≤ tsz es := by
  induction es with
  | nil => cases h
  | cons a es ih =>
    have : tsz (a :: es) = rsz a + tsz es := by simp [tsz]
    rcases List.mem_cons.1 h with rfl | h
    · omega
    · have := ih h
      omega
theorem RRw.raw {w : World} {u : Value} {e : Raw} (h : RRw w u e) (hl : rsz e ≤ 1000000) : RRaw w u e ∧ H (rvE e) (rsz e) := by
  obtain ⟨A, n, c, D, m, k, rfl, h1, h2, h3, h4, h5, h6, h7, h8⟩ := h
  have e1 := h1.1
  have e2 := h5.1
  unfold rsz at hl
  exact ⟨rprt_of e.1 h1 h2 h3 (by omega) h5 h6 h7 (by omega), H_rv h2 h6 (by unfold rsz; omega) (by unfold rsz; omega) (by unfold rsz; omega)⟩
theorem RRw.arg {w : World} {u : Value} {e : Raw} (h : RRw w u e) (hl : rsz e ≤ 1000000) : RArg w u (rvE e) := by
  obtain ⟨A, n, c, D, m, k, rfl, h1, h2, h3, h4, h5, h6, h7, h8⟩ := h
  have e1 := h1.1
  have e2 := h5.1
  unfold rsz at hl
  exact (rprt_of e.1 h1 h2 h3 (by omega) h5 h6 h7 (by omega)).arg (by omega) (by omega)
theorem Lst.rawW {w : World} {v : Value} {es : List Raw} (h : Lst RRw w v es) (k : Nat) (hl : tsz es ≤ k) (hk : k ≤ 1000000) : Lst RRaw w v es ∧ Hs (es.map rvE) k := by
  have key : ∀ e ∈ es, rsz e ≤ k := fun e he => Nat.le_trans (tsz_mem he) hl
  constructor
  · have := h.imp (F := RRaw) id fun u e he hu => (hu.raw (Nat.le_trans (key e he) hk)).1
    rwa [List.map_id] at this
  · obtain ⟨A, n, c, us, e, h1, h2, h3, h4, h5, h6⟩ := h
    intro q hq
    obtain ⟨e, he, rfl⟩ := List.mem_map.1 hq
    obtain ⟨j, hj, rfl⟩ := List.getElem_of_mem he
    obtain ⟨u, hu, hr⟩ := h6 j _ (List.getElem?_eq_getElem hj)
    exact (hr.raw (Nat.le_trans (key _ he) hk)).2.up (key _ he)
/-- A law's own list of whole numbers, as it is laid. -/
def Fact.nums (zs : List Int) (m : Nat) : Fact := ⟨fun v w => ∃ g, v = .slice (some ⟨g, 0, none⟩) m m ∧ g < w.heap.size ∧ NumsAt w g zs,
  fun v w w' ⟨g, h1, h2, h3⟩ hb => ⟨g, h1, Nat.lt_of_lt_of_le h2 hb.size, fun j z hz => cell_below hb (h3 j z hz)⟩⟩
def Fact.lraw (es : List Raw) : Fact := ⟨fun v w => Lst RRaw w v es, fun _ _ _ h hb => h.raw_below hb⟩
end Go.Proofs.YtkefmeddnncacaaDoor
