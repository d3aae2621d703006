/- vecs: the frame of a law; Dot, Same, Add; how a law's arguments are opened. -/
import Derived.Test.YtkefmeddnncacaaDoorFx
import Derived.Test.YtkefmeddnncacaaDoorVA
import Derived.Deep.Slices
import Derived.Test.YtkefmeddnncacaaDoorFR
import Derived.RangeFuncKeeps
import Derived.RangeFuncLeaves
import Derived.Shelf.Abstract
import Derived.OwnWalkIn
import Derived.TacticsInMore
import Derived.LoopNIn
import Derived.LoopIn
import Derived.RegionIn
import Derived.OrdersIn
import Derived.BigFrameIn
import Derived.Test.YtkefmeddnncacaaDoorLz
import Derived.Test.YtkefmeddnncacaaDoorKB
/- The frame of the laws on lists of fractions: what their arguments are, how large they are. -/
set_option linter.unusedVariables false
set_option linter.unusedSimpArgs false
set_option maxRecDepth 100000
namespace Go.Proofs.YtkefmeddnncacaaDoor
open Go.ChangeShapes Go.WideShapes Go.ChangeAt Go.RowKit Go.Joins

/-- A fraction of a list, as it comes in. -/
def RRw (w : World) (u : Value) (e : Bool × List Nat × List Nat) : Prop :=
  ∃ A n c D m k, u = .agg #[.bool e.1, .slice A n c, .slice D m k] ∧ Rd w A n e.2.1 ∧ Is32 e.2.1 ∧ n ≤ c ∧ n ≤ 70368744177664 ∧ Rd w D m e.2.2 ∧ Is32 e.2.2 ∧ m ≤ k ∧ m ≤ 70368744177664
end Go.Proofs.YtkefmeddnncacaaDoor

/- law helpers: how large lists of fractions are; great. -/
set_option linter.unusedVariables false
set_option linter.unusedSimpArgs false
set_option maxRecDepth 100000
namespace Go.Proofs.YtkefmeddnncacaaDoor
open Go.RowKit

theorem RRw.below {w w' : World} {u : Value} {e : Raw} (h : RRw w u e) (hb : Below w.heap.size w w') : RRw w' u e := by
  obtain ⟨A, n, c, D, m, k, e1, h1, h2, h3, h4, h5, h6, h7, h8⟩ := h
  exact ⟨A, n, c, D, m, k, e1, h1.below hb, h2, h3, h4, h5.below hb, h6, h7, h8⟩
/-- A count that stops where it is far beyond. -/
def Cnt (r tot : Nat) : Prop := r ≤ tot ∧ (r = tot ∨ 1048576 < r)
def rsz (e : Raw) : Nat := 2 + e.2.1.length + e.2.2.length
def tsz (es : List Raw) : Nat := (es.map rsz).sum
abbrev GL := (Option Addr × Nat × Nat) × List Raw
def gr (x : GL) : Bool := decide (30 < x.1.2.1) || decide (300 < x.1.2.1 + tsz x.2)
end Go.Proofs.YtkefmeddnncacaaDoor

/- vecs: both: the function that it hands back. -/
set_option linter.unusedVariables false
set_option linter.unusedSimpArgs false
set_option maxRecDepth 100000
namespace Go.Proofs.YtkefmeddnncacaaDoor
open Go.RowKit Go.Shelf

theorem ld_RatAt {w : World} {p : Addr} {a b c : Value} (h0 : w.cell? p = some a) (h1 : w.cell? ⟨p.block, p.off + 1, none⟩ = some b) (h2 : w.cell? ⟨p.block, p.off + 2, none⟩ = some c) : (Instr.loadAt 51 (.pointer (some p))).run Tryd.prog w = .ok (.agg #[a, b, c]) w := by simp [go_sem, h0, h1, h2]
attribute [local go_sem] Oper.semAt_some
/-- The elements by their values. -/
def Is3 (w : World) (u x : Value) : Prop := u = x ∧ ∃ b A n c D m k, u = .agg #[.bool b, .slice A n c, .slice D m k]
/-- What a round keeps: memory below B, and the box that the iterator reads again. -/
def KpB (B B2 : Nat) (W W' : World) : Prop := Below B W W' ∧ ∀ v, W.cell? ⟨B2, 0, none⟩ = some v → W'.cell? ⟨B2, 0, none⟩ = some v
theorem KpB.tr {B B2 : Nat} {X Y Z : World} (h : KpB B B2 X Y) (k : KpB B B2 Y Z) : KpB B B2 X Z := ⟨h.1.trans k.1, fun v hv => k.2 v (h.2 v hv)⟩
theorem KpB.b {B B2 : Nat} {w : World} (hn : B ≤ w.heap.size) (W : World) (l : Nat) (o o' : Obj) (hl : w.heap.size ≤ l) (h : W.heap[l]? = some o) (hc : o.isCells = false) (hw : o.isWalk = false) : KpB B B2 W (W.putObj l o') :=
  ⟨belowK_b hn W l o o' hl h hc hw, fun v hv => cell_kept hv (grownBy_putObj' W l o') (fun r e => by cases e; exact ⟨_, h, hc⟩)⟩
end Go.Proofs.YtkefmeddnncacaaDoor

/- vecs: both; Dot. -/
set_option linter.unusedVariables false
set_option linter.unusedSimpArgs false
set_option maxRecDepth 100000
namespace Go.Proofs.YtkefmeddnncacaaDoor
open Go.RowKit Go.Shelf

abbrev TRs : TypeId := 22
/-- The elements by their places. -/
def encL (us vs : List Value) (m : Nat) (i : Fin m) : Array Value := #[us.getD i undef, vs.getD i undef]
end Go.Proofs.YtkefmeddnncacaaDoor

/- vecs: Dot. -/
set_option linter.unusedVariables false
set_option linter.unusedSimpArgs false
set_option maxRecDepth 100000
namespace Go.Proofs.YtkefmeddnncacaaDoor
open Go.RowKit Go.Shelf
attribute [local go_sem] Oper.semAt_some

def rawOf (q : Rat) : Raw := (decide (q.num < 0), limbs q.num.natAbs, limbs q.den)
theorem Lst.is {α : Type} {E : World → Value → α → Prop} (hE : Tri E) {w : World} {v : Value} {qs : List α} (h : Lst E w v qs) : ∃ us : List Value, Lst Is3 w v us ∧ us.length = qs.length ∧ ∀ (j : Nat) q, qs[j]? = some q → ∃ u, us[j]? = some u ∧ E w u q := by
  obtain ⟨A, n, c, us, e, h1, h2, h3, h4, h5, h6⟩ := h
  refine ⟨us, ⟨A, n, c, us, e, h1, h3.symm, h3, h4, h5, fun j u hu => ⟨u, hu, rfl, ?_⟩⟩, by rw [h3, h2], h6⟩
  have hj : j < qs.length := by
    have := (List.getElem?_eq_some_iff.1 hu).1
    omega
  obtain ⟨u', hu', he⟩ := h6 j _ (List.getElem?_eq_getElem hj)
  rw [hu] at hu'
  cases hu'
  exact hE _ _ _ he
/-- The sum that far. -/
def dotI (ps qs : List Rat) (m : Nat) (pre : List (Fin m)) : Rat := dotA 0 (pre.map fun (i : Fin m) => (ps.getD i.1 0, qs.getD i.1 0))
theorem keep_own {B B' : Nat} {W W' : World} {row : Option Nat} (hg : W.grownBy W' row) (hr : ∀ r, row = some r → B' ≤ r ∧ ∃ o : Obj, W.heap[r]? = some o ∧ o.isCells = false) (hB : B ≤ B') (hs : B ≤ W.heap.size) : RR.Keep B W W' := by
  have key : ∀ b t cs, Blk W b t cs → Blk W' b t cs := fun b t cs k => k.keep (hg.block b k.lt (fun e => by
    obtain ⟨_, o, ho, hc⟩ := hr b e.symm
    rw [k.eq] at ho
    cases ho
    cases hc))
  exact ⟨(Below.refl B W).grown hg hs (fun k e => Nat.le_trans hB (hr k e).1), hg.size, fun b cs k => key b _ cs k, fun b t cs k => ⟨cs, key b t cs k, rfl⟩⟩
theorem blk_own {B' : Nat} {W W' : World} {row : Option Nat} {b : Nat} {t : TypeId} {cs : Array Value} (k : Blk W b t cs) (hg : W.grownBy W' row) (hr : ∀ r, row = some r → B' ≤ r ∧ ∃ o : Obj, W.heap[r]? = some o ∧ o.isCells = false) : Blk W' b t cs :=
  k.keep (hg.block b k.lt (fun e => by
    obtain ⟨_, o, ho, hc⟩ := hr b e.symm
    rw [k.eq] at ho
    cases ho
    cases hc))
/-- A variable that holds a fraction of the call's own. -/
def VarR (B g : Nat) (q : Rat) (W : World) : Prop := ∃ b A n c D m k, Blk W g TR #[.bool b, .slice A n c, .slice D m k] ∧ RatR q B W (.agg #[.bool b, .slice A n c, .slice D m k])
theorem VarR.below {B g : Nat} {q : Rat} {W W' : World} (h : VarR B g q W) (hb : Below W.heap.size W W') : VarR B g q W' := by
  obtain ⟨b, A, n, c, D, m, k, h1, h2⟩ := h
  exact ⟨b, A, n, c, D, m, k, h1.below' hb, h2.below hb⟩
theorem VarR.own {B g B' : Nat} {q : Rat} {W W' : World} {row : Option Nat} (h : VarR B g q W) (hg : W.grownBy W' row) (hr : ∀ r, row = some r → B' ≤ r ∧ ∃ o : Obj, W.heap[r]? = some o ∧ o.isCells = false) : VarR B g q W' := by
  obtain ⟨b, A, n, c, D, m, k, h1, h2⟩ := h
  exact ⟨b, A, n, c, D, m, k, blk_own h1 hg hr, RR.RatR.keep h2 (keep_own (B := 0) hg hr (Nat.zero_le _) (Nat.zero_le _))⟩
end Go.Proofs.YtkefmeddnncacaaDoor

/- vecs: Same. -/
set_option linter.unusedVariables false
set_option linter.unusedSimpArgs false
set_option maxRecDepth 100000
namespace Go.Proofs.YtkefmeddnncacaaDoor
open Go.RowKit Go.Shelf
attribute [local go_sem] Oper.semAt_some

abbrev TB : TypeId := 4
end Go.Proofs.YtkefmeddnncacaaDoor

/- vecs: Add. -/
set_option linter.unusedVariables false
set_option linter.unusedSimpArgs false
set_option maxRecDepth 100000
namespace Go.Proofs.YtkefmeddnncacaaDoor
open Go.RowKit Go.Shelf
attribute [local go_sem] Oper.semAt_some

theorem OLst.own {w w' : World} {B B' : Nat} {row : Option Nat} {v : Value} {qs : List Rat} (h : OLst w B v qs) (hg : w.grownBy w' row) (hr : ∀ r, row = some r → B' ≤ r ∧ ∃ o : Obj, w.heap[r]? = some o ∧ o.isCells = false) : OLst w' B v qs := by
  obtain ⟨us, h1, h2, h3, h4⟩ := h
  refine ⟨us, h1, h2.kept hg ?_, fun j q hq => ?_, h4⟩
  · cases hv : v.ownBlock with
    | none => exact .inl rfl
    | some g =>
      refine .inr fun e => ?_
      obtain ⟨_, cs, hk⟩ := own_row h2 g hv
      obtain ⟨_, o, ho, hc⟩ := hr g e.symm
      rw [hk.eq] at ho
      cases ho
      cases hc
  · obtain ⟨u, hu, hR⟩ := h3 j q hq
    exact ⟨u, hu, RR.RatR.keep hR (keep_own (B := 0) hg hr (Nat.zero_le _) (Nat.zero_le _))⟩
theorem OLst.only {w W : World} {B g : Nat} {t : TypeId} {cs : Array Value} {v : Value} {qs : List Rat} (h : OLst w B v qs) (hb : Blk w g t cs) (h1 : T32 ≠ t) (h2 : TR ≠ t) (F : Only g w W) (hg : w.grownBy W (some g)) : OLst W B v qs := by
  obtain ⟨us, e1, e2, e3, e4⟩ := h
  refine ⟨us, e1, e2.kept hg ?_, fun j q hq => ?_, e4⟩
  · cases hv : v.ownBlock with
    | none => exact .inl rfl
    | some g' =>
      refine .inr fun e => ?_
      cases e
      obtain ⟨_, cs', hk⟩ := own_row e2 g hv
      exact hk.type_ne hb h2 rfl
  · obtain ⟨u, hu, hR⟩ := e3 j q hq
    exact ⟨u, hu, hR.only hb h1 F⟩
/-- A slice of one fraction, in memory of its own. -/
def Fact.sl1 (q : Rat) (B : Nat) : Fact := ⟨fun v w => ∃ g b A n c D m k, v = .slice (some ⟨g, 0, none⟩) 1 1 ∧ Blk w g TR #[.bool b, .slice A n c, .slice D m k] ∧ RatR q B w (.agg #[.bool b, .slice A n c, .slice D m k]),
  fun _ _ _ ⟨g, b, A, n, c, D, m, k, h1, h2, h3⟩ hb => ⟨g, b, A, n, c, D, m, k, h1, h2.below' hb, h3.below hb⟩⟩
/-- The list that far. -/
def addI (ps qs : List Rat) (t : Rat) (m : Nat) (pre : List (Fin m)) : List Rat := (pre.map fun (i : Fin m) => (ps.getD i.1 0, qs.getD i.1 0)).map fun x => x.1 + x.2 * t
end Go.Proofs.YtkefmeddnncacaaDoor

/- the laws of vecs: contracts as their walks ask. -/
set_option linter.unusedVariables false
set_option linter.unusedSimpArgs false
set_option maxRecDepth 100000
namespace Go.Proofs.YtkefmeddnncacaaDoor
open Go.RowKit

/-- How long the parts of a list's fractions are. -/
def Hs (qs : List Rat) (k : Nat) : Prop := ∀ q ∈ qs, H q k
theorem Hs.up {qs : List Rat} {k m : Nat} (h : Hs qs k) (hm : k ≤ m) : Hs qs m := fun q hq => (h q hq).up hm
theorem Hs.take {qs : List Rat} {k : Nat} (h : Hs qs k) (n : Nat) : Hs (qs.take n) k := fun q hq => h q (List.mem_of_mem_take hq)
theorem Hs.drop {qs : List Rat} {k : Nat} (h : Hs qs k) (n : Nat) : Hs (qs.drop n) k := fun q hq => h q (List.mem_of_mem_drop hq)
theorem Hs_zero (n : Nat) : Hs (List.replicate n 0) 1 := fun q hq => by
  rw [(List.mem_replicate.1 hq).2]
  exact H_zero (Nat.le_refl _)
theorem Lst.sl {α : Type} {E : World → Value → α → Prop} {w : World} {v : Value} {qs : List α} (h : Lst E w v qs) : ∃ A c, v = .slice A qs.length c := by
  obtain ⟨A, n, c, us, e, h1, h2, h3, h4, h5, h6⟩ := h
  subst h2
  exact ⟨A, c, e⟩
def Fact.lst (qs : List Rat) : Fact := ⟨fun v w => Lst RCan w v qs, fun _ _ _ h hb => h.can_below hb⟩
def Fact.lst0 (w : World) (qs : List Rat) : Fact := ⟨fun v _ => Lst RCan w v qs, fun _ _ _ h _ => h⟩
end Go.Proofs.YtkefmeddnncacaaDoor

/- the laws of vecs: how their arguments are opened. -/
set_option linter.unusedVariables false
set_option linter.unusedSimpArgs false
set_option maxRecDepth 100000
namespace Go.Proofs.YtkefmeddnncacaaDoor
open Go.RowKit

abbrev gl (A : Option Addr) (n c : Nat) (es : List Raw) : GL := ((A, n, c), es)
def slv (x : GL) : Value := .slice x.1.1 x.1.2.1 x.1.2.2
def rvE (e : Raw) : Rat := rv e.1 e.2.1 e.2.2
theorem RRw.raw {w : World} {u : Value} {e : Raw} (h : RRw w u e) (hl : rsz e ≤ 1000000) : RRaw w u e ∧ H (rvE e) (rsz e) := by
  obtain ⟨A, n, c, D, m, k, rfl, h1, h2, h3, h4, h5, h6, h7, h8⟩ := h
  have e1 := h1.1
  have e2 := h5.1
  unfold rsz at hl
  exact ⟨rprt_of e.1 h1 h2 h3 (by omega) h5 h6 h7 (by omega), H_rv h2 h6 (by unfold rsz; omega) (by unfold rsz; omega) (by unfold rsz; omega)⟩
/-- A law's own list of whole numbers, as it is laid. -/
def Fact.nums (zs : List Int) (m : Nat) : Fact := ⟨fun v w => ∃ g, v = .slice (some ⟨g, 0, none⟩) m m ∧ g < w.heap.size ∧ NumsAt w g zs,
  fun v w w' ⟨g, h1, h2, h3⟩ hb => ⟨g, h1, Nat.lt_of_lt_of_le h2 hb.size, fun j z hz => cell_below hb (h3 j z hz)⟩⟩
def Fact.lraw (es : List Raw) : Fact := ⟨fun v w => Lst RRaw w v es, fun _ _ _ h hb => h.raw_below hb⟩
end Go.Proofs.YtkefmeddnncacaaDoor
