/- vecs: the frame of a law; Dot, Same, Add; how a law's arguments are opened. -/
import Derived.Test.YtfpnhggbfakdkaaDoorFx
import Derived.Test.YtfpnhggbfakdkaaDoorVA
import Derived.Deep.Slices
import Derived.Test.YtfpnhggbfakdkaaDoorFR
import Derived.RangeFuncKeeps
import Derived.RangeFuncLeaves
import Derived.Shelf.Abstract
import Derived.OwnWalkIn
import Derived.TacticsInMore
import Derived.LoopNIn
import Derived.LoopIn
import Derived.RegionIn
import Derived.OrdersIn
import Derived.BigFrameIn
import Derived.Test.YtfpnhggbfakdkaaDoorLz
import Derived.Test.YtfpnhggbfakdkaaDoorKB
/- The frame of the laws on lists of fractions: what their arguments are, how large they are. -/
set_option linter.unusedVariables false
set_option linter.unusedSimpArgs false
set_option maxRecDepth 100000
namespace Go.Proofs.YtfpnhggbfakdkaaDoor
open Go.ChangeShapes Go.WideShapes Go.ChangeAt Go.RowKit Go.Joins

theorem add_add (ad : Addr) (m j : Nat) : (ad.add m).add j = ad.add (m + j) := by
  unfold Addr.add
  by_cases h0 : m = 0 <;> by_cases h1 : j = 0 <;> simp_all [Nat.add_assoc]
/-- A fraction of a list, as it comes in. -/
def RRw (w : World) (u : Value) (e : Bool × List Nat × List Nat) : Prop :=
  ∃ A n c D m k, u = .agg #[.bool e.1, .slice A n c, .slice D m k] ∧ Rd w A n e.2.1 ∧ Is32 e.2.1 ∧ n ≤ c ∧ n ≤ 70368744177664 ∧ Rd w D m e.2.2 ∧ Is32 e.2.2 ∧ m ≤ k ∧ m ≤ 70368744177664
theorem tri_rw : Tri RRw := fun w u q ⟨A, n, c, D, m, k, e, _⟩ => ⟨_, A, n, c, D, m, k, e⟩
theorem list3 {cs : List Value} (h : cs.length = 3) : ∃ a b c, cs = [a, b, c] := by
  match cs, h with
  | [a, b, c], _ => exact ⟨a, b, c, rfl⟩
theorem rat_cells {H : Type} {enc : TypeId × Value → H} {W : World} {fuel : Nat} {cs : List Value} {d : DataW H} {ps : List MemPlace} (h : DataW.trod enc Tryd.prog W 0 (fun _ => true) true fuel 44 cs = some (d, ps))
    (hz : (DataW.weights Tryd.prog 44 d).all (· ≤ reachBytes) = true) : ∃ u e, cs = u.cells.toList ∧ RRw W u e := by
  obtain ⟨_, _, _, _, hlen, _⟩ := DataW.trod_struct Tryd.underlying44 h
  rw [show Tryd.prog.cellsOf 44 = 3 by kernel_rfl] at hlen
  obtain ⟨c0, c1, c2, rfl⟩ := list3 hlen
  obtain ⟨y0, y1, n, hx, _, h0, h1⟩ := trod_struct2 Tryd.underlying44 h
  simp only [Prod.mk.injEq] at hx
  obtain ⟨rfl, rfl⟩ := hx
  obtain ⟨z0, z1⟩ := weights_agg2 (t0 := 0) (t1 := 0) Tryd.underlying44 hz
  have h0' : DataW.trod enc Tryd.prog W 0 (fun _ => true) true n 42 [c0, c1] = some y0 := h0
  have h1' : DataW.trod enc Tryd.prog W 0 (fun _ => true) true n 40 [c2] = some y1 := h1
  obtain ⟨u0, u1, n', hx, _, g0, g1⟩ := trod_struct2 Tryd.underlying42 h0'
  subst hx
  obtain ⟨_, z2⟩ := weights_agg2 (t0 := 0) (t1 := 0) Tryd.underlying42 z0
  have g0' : DataW.trod enc Tryd.prog W 0 (fun _ => true) true n' 4 [c0] = some u0 := g0
  have g1' : DataW.trod enc Tryd.prog W 0 (fun _ => true) true n' 40 [c1] = some u1 := g1
  obtain ⟨b, rfl⟩ := trod_bool (by kernel_rfl) g0'
  obtain ⟨A, n1, c, xs, rfl, hc, hr, h32, hn⟩ := open_partsW (by kernel_rfl) g1' z2
  obtain ⟨D, m, k, ys, rfl, hk, hr2, h322, hm⟩ := open_partsW (by kernel_rfl) h1' z1
  exact ⟨.agg #[.bool b, .slice A n1 c, .slice D m k], (b, xs, ys), rfl, A, n1, c, D, m, k, rfl, hr, h32, hc, hn, hr2, h322, hk, hm⟩
theorem weightsAll_of {H : Type} {P : Program} {e : TypeId} {ds : List (DataW H)} (h : (DataW.weightsAll P e ds).all (· ≤ reachBytes) = true) : ∀ d ∈ ds, (DataW.weights P e d).all (· ≤ reachBytes) = true := by
  induction ds with
  | nil => intro d hd; cases hd
  | cons a ds ih =>
    simp only [DataW.weightsAll, List.all_append, Bool.and_eq_true] at h
    intro d hd
    rcases List.mem_cons.1 hd with rfl | hd
    · exact h.1
    · exact ih h.2 d hd
end Go.Proofs.YtfpnhggbfakdkaaDoor

/- law helpers: how large lists of fractions are; great. -/
set_option linter.unusedVariables false
set_option linter.unusedSimpArgs false
set_option maxRecDepth 100000
namespace Go.Proofs.YtfpnhggbfakdkaaDoor
open Go.RowKit

theorem RRw.below {w w' : World} {u : Value} {e : Raw} (h : RRw w u e) (hb : Below w.heap.size w w') : RRw w' u e := by
  obtain ⟨A, n, c, D, m, k, e1, h1, h2, h3, h4, h5, h6, h7, h8⟩ := h
  exact ⟨A, n, c, D, m, k, e1, h1.below hb, h2, h3, h4, h5.below hb, h6, h7, h8⟩
theorem Lst.rw_below {w w' : World} {v : Value} {es : List Raw} (h : Lst RRw w v es) (hb : Below w.heap.size w w') : Lst RRw w' v es := Lst.below h (fun u q h => h.below hb) hb
/-- A count that stops where it is far beyond. -/
def Cnt (r tot : Nat) : Prop := r ≤ tot ∧ (r = tot ∨ 1048576 < r)
def rsz (e : Raw) : Nat := 2 + e.2.1.length + e.2.2.length
def tsz (es : List Raw) : Nat := (es.map rsz).sum
theorem NatSize_ok (w : World) (A : Option Addr) (n c : Nat) : Calls Tryd.prog 45 #[.slice A n c] w fun e w' => e = .returned (.int .i64 (n : Nat)) ∧ Hid (Below w.heap.size w w') := by
  refine opq fun R hR => ?_
  go_enter Tryd.func45, Tryd.ntmps45
  go_wp2
  exact opq_end hR ⟨rfl, Below.refl _ _⟩
theorem IntSize_ok (w : World) (b : Bool) (A : Option Addr) (n c : Nat) (hn : n ≤ 70368744177664) (x : Nat) (hx : 1 + n = x) : Calls Tryd.prog 44 #[.agg #[.bool b, .slice A n c]] w fun e w' => e = .returned (.int .i64 (x : Nat)) ∧ Hid (Below w.heap.size w w') := by
  refine opq fun R hR => ?_
  go_enter Tryd.func44, Tryd.ntmps44
  have b0 := hide (Below.refl w.heap.size w)
  have K3 := hide (Blk.new_at w (w.heap.size) (by simp) 42 #[.bool b, .slice A n c])
  have yy := (Below.refl w.heap.size w).alloc (Nat.le_refl _) (.cells #[.bool b, .slice A n c] 42)
  replace b0 := hide (below_tr b0.out yy)
  clear yy
  go_wp2_with fail
  refine (NatSize_ok _ A n c).mono ?_
  rintro e w1 ⟨rfl, d0⟩
  replace b0 := hide (below_tr b0.out d0.out)
  clear d0
  have hx2 : (1 : Int) + (n : Int) = (x : Nat) := by omega
  go_wp2
  exact opq_end hR ⟨rfl, b0⟩
set_option maxHeartbeats 1000000 in
theorem RatSize_ok (w : World) (b : Bool) (A : Option Addr) (n c : Nat) (D : Option Addr) (m k : Nat) (hn : n ≤ 70368744177664) (hm : m ≤ 70368744177664) : Calls Tryd.prog 20 #[.agg #[.bool b, .slice A n c, .slice D m k]] w fun e w' => ∃ r : Nat, e = .returned (.int .i64 (r : Int)) ∧ Cnt r (2 + n + m) ∧ Hid (Below w.heap.size w w') := by
  refine opq fun R hR => ?_
  go_enter Tryd.func20, Tryd.ntmps20
  have b0 := hide (Below.refl w.heap.size w)
  have K3 := hide (Blk.new_at w (w.heap.size) (by simp) TR #[.bool b, .slice A n c, .slice D m k])
  have yy := (Below.refl w.heap.size w).alloc (Nat.le_refl _) (.cells #[.bool b, .slice A n c, .slice D m k] TR)
  replace b0 := hide (below_tr b0.out yy)
  replace K3 := hide K3.out
  clear yy
  go_wp2_with fail
  obtain ⟨x, hx⟩ : ∃ x, 1 + n = x := ⟨_, rfl⟩
  refine (IntSize_ok _ b A n c hn x hx).mono ?_
  rintro e w1 ⟨rfl, d0⟩
  replace b0 := hide (below_tr b0.out d0.out)
  have k0 := (K3.out.below' d0.out).at_ 0 rfl
  have k1 := (K3.out.below' d0.out).at_ 1 rfl
  have k2 := (K3.out.below' d0.out).at_ 2 rfl
  clear d0 K3
  obtain ⟨z, hz, hz2⟩ : ∃ z : Nat, (1 : Int) + (x : Nat) = (z : Nat) ∧ Hid (z = 2 + n) := ⟨2 + n, by omega, rfl⟩
  by_cases g : z ≤ 1048576
  · go_wp2_with fail
    refine (NatSize_ok _ D m k).mono ?_
    rintro e w2 ⟨rfl, d0⟩
    replace b0 := hide (below_tr b0.out d0.out)
    clear d0 k0 k1 k2
    have hC : Hid (Cnt (z + m) (2 + n + m)) := ⟨by have := hz2.out; omega, .inl (by have := hz2.out; omega)⟩
    obtain ⟨y, hy, hy2⟩ : ∃ y : Nat, (z : Int) + (m : Int) = (y : Nat) ∧ Hid (y = z + m) := ⟨z + m, by omega, rfl⟩
    rw [← hy2.out] at hC
    go_wp2
    exact opq_end hR ⟨y, rfl, hC.out, b0⟩
  · have hC : Hid (Cnt z (2 + n + m)) := ⟨by have := hz2.out; omega, .inr (by omega)⟩
    go_wp2
    exact opq_end hR ⟨z, rfl, hC.out, b0⟩
theorem tsz_snoc (es : List Raw) (e : Raw) : tsz (es ++ [e]) = tsz es + rsz e := by simp [tsz]
theorem tsz_take (es : List Raw) (i : Nat) : tsz (es.take i) ≤ tsz es := by
  have : tsz es = tsz (es.take i) + tsz (es.drop i) := by
    conv => lhs; rw [← List.take_append_drop i es]
    unfold tsz
    rw [List.map_append, List.sum_append]
  omega
abbrev GL := (Option Addr × Nat × Nat) × List Raw
def gr (x : GL) : Bool := decide (30 < x.1.2.1) || decide (300 < x.1.2.1 + tsz x.2)
end Go.Proofs.YtfpnhggbfakdkaaDoor

/- vecs: both: the function that it hands back. -/
set_option linter.unusedVariables false
set_option linter.unusedSimpArgs false
set_option maxRecDepth 100000
namespace Go.Proofs.YtfpnhggbfakdkaaDoor
open Go.RowKit Go.Shelf

theorem ld_Rats {w : World} {g : Nat} {v : Value} (h : w.cell? ⟨g, 0, none⟩ = some v) : (Instr.loadAt 30 (.pointer (some ⟨g, 0, none⟩))).run Tryd.prog w = .ok v w := by simp [go_sem, h]
theorem ld_RatAt {w : World} {p : Addr} {a b c : Value} (h0 : w.cell? p = some a) (h1 : w.cell? ⟨p.block, p.off + 1, none⟩ = some b) (h2 : w.cell? ⟨p.block, p.off + 2, none⟩ = some c) : (Instr.loadAt 44 (.pointer (some p))).run Tryd.prog w = .ok (.agg #[a, b, c]) w := by simp [go_sem, h0, h1, h2]
attribute [local go_sem] Oper.semAt_some
/-- The elements by their values. -/
def Is3 (w : World) (u x : Value) : Prop := u = x ∧ ∃ b A n c D m k, u = .agg #[.bool b, .slice A n c, .slice D m k]
theorem tri_is : Tri Is3 := fun w u q h => h.2
theorem Lst.is_below {w w' : World} {v : Value} {es : List Value} (h : Lst Is3 w v es) (hb : Below w.heap.size w w') : Lst Is3 w' v es := Lst.below h (fun u q h => h) hb
/-- What a round keeps: memory below B, and the box that the iterator reads again. -/
def KpB (B B2 : Nat) (W W' : World) : Prop := Below B W W' ∧ ∀ v, W.cell? ⟨B2, 0, none⟩ = some v → W'.cell? ⟨B2, 0, none⟩ = some v
theorem KpB.tr {B B2 : Nat} {X Y Z : World} (h : KpB B B2 X Y) (k : KpB B B2 Y Z) : KpB B B2 X Z := ⟨h.1.trans k.1, fun v hv => k.2 v (h.2 v hv)⟩
theorem KpB.b {B B2 : Nat} {w : World} (hn : B ≤ w.heap.size) (W : World) (l : Nat) (o o' : Obj) (hl : w.heap.size ≤ l) (h : W.heap[l]? = some o) (hc : o.isCells = false) (hw : o.isWalk = false) : KpB B B2 W (W.putObj l o') :=
  ⟨belowK_b hn W l o o' hl h hc hw, fun v hv => cell_kept hv (grownBy_putObj' W l o') (fun r e => by cases e; exact ⟨_, h, hc⟩)⟩
set_option maxHeartbeats 1000000 in
theorem vboth1_in (n : Nat) (hn : 1 ≤ n) (l B1 B2 : Nat) (w0 : World) (A A' : Option Addr) (m c c' : Nat) (us vs : List Value) (J Jx : List (Value × Value) → World → Prop)
    (hY : ∀ pre x W, J pre W → (us.zip vs)[pre.length]? = some x → YieldAt Fence.wide (n - 1) Tryd.prog l #[x.1, x.2] W fun e W' =>
      (e = .returned (.bool true) ∧ J (pre ++ [x]) W' ∧ KpB w0.heap.size B2 W W') ∨ (e = .returned (.bool false) ∧ Jx (pre ++ [x]) W'))
    (W : World) (hW : Below w0.heap.size w0 W) (hA : AbidesFrom W.heap.size J) (h1 : W.cell? ⟨B1, 0, none⟩ = some (.slice A m c)) (h2 : W.cell? ⟨B2, 0, none⟩ = some (.slice A' m c')) (hL : Lst Is3 w0 (.slice A m c) us) (hL' : Lst Is3 w0 (.slice A' m c') vs) (h0 : J [] W) :
    CallsIn Fence.wide n Tryd.prog 64 #[.func (.yield l) #[] #[], .pointer (some ⟨B1, 0, none⟩), .pointer (some ⟨B2, 0, none⟩)] W fun e W' => (∃ v, e = .returned v) ∧
      ((∃ ys, ys = us.zip vs ∧ J ys W') ∨ (∃ pre, pre <+: us.zip vs ∧ Jx pre W')) := by
  refine callsIn_of_wp Tryd.func64 rfl trivial ?_ rfl
  simp only [Tryd.ntmps64, List.size_toArray, List.length_cons, List.length_nil, Nat.reduceAdd, Nat.reduceSub, Array.replicate_succ, Array.replicate_zero, List.push_toArray, List.append_toArray, List.nil_append, List.cons_append]
  have c1 := h1
  have L := hide hL
  have L' := hide hL'
  have H2 := hide h2
  have hm : m ≤ 140737488355328 := by
    obtain ⟨_, _, _, _, e, _, _, _, h4, _⟩ := hL
    cases e
    exact h4
  have lu := hide hL.len
  have lv := hide hL'.len
  have A0 := hide hA
  have Y0 := hide hY
  have j0 := hide h0
  have b0 := hide hW
  clear h1 h2 hL hL' hA hY h0 hW
  gi_wp2
  clear c1
  gi_loopw [8] (fun iv wr => ∃ i : Nat, i ≤ m ∧ iv = .int .i64 (i : Nat) ∧ Hid (J ((us.zip vs).take i) wr) ∧ Hid (Below w0.heap.size w0 wr) ∧ Hid (W.heap.size ≤ wr.heap.size) ∧ Hid (wr.cell? ⟨B2, 0, none⟩ = some (.slice A' m c'))) (fun iv _ => m - (intOf iv).toNat)
  case atStart => exact ⟨0, by omega, rfl, j0, b0, Nat.le_refl _, H2⟩
  case round =>
    obtain ⟨i, hi, rfl, hJ, hbel, hsz, hB2⟩ := hrel
    by_cases hlt : i < m
    · obtain ⟨x, hx⟩ : ∃ x, us[i]? = some x := ⟨_, List.getElem?_eq_getElem (by rw [lu.out]; exact hlt)⟩
      obtain ⟨y, hy⟩ : ∃ y, vs[i]? = some y := ⟨_, List.getElem?_eq_getElem (by rw [lv.out]; exact hlt)⟩
      obtain ⟨ad, b2, A2, n2, d2, D2, m2, k2, rfl, _, x0, x1, x2, rfl, _⟩ := (L.out.is_below hbel.out).at_ tri_is hx
      obtain ⟨ad', b3, A3, n3, d3, D3, m3, k3, rfl, _, y0, y1, y2, rfl, _⟩ := (L'.out.is_below hbel.out).at_ tri_is hy
      have K := Blk.new wr TR #[.bool false, .slice none 0 0, .slice none 0 0]
      have f0 := K.at_ 0 rfl
      have f1 := K.at_ 1 rfl
      have f2 := K.at_ 2 rfl
      have g0 := K.frozen 0
      have g1 := K.frozen 1
      have g2 := K.frozen 2
      clear K
      have hst : Sem.run Tryd.prog (storeCells ⟨wr.heap.size, 0, none⟩ [.bool b2, .slice A2 n2 d2, .slice D2 m2 k2]) (wr.alloc (.cells #[.bool false, .slice none 0 0, .slice none 0 0] TR)) = .ok () (wr.alloc (.cells #[.bool b2, .slice A2 n2 d2, .slice D2 m2 k2] TR)) := by
        simp [storeCells, go_sem, f0, f1, f2, g0, g1, g2]
      clear f0 f1 f2 g0 g1 g2
      have yy : Below wr.heap.size wr (wr.alloc (.cells #[.bool b2, .slice A2 n2 d2, .slice D2 m2 k2] TR)) := (Below.refl _ _).alloc (Nat.le_refl _) _
      have K6 := Blk.new wr TR #[.bool b2, .slice A2 n2 d2, .slice D2 m2 k2]
      have u0 := K6.at_ 0 rfl
      have u1 := K6.at_ 1 rfl
      have u2 := K6.at_ 2 rfl
      have y0' := cell_below yy y0
      have y1' := cell_below yy y1
      have y2' := cell_below yy y2
      have c2 := cell_below yy hB2.out
      have hzi : Hid ((us.zip vs)[((us.zip vs).take i).length]? = some (.agg #[.bool b2, .slice A2 n2 d2, .slice D2 m2 k2], .agg #[.bool b3, .slice A3 n3 d3, .slice D3 m3 k3])) := by
        show _ = _
        rw [List.length_take, List.length_zip, lu.out, lv.out, show min i (min m m) = i by omega]
        exact (List.getElem?_zip_eq_some (z := (_, _))).2 ⟨hx, hy⟩
      have hz : Hid ((us.zip vs).take (i + 1) = (us.zip vs).take i ++ [(.agg #[.bool b2, .slice A2 n2 d2, .slice D2 m2 k2], .agg #[.bool b3, .slice A3 n3 d3, .slice D3 m3 k3])]) := by
        show _ = _
        rw [List.take_add_one, (List.getElem?_zip_eq_some (z := (_, _))).2 ⟨hx, hy⟩]; rfl
      have yy1 := hide yy
      clear yy
      gi_wp2
      replace K6 := hide K6
      replace c2 := hide c2
      replace y0' := hide y0'
      replace y1' := hide y1'
      replace y2' := hide y2'
      clear hst
      skip
      obtain ⟨V, hV⟩ : ∃ V, wr.alloc (.cells #[.bool b2, .slice A2 n2 d2, .slice D2 m2 k2] TR) = V := ⟨_, rfl⟩
      rw [hV] at K6 c2 y0' y1' y2' yy1 ⊢
      refine wpW_region_facts (by kernel_rfl) 6 (fun w' => Below V.heap.size V w') [(13, .eq (.func (.yield l) #[] #[])), (14, .eq (.agg #[.bool b2, .slice A2 n2 d2, .slice D2 m2 k2])), (15, .eq (.slice (some ad') m c')), (16, .eq (.int .i64 (i : Nat))), (17, .eq ((.pointer (some (ad'.add (i * 3))) : Value))), (18, .eq (.agg #[.bool b3, .slice A3 n3 d3, .slice D3 m3 k3]))] [false, false, false, false, false, false, false, false, false, false, false, false, false, true, true, true, true, true, true, false, false, false] mixed (by kernel_rfl) (by kernel_rfl) (by kernel_rfl) (fun _ _ h hb => h.trans (hb.mono h.size)) ((Below.refl _ _).drew) ⟨?_, ?_, ?_, ?_, ?_, ?_, trivial⟩ ?_
      · exact .moveC (.inl rfl) (.inl rfl) rfl (fun a w' hC hs => (hs 0 (by kernel_rfl)))
      · exact .load (.agg #[.bool b2, .slice A2 n2 d2, .slice D2 m2 k2]) (.inl rfl) rfl rfl (fun a w' hC hs hl => by rw [show a.eval (.tmp 5) = (.pointer (some ⟨wr.heap.size, 0, none⟩) : Value) from (hs 5 (by kernel_rfl))]; exact ⟨ld_Rat_ ((K6.out.below' hC).at_ 0 rfl) ((K6.out.below' hC).at_ 1 rfl) ((K6.out.below' hC).at_ 2 rfl), rfl⟩)
      · exact .load (.slice (some ad') m c') (.inl rfl) rfl rfl (fun a w' hC hs hl => by rw [show a.eval (.tmp 2) = (.pointer (some ⟨B2, 0, none⟩) : Value) from (hs 2 (by kernel_rfl))]; exact ⟨ld_Rats (cell_below hC c2.out), rfl⟩)
      · exact .moveC (.inl rfl) (.inl rfl) rfl (fun a w' hC hs => (hs 4 (by kernel_rfl)))
      · exact .value (.inl rfl) (by intro T e; cases e) rfl rfl (fun a w' hC hs hl => by
          have e0 : a.eval (.tmp 15) = (.slice (some ad') m c') := (hl 15 (by kernel_rfl) (by kernel_rfl))
          have e1 : a.eval (.tmp 16) = (.int .i64 (i : Nat)) := (hl 16 (by kernel_rfl) (by kernel_rfl))
          simp only [execOp, e0, e1]
          simp [go_sem, hlt])
      · exact .load (.agg #[.bool b3, .slice A3 n3 d3, .slice D3 m3 k3]) (.inl rfl) rfl rfl (fun a w' hC hs hl => by rw [show a.eval (.tmp 17) = (.pointer (some (ad'.add (i * 3))) : Value) from (hl 17 (by kernel_rfl) (by kernel_rfl))]; exact ⟨ld_RatAt (cell_below hC y0'.out) (cell_below hC y1'.out) (cell_below hC y2'.out), rfl⟩)
      intro f w7 hC hF _
      have f13 : f 13 = .func (.yield l) #[] #[] := hF 13 (by kernel_rfl)
      have f14 : f 14 = .agg #[.bool b2, .slice A2 n2 d2, .slice D2 m2 k2] := hF 14 (by kernel_rfl)
      have f18 : f 18 = .agg #[.bool b3, .slice A3 n3 d3, .slice D3 m3 k3] := hF 18 (by kernel_rfl)
      clear hF
      simp only [patch, List.drop]
      rw [f13, f14, f18]
      clear f13 f14 f18
      generalize f (0 + 1 + 1 + 1 + 1 + 1 + 1 + 1 + 1 + 1 + 1 + 1 + 1 + 1 + 1 + 1) = z15 at *
      generalize f (0 + 1 + 1 + 1 + 1 + 1 + 1 + 1 + 1 + 1 + 1 + 1 + 1 + 1 + 1 + 1 + 1) = z16 at *
      generalize f (0 + 1 + 1 + 1 + 1 + 1 + 1 + 1 + 1 + 1 + 1 + 1 + 1 + 1 + 1 + 1 + 1 + 1) = z17 at *
      have b7 := hide (below_tr yy1.out hC)
      have c7 := hide (cell_below hC c2.out)
      have J7 : Hid (J ((us.zip vs).take i) w7) := A0.out _ _ _ none hJ.out ⟨b7.out.os, b7.out.tape, b7.out.output, b7.out.size, fun k hk _ => b7.out.block k hk⟩ (fun r e => by cases e)
      have BB := hide (hbel.out.trans (b7.out.mono hbel.out.size))
      obtain ⟨fn, tmps, assign, body, hyy, hR⟩ := Y0.out ((us.zip vs).take i) (.agg #[.bool b2, .slice A2 n2 d2, .slice D2 m2 k2], .agg #[.bool b3, .slice A3 n3 d3, .slice D3 m3 k3]) w7 J7.out hzi.out
      replace hR := hide hR
      have hs7 := hide (Nat.le_trans hsz.out b7.out.size)
      clear hC K6 c2 y0' y1' y2' yy1 b7 J7
      gi_wp2
      refine hR.out.mono ?_
      rintro e W3 (⟨rfl, hJ3, hk3⟩ | ⟨rfl, hJx3⟩)
      · have hJ4 : Hid (J ((us.zip vs).take (i + 1)) W3) := by
          show J _ _
          rw [hz.out]; exact hJ3
        have hB3 := hide (BB.out.trans hk3.1)
        have c8 := hide (hk3.2 _ c7.out)
        have hs3 := hide (Nat.le_trans hs7.out hk3.1.size)
        clear hJ3 hk3 hyy
        gi_wp2
        go_roundw
        case rel => exact ⟨i + 1, by omega, by go_num, hJ4, hB3, hs3, c8⟩
        case measure => simp [intOf]; omega
      · gi_wp2
        refine bodyPost_ret (results_none rfl _ _ _) rfl ?_
        refine ⟨⟨_, rfl⟩, .inr ⟨_, ?_, hJx3⟩⟩
        rw [← hz.out]
        exact List.take_prefix _ _
    · obtain rfl : i = m := by omega
      rw [List.take_of_length_le (by rw [List.length_zip, lu.out, lv.out]; omega)] at hJ
      gi_wp2
      go_end0
      exact ⟨⟨_, rfl⟩, .inl ⟨_, rfl, hJ.out⟩⟩
end Go.Proofs.YtfpnhggbfakdkaaDoor

/- vecs: both; Dot. -/
set_option linter.unusedVariables false
set_option linter.unusedSimpArgs false
set_option maxRecDepth 100000
namespace Go.Proofs.YtfpnhggbfakdkaaDoor
open Go.RowKit Go.Shelf

abbrev TRs : TypeId := 30
theorem vboth_ok (w : World) (A A' : Option Addr) (m c m' c' : Nat) :
    Calls Tryd.prog 42 #[.slice A m c, .slice A' m' c'] w fun e w' => e = .returned (.func (.func 64) #[] #[.pointer (some ⟨w.heap.size, 0, none⟩), .pointer (some ⟨w.heap.size + 1, 0, none⟩)]) ∧ w' = (w.alloc (.cells #[.slice A m c] TRs)).alloc (.cells #[.slice A' m' c'] TRs) := by
  refine opq fun R hR => ?_
  go_enter Tryd.func42, Tryd.ntmps42
  go_wp2
  exact opq_end hR ⟨rfl, rfl⟩
/-- The elements by their places. -/
def encL (us vs : List Value) (m : Nat) (i : Fin m) : Array Value := #[us.getD i undef, vs.getD i undef]
theorem vboth_stops (n : Nat) (hn : 1 ≤ n) (B1 B2 : Nat) (wb w0 : World) (hb : Below wb.heap.size wb w0) (A A' : Option Addr) (m c c' : Nat) (us vs : List Value) (h1 : w0.cell? ⟨B1, 0, none⟩ = some (.slice A m c)) (h2 : w0.cell? ⟨B2, 0, none⟩ = some (.slice A' m c')) (hL : Lst Is3 wb (.slice A m c) us) (hL' : Lst Is3 wb (.slice A' m c') vs) :
    SeqStopsK Fence.wide n Tryd.prog 64 #[.pointer (some ⟨B1, 0, none⟩), .pointer (some ⟨B2, 0, none⟩)] (encL us vs m) (KpB wb.heap.size B2) (fun xs => xs.map Fin.val = List.range m) (fun _ => True) m w0 := by
  intro l J Jx W hW hA hAx hY h0
  have lu := hL.len
  have lv := hL'.len
  refine (vboth1_in n hn l B1 B2 wb A A' m c c' us vs
    (fun p W => ∃ q : List (Fin m), p = q.map (fun (i : Fin m) => (us.getD i.1 undef, vs.getD i.1 undef)) ∧ q.map Fin.val = List.range q.length ∧ J q W)
    (fun p W => ∃ q : List (Fin m), Jx q W) ?_ W (below_tr hb hW) ?_ (cell_below hW h1) (cell_below hW h2) hL hL' ⟨[], rfl, rfl, h0⟩).mono ?_
  · rintro pre x W1 ⟨q, rfl, hq, hJ⟩ hx
    rw [List.length_map] at hx
    obtain ⟨e1, e2⟩ := List.getElem?_zip_eq_some.1 hx
    have hlt : q.length < m := by
      have := (List.getElem?_eq_some_iff.1 e1).1
      omega
    have hy := hY q ⟨q.length, hlt⟩ W1 hJ hlt
    have ee : encL us vs m ⟨q.length, hlt⟩ = #[x.1, x.2] := by
      unfold encL
      simp only [List.getD_eq_getElem?_getD, e1, e2, Option.getD_some]
    rw [ee] at hy
    obtain ⟨fn, tmps, assign, body, y1, y2⟩ := hy
    refine ⟨fn, tmps, assign, body, y1, y2.mono ?_⟩
    rintro e W' (⟨rfl, j1, k1⟩ | ⟨rfl, j1⟩)
    · refine .inl ⟨rfl, ⟨q ++ [⟨q.length, hlt⟩], ?_, ?_, j1⟩, k1⟩
      · rw [List.map_append]
        congr 1
        simp only [List.map_cons, List.map_nil, List.getD_eq_getElem?_getD, e1, e2, Option.getD_some]
      · rw [List.map_append, hq, List.length_append, List.length_cons, List.length_nil, List.range_succ]; rfl
    · exact .inr ⟨rfl, _, j1⟩
  · rintro p W1 W2 row ⟨q, e1, e2, hJ⟩ hg hr
    exact ⟨q, e1, e2, hA _ _ _ _ hJ hg hr⟩
  · rintro e W' ⟨he, (⟨ys, rfl, q, e1, e2, hJ⟩ | ⟨pre, _, q, hJ⟩)⟩
    · refine ⟨he, .inl ⟨q, ?_, hJ⟩⟩
      have := congrArg List.length e1
      rw [List.length_zip, List.length_map, lu, lv] at this
      show _ = _
      rw [e2, ← this, Nat.min_self]
    · exact ⟨he, .inr ⟨q, trivial, hJ⟩⟩
end Go.Proofs.YtfpnhggbfakdkaaDoor

/- vecs: Dot. -/
set_option linter.unusedVariables false
set_option linter.unusedSimpArgs false
set_option maxRecDepth 100000
namespace Go.Proofs.YtfpnhggbfakdkaaDoor
open Go.RowKit Go.Shelf
attribute [local go_sem] Oper.semAt_some

def rawOf (q : Rat) : Raw := (decide (q.num < 0), limbs q.num.natAbs, limbs q.den)
theorem rk_raw (q : Rat) : rk (rawOf q) = true := rok_self q
theorem lst_raw_of_can {w : World} {v : Value} {ps : List Rat} (h : Lst RCan w v ps) (hp : ∀ p ∈ ps, H p 4398046511104) : Lst RRaw w v (ps.map rawOf) := h.imp rawOf fun u q hq hu => hu.prt (hp q hq)
theorem all_rk (ps : List Rat) : (ps.map rawOf).all rk = true := by
  rw [List.all_eq_true]
  intro e he
  obtain ⟨q, _, rfl⟩ := List.mem_map.1 he
  exact rk_raw q
theorem fits_can (ps qs : List Rat) : fits (ps.map rawOf) (qs.map rawOf) = decide (ps.length = qs.length) := by
  unfold fits
  rw [all_rk, all_rk, List.length_map, List.length_map, Bool.and_true, Bool.and_true]
theorem vfit_can (w : World) (A : Option Addr) (n c : Nat) (ps : List Rat) (A' : Option Addr) (n' c' : Nat) (qs : List Rat) (h : Lst RCan w (.slice A n c) ps) (h' : Lst RCan w (.slice A' n' c') qs) (hp : ∀ p ∈ ps, H p 4398046511104) (hq : ∀ p ∈ qs, H p 4398046511104) (hT : Tab w) (r : Bool) (hr : decide (n = n') = r) :
    Calls Tryd.prog 41 #[.slice A n c, .slice A' n' c'] w fun e w' => e = .returned (.bool r) ∧ Below w.heap.size w w' :=
  (vfit_ok w A n c _ A' n' c' _ (lst_raw_of_can h hp) (lst_raw_of_can h' hq) hT).mono fun e w' ⟨h1, h2⟩ => ⟨by rw [h1, fits_can, ← hr, h.len, h'.len], h2.out⟩
theorem Lst.is {α : Type} {E : World → Value → α → Prop} (hE : Tri E) {w : World} {v : Value} {qs : List α} (h : Lst E w v qs) : ∃ us : List Value, Lst Is3 w v us ∧ us.length = qs.length ∧ ∀ (j : Nat) q, qs[j]? = some q → ∃ u, us[j]? = some u ∧ E w u q := by
  obtain ⟨A, n, c, us, e, h1, h2, h3, h4, h5, h6⟩ := h
  refine ⟨us, ⟨A, n, c, us, e, h1, h3.symm, h3, h4, h5, fun j u hu => ⟨u, hu, rfl, ?_⟩⟩, by rw [h3, h2], h6⟩
  have hj : j < qs.length := by
    have := (List.getElem?_eq_some_iff.1 hu).1
    omega
  obtain ⟨u', hu', he⟩ := h6 j _ (List.getElem?_eq_getElem hj)
  rw [hu] at hu'
  cases hu'
  exact hE _ _ _ he
/-- The sum that far. -/
def dotI (ps qs : List Rat) (m : Nat) (pre : List (Fin m)) : Rat := dotA 0 (pre.map fun (i : Fin m) => (ps.getD i.1 0, qs.getD i.1 0))
theorem dotI_snoc (ps qs : List Rat) (m : Nat) (pre : List (Fin m)) (x : Fin m) : dotI ps qs m (pre ++ [x]) = dotI ps qs m pre + ps.getD x.1 0 * qs.getD x.1 0 := by
  unfold dotI
  rw [List.map_append]
  exact dotA_snoc _ _ _
theorem zip_of_range {α β : Type} (ps : List α) (qs : List β) (d : α) (e : β) (m : Nat) (hp : ps.length = m) (hq : qs.length = m) (xs : List (Fin m)) (h : xs.map Fin.val = List.range m) : xs.map (fun (i : Fin m) => (ps.getD i.1 d, qs.getD i.1 e)) = ps.zip qs := by
  have : xs.map (fun (i : Fin m) => (ps.getD i.1 d, qs.getD i.1 e)) = (xs.map Fin.val).map (fun i => (ps.getD i d, qs.getD i e)) := by rw [List.map_map]; rfl
  rw [this, h]
  apply List.ext_getElem?
  intro j
  rw [List.getElem?_map]
  by_cases hj : j < m
  · rw [List.getElem?_range hj, Option.map_some, eq_comm, List.getElem?_zip_eq_some]
    constructor
    · show _ = some (ps.getD j d)
      rw [List.getD_eq_getElem?_getD, List.getElem?_eq_getElem (by omega)]; rfl
    · show _ = some (qs.getD j e)
      rw [List.getD_eq_getElem?_getD, List.getElem?_eq_getElem (by omega)]; rfl
  · rw [List.getElem?_eq_none (by simpa using hj), List.getElem?_eq_none (by rw [List.length_zip]; omega)]; rfl
theorem H_dotI {ps qs : List Rat} {k m : Nat} (hp : ∀ p ∈ ps, H p k) (hq : ∀ p ∈ qs, H p k) (lp : ps.length = m) (lq : qs.length = m) (pre : List (Fin m)) (hl : pre.length ≤ m) (hk : 1 + m * (2 * k + 1) ≤ 100000000000) : H (dotI ps qs m pre) 100000000000 := by
  have : pre.length * (2 * k + 1) ≤ m * (2 * k + 1) := Nat.mul_le_mul_right _ hl
  refine (H_dotA (s := 0) (k := k) (m := 1) (H_zero (Nat.le_refl _)) (fun x hx => ?_) (by rw [List.length_map]; omega)).up (by rw [List.length_map]; omega)
  obtain ⟨i, _, rfl⟩ := List.mem_map.1 hx
  have hi := i.2
  constructor
  · show H (ps.getD i.1 0) k
    rw [List.getD_eq_getElem?_getD, List.getElem?_eq_getElem (by omega)]
    exact hp _ (List.getElem_mem _)
  · show H (qs.getD i.1 0) k
    rw [List.getD_eq_getElem?_getD, List.getElem?_eq_getElem (by omega)]
    exact hq _ (List.getElem_mem _)
theorem keep_own {B B' : Nat} {W W' : World} {row : Option Nat} (hg : W.grownBy W' row) (hr : ∀ r, row = some r → B' ≤ r ∧ ∃ o : Obj, W.heap[r]? = some o ∧ o.isCells = false) (hB : B ≤ B') (hs : B ≤ W.heap.size) : RR.Keep B W W' := by
  have key : ∀ b t cs, Blk W b t cs → Blk W' b t cs := fun b t cs k => k.keep (hg.block b k.lt (fun e => by
    obtain ⟨_, o, ho, hc⟩ := hr b e.symm
    rw [k.eq] at ho
    cases ho
    cases hc))
  exact ⟨(Below.refl B W).grown hg hs (fun k e => Nat.le_trans hB (hr k e).1), hg.size, fun b cs k => key b _ cs k, fun b t cs k => ⟨cs, key b t cs k, rfl⟩⟩
theorem blk_own {B' : Nat} {W W' : World} {row : Option Nat} {b : Nat} {t : TypeId} {cs : Array Value} (k : Blk W b t cs) (hg : W.grownBy W' row) (hr : ∀ r, row = some r → B' ≤ r ∧ ∃ o : Obj, W.heap[r]? = some o ∧ o.isCells = false) : Blk W' b t cs :=
  k.keep (hg.block b k.lt (fun e => by
    obtain ⟨_, o, ho, hc⟩ := hr b e.symm
    rw [k.eq] at ho
    cases ho
    cases hc))
theorem el_can {w : World} {us : List Value} {ps : List Rat} {n : Nat} (lu : us.length = ps.length) (lp : ps.length = n) (eu : ∀ (j : Nat) q, ps[j]? = some q → ∃ u, us[j]? = some u ∧ RCan w u q) (j : Nat) (hj : j < n) : RCan w (us.getD j undef) (ps.getD j 0) := by
  obtain ⟨u, hu, h⟩ := eu j _ (List.getElem?_eq_getElem (by omega))
  rw [List.getD_eq_getElem?_getD, hu, List.getD_eq_getElem?_getD, List.getElem?_eq_getElem (by omega)]
  exact h
/-- A variable that holds a fraction of the call's own. -/
def VarR (B g : Nat) (q : Rat) (W : World) : Prop := ∃ b A n c D m k, Blk W g TR #[.bool b, .slice A n c, .slice D m k] ∧ RatR q B W (.agg #[.bool b, .slice A n c, .slice D m k])
theorem VarR.below {B g : Nat} {q : Rat} {W W' : World} (h : VarR B g q W) (hb : Below W.heap.size W W') : VarR B g q W' := by
  obtain ⟨b, A, n, c, D, m, k, h1, h2⟩ := h
  exact ⟨b, A, n, c, D, m, k, h1.below' hb, h2.below hb⟩
theorem VarR.own {B g B' : Nat} {q : Rat} {W W' : World} {row : Option Nat} (h : VarR B g q W) (hg : W.grownBy W' row) (hr : ∀ r, row = some r → B' ≤ r ∧ ∃ o : Obj, W.heap[r]? = some o ∧ o.isCells = false) : VarR B g q W' := by
  obtain ⟨b, A, n, c, D, m, k, h1, h2⟩ := h
  exact ⟨b, A, n, c, D, m, k, blk_own h1 hg hr, RR.RatR.keep h2 (keep_own (B := 0) hg hr (Nat.zero_le _) (Nat.zero_le _))⟩
set_option maxHeartbeats 2000000 in
theorem vDot_ok (w : World) (A A' : Option Addr) (n c c' : Nat) (ps qs : List Rat) (k : Nat) (h : Lst RCan w (.slice A n c) ps) (h' : Lst RCan w (.slice A' n c') qs) (hp : ∀ p ∈ ps, H p k) (hq : ∀ q ∈ qs, H q k) (hk : 1 + n * (2 * k + 1) ≤ 100000000000) (hT : Tab w) :
    Calls Tryd.prog 22 #[.slice A n c, .slice A' n c'] w fun e w' => ∃ u, e = .returned (.tuple #[u, .int .i64 0]) ∧ Below w.heap.size w w' ∧ RatR (dot ps qs) w.heap.size w' u := by
  refine opq fun R hR => ?_
  have L := hide h
  have L' := hide h'
  obtain ⟨us, LI, lu, eu⟩ := h.is tri_can
  obtain ⟨vs, LI', lv, ev⟩ := h'.is tri_can
  have EU := hide (el_can lu h.len eu)
  have EV := hide (el_can lv h'.len ev)
  replace LI := hide LI
  replace LI' := hide LI'
  have T0 := hide hT
  clear lu eu lv ev
  have T := hide hT
  have hp := hide hp
  have hq := hide hq
  have hk := hide hk
  have lp := hide h.len
  have lq := hide h'.len
  clear h h' hT
  refine callsIn_wide.1 (callsIn_of_wp_marks (F := Fence.wide) (n := 4) Tryd.func22 rfl trivial (wpIn_wide.2 ?_) rfl)
  simp only [Tryd.ntmps22, List.size_toArray, List.length_cons, List.length_nil, Nat.reduceAdd, Nat.reduceSub, Array.replicate_succ, Array.replicate_zero, List.push_toArray, List.append_toArray, List.nil_append, List.cons_append]
  have b0 := hide (Below.refl w.heap.size w)
  have K4 := hide (Blk.new_at w (w.heap.size) (by simp) TR #[.bool false, .slice none 0 0, .slice none 0 0])
  have yy := (Below.refl w.heap.size w).alloc (Nat.le_refl _) (.cells #[.bool false, .slice none 0 0, .slice none 0 0] TR)
  replace L := hide (L.out.can_below yy)
  replace L' := hide (L'.out.can_below yy)
  replace T := hide (T.out.below yy)
  replace b0 := hide (below_tr b0.out yy)
  clear yy
  have hp4 : Hid (∀ p ∈ ps, H p 4398046511104) := fun p hm => (hp.out p hm).up (by
    have : 1 ≤ n := by rw [← lp.out]; exact List.length_pos_of_mem hm
    have := hk.out
    have : 1 * (2 * k + 1) ≤ n * (2 * k + 1) := Nat.mul_le_mul_right _ (by assumption)
    omega)
  have hq4 : Hid (∀ p ∈ qs, H p 4398046511104) := fun p hm => (hq.out p hm).up (by
    have : 1 ≤ n := by rw [← lq.out]; exact List.length_pos_of_mem hm
    have := hk.out
    have : 1 * (2 * k + 1) ≤ n * (2 * k + 1) := Nat.mul_le_mul_right _ (by assumption)
    omega)
  go_wp2_with fail
  refine (vfit_can _ A n c ps A' n c' qs L.out L'.out hp4.out hq4.out T.out true (by simp)).mono ?_
  rintro e w1 ⟨rfl, d0⟩
  replace K4 := hide (K4.out.below' d0)
  replace L := hide (L.out.can_below d0)
  replace L' := hide (L'.out.can_below d0)
  replace T := hide (T.out.below d0)
  replace b0 := hide (below_tr b0.out d0)
  clear d0
  go_wp2_with fail
  refine (rOf_P _ 0 (by omega) (by omega)).mono ?_
  rintro e w2 ⟨u, rfl, d0, r⟩
  replace K4 := hide (K4.out.below' d0)
  replace L := hide (L.out.can_below d0)
  replace L' := hide (L'.out.can_below d0)
  replace T := hide (T.out.below d0)
  have hb1 := b0.out.size
  have r0 := hide (r.mono (B' := w.heap.size) hb1)
  replace b0 := hide (below_tr b0.out d0)
  clear d0 r hb1
  have hlt2 := hide K4.out.lt
  obtain ⟨b1, A1, n1, c1, D1, m1, k1, rfl⟩ := r0.out.slice
  have K6 := hide (Blk.new w2 TR #[.bool b1, .slice A1 n1 c1, .slice D1 m1 k1])
  have yy := (Below.refl w2.heap.size w2).alloc (Nat.le_refl _) (.cells #[.bool b1, .slice A1 n1 c1, .slice D1 m1 k1] TR)
  replace K4 := hide (K4.out.below' yy)
  replace L := hide (L.out.can_below yy)
  replace L' := hide (L'.out.can_below yy)
  replace T := hide (T.out.below yy)
  replace r0 := hide (r0.out.below yy)
  have hs2 := hide b0.out.size
  replace b0 := hide (below_tr b0.out yy)
  clear yy
  go_wp2_with fail
  refine (vboth_ok _ A A' n c n c').mono ?_
  rintro e w3 ⟨rfl, hw3⟩
  have yy : Below (w2.alloc (.cells #[.bool b1, .slice A1 n1 c1, .slice D1 m1 k1] TR)).heap.size (w2.alloc (.cells #[.bool b1, .slice A1 n1 c1, .slice D1 m1 k1] TR)) w3 := by
    rw [hw3]
    exact ((Below.refl _ _).alloc (Nat.le_refl _) _).alloc (by simp) _
  have X1 : Hid (w3.cell? ⟨w2.heap.size + 1, 0, none⟩ = some (.slice A n c)) := by
    show _ = _
    rw [hw3]
    exact (((Blk.new_at _ (w2.heap.size + 1) (by simp) TRs #[.slice A n c]).alloc _).at_ 0 rfl)
  have X2 : Hid (w3.cell? ⟨w2.heap.size + 1 + 1, 0, none⟩ = some (.slice A' n c')) := by
    show _ = _
    rw [hw3]
    exact ((Blk.new_at _ (w2.heap.size + 1 + 1) (by simp) TRs #[.slice A' n c']).at_ 0 rfl)
  replace K4 := hide (K4.out.below' yy)
  replace K6 := hide (K6.out.below' yy)
  replace r0 := hide (r0.out.below yy)
  have hs3 : Hid (w2.heap.size + 1 ≤ w3.heap.size) := by have := yy.size; simp at this; exact this
  replace b0 := hide (below_tr b0.out yy)
  have S0 : Hid (VarR w.heap.size w2.heap.size (dotI ps qs n []) w3) := ⟨_, _, _, _, _, _, _, K6.out, r0.out⟩
  clear yy hw3 K6 r0 L L' T hp4 hq4
  go_wp2_with fail
  refine wpIn_wide.1 (wpIn_rangeFunc_ownH (F := Fence.wide) (n := 4) rfl (by omega) (gf := 64) (lb := #[.pointer (some ⟨w2.heap.size + 1, 0, none⟩), .pointer (some ⟨w2.heap.size + 1 + 1, 0, none⟩)]) rfl trivial (enters_of Tryd.func64 (by kernel_rfl) rfl)
    (vboth_stops 3 (by omega) (w2.heap.size + 1) (w2.heap.size + 1 + 1) w w3 b0.out A A' n c c' us vs X1.out X2.out LI.out LI'.out) KpB.tr (KpB.b b0.out.size) (Below.refl _ _) (fun _ => rfl)
    (fun pre W => VarR w.heap.size w2.heap.size (dotI ps qs n pre) W ∧ Below w.heap.size w W ∧ w3.heap.size ≤ W.heap.size ∧ Blk W w.heap.size TR #[.bool false, .slice none 0 0, .slice none 0 0])
    (fun _ _ _ => False) ?own (fun _ _ _ _ _ hs _ _ => hs) ⟨S0.out, b0.out, Nat.le_refl _, K4.out⟩
    (fun x a' W => ∃ g7 g8 b P n_ d D m k b' P' n' d' D' m' k', us.getD x.1 undef = .agg #[.bool b, .slice P n_ d, .slice D m k] ∧ vs.getD x.1 undef = .agg #[.bool b', .slice P' n' d', .slice D' m' k'] ∧ Blk W g7 TR #[.bool b, .slice P n_ d, .slice D m k] ∧ Blk W g8 TR #[.bool b', .slice P' n' d', .slice D' m' k'] ∧ w2.heap.size < g7 ∧ w2.heap.size < g8 ∧ a' = ⟨[.slice A n c, .slice A' n c', undef, undef, .pointer (some ⟨w.heap.size, 0, none⟩), .int .i64 0, .pointer (some ⟨w2.heap.size, 0, none⟩), .pointer (some ⟨g7, 0, none⟩), .pointer (some ⟨g8, 0, none⟩), .slice A n c, .slice A' n c', .bool true, .bool false, undef, .agg #[.bool b1, .slice A1 n1 c1, .slice D1 m1 k1], .slice A n c, .slice A' n c', .func (.func 64) #[] #[.pointer (some ⟨w2.heap.size + 1, 0, none⟩), .pointer (some ⟨w2.heap.size + 1 + 1, 0, none⟩)],   .agg #[.bool b, .slice P n_ d, .slice D m k], .agg #[.bool b', .slice P' n' d', .slice D' m' k'], undef, undef, undef, undef, undef, undef].toArray, []⟩)
    ?ownx ?assign ?body ?done (fun _ _ _ _ _ _ h _ => h.elim))
  case own =>
    rintro pre W W' row ⟨h1, h2, h3, h4⟩ hg hr
    exact ⟨h1.own hg hr, h2.trans (keep_own hg hr b0.out.size (Nat.le_trans b0.out.size h3)).base, Nat.le_trans h3 hg.size, blk_own h4 hg hr⟩
  case ownx =>
    rintro x a' u W W' row ⟨g7, g8, b, P, n_, d, D, m, k, b', P', n', d', D', m', k', h1, h2, h3, h4, h5, h6, h7⟩ hg hr
    exact ⟨g7, g8, b, P, n_, d, D, m, k, b', P', n', d', D', m', k', h1, h2, blk_own h3 hg hr, blk_own h4 hg hr, h5, h6, h7⟩
  case assign =>
    intro l pre x W K hI hK
    obtain ⟨b, A2, n2, c2, D2, m2, k2, e1⟩ := (EU.out x.1 x.2).slice
    obtain ⟨b', A3, n3, c3, D3, m3, k3, e2⟩ := (EV.out x.1 x.2).slice
    unfold encL
    rw [e1, e2]
    gi_wp2
    have yy : Below W.heap.size W ((W.alloc (.cells #[.bool b, .slice A2 n2 c2, .slice D2 m2 k2] TR)).alloc (.cells #[.bool b', .slice A3 n3 c3, .slice D3 m3 k3] TR)) := ((Below.refl _ _).alloc (Nat.le_refl _) _).alloc (by simp) _
    obtain ⟨i1, i2, i3, i4⟩ := hI
    refine hK _ _ (((KeepsOthers.alloc _ _).trans (KeepsOthers.alloc _ _)).from _) ⟨yy.mono i2.size, fun v hv => cell_below yy hv⟩ ⟨i1.below yy, below_tr i2 yy, Nat.le_trans i3 yy.size, i4.below' yy⟩
      ⟨W.heap.size, W.heap.size + 1, b, A2, n2, c2, D2, m2, k2, b', A3, n3, c3, D3, m3, k3, e1, e2, (Blk.new W TR _).alloc _, Blk.new_at _ (W.heap.size + 1) (by simp) TR _, ?_, ?_, rfl⟩
    · have := hs3.out
      omega
    · have := hs3.out
      omega
  case body =>
    rintro l pre x a' W hl hrec ⟨⟨b4, A4, n4, c4, D4, m4, k4, s1, s2⟩, i2, i3, i4⟩ ⟨g7, g8, b, P, n_, d, D, m, k_, b', P', n', d', D', m', k', e1, e2, u1, u2, l7, l8, rfl⟩ hlen
    have X := EU.out x.1 x.2
    have Y := EV.out x.1 x.2
    rw [e1] at X
    rw [e2] at Y
    replace X := X.below i2
    replace Y := Y.below i2
    have hnp := H_dotI hp.out hq.out lp.out lq.out pre (by omega) hk.out
    have T := T0.out.below i2
    have hpx : H (ps.getD x.1 0) 100000000000 ∧ H (qs.getD x.1 0) 100000000000 := by
      have hx := x.2
      have h1 := hk.out
      have h2 : 1 * (2 * k + 1) ≤ n * (2 * k + 1) := Nat.mul_le_mul_right _ (by omega)
      have h3 := lp.out
      have h4 := lq.out
      rw [List.getD_eq_getElem?_getD, List.getElem?_eq_getElem (by omega), List.getD_eq_getElem?_getD, List.getElem?_eq_getElem (by omega)]
      exact ⟨(hp.out _ (List.getElem_mem _)).up (by omega), (hq.out _ (List.getElem_mem _)).up (by omega)⟩
    have hpm : H (ps.getD x.1 0 * qs.getD x.1 0) 100000000000 := by
      have hx := x.2
      have h1 := hk.out
      have h2 : 1 * (2 * k + 1) ≤ n * (2 * k + 1) := Nat.mul_le_mul_right _ (by omega)
      have h3 := lp.out
      have h4 := lq.out
      rw [List.getD_eq_getElem?_getD, List.getElem?_eq_getElem (by omega), List.getD_eq_getElem?_getD, List.getElem?_eq_getElem (by omega)]
      exact H_mul (hp.out _ (List.getElem_mem _)) (hq.out _ (List.getElem_mem _)) (by omega)
    have hb1 := i2.size
    gi_wp2
    refine wpIn_region_facts 5 (fun w' => Below W.heap.size W w') [(20, .rat0 W (dotI ps qs n pre)), (21, .rat0 W (ps.getD x.1 0)), (22, .rat0 W (qs.getD x.1 0)), (23, .rat (ps.getD x.1 0 * qs.getD x.1 0)), (24, .ratR (dotI ps qs n pre + ps.getD x.1 0 * qs.getD x.1 0) w.heap.size)] [false, false, false, false, false, false, false, false, false, false, false, false, false, false, false, false, false, false, false, false, true, true, true, true, true, false] mixed (by kernel_rfl) (by kernel_rfl) (by kernel_rfl) (fun _ _ h hb => h.trans (hb.mono h.size)) ((Below.refl _ _).drew) ⟨?_, ?_, ?_, ?_, ?_, trivial⟩ ?_ (by kernel_rfl) ?_
    · exact .load (.agg #[.bool b4, .slice A4 n4 c4, .slice D4 m4 k4]) (.inl rfl) rfl rfl (fun a w' hC hs hl => by rw [show a.eval (.tmp 6) = (.pointer (some ⟨w2.heap.size, 0, none⟩) : Value) from (hs 6 (by kernel_rfl))]; exact ⟨ld_Rat_ ((s1.below' hC).at_ 0 rfl) ((s1.below' hC).at_ 1 rfl) ((s1.below' hC).at_ 2 rfl), s2.can⟩)
    · exact .load (.agg #[.bool b, .slice P n_ d, .slice D m k_]) (.inl rfl) rfl rfl (fun a w' hC hs hl => by rw [show a.eval (.tmp 7) = (.pointer (some ⟨g7, 0, none⟩) : Value) from (hs 7 (by kernel_rfl))]; exact ⟨ld_Rat_ ((u1.below' hC).at_ 0 rfl) ((u1.below' hC).at_ 1 rfl) ((u1.below' hC).at_ 2 rfl), X⟩)
    · exact .load (.agg #[.bool b', .slice P' n' d', .slice D' m' k']) (.inl rfl) rfl rfl (fun a w' hC hs hl => by rw [show a.eval (.tmp 8) = (.pointer (some ⟨g8, 0, none⟩) : Value) from (hs 8 (by kernel_rfl))]; exact ⟨ld_Rat_ ((u2.below' hC).at_ 0 rfl) ((u2.below' hC).at_ 1 rfl) ((u2.below' hC).at_ 2 rfl), Y⟩)
    · exact .call (.inl rfl) rfl rfl fn_rMul (fun a w' hC hs hl => rMul_C ((RCan.below (hl 21 (by kernel_rfl) (by kernel_rfl)) hC).arg hpx.1) ((RCan.below (hl 22 (by kernel_rfl) (by kernel_rfl)) hC).arg hpx.2) (T.below hC))
    · exact .call (.inl rfl) rfl rfl fn_rAdd (fun a w' hC hs hl => rAdd_R _ (Nat.le_trans hb1 hC.size) ((RCan.below (hl 20 (by kernel_rfl) (by kernel_rfl)) hC).arg hnp) (RCan.arg (hl 23 (by kernel_rfl) (by kernel_rfl)) hpm) (T.below hC))
    · intro f w5 hC hF _
      have f24 : RatR (dotI ps qs n pre + ps.getD x.1 0 * qs.getD x.1 0) w.heap.size w5 (f 24) := hF 24 (by kernel_rfl)
      clear hF
      obtain ⟨b5, A5, n5, c5, D5, m5, k5, e5⟩ := f24.slice
      simp only [patch, List.drop]
      rw [e5] at f24 ⊢
      generalize f 20 = y20
      generalize f 21 = y21
      generalize f 22 = y22
      generalize f 23 = y23
      have t1 := s1.below' hC
      have q0 := t1.at_ 0 rfl
      have q1 := t1.at_ 1 rfl
      have q2 := t1.at_ 2 rfl
      have z0 := t1.frozen 0
      have z1 := t1.frozen 1
      have z2 := t1.frozen 2
      go_wp2
      have O : Only w2.heap.size w5 (((w5.setCell ⟨w2.heap.size, 0, none⟩ (.bool b5)).setCell ⟨w2.heap.size, 1, none⟩ (.slice A5 n5 c5)).setCell ⟨w2.heap.size, 2, none⟩ (.slice D5 m5 k5)) := (((Only.refl _ _).set _ _).set _ _).set _ _
      have BW : Below w.heap.size W (((w5.setCell ⟨w2.heap.size, 0, none⟩ (.bool b5)).setCell ⟨w2.heap.size, 1, none⟩ (.slice A5 n5 c5)).setCell ⟨w2.heap.size, 2, none⟩ (.slice D5 m5 k5)) := (((hC.mono hb1).setCell (p := ⟨w2.heap.size, 0, none⟩) hs2.out _).setCell (p := ⟨w2.heap.size, 1, none⟩) hs2.out _).setCell (p := ⟨w2.heap.size, 2, none⟩) hs2.out _
      have KO : KeepsOthers W w5 := ⟨hC.size, fun q o hq _ => (hC.block q (Array.getElem?_eq_some_iff.1 hq).1).trans hq⟩
      refine ⟨(((KO.trans (KeepsOthers.setCell _ _ _)).trans (KeepsOthers.setCell _ _ _)).trans (KeepsOthers.setCell _ _ _)).from _, ⟨BW, fun v hv => ?_⟩, ⟨b5, A5, n5, c5, D5, m5, k5, ((t1.set_ 0 _).set_ 1 _).set_ 2 _, ?_⟩, i2.trans BW, Nat.le_trans i3 BW.size, ?_⟩
      · rw [O.cell (by simp; omega)]
        exact cell_below hC hv
      · rw [dotI_snoc]
        exact f24.only t1 (by decide) O
      · have hne := hlt2.out
        exact (((i4.below' hC).far (p := ⟨w2.heap.size, 0, none⟩) (by simp; omega) _).far (p := ⟨w2.heap.size, 1, none⟩) (by simp; omega) _).far (p := ⟨w2.heap.size, 2, none⟩) (by simp; omega) _
    · rintro ⟨a, w', h⟩
      exact h
  case done =>
    rintro D xs W hD hS ⟨⟨b4, A4, n4, c4, D4, m4, k4, s1, s2⟩, i2, i3, i4⟩ hdef
    have q0 := s1.at_ 0 rfl
    have q1 := s1.at_ 1 rfl
    have q2 := s1.at_ 2 rfl
    have r0 := i4.at_ 0 rfl
    have r1 := i4.at_ 1 rfl
    have r2 := i4.at_ 2 rfl
    have z0 := i4.frozen 0
    have z1 := i4.frozen 1
    have z2 := i4.frozen 2
    go_wp2
    have O : Only w.heap.size W (((W.setCell ⟨w.heap.size, 0, none⟩ (.bool b4)).setCell ⟨w.heap.size, 1, none⟩ (.slice A4 n4 c4)).setCell ⟨w.heap.size, 2, none⟩ (.slice D4 m4 k4)) := (((Only.refl _ _).set _ _).set _ _).set _ _
    have hd2 := (((KeepsOthers.setCell W ⟨w.heap.size, 0, none⟩ (.bool b4)).trans (KeepsOthers.setCell _ ⟨w.heap.size, 1, none⟩ (.slice A4 n4 c4))).trans (KeepsOthers.setCell _ ⟨w.heap.size, 2, none⟩ (.slice D4 m4 k4))).same D _ hdef rfl
    have BW : Below w.heap.size w (((W.setCell ⟨w.heap.size, 0, none⟩ (.bool b4)).setCell ⟨w.heap.size, 1, none⟩ (.slice A4 n4 c4)).setCell ⟨w.heap.size, 2, none⟩ (.slice D4 m4 k4)) := ((i2.setCell (p := ⟨w.heap.size, 0, none⟩) (Nat.le_refl _) _).setCell (p := ⟨w.heap.size, 1, none⟩) (Nat.le_refl _) _).setCell (p := ⟨w.heap.size, 2, none⟩) (Nat.le_refl _) _
    have R1 := s2.only i4 (by decide) O
    have K1 : Blk (((W.setCell ⟨w.heap.size, 0, none⟩ (.bool b4)).setCell ⟨w.heap.size, 1, none⟩ (.slice A4 n4 c4)).setCell ⟨w.heap.size, 2, none⟩ (.slice D4 m4 k4)) w.heap.size TR #[.bool b4, .slice A4 n4 c4, .slice D4 m4 k4] := ((i4.set_ 0 _).set_ 1 _).set_ 2 _
    generalize (((W.setCell ⟨w.heap.size, 0, none⟩ (.bool b4)).setCell ⟨w.heap.size, 1, none⟩ (.slice A4 n4 c4)).setCell ⟨w.heap.size, 2, none⟩ (.slice D4 m4 k4)) = W8 at *
    have hg := grownBy_putObj' W8 D (.deferred none)
    have hr : ∀ r, some D = some r → w.heap.size ≤ r ∧ ∃ o : Obj, W8.heap[r]? = some o ∧ o.isCells = false := fun r e => by
      cases e
      exact ⟨Nat.le_trans b0.out.size hD, _, hd2, rfl⟩
    have K2 := blk_own K1 hg hr
    have p0 := K2.at_ 0 rfl
    have p1 := K2.at_ 1 rfl
    have p2 := K2.at_ 2 rfl
    refine ⟨by simp, .inl ⟨_, _, rfl, run_takeDeferred hd2, ?_⟩⟩
    refine ⟨.tuple #[.agg #[.bool b4, .slice A4 n4 c4, .slice D4 m4 k4], .int .i64 0], ?_, ?_⟩
    · simp [results, Tryd.f22, go_sem, p0, p1, p2]
    · refine opq_end hR ⟨_, rfl, BW.trans (keep_own hg hr (Nat.le_refl _) BW.size).base, ?_⟩
      have e : dotI ps qs n xs = dot ps qs := by
        unfold dotI dot
        rw [zip_of_range ps qs 0 0 n lp.out lq.out xs hS]
      rw [← e]
      exact RR.RatR.keep R1 (keep_own hg hr (Nat.le_refl _) BW.size)
end Go.Proofs.YtfpnhggbfakdkaaDoor

/- vecs: Same. -/
set_option linter.unusedVariables false
set_option linter.unusedSimpArgs false
set_option maxRecDepth 100000
namespace Go.Proofs.YtfpnhggbfakdkaaDoor
open Go.RowKit Go.Shelf
attribute [local go_sem] Oper.semAt_some

abbrev TB : TypeId := 4
theorem lists_eq {ps qs : List Rat} {n : Nat} (hp : ps.length = n) (hq : qs.length = n) (xs : List (Fin n)) (h : xs.map Fin.val = List.range n) (he : ∀ i ∈ xs, ps.getD i.1 0 = qs.getD i.1 0) : ps = qs := by
  apply List.ext_getElem?
  intro j
  by_cases hj : j < n
  · have hm : j ∈ xs.map Fin.val := by rw [h]; exact List.mem_range.2 hj
    obtain ⟨i, hi, e⟩ := List.mem_map.1 hm
    have := he i hi
    rw [e, List.getD_eq_getElem?_getD, List.getD_eq_getElem?_getD, List.getElem?_eq_getElem (by omega), List.getElem?_eq_getElem (by omega)] at this
    rw [List.getElem?_eq_getElem (by omega), List.getElem?_eq_getElem (by omega)]
    exact congrArg some this
  · rw [List.getElem?_eq_none (by omega), List.getElem?_eq_none (by omega)]
set_option maxHeartbeats 2000000 in
theorem vSame_ok (w : World) (A A' : Option Addr) (n c c' : Nat) (ps qs : List Rat) (k : Nat) (h : Lst RCan w (.slice A n c) ps) (h' : Lst RCan w (.slice A' n c') qs) (hp : ∀ p ∈ ps, H p k) (hq : ∀ q ∈ qs, H q k) (hk : k ≤ 100000000000) (hT : Tab w) :
    Calls Tryd.prog 19 #[.slice A n c, .slice A' n c'] w fun e w' => ∃ u, e = .returned u ∧ Below w.heap.size w w' ∧ u = .bool (decide (ps = qs)) := by
  refine opq fun R hR => ?_
  have L := hide h
  have L' := hide h'
  obtain ⟨us, LI, lu, eu⟩ := h.is tri_can
  obtain ⟨vs, LI', lv, ev⟩ := h'.is tri_can
  have EU := hide (el_can lu h.len eu)
  have EV := hide (el_can lv h'.len ev)
  replace LI := hide LI
  replace LI' := hide LI'
  have T0 := hide hT
  clear lu eu lv ev
  have T := hide hT
  have hp := hide hp
  have hq := hide hq
  have hk := hide hk
  have lp := hide h.len
  have lq := hide h'.len
  clear h h' hT
  refine callsIn_wide.1 (callsIn_of_wp_marks (F := Fence.wide) (n := 4) Tryd.func19 rfl trivial (wpIn_wide.2 ?_) rfl)
  simp only [Tryd.ntmps19, List.size_toArray, List.length_cons, List.length_nil, Nat.reduceAdd, Nat.reduceSub, Array.replicate_succ, Array.replicate_zero, List.push_toArray, List.append_toArray, List.nil_append, List.cons_append]
  have b0 := hide (Below.refl w.heap.size w)
  have K4 := hide (Blk.new_at w (w.heap.size) (by simp) TB #[.bool false])
  have yy := (Below.refl w.heap.size w).alloc (Nat.le_refl _) (.cells #[.bool false] TB)
  replace L := hide (L.out.can_below yy)
  replace L' := hide (L'.out.can_below yy)
  replace T := hide (T.out.below yy)
  replace b0 := hide (below_tr b0.out yy)
  clear yy
  have hp4 : Hid (∀ p ∈ ps, H p 4398046511104) := fun p hm => (hp.out p hm).up (by have := hk.out; omega)
  have hq4 : Hid (∀ p ∈ qs, H p 4398046511104) := fun p hm => (hq.out p hm).up (by have := hk.out; omega)
  go_wp2_with fail
  refine (vfit_can _ A n c ps A' n c' qs L.out L'.out hp4.out hq4.out T.out true (by simp)).mono ?_
  rintro e w1 ⟨rfl, d0⟩
  replace K4 := hide (K4.out.below' d0)
  replace L := hide (L.out.can_below d0)
  replace L' := hide (L'.out.can_below d0)
  replace T := hide (T.out.below d0)
  replace b0 := hide (below_tr b0.out d0)
  clear d0
  go_wp2_with fail
  refine (vboth_ok _ A A' n c n c').mono ?_
  rintro e w3 ⟨rfl, hw3⟩
  have yy : Below w1.heap.size w1 w3 := by
    rw [hw3]
    exact ((Below.refl _ _).alloc (Nat.le_refl _) _).alloc (by simp) _
  have X1 : Hid (w3.cell? ⟨w1.heap.size, 0, none⟩ = some (.slice A n c)) := by
    show _ = _
    rw [hw3]
    exact (((Blk.new_at _ (w1.heap.size) (by simp) TRs #[.slice A n c]).alloc _).at_ 0 rfl)
  have X2 : Hid (w3.cell? ⟨w1.heap.size + 1, 0, none⟩ = some (.slice A' n c')) := by
    show _ = _
    rw [hw3]
    exact ((Blk.new_at _ (w1.heap.size + 1) (by simp) TRs #[.slice A' n c']).at_ 0 rfl)
  have hlt1 := hide K4.out.lt
  replace K4 := hide (K4.out.below' yy)
  replace b0 := hide (below_tr b0.out yy)
  clear yy hw3 L L' T hp4 hq4
  go_wp2_with fail
  refine wpIn_wide.1 (wpIn_rangeFunc_ownH (F := Fence.wide) (n := 4) rfl (by omega) (gf := 64) (lb := #[.pointer (some ⟨w1.heap.size, 0, none⟩), .pointer (some ⟨w1.heap.size + 1, 0, none⟩)]) rfl trivial (enters_of Tryd.func64 (by kernel_rfl) rfl)
    (vboth_stops 3 (by omega) (w1.heap.size) (w1.heap.size + 1) w w3 b0.out A A' n c c' us vs X1.out X2.out LI.out LI'.out) KpB.tr (KpB.b b0.out.size) (Below.refl _ _) (fun _ => rfl)
    (fun pre W => (∀ i ∈ pre, ps.getD i.1 0 = qs.getD i.1 0) ∧ Below w.heap.size w W ∧ w3.heap.size ≤ W.heap.size ∧ Blk W w.heap.size TB #[.bool false])
    (fun cd pre W => cd = .ret ∧ ps ≠ qs ∧ Below w.heap.size w W ∧ w3.heap.size ≤ W.heap.size ∧ Blk W w.heap.size TB #[.bool false]) ?own ?own2 ⟨by simp, b0.out, Nat.le_refl _, K4.out⟩
    (fun x a' W => ∃ g7 g8 b P n_ d D m k b' P' n' d' D' m' k', us.getD x.1 undef = .agg #[.bool b, .slice P n_ d, .slice D m k] ∧ vs.getD x.1 undef = .agg #[.bool b', .slice P' n' d', .slice D' m' k'] ∧ Blk W g7 TR #[.bool b, .slice P n_ d, .slice D m k] ∧ Blk W g8 TR #[.bool b', .slice P' n' d', .slice D' m' k'] ∧ w1.heap.size < g7 ∧ w1.heap.size < g8 ∧ a' = ⟨[.slice A n c, .slice A' n c', undef, undef, .pointer (some ⟨w.heap.size, 0, none⟩), .pointer (some ⟨g7, 0, none⟩), .pointer (some ⟨g8, 0, none⟩), .slice A n c, .slice A' n c', .bool true, .bool false, .slice A n c, .slice A' n c', .func (.func 64) #[] #[.pointer (some ⟨w1.heap.size, 0, none⟩), .pointer (some ⟨w1.heap.size + 1, 0, none⟩)],   .agg #[.bool b, .slice P n_ d, .slice D m k], .agg #[.bool b', .slice P' n' d', .slice D' m' k'], undef, undef, undef, undef].toArray, []⟩)
    ?ownx ?assign ?body ?done ?stop)
  case own =>
    rintro pre W W' row ⟨h1, h2, h3, h4⟩ hg hr
    exact ⟨h1, h2.trans (keep_own hg hr b0.out.size (Nat.le_trans b0.out.size h3)).base, Nat.le_trans h3 hg.size, blk_own h4 hg hr⟩
  case own2 =>
    rintro cd pre W W' row ⟨e, h1, h2, h3, h4⟩ hg hr
    exact ⟨e, h1, h2.trans (keep_own hg hr b0.out.size (Nat.le_trans b0.out.size h3)).base, Nat.le_trans h3 hg.size, blk_own h4 hg hr⟩
  case ownx =>
    rintro x a' u W W' row ⟨g7, g8, b, P, n_, d, D, m, k, b', P', n', d', D', m', k', h1, h2, h3, h4, h5, h6, h7⟩ hg hr
    exact ⟨g7, g8, b, P, n_, d, D, m, k, b', P', n', d', D', m', k', h1, h2, blk_own h3 hg hr, blk_own h4 hg hr, h5, h6, h7⟩
  case assign =>
    intro l pre x W K hI hK
    obtain ⟨b, A2, n2, c2, D2, m2, k2, e1⟩ := (EU.out x.1 x.2).slice
    obtain ⟨b', A3, n3, c3, D3, m3, k3, e2⟩ := (EV.out x.1 x.2).slice
    have hs3 : w1.heap.size < w3.heap.size := World.block_lt_of_cell? w3 _ X1.out
    unfold encL
    rw [e1, e2]
    gi_wp2
    have yy : Below W.heap.size W ((W.alloc (.cells #[.bool b, .slice A2 n2 c2, .slice D2 m2 k2] TR)).alloc (.cells #[.bool b', .slice A3 n3 c3, .slice D3 m3 k3] TR)) := ((Below.refl _ _).alloc (Nat.le_refl _) _).alloc (by simp) _
    obtain ⟨i1, i2, i3, i4⟩ := hI
    refine hK _ _ (((KeepsOthers.alloc _ _).trans (KeepsOthers.alloc _ _)).from _) ⟨yy.mono i2.size, fun v hv => cell_below yy hv⟩ ⟨i1, below_tr i2 yy, Nat.le_trans i3 yy.size, i4.below' yy⟩
      ⟨W.heap.size, W.heap.size + 1, b, A2, n2, c2, D2, m2, k2, b', A3, n3, c3, D3, m3, k3, e1, e2, (Blk.new W TR _).alloc _, Blk.new_at _ (W.heap.size + 1) (by simp) TR _, ?_, ?_, rfl⟩
    · omega
    · omega
  case body =>
    rintro l pre x a' W hl hrec ⟨i1, i2, i3, i4⟩ ⟨g7, g8, b, P, n_, d, D, m, k_, b', P', n', d', D', m', k', e1, e2, u1, u2, l7, l8, rfl⟩ hlen
    have X := EU.out x.1 x.2
    have Y := EV.out x.1 x.2
    rw [e1] at X
    rw [e2] at Y
    replace X := hide (X.below i2)
    replace Y := hide (Y.below i2)
    have T := hide (T0.out.below i2)
    have hpx : Hid (H (ps.getD x.1 0) 100000000000 ∧ H (qs.getD x.1 0) 100000000000) := by
      have hx := x.2
      have h1 := hk.out
      have h3 := lp.out
      have h4 := lq.out
      show _ ∧ _
      rw [List.getD_eq_getElem?_getD, List.getElem?_eq_getElem (by omega), List.getD_eq_getElem?_getD, List.getElem?_eq_getElem (by omega)]
      exact ⟨(hp.out _ (List.getElem_mem _)).up (by omega), (hq.out _ (List.getElem_mem _)).up (by omega)⟩
    have hb1 := hide i2.size
    have q70 := u1.at_ 0 rfl
    have q71 := u1.at_ 1 rfl
    have q72 := u1.at_ 2 rfl
    have q80 := u2.at_ 0 rfl
    have q81 := u2.at_ 1 rfl
    have q82 := u2.at_ 2 rfl
    replace i1 := hide i1
    replace i2 := hide i2
    replace i4 := hide i4
    clear hrec e1 e2 u1 u2
    obtain ⟨r, hr, hr0, hre⟩ : ∃ r : Int, cmpQ (ps.getD x.1 0) (qs.getD x.1 0) = r ∧ Hid (r = 0 → ps.getD x.1 0 = qs.getD x.1 0) ∧ Hid (r ≠ 0 → ps.getD x.1 0 ≠ qs.getD x.1 0) := by
      refine ⟨_, rfl, ?_, ?_⟩
      · show _ → _
        intro h
        rcases rat_tri (ps.getD x.1 0) (qs.getD x.1 0) with h1 | h1 | h1
        · rw [cmpQ_lt h1] at h; cases h
        · exact h1
        · rw [cmpQ_gt h1] at h; cases h
      · show _ → _
        intro h e
        exact h (cmpQ_e e)
    gi_wp2_with fail
    refine ⟨trivial, ((callsIn_wide.2 (rCmp_eq (X.out.arg hpx.out.1) (Y.out.arg hpx.out.2) T.out r hr)).inRound l).mono ?_⟩
    rintro e W5 ⟨_, rfl, hC, rfl⟩
    replace i4 := hide (i4.out.below' hC)
    have BW := hide ((hC.mono hb1.out))
    have KO : Hid (KeepsOthers W W5) := ⟨hC.size, fun q o hq _ => (hC.block q (Array.getElem?_eq_some_iff.1 hq).1).trans hq⟩
    have q0 := i4.out.at_ 0 rfl
    have z0 := i4.out.frozen 0
    have kc := hide (fun v (hv : W.cell? ⟨w1.heap.size + 1, 0, none⟩ = some v) => cell_below hC hv)
    clear hC X Y T hr q70 q71 q72 q80 q81 q82
    by_cases h0 : r = 0
    · subst h0
      have hr1 := hide (hr0.out rfl)
      clear hr0 hre
      gi_wp2
      refine ⟨KO.out.from _, ⟨BW.out, fun v hv => kc.out v hv⟩, ?_, i2.out.trans BW.out, Nat.le_trans i3 BW.out.size, i4.out⟩
      intro i hi
      rcases List.mem_append.1 hi with h | h
      · exact i1.out i h
      · rw [List.mem_singleton.1 h]
        exact hr1.out
    · have h1 : (r != 0) = true := by simpa using h0
      have hne : Hid (ps ≠ qs) := fun e => hre.out h0 (by rw [e])
      replace h0 := hide h0
      gi_wp2
      exact ⟨(KO.out.trans (KeepsOthers.setCell _ _ _)).from _, rfl, hne.out, (i2.out.trans BW.out).setCell (p := ⟨w.heap.size, 0, none⟩) (Nat.le_refl _) _, Nat.le_trans i3 (Nat.le_trans BW.out.size (by simp [World.setCell])), i4.out.set_ 0 _⟩
  case done =>
    rintro D xs W hD hS ⟨i1, i2, i3, i4⟩ hdef
    have he : ps = qs := lists_eq lp.out lq.out xs hS i1
    have r0 := i4.at_ 0 rfl
    have z0 := i4.frozen 0
    replace he := hide he
    go_wp2
    have hd2 := (KeepsOthers.setCell W ⟨w.heap.size, 0, none⟩ (.bool true)).same D _ hdef rfl
    have BW : Below w.heap.size w (W.setCell ⟨w.heap.size, 0, none⟩ (.bool true)) := i2.setCell (p := ⟨w.heap.size, 0, none⟩) (Nat.le_refl _) _
    have K1 : Blk (W.setCell ⟨w.heap.size, 0, none⟩ (.bool true)) w.heap.size TB #[.bool true] := i4.set_ 0 _
    generalize W.setCell ⟨w.heap.size, 0, none⟩ (.bool true) = W8 at *
    have hg := grownBy_putObj' W8 D (.deferred none)
    have hr : ∀ r, some D = some r → w.heap.size ≤ r ∧ ∃ o : Obj, W8.heap[r]? = some o ∧ o.isCells = false := fun r e => by
      cases e
      exact ⟨Nat.le_trans b0.out.size hD, _, hd2, rfl⟩
    have K2 := blk_own K1 hg hr
    have p0 := K2.at_ 0 rfl
    refine ⟨by simp, .inl ⟨_, _, rfl, run_takeDeferred hd2, ?_⟩⟩
    refine ⟨.bool true, ?_, ?_⟩
    · simp [results, Tryd.f19, go_sem, p0]
    · refine opq_end hR ⟨_, rfl, BW.trans (keep_own hg hr (Nat.le_refl _) BW.size).base, ?_⟩
      rw [decide_eq_true he.out]
  case stop =>
    rintro D cd xs W hD _ ⟨rfl, i1, i2, i3, i4⟩ hdef
    have hg := grownBy_putObj' W D (.deferred none)
    have hr : ∀ r, some D = some r → w.heap.size ≤ r ∧ ∃ o : Obj, W.heap[r]? = some o ∧ o.isCells = false := fun r e => by
      cases e
      exact ⟨Nat.le_trans b0.out.size hD, _, hdef, rfl⟩
    have K2 := blk_own i4 hg hr
    have p0 := K2.at_ 0 rfl
    refine wpIn_wide.2 ?_
    go_wp2
    refine ⟨by simp, .inl ⟨_, _, rfl, run_takeDeferred hdef, ?_⟩⟩
    refine ⟨.bool false, ?_, ?_⟩
    · simp [results, Tryd.f19, go_sem, p0]
    · refine opq_end hR ⟨_, rfl, i2.trans (keep_own hg hr (Nat.le_refl _) i2.size).base, ?_⟩
      rw [decide_eq_false i1]
/-- .. where they do not fit. -/
theorem vSame_bad (w : World) (A : Option Addr) (n c : Nat) (es : List Raw) (A' : Option Addr) (n' c' : Nat) (fs : List Raw) (h : Lst RRaw w (.slice A n c) es) (h' : Lst RRaw w (.slice A' n' c') fs) (hT : Tab w) (hb : fits es fs = false) :
    Calls Tryd.prog 19 #[.slice A n c, .slice A' n' c'] w fun e w' => ∃ u, e = .returned u ∧ Below w.heap.size w w' ∧ u = .bool false := by
  refine opq fun R hR => ?_
  have L := hide h
  have L' := hide h'
  have T := hide hT
  replace hb := hide hb
  clear h h' hT
  go_enter Tryd.func19, Tryd.ntmps19
  have b0 := hide (Below.refl w.heap.size w)
  have K4 := hide (Blk.new_at w (w.heap.size) (by simp) TB #[.bool false])
  have yy := (Below.refl w.heap.size w).alloc (Nat.le_refl _) (.cells #[.bool false] TB)
  replace L := hide (L.out.raw_below yy)
  replace L' := hide (L'.out.raw_below yy)
  replace T := hide (T.out.below yy)
  replace b0 := hide (below_tr b0.out yy)
  clear yy
  go_wp2_with fail
  refine (vfit_ok _ A n c es A' n' c' fs L.out L'.out T.out).mono ?_
  rintro e w1 ⟨rfl, d0⟩
  rw [hb.out]
  replace K4 := hide (K4.out.below' d0.out)
  replace b0 := hide (below_tr b0.out d0.out)
  clear d0
  have q0 := K4.out.at_ 0 rfl
  have z0 := K4.out.frozen 0
  go_wp2
  refine bodyPost_ret (v := .bool false) (by simp [results, Tryd.results19, go_sem, q0, z0]) rfl ?_
  exact opq_end hR ⟨_, rfl, (by (repeat (first | exact b0.out | exact Below.refl _ _ | refine Below.setCell ?_ (by first | (simp; done) | (simp; omega)) _ | refine Below.alloc ?_ (by first | (simp; done) | (simp; omega)) _))), rfl⟩
end Go.Proofs.YtfpnhggbfakdkaaDoor

/- vecs: Add. -/
set_option linter.unusedVariables false
set_option linter.unusedSimpArgs false
set_option maxRecDepth 100000
namespace Go.Proofs.YtfpnhggbfakdkaaDoor
open Go.RowKit Go.Shelf
attribute [local go_sem] Oper.semAt_some

/-- One more; what is no cells stays. -/
theorem wpList_appO2 {w : World} {ops : Array Oper} {rest : List Oper} {o : Oper} {a : Act} {Q : Exit → Act → World → Prop} (hgd : o.guard = none) (s x : Operand)
    (ho : o.op = .call { callee := .builtin .append, args := #[s, x], argTypes := #[30, 30] })
    (B : Nat) (v : Value) (qs : List Rat) (hs : a.eval s = v) {w0 : World} (hown0 : OLst w0 B v qs) (hb0 : Below w0.heap.size w0 w) (hB0 : B ≤ w0.heap.size) {g : Nat} {b : Bool} {A D : Option Addr} {m c k d : Nat} {q : Rat} (hx : a.eval x = .slice (some ⟨g, 0, none⟩) 1 1) (hg : Blk w g TR #[.bool b, .slice A m c, .slice D k d]) (hq : RatR q w0.heap.size w (.agg #[.bool b, .slice A m c, .slice D k d]))
    (hn : qs.length ≤ 1000000) (hbase : B ≤ w.heap.size)
    (h : ∀ v' w', Hid (OLst w' B v' (qs ++ [q])) → Hid (Below B w w') → Hid (KeepsOthers w w') → wpList Tryd.prog ops Q rest (a.put o.dst v') w') : wpList Tryd.prog ops Q (o :: rest) a w := by
  have hfr : ∀ us' : List Value, us'.length = qs.length → (∀ (j : Nat) q, qs[j]? = some q → ∃ u, us'[j]? = some u ∧ RatR q B w0 u) → ∀ u' ∈ us', ∀ g', uhas u' g' → ¬ uhas (.agg #[.bool b, .slice A m c, .slice D k d]) g' := fun us' e1 e3 => OLst.elt (v := v) e1 e3 hq
  obtain ⟨us, h1, h2', h3', h4⟩ := hown0
  have h3 : ∀ (j : Nat) q, qs[j]? = some q → ∃ u, us[j]? = some u ∧ RatR q B w u := fun j q hq => by
    obtain ⟨u, hu, hr⟩ := h3' j q hq
    exact ⟨u, hu, hr.below hb0⟩
  have h2 := own_below h2' hb0
  have hap := UAp.snoc h4 (hfr us h1 h3')
  replace hq := hq.mono hB0
  refine wpList_appR hgd s x ho B qs.length v us hs h2 hx hg hn hbase fun v' w' k1 k2 => h v' w' ?_ ?_ ?_
  · have hr := fun k e => (own_row h2 k e).2
    refine ⟨us ++ [.agg #[.bool b, .slice A m c, .slice D k d]], by simp [h1], by rw [List.length_append]; exact k1.out, fun j p hp => ?_, hap⟩
    by_cases hj : j < qs.length
    · rw [List.getElem?_append_left hj] at hp
      obtain ⟨u, hu, hR⟩ := h3 j p hp
      exact ⟨u, by rw [List.getElem?_append_left (by omega)]; exact hu, hR.grownR k2.out hr⟩
    · have hj2 : j = qs.length := by
        have := (List.getElem?_eq_some_iff.1 hp).1
        simp at this
        omega
      subst hj2
      rw [List.getElem?_append_right (Nat.le_refl _), Nat.sub_self] at hp
      cases hp
      refine ⟨_, by rw [List.getElem?_append_right (by omega), h1, Nat.sub_self]; rfl, hq.grownR k2.out hr⟩
  · exact (Below.refl B w).grown k2.out hbase (fun k e => (own_row h2 k e).1)
  · refine KeepsOthers.of_grownBy k2.out fun j o e ho => ?_
    obtain ⟨cs, hk⟩ := (own_row h2 j e).2
    rw [hk.eq] at ho
    cases ho
    rfl
theorem OLst.own {w w' : World} {B B' : Nat} {row : Option Nat} {v : Value} {qs : List Rat} (h : OLst w B v qs) (hg : w.grownBy w' row) (hr : ∀ r, row = some r → B' ≤ r ∧ ∃ o : Obj, w.heap[r]? = some o ∧ o.isCells = false) : OLst w' B v qs := by
  obtain ⟨us, h1, h2, h3, h4⟩ := h
  refine ⟨us, h1, h2.kept hg ?_, fun j q hq => ?_, h4⟩
  · cases hv : v.ownBlock with
    | none => exact .inl rfl
    | some g =>
      refine .inr fun e => ?_
      obtain ⟨_, cs, hk⟩ := own_row h2 g hv
      obtain ⟨_, o, ho, hc⟩ := hr g e.symm
      rw [hk.eq] at ho
      cases ho
      cases hc
  · obtain ⟨u, hu, hR⟩ := h3 j q hq
    exact ⟨u, hu, RR.RatR.keep hR (keep_own (B := 0) hg hr (Nat.zero_le _) (Nat.zero_le _))⟩
theorem OLst.only {w W : World} {B g : Nat} {t : TypeId} {cs : Array Value} {v : Value} {qs : List Rat} (h : OLst w B v qs) (hb : Blk w g t cs) (h1 : T32 ≠ t) (h2 : TR ≠ t) (F : Only g w W) (hg : w.grownBy W (some g)) : OLst W B v qs := by
  obtain ⟨us, e1, e2, e3, e4⟩ := h
  refine ⟨us, e1, e2.kept hg ?_, fun j q hq => ?_, e4⟩
  · cases hv : v.ownBlock with
    | none => exact .inl rfl
    | some g' =>
      refine .inr fun e => ?_
      cases e
      obtain ⟨_, cs', hk⟩ := own_row e2 g hv
      exact hk.type_ne hb h2 rfl
  · obtain ⟨u, hu, hR⟩ := e3 j q hq
    exact ⟨u, hu, hR.only hb h1 F⟩
/-- A slice of one fraction, in memory of its own. -/
def Fact.sl1 (q : Rat) (B : Nat) : Fact := ⟨fun v w => ∃ g b A n c D m k, v = .slice (some ⟨g, 0, none⟩) 1 1 ∧ Blk w g TR #[.bool b, .slice A n c, .slice D m k] ∧ RatR q B w (.agg #[.bool b, .slice A n c, .slice D m k]),
  fun _ _ _ ⟨g, b, A, n, c, D, m, k, h1, h2, h3⟩ hb => ⟨g, b, A, n, c, D, m, k, h1, h2.below' hb, h3.below hb⟩⟩
/-- The list that far. -/
def addI (ps qs : List Rat) (t : Rat) (m : Nat) (pre : List (Fin m)) : List Rat := (pre.map fun (i : Fin m) => (ps.getD i.1 0, qs.getD i.1 0)).map fun x => x.1 + x.2 * t
theorem addI_snoc (ps qs : List Rat) (t : Rat) (m : Nat) (pre : List (Fin m)) (x : Fin m) : addI ps qs t m (pre ++ [x]) = addI ps qs t m pre ++ [ps.getD x.1 0 + qs.getD x.1 0 * t] := by simp [addI]
theorem addI_len (ps qs : List Rat) (t : Rat) (m : Nat) (pre : List (Fin m)) : (addI ps qs t m pre).length = pre.length := by simp [addI]
set_option maxHeartbeats 2000000 in
theorem vAdd_ok (w : World) (A A' : Option Addr) (n c c' : Nat) (ps qs : List Rat) (b0_ : Bool) (A0 : Option Addr) (n0 c0 : Nat) (D0 : Option Addr) (m0 k0 : Nat) (t : Rat) (k : Nat) (h : Lst RCan w (.slice A n c) ps) (h' : Lst RCan w (.slice A' n c') qs) (hp : ∀ p ∈ ps, H p k) (hq : ∀ q ∈ qs, H q k) (ht : RCan w (.agg #[.bool b0_, .slice A0 n0 c0, .slice D0 m0 k0]) t) (hs : H t k) (hn : n ≤ 1000000) (hk : 2 * k ≤ 100000000000) (hT : Tab w) :
    Calls Tryd.prog 21 #[.slice A n c, .slice A' n c', .agg #[.bool b0_, .slice A0 n0 c0, .slice D0 m0 k0]] w fun e w' => ∃ u, e = .returned (.tuple #[u, .int .i64 0]) ∧ Below w.heap.size w w' ∧ OLst w' w.heap.size u (axpy ps qs t) := by
  refine opq fun R hR => ?_
  have L := hide h
  have L' := hide h'
  obtain ⟨us, LI, lu, eu⟩ := h.is tri_can
  obtain ⟨vs, LI', lv, ev⟩ := h'.is tri_can
  have EU := hide (el_can lu h.len eu)
  have EV := hide (el_can lv h'.len ev)
  replace LI := hide LI
  replace LI' := hide LI'
  have T0 := hide hT
  clear lu eu lv ev
  have T := hide hT
  have Y := hide ht
  have Y0 := hide ht
  replace hs := hide hs
  have hp := hide hp
  have hq := hide hq
  have hk := hide hk
  have lp := hide h.len
  have lq := hide h'.len
  clear h h' hT ht
  refine callsIn_wide.1 (callsIn_of_wp_marks (F := Fence.wide) (n := 4) Tryd.func21 rfl trivial (wpIn_wide.2 ?_) rfl)
  simp only [Tryd.ntmps21, List.size_toArray, List.length_cons, List.length_nil, Nat.reduceAdd, Nat.reduceSub, Array.replicate_succ, Array.replicate_zero, List.push_toArray, List.append_toArray, List.nil_append, List.cons_append]
  have b0 := hide (Below.refl w.heap.size w)
  have K5 := hide (Blk.new_at w (w.heap.size) (by simp) TR #[.bool b0_, .slice A0 n0 c0, .slice D0 m0 k0])
  have yy := (Below.refl w.heap.size w).alloc (Nat.le_refl _) (.cells #[.bool b0_, .slice A0 n0 c0, .slice D0 m0 k0] TR)
  replace L := hide (L.out.can_below yy)
  replace L' := hide (L'.out.can_below yy)
  replace T := hide (T.out.below yy)
  replace Y := hide (Y.out.below yy)
  replace b0 := hide (below_tr b0.out yy)
  clear yy
  have K6 := hide (Blk.new_at (w.alloc (.cells #[.bool b0_, .slice A0 n0 c0, .slice D0 m0 k0] TR)) (w.heap.size + 1) (by simp) TRs #[.slice none 0 0])
  have yy := (Below.refl (w.alloc (.cells #[.bool b0_, .slice A0 n0 c0, .slice D0 m0 k0] TR)).heap.size (w.alloc (.cells #[.bool b0_, .slice A0 n0 c0, .slice D0 m0 k0] TR))).alloc (Nat.le_refl _) (.cells #[.slice none 0 0] TRs)
  replace K5 := hide (K5.out.below' yy)
  replace L := hide (L.out.can_below yy)
  replace L' := hide (L'.out.can_below yy)
  replace T := hide (T.out.below yy)
  replace Y := hide (Y.out.below yy)
  replace b0 := hide (below_tr b0.out yy)
  clear yy
  have hp4 : Hid (∀ p ∈ ps, H p 4398046511104) := fun p hm => (hp.out p hm).up (by have := hk.out; omega)
  have hq4 : Hid (∀ p ∈ qs, H p 4398046511104) := fun p hm => (hq.out p hm).up (by have := hk.out; omega)
  go_wp2_with fail
  refine (vfit_can _ A n c ps A' n c' qs L.out L'.out hp4.out hq4.out T.out true (by simp)).mono ?_
  rintro e w1 ⟨rfl, d0⟩
  replace K5 := hide (K5.out.below' d0)
  replace K6 := hide (K6.out.below' d0)
  replace L := hide (L.out.can_below d0)
  replace L' := hide (L'.out.can_below d0)
  replace T := hide (T.out.below d0)
  replace Y := hide (Y.out.below d0)
  replace b0 := hide (below_tr b0.out d0)
  clear d0
  have q0 := K5.out.at_ 0 rfl
  have q1 := K5.out.at_ 1 rfl
  have q2 := K5.out.at_ 2 rfl
  go_wp2_with fail
  refine (rCheck_can Y.out (hs.out.up (by have := hk.out; omega)) T.out).mono ?_
  rintro e w2 ⟨_, rfl, d0, rfl⟩
  replace K5 := hide (K5.out.below' d0)
  replace K6 := hide (K6.out.below' d0)
  replace b0 := hide (below_tr b0.out d0)
  clear d0 L L' T Y q0 q1 q2
  go_wp2_with fail
  refine (vboth_ok _ A A' n c n c').mono ?_
  rintro e w3 ⟨rfl, hw3⟩
  have yy : Below w2.heap.size w2 w3 := by
    rw [hw3]
    exact ((Below.refl _ _).alloc (Nat.le_refl _) _).alloc (by simp) _
  have X1 : Hid (w3.cell? ⟨w2.heap.size, 0, none⟩ = some (.slice A n c)) := by
    show _ = _
    rw [hw3]
    exact (((Blk.new_at _ (w2.heap.size) (by simp) TRs #[.slice A n c]).alloc _).at_ 0 rfl)
  have X2 : Hid (w3.cell? ⟨w2.heap.size + 1, 0, none⟩ = some (.slice A' n c')) := by
    show _ = _
    rw [hw3]
    exact ((Blk.new_at _ (w2.heap.size + 1) (by simp) TRs #[.slice A' n c']).at_ 0 rfl)
  have hlt2 := hide K6.out.lt
  replace K5 := hide (K5.out.below' yy)
  replace K6 := hide (K6.out.below' yy)
  replace b0 := hide (below_tr b0.out yy)
  clear yy hw3 hp4 hq4
  go_wp2_with fail
  refine wpIn_wide.1 (wpIn_rangeFunc_ownH (F := Fence.wide) (n := 4) rfl (by omega) (gf := 64) (lb := #[.pointer (some ⟨w2.heap.size, 0, none⟩), .pointer (some ⟨w2.heap.size + 1, 0, none⟩)]) rfl trivial (enters_of Tryd.func64 (by kernel_rfl) rfl)
    (vboth_stops 3 (by omega) (w2.heap.size) (w2.heap.size + 1) w w3 b0.out A A' n c c' us vs X1.out X2.out LI.out LI'.out) KpB.tr (KpB.b b0.out.size) (Below.refl _ _) (fun _ => rfl)
    (fun pre W => ∃ P d, Blk W (w.heap.size + 1) TRs #[.slice P pre.length d] ∧ OLst W w3.heap.size (.slice P pre.length d) (addI ps qs t n pre) ∧ Below w.heap.size w W ∧ w3.heap.size ≤ W.heap.size ∧ Blk W w.heap.size TR #[.bool b0_, .slice A0 n0 c0, .slice D0 m0 k0])
    (fun _ _ _ => False) ?own (fun _ _ _ _ _ hs _ _ => hs) ⟨none, 0, K6.out, OLst.nil _ _, b0.out, Nat.le_refl _, K5.out⟩
    (fun x a' W => ∃ g7 g8 b P n_ d D m k b' P' n' d' D' m' k', us.getD x.1 undef = .agg #[.bool b, .slice P n_ d, .slice D m k] ∧ vs.getD x.1 undef = .agg #[.bool b', .slice P' n' d', .slice D' m' k'] ∧ Blk W g7 TR #[.bool b, .slice P n_ d, .slice D m k] ∧ Blk W g8 TR #[.bool b', .slice P' n' d', .slice D' m' k'] ∧ w3.heap.size ≤ g7 ∧ w3.heap.size ≤ g8 ∧ a' = ⟨[.slice A n c, .slice A' n c', .agg #[.bool b0_, .slice A0 n0 c0, .slice D0 m0 k0], undef, undef, .pointer (some ⟨w.heap.size, 0, none⟩), .pointer (some ⟨w.heap.size + 1, 0, none⟩), .int .i64 0, .pointer (some ⟨g7, 0, none⟩), .pointer (some ⟨g8, 0, none⟩), .slice A n c, .slice A' n c', .bool true, .bool false, .bool false, .agg #[.bool b0_, .slice A0 n0 c0, .slice D0 m0 k0], .bool true, .bool false, .bool false, .slice A n c, .slice A' n c', .func (.func 64) #[] #[.pointer (some ⟨w2.heap.size, 0, none⟩), .pointer (some ⟨w2.heap.size + 1, 0, none⟩)], .agg #[.bool b, .slice P n_ d, .slice D m k], .agg #[.bool b', .slice P' n' d', .slice D' m' k'], undef, undef, undef, undef, undef, undef, undef, undef, undef].toArray, []⟩)
    ?ownx ?assign ?body ?done (fun _ _ _ _ _ _ h _ => h.elim))
  case own =>
    rintro pre W W' row ⟨P, d, h1, h2, h3, h4, h5⟩ hg hr
    exact ⟨P, d, blk_own h1 hg hr, h2.own hg hr, h3.trans (keep_own hg hr b0.out.size (Nat.le_trans b0.out.size h4)).base, Nat.le_trans h4 hg.size, blk_own h5 hg hr⟩
  case ownx =>
    rintro x a' u W W' row ⟨g7, g8, b, P, n_, d, D, m, k, b', P', n', d', D', m', k', h1, h2, h3, h4, h5, h6, h7⟩ hg hr
    exact ⟨g7, g8, b, P, n_, d, D, m, k, b', P', n', d', D', m', k', h1, h2, blk_own h3 hg hr, blk_own h4 hg hr, h5, h6, h7⟩
  case assign =>
    intro l pre x W K hI hK
    obtain ⟨b, A2, n2, c2, D2, m2, k2, e1⟩ := (EU.out x.1 x.2).slice
    obtain ⟨b', A3, n3, c3, D3, m3, k3, e2⟩ := (EV.out x.1 x.2).slice
    unfold encL
    rw [e1, e2]
    gi_wp2
    have yy : Below W.heap.size W ((W.alloc (.cells #[.bool b, .slice A2 n2 c2, .slice D2 m2 k2] TR)).alloc (.cells #[.bool b', .slice A3 n3 c3, .slice D3 m3 k3] TR)) := ((Below.refl _ _).alloc (Nat.le_refl _) _).alloc (by simp) _
    obtain ⟨P, d, i1, i1', i2, i3, i4⟩ := hI
    refine hK _ _ (((KeepsOthers.alloc _ _).trans (KeepsOthers.alloc _ _)).from _) ⟨yy.mono i2.size, fun v hv => cell_below yy hv⟩ ⟨P, d, i1.below' yy, i1'.below yy, below_tr i2 yy, Nat.le_trans i3 yy.size, i4.below' yy⟩
      ⟨W.heap.size, W.heap.size + 1, b, A2, n2, c2, D2, m2, k2, b', A3, n3, c3, D3, m3, k3, e1, e2, (Blk.new W TR _).alloc _, Blk.new_at _ (W.heap.size + 1) (by simp) TR _, i3, by omega, ?_⟩
    rfl
  case body =>
    rintro l pre x a' W hl hrec ⟨P0, d0, s1, s2, i2, i3, i4⟩ ⟨g7, g8, b, P, n_, d, D, m, k_, b', P', n', d', D', m', k', e1, e2, u1, u2, l7, l8, rfl⟩ hlen
    have X := EU.out x.1 x.2
    have Z := EV.out x.1 x.2
    rw [e1] at X
    rw [e2] at Z
    replace X := X.below i2
    replace Z := Z.below i2
    have Y := Y0.out.below i2
    have T := T0.out.below i2
    have hpx : H (ps.getD x.1 0) k ∧ H (qs.getD x.1 0) k := by
      have hx := x.2
      have h3 := lp.out
      have h4 := lq.out
      rw [List.getD_eq_getElem?_getD, List.getElem?_eq_getElem (by omega), List.getD_eq_getElem?_getD, List.getElem?_eq_getElem (by omega)]
      exact ⟨hp.out _ (List.getElem_mem _), hq.out _ (List.getElem_mem _)⟩
    have hk1 := hk.out
    have hpm : H (qs.getD x.1 0 * t) 100000000000 := H_mul hpx.2 hs.out (by omega)
    have hb1 := i2.size
    gi_wp2
    refine wpIn_region_facts 7 (fun w' => Below W.heap.size W w') [(24, .eq (.slice P0 pre.length d0)), (25, .rat0 W (ps.getD x.1 0)), (26, .rat0 W (qs.getD x.1 0)), (27, .rat0 W t), (28, .rat (qs.getD x.1 0 * t)), (29, .ratR (ps.getD x.1 0 + qs.getD x.1 0 * t) W.heap.size), (30, .sl1 (ps.getD x.1 0 + qs.getD x.1 0 * t) W.heap.size)] [false, false, false, false, false, false, false, false, false, false, false, false, false, false, false, false, false, false, false, false, false, false, false, false, true, true, true, true, true, true, true, false, false] mixed (by kernel_rfl) (by kernel_rfl) (by kernel_rfl) (fun _ _ h hb => h.trans (hb.mono h.size)) ((Below.refl _ _).drew) ⟨?_, ?_, ?_, ?_, ?_, ?_, ?_, trivial⟩ ?_ (by kernel_rfl) ?_
    · exact .load (.slice P0 pre.length d0) (.inl rfl) rfl rfl (fun a w' hC hs hl => by rw [show a.eval (.tmp 6) = (.pointer (some ⟨w.heap.size + 1, 0, none⟩) : Value) from (hs 6 (by kernel_rfl))]; exact ⟨ld_Rats ((s1.below' hC).at_ 0 rfl), rfl⟩)
    · exact .load (.agg #[.bool b, .slice P n_ d, .slice D m k_]) (.inl rfl) rfl rfl (fun a w' hC hs hl => by rw [show a.eval (.tmp 8) = (.pointer (some ⟨g7, 0, none⟩) : Value) from (hs 8 (by kernel_rfl))]; exact ⟨ld_Rat_ ((u1.below' hC).at_ 0 rfl) ((u1.below' hC).at_ 1 rfl) ((u1.below' hC).at_ 2 rfl), X⟩)
    · exact .load (.agg #[.bool b', .slice P' n' d', .slice D' m' k']) (.inl rfl) rfl rfl (fun a w' hC hs hl => by rw [show a.eval (.tmp 9) = (.pointer (some ⟨g8, 0, none⟩) : Value) from (hs 9 (by kernel_rfl))]; exact ⟨ld_Rat_ ((u2.below' hC).at_ 0 rfl) ((u2.below' hC).at_ 1 rfl) ((u2.below' hC).at_ 2 rfl), Z⟩)
    · exact .load (.agg #[.bool b0_, .slice A0 n0 c0, .slice D0 m0 k0]) (.inl rfl) rfl rfl (fun a w' hC hs hl => by rw [show a.eval (.tmp 5) = (.pointer (some ⟨w.heap.size, 0, none⟩) : Value) from (hs 5 (by kernel_rfl))]; exact ⟨ld_Rat_ ((i4.below' hC).at_ 0 rfl) ((i4.below' hC).at_ 1 rfl) ((i4.below' hC).at_ 2 rfl), Y⟩)
    · exact .call (.inl rfl) rfl rfl fn_rMul (fun a w' hC hs_ hl => rMul_C ((RCan.below (hl 26 (by kernel_rfl) (by kernel_rfl)) hC).arg (hpx.2.up (by omega))) ((RCan.below (hl 27 (by kernel_rfl) (by kernel_rfl)) hC).arg (hs.out.up (by omega))) (T.below hC))
    · exact .call (.inl rfl) rfl rfl fn_rAdd (fun a w' hC hs hl => rAdd_R _ hC.size ((RCan.below (hl 25 (by kernel_rfl) (by kernel_rfl)) hC).arg (hpx.1.up (by omega))) (RCan.arg (hl 28 (by kernel_rfl) (by kernel_rfl)) hpm) (T.below hC))
    · exact .makeW (.inl rfl) (by intro T e; cases e) rfl (fun a w' hC hs hl => by
        have e0 : RatR (ps.getD x.1 0 + qs.getD x.1 0 * t) W.heap.size w' (a.eval (.tmp 29)) := hl 29 (by kernel_rfl) (by kernel_rfl)
        obtain ⟨b5, A5, n5, c5, D5, m5, k5, e5⟩ := e0.slice
        rw [e5] at e0
        have e6 : a.tmps[29]?.getD undef = _ := (by simp [Act.eval] : _ = a.eval (.tmp 29)).trans e5
        have yy : Below w'.heap.size w' (w'.alloc (.cells #[.bool b5, .slice A5 n5 c5, .slice D5 m5 k5] TR)) := (Below.refl _ _).alloc (Nat.le_refl _) _
        exact ⟨.slice (some ⟨w'.heap.size, 0, none⟩) 1 1, w'.alloc (.cells #[.bool b5, .slice A5 n5 c5, .slice D5 m5 k5] TR), by simp [execOp, Act.eval, go_sem, e6], yy, _, b5, A5, n5, c5, D5, m5, k5, rfl, Blk.new _ _ _, e0.below yy⟩)
    · intro f w5 hC hF _
      have f24 : f 24 = .slice P0 pre.length d0 := hF 24 (by kernel_rfl)
      have f30 : (Fact.sl1 (ps.getD x.1 0 + qs.getD x.1 0 * t) W.heap.size).holds (f 30) w5 := hF 30 (by kernel_rfl)
      clear hF
      obtain ⟨g9, b5, A5, n5, c5, D5, m5, k5, e30, G, R2⟩ := f30
      simp only [patch, List.drop]
      rw [f24, e30]
      clear f24 e30
      generalize f 25 = y25
      generalize f 26 = y26
      generalize f 27 = y27
      generalize f 28 = y28
      generalize f 29 = y29
      replace G := hide G
      replace R2 := hide R2
      have O2 := hide s2
      have D2 := hide hC
      have I3 := hide i3
      have S2 := hide (s1.below' hC)
      have I4 := hide (i4.below' hC)
      have hsz := hide (Nat.le_trans i3 hC.size)
      have KO : Hid (KeepsOthers W w5) := ⟨hC.size, fun q o hq _ => (hC.block q (Array.getElem?_eq_some_iff.1 hq).1).trans hq⟩
      have B2 := hide hC
      clear hC
      refine wpList_appO2 rfl _ _ rfl w3.heap.size _ (addI ps qs t n pre) rfl O2.out D2.out I3.out rfl G.out R2.out (by rw [addI_len]; omega) hsz.out ?_
      intro v' w6 q1 q2 q3
      rw [← addI_snoc] at q1
      obtain ⟨P6, d6, e6⟩ := q1.out.slice
      subst e6
      have el : (addI ps qs t n (pre ++ [x])).length = (pre ++ [x]).length := addI_len _ _ _ _ _
      rw [el] at q1 ⊢
      have hw := b0.out.size
      have hlw : w.heap.size + 1 < w3.heap.size := K6.out.lt
      have S6 := S2.out.below q2.out hlw
      have I6 := I4.out.below q2.out (by omega)
      have c0_ := S6.at_ 0 rfl
      have z0 := S6.frozen 0
      have q1' := hide q1.out
      go_wp2
      have hl2 : pre.length + 1 = (pre ++ [x]).length := by simp
      have hlX : w2.heap.size + 1 < w3.heap.size := World.block_lt_of_cell? w3 _ X2.out
      have hl3 := hlt2.out
      have O : Only (w.heap.size + 1) w6 (w6.setCell ⟨w.heap.size + 1, 0, none⟩ (.slice P6 (pre.length + 1) d6)) := (Only.refl _ _).set _ _
      have BW : Below w.heap.size W (w6.setCell ⟨w.heap.size + 1, 0, none⟩ (.slice P6 (pre.length + 1) d6)) := ((B2.out.mono hb1).trans (q2.out.mono hw)).setCell (p := ⟨w.heap.size + 1, 0, none⟩) (Nat.le_succ _) _
      refine ⟨((KO.out.trans q3.out).trans (KeepsOthers.setCell _ _ _)).from _, ⟨BW, fun v hv => ?_⟩, ⟨P6, d6, ?_, ?_, i2.trans BW, Nat.le_trans i3 BW.size, ?_⟩⟩
      · rw [O.cell (by simp; omega)]
        exact (q2.out.cell (p := ⟨w2.heap.size + 1, 0, none⟩) hlX).trans (cell_below B2.out hv)
      · rw [← hl2]
        exact S6.set_ 0 _
      · have := q1'.out
        exact OLst.only (by simpa using this) S6 (by decide) (by decide) O (grownBy_setCell' _ _ _)
      · exact I6.far (p := ⟨w.heap.size + 1, 0, none⟩) (by simp) _
    · rintro ⟨a, w', h⟩
      exact h
  case done =>
    rintro D xs W hD hS ⟨P0, d0, s1, s2, i2, i3, i4⟩ hdef
    have q0 := s1.at_ 0 rfl
    have z0 := s1.frozen 0
    go_wp2
    have O : Only (w.heap.size + 1) W (W.setCell ⟨w.heap.size + 1, 0, none⟩ (.slice P0 xs.length d0)) := (Only.refl _ _).set _ _
    have hd2 := (KeepsOthers.setCell W ⟨w.heap.size + 1, 0, none⟩ (.slice P0 xs.length d0)).same D _ hdef rfl
    have BW : Below w.heap.size w (W.setCell ⟨w.heap.size + 1, 0, none⟩ (.slice P0 xs.length d0)) := i2.setCell (p := ⟨w.heap.size + 1, 0, none⟩) (Nat.le_succ _) _
    have R1 := s2.only s1 (by decide) (by decide) O (grownBy_setCell' _ _ _)
    have K1 : Blk (W.setCell ⟨w.heap.size + 1, 0, none⟩ (.slice P0 xs.length d0)) (w.heap.size + 1) TRs #[.slice P0 xs.length d0] := s1.set_ 0 _
    generalize W.setCell ⟨w.heap.size + 1, 0, none⟩ (.slice P0 xs.length d0) = W8 at *
    have hg := grownBy_putObj' W8 D (.deferred none)
    have hr : ∀ r, some D = some r → w.heap.size ≤ r ∧ ∃ o : Obj, W8.heap[r]? = some o ∧ o.isCells = false := fun r e => by
      cases e
      exact ⟨Nat.le_trans b0.out.size hD, _, hd2, rfl⟩
    have K2 := blk_own K1 hg hr
    have p0 := K2.at_ 0 rfl
    refine ⟨by simp, .inl ⟨_, _, rfl, run_takeDeferred hd2, ?_⟩⟩
    refine ⟨.tuple #[.slice P0 xs.length d0, .int .i64 0], ?_, ?_⟩
    · simp [results, Tryd.f21, go_sem, p0]
    · refine opq_end hR ⟨_, rfl, BW.trans (keep_own hg hr (Nat.le_refl _) BW.size).base, ?_⟩
      have e : addI ps qs t n xs = axpy ps qs t := by
        unfold addI axpy
        rw [zip_of_range ps qs 0 0 n lp.out lq.out xs hS]
      rw [← e]
      exact (R1.own hg hr).mono b0.out.size
/-- .. where they do not fit, or the fraction may not be. -/
theorem vAdd_bad (w : World) (A : Option Addr) (n c : Nat) (es : List Raw) (A' : Option Addr) (n' c' : Nat) (fs : List Raw) (b0_ : Bool) (A0 : Option Addr) (n0 c0 : Nat) (D0 : Option Addr) (m0 k0 : Nat) (e0 : Raw) (h : Lst RRaw w (.slice A n c) es) (h' : Lst RRaw w (.slice A' n' c') fs) (h0 : RRaw w (.agg #[.bool b0_, .slice A0 n0 c0, .slice D0 m0 k0]) e0) (hT : Tab w) (hb : (fits es fs && rk e0) = false) :
    Calls Tryd.prog 21 #[.slice A n c, .slice A' n' c', .agg #[.bool b0_, .slice A0 n0 c0, .slice D0 m0 k0]] w fun e w' => e = .returned (.tuple #[.slice none 0 0, .int .i64 1]) ∧ Below w.heap.size w w' := by
  refine opq fun R hR => ?_
  have L := hide h
  have L' := hide h'
  have T := hide hT
  have Y := hide h0
  replace hb := hide hb
  clear h h' hT h0
  go_enter Tryd.func21, Tryd.ntmps21
  have b0 := hide (Below.refl w.heap.size w)
  have K5 := hide (Blk.new_at w (w.heap.size) (by simp) TR #[.bool b0_, .slice A0 n0 c0, .slice D0 m0 k0])
  have yy := (Below.refl w.heap.size w).alloc (Nat.le_refl _) (.cells #[.bool b0_, .slice A0 n0 c0, .slice D0 m0 k0] TR)
  replace L := hide (L.out.raw_below yy)
  replace L' := hide (L'.out.raw_below yy)
  replace T := hide (T.out.below yy)
  replace Y := hide (Y.out.below yy)
  replace b0 := hide (below_tr b0.out yy)
  clear yy
  have K6 := hide (Blk.new_at (w.alloc (.cells #[.bool b0_, .slice A0 n0 c0, .slice D0 m0 k0] TR)) (w.heap.size + 1) (by simp) TRs #[.slice none 0 0])
  have yy := (Below.refl (w.alloc (.cells #[.bool b0_, .slice A0 n0 c0, .slice D0 m0 k0] TR)).heap.size (w.alloc (.cells #[.bool b0_, .slice A0 n0 c0, .slice D0 m0 k0] TR))).alloc (Nat.le_refl _) (.cells #[.slice none 0 0] TRs)
  replace K5 := hide (K5.out.below' yy)
  replace L := hide (L.out.raw_below yy)
  replace L' := hide (L'.out.raw_below yy)
  replace T := hide (T.out.below yy)
  replace Y := hide (Y.out.below yy)
  replace b0 := hide (below_tr b0.out yy)
  clear yy
  go_wp2_with fail
  refine (vfit_ok _ A n c es A' n' c' fs L.out L'.out T.out).mono ?_
  rintro e w1 ⟨rfl, d0⟩
  replace K5 := hide (K5.out.below' d0.out)
  replace K6 := hide (K6.out.below' d0.out)
  replace T := hide (T.out.below d0.out)
  replace Y := hide (Y.out.below d0.out)
  replace b0 := hide (below_tr b0.out d0.out)
  clear d0 L L'
  cases hf : fits es fs with
  | false =>
    have q0 := K6.out.at_ 0 rfl
    have z0 := K6.out.frozen 0
    go_wp2
    refine bodyPost_ret (v := .tuple #[.slice none 0 0, .int .i64 1]) (by simp [results, Tryd.results21, go_sem, q0, z0]) rfl ?_
    exact opq_end hR ⟨rfl, (by (repeat (first | exact b0.out | exact Below.refl _ _ | refine Below.setCell ?_ (by first | (simp; done) | (simp; omega)) _ | refine Below.alloc ?_ (by first | (simp; done) | (simp; omega)) _)))⟩
  | true =>
    have hb2 : rk e0 = false := by
      have := hb.out
      rw [hf] at this
      simpa using this
    have q0 := K5.out.at_ 0 rfl
    have q1 := K5.out.at_ 1 rfl
    have q2 := K5.out.at_ 2 rfl
    go_wp2_with fail
    refine (rCheck_P Y.out T.out false hb2).mono ?_
    rintro e w2 ⟨_, rfl, d0, rfl⟩
    replace K6 := hide (K6.out.below' d0)
    replace b0 := hide (below_tr b0.out d0)
    clear d0 q0 q1 q2
    have q0 := K6.out.at_ 0 rfl
    have z0 := K6.out.frozen 0
    go_wp2
    refine bodyPost_ret (v := .tuple #[.slice none 0 0, .int .i64 1]) (by simp [results, Tryd.results21, go_sem, q0, z0]) rfl ?_
    exact opq_end hR ⟨rfl, (by (repeat (first | exact b0.out | exact Below.refl _ _ | refine Below.setCell ?_ (by first | (simp; done) | (simp; omega)) _ | refine Below.alloc ?_ (by first | (simp; done) | (simp; omega)) _)))⟩
end Go.Proofs.YtfpnhggbfakdkaaDoor

/- the laws of vecs: contracts as their walks ask. -/
set_option linter.unusedVariables false
set_option linter.unusedSimpArgs false
set_option maxRecDepth 100000
namespace Go.Proofs.YtfpnhggbfakdkaaDoor
open Go.RowKit

/-- How long the parts of a list's fractions are. -/
def Hs (qs : List Rat) (k : Nat) : Prop := ∀ q ∈ qs, H q k
theorem Hs.up {qs : List Rat} {k m : Nat} (h : Hs qs k) (hm : k ≤ m) : Hs qs m := fun q hq => (h q hq).up hm
theorem Hs.take {qs : List Rat} {k : Nat} (h : Hs qs k) (n : Nat) : Hs (qs.take n) k := fun q hq => h q (List.mem_of_mem_take hq)
theorem Hs.drop {qs : List Rat} {k : Nat} (h : Hs qs k) (n : Nat) : Hs (qs.drop n) k := fun q hq => h q (List.mem_of_mem_drop hq)
theorem Hs_zero (n : Nat) : Hs (List.replicate n 0) 1 := fun q hq => by
  rw [(List.mem_replicate.1 hq).2]
  exact H_zero (Nat.le_refl _)
theorem Hs_axpy {ps qs : List Rat} {k k' m : Nat} {t : Rat} (h : Hs ps k) (h' : Hs qs k') (ht : H t m) (n : Nat) (hn : k + (k' + m) < n) : Hs (axpy ps qs t) n := fun q hq => by
  obtain ⟨x, hx, rfl⟩ := List.mem_map.1 hq
  have h1 := List.of_mem_zip (a := x.1) (b := x.2) hx
  exact H_add (h _ h1.1) (H_mul (h' _ h1.2) ht (Nat.le_refl _)) hn
theorem H_dot {ps qs : List Rat} {k : Nat} (h : Hs ps k) (h' : Hs qs k) (n m : Nat) (hn : ps.length ≤ n) (hm : 1 + n * (2 * k + 1) ≤ m) (hk : m ≤ 100000000000) : H (dot ps qs) m := by
  have hl : (ps.zip qs).length ≤ n := by rw [List.length_zip]; omega
  have := Nat.mul_le_mul_right (2 * k + 1) hl
  refine (H_dotA (k := k) (m := 1) (H_zero (Nat.le_refl _)) (fun x hx => ?_) (by omega)).up (by omega)
  have h1 := List.of_mem_zip (a := x.1) (b := x.2) hx
  exact ⟨h _ h1.1, h' _ h1.2⟩
theorem Lst.sl {α : Type} {E : World → Value → α → Prop} {w : World} {v : Value} {qs : List α} (h : Lst E w v qs) : ∃ A c, v = .slice A qs.length c := by
  obtain ⟨A, n, c, us, e, h1, h2, h3, h4, h5, h6⟩ := h
  subst h2
  exact ⟨A, c, e⟩
def Fact.lst (qs : List Rat) : Fact := ⟨fun v w => Lst RCan w v qs, fun _ _ _ h hb => h.can_below hb⟩
def Fact.lst0 (w : World) (qs : List Rat) : Fact := ⟨fun v _ => Lst RCan w v qs, fun _ _ _ h _ => h⟩
theorem vSame_L {w : World} {v v' : Value} {ps qs : List Rat} {k : Nat} (h : Lst RCan w v ps) (h' : Lst RCan w v' qs) (hp : Hs ps k) (hq : Hs qs k) (hk : k ≤ 100000000000) (hT : Tab w) (r : Bool) (hr : decide (ps = qs) = r) :
    Calls Tryd.prog 19 #[v, v'] w fun e w' => ∃ u, e = .returned u ∧ Below w.heap.size w w' ∧ u = .bool r := by
  obtain ⟨A, c, rfl⟩ := h.sl
  obtain ⟨A', c', rfl⟩ := h'.sl
  by_cases hl : ps.length = qs.length
  · rw [hl] at h ⊢
    refine (vSame_ok w A A' _ c c' ps qs k h h' hp hq hk hT).mono fun e w' ⟨u, h1, h2, h3⟩ => ⟨u, h1, h2, by rw [h3, hr]⟩
  · refine (vSame_bad w A _ c _ A' _ c' _ (lst_raw_of_can h (hp.up (by omega))) (lst_raw_of_can h' (hq.up (by omega))) hT ?_).mono fun e w' ⟨u, h1, h2, h3⟩ => ⟨u, h1, h2, ?_⟩
    · rw [fits_can]; simpa using hl
    · rw [h3, ← hr, decide_eq_false (fun e => hl (by rw [e]))]
theorem vAdd_T {w : World} {v v' u0 : Value} {ps qs : List Rat} {t : Rat} {k : Nat} (h : Lst RCan w v ps) (h' : Lst RCan w v' qs) (h0 : RCan w u0 t) (hl : ps.length = qs.length) (hp : Hs ps k) (hq : Hs qs k) (ht : H t k) (hk : 2 * k ≤ 100000000000) (hn : ps.length ≤ 1000000) (hT : Tab w) :
    Calls Tryd.prog 21 #[v, v', u0] w fun e w' => ∃ u, e = .returned (.tuple #[u, .int .i64 0]) ∧ Below w.heap.size w w' ∧ Lst RCan w' u (axpy ps qs t) := by
  obtain ⟨A, c, rfl⟩ := h.sl
  obtain ⟨A', c', rfl⟩ := h'.sl
  obtain ⟨b0, A0, n0, c0, D0, m0, k0, rfl⟩ := h0.slice
  rw [← hl] at h' ⊢
  exact (vAdd_ok w A A' _ c c' ps qs b0 A0 n0 c0 D0 m0 k0 t k h h' hp hq h0 ht hn hk hT).mono fun e w' ⟨u, h1, h2, h3⟩ => ⟨_, h1, h2, h3.lst (by rw [axpy_length _ _ _ hl]; exact hn)⟩
theorem vAdd_L {w : World} {v v' u0 : Value} {ps qs : List Rat} {t : Rat} {k : Nat} (h : Lst RCan w v ps) (h' : Lst RCan w v' qs) (h0 : RCan w u0 t) (hl : ps.length = qs.length) (hp : Hs ps k) (hq : Hs qs k) (ht : H t k) (hk : 2 * k ≤ 100000000000) (hn : ps.length ≤ 1000000) (hT : Tab w) :
    Calls Tryd.prog 21 #[v, v', u0] w fun e w' => ∃ u, e = .returned u ∧ Below w.heap.size w w' ∧ (Fact.tupE (.lst (axpy ps qs t)) (.int .i64 0)).holds u w' :=
  (vAdd_T h h' h0 hl hp hq ht hk hn hT).mono fun e w' ⟨u, h1, h2, h3⟩ => ⟨_, h1, h2, u, rfl, h3⟩
theorem vCheck_L {w : World} {v : Value} {es : List Raw} (h : Lst RRaw w v es) (hT : Tab w) (r : Bool) (hr : es.all rk = r) :
    Calls Tryd.prog 16 #[v] w fun e w' => ∃ u, e = .returned u ∧ Below w.heap.size w w' ∧ u = .bool r := by
  obtain ⟨A, c, rfl⟩ := h.sl
  exact (vCheck_ok w A _ c es h hT).mono fun e w' ⟨h1, h2⟩ => ⟨_, h1, h2.out, by rw [hr]⟩
theorem fn_vSame (args : Array Value) (w : World) : (callFunc 19 args).run Tryd.prog w = .ok (.enter 19 args) w := callFunc_enter Tryd.func19 (by kernel_rfl) rfl args w
end Go.Proofs.YtfpnhggbfakdkaaDoor

/- the laws of vecs: how their arguments are opened. -/
set_option linter.unusedVariables false
set_option linter.unusedSimpArgs false
set_option maxRecDepth 100000
namespace Go.Proofs.YtfpnhggbfakdkaaDoor
open Go.RowKit

abbrev gl (A : Option Addr) (n c : Nat) (es : List Raw) : GL := ((A, n, c), es)
def slv (x : GL) : Value := .slice x.1.1 x.1.2.1 x.1.2.2
def rvE (e : Raw) : Rat := rv e.1 e.2.1 e.2.2
theorem tsz_mem {es : List Raw} {e : Raw} (h : e ∈ es) : rsz e ≤ tsz es := by
  induction es with
  | nil => cases h
  | cons a es ih =>
    have : tsz (a :: es) = rsz a + tsz es := by simp [tsz]
    rcases List.mem_cons.1 h with rfl | h
    · omega
    · have := ih h
      omega
theorem RRw.raw {w : World} {u : Value} {e : Raw} (h : RRw w u e) (hl : rsz e ≤ 1000000) : RRaw w u e ∧ H (rvE e) (rsz e) := by
  obtain ⟨A, n, c, D, m, k, rfl, h1, h2, h3, h4, h5, h6, h7, h8⟩ := h
  have e1 := h1.1
  have e2 := h5.1
  unfold rsz at hl
  exact ⟨rprt_of e.1 h1 h2 h3 (by omega) h5 h6 h7 (by omega), H_rv h2 h6 (by unfold rsz; omega) (by unfold rsz; omega) (by unfold rsz; omega)⟩
theorem RRw.arg {w : World} {u : Value} {e : Raw} (h : RRw w u e) (hl : rsz e ≤ 1000000) : RArg w u (rvE e) := by
  obtain ⟨A, n, c, D, m, k, rfl, h1, h2, h3, h4, h5, h6, h7, h8⟩ := h
  have e1 := h1.1
  have e2 := h5.1
  unfold rsz at hl
  exact (rprt_of e.1 h1 h2 h3 (by omega) h5 h6 h7 (by omega)).arg (by omega) (by omega)
theorem Lst.rawW {w : World} {v : Value} {es : List Raw} (h : Lst RRw w v es) (k : Nat) (hl : tsz es ≤ k) (hk : k ≤ 1000000) : Lst RRaw w v es ∧ Hs (es.map rvE) k := by
  have key : ∀ e ∈ es, rsz e ≤ k := fun e he => Nat.le_trans (tsz_mem he) hl
  constructor
  · have := h.imp (F := RRaw) id fun u e he hu => (hu.raw (Nat.le_trans (key e he) hk)).1
    rwa [List.map_id] at this
  · obtain ⟨A, n, c, us, e, h1, h2, h3, h4, h5, h6⟩ := h
    intro q hq
    obtain ⟨e, he, rfl⟩ := List.mem_map.1 hq
    obtain ⟨j, hj, rfl⟩ := List.getElem_of_mem he
    obtain ⟨u, hu, hr⟩ := h6 j _ (List.getElem?_eq_getElem hj)
    exact (hr.raw (Nat.le_trans (key _ he) hk)).2.up (key _ he)
theorem Lst.canW {w : World} {v : Value} {es : List Raw} (h : Lst RRaw w v es) (hr : es.all rk = true) : Lst RCan w v (es.map rvE) :=
  h.imp rvE fun u e he hu => hu.can (List.all_eq_true.1 hr e he)
/-- A law's own list of whole numbers, as it is laid. -/
def Fact.nums (zs : List Int) (m : Nat) : Fact := ⟨fun v w => ∃ g, v = .slice (some ⟨g, 0, none⟩) m m ∧ g < w.heap.size ∧ NumsAt w g zs,
  fun v w w' ⟨g, h1, h2, h3⟩ hb => ⟨g, h1, Nat.lt_of_lt_of_le h2 hb.size, fun j z hz => cell_below hb (h3 j z hz)⟩⟩
theorem nums_new (w : World) (g : Nat) (hg : w.heap.size = g) (zs : List Int) (cs : Array Value) (hcs : cs = (zs.map fun z => Value.int .i64 z).toArray) (t : TypeId) : NumsAt (w.alloc (.cells cs t)) g zs := fun j z hz => by
  rw [(Blk.new_at w g hg t cs).cell, hcs]
  simp [hz]
theorem Hs_rats {zs : List Int} (hz : ∀ z ∈ zs, -9223372036854775808 ≤ z ∧ z < 9223372036854775808) : Hs (rats zs) 1000 := fun q hq => by
  obtain ⟨z, h, rfl⟩ := List.mem_map.1 hq
  have := hz z h
  exact H_int (L_up (Z_64 this.1 this.2) (by decide)) (by decide)
def Fact.lraw (es : List Raw) : Fact := ⟨fun v w => Lst RRaw w v es, fun _ _ _ h hb => h.raw_below hb⟩
theorem hold_reg {P : Program} {id : Nat} {ops : Array Oper} {d : Bool} {c : Code} {Q : Exit → Act → World → Prop} {a : Act} {w : World} (h : Hid ((Code.seq (Code.region id ops d) c).wp P Q a w)) : (Code.seq (Code.region id ops d) c).wp P Q a w := h
end Go.Proofs.YtfpnhggbfakdkaaDoor
