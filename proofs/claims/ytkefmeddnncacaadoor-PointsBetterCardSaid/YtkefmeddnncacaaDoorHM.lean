/- models: words, what comes in, sizes, twins, which value is better. -/
import Derived.Test.YtkefmeddnncacaaDoorGN
/- models: words; what comes in; how large. -/
set_option linter.unusedVariables false
set_option linter.unusedSimpArgs false
set_option maxRecDepth 100000
namespace Go.Proofs.YtkefmeddnncacaaDoor
open Go.ChangeShapes Go.WideShapes Go.ChangeAt Go.RowKit Go.Joins

/-- All elements have so many cells. -/
def Szd {α : Type} (E : World → Value → α → Prop) (m : Nat) : Prop := ∀ w u q, E w u q → u.cells.size = m
theorem flat_lenN {us : List Value} {m : Nat} (h3 : ∀ u ∈ us, u.cells.size = m) : (flat us).length = us.length * m := by
  induction us with
  | nil => simp [flat]
  | cons a us ih =>
    show (a.cells.toList ++ flat us).length = _
    rw [List.length_append, ih (fun u hu => h3 u (List.mem_cons_of_mem _ hu)), Array.length_toList, h3 a List.mem_cons_self, List.length_cons, Nat.succ_mul]
    omega
theorem flat_getN {us : List Value} {m : Nat} (h3 : ∀ u ∈ us, u.cells.size = m) {j : Nat} {u : Value} (hj : us[j]? = some u) (i : Nat) (hi : i < m) : (flat us)[j * m + i]? = u.cells.toList[i]? := by
  induction us generalizing j with
  | nil => simp at hj
  | cons a us ih =>
    have ha : a.cells.toList.length = m := by rw [Array.length_toList]; exact h3 a List.mem_cons_self
    show (a.cells.toList ++ flat us)[j * m + i]? = _
    cases j with
    | zero =>
      simp only [List.getElem?_cons_zero, Option.some.injEq] at hj
      subst hj
      rw [List.getElem?_append_left (by omega)]
      simp
    | succ j =>
      rw [List.getElem?_append_right (by rw [Nat.succ_mul]; omega), ha, show (j + 1) * m + i - m = j * m + i by rw [Nat.succ_mul]; omega]
      exact ih (fun u hu => h3 u (List.mem_cons_of_mem _ hu)) (by simpa using hj)
theorem Lst.cellsN {α : Type} {E : World → Value → α → Prop} {m : Nat} (hE : Szd E m) {w : World} {A : Option Addr} {n c : Nat} {qs : List α} (h : Lst E w (.slice A n c) qs) {j : Nat} {q : α} (hj : qs[j]? = some q) :
    ∃ ad u, A = some ad ∧ j < n ∧ E w u q ∧ ∀ i x, u.cells.toList[i]? = some x → w.cell? (ad.add (j * m + i)) = some x := by
  obtain ⟨A', n', c', us, e, h1, h2, h3, h4, h5, h6⟩ := h
  cases e
  have hjn : j < n := by
    rw [h2]
    exact (List.getElem?_eq_some_iff.1 hj).1
  obtain ⟨ad, rfl, hl, hc⟩ := h5 (by omega)
  obtain ⟨u, hu, he⟩ := h6 j q hj
  have hall : ∀ u ∈ us, u.cells.size = m := fun u hu => by
    obtain ⟨i, hi, rfl⟩ := List.getElem_of_mem hu
    obtain ⟨u', hu', he'⟩ := h6 i (qs[i]'(by omega)) (List.getElem?_eq_getElem _)
    rw [List.getElem?_eq_getElem hi] at hu'
    cases hu'
    exact hE _ _ _ he'
  refine ⟨ad, u, rfl, hjn, he, fun i x hx => hc _ _ ?_⟩
  have hi : i < m := by
    have := (List.getElem?_eq_some_iff.1 hx).1
    rw [Array.length_toList, hE _ _ _ he] at this
    exact this
  rw [flat_getN hall hu i hi]
  exact hx
/-- What is sought. -/
structure RV where
  name : ByteArray
  wh : Bool
  hl : Bool
  low : Raw
  hh : Bool
  high : Raw
def VE (E : World → Value → Raw → Prop) (w : World) (u : Value) (e : RV) : Prop :=
  ∃ A1 n1 c1 D1 m1 k1 A2 n2 c2 D2 m2 k2, u = .agg #[.string e.name, .bool e.wh, .bool e.hl, .bool e.low.1, .slice A1 n1 c1, .slice D1 m1 k1, .bool e.hh, .bool e.high.1, .slice A2 n2 c2, .slice D2 m2 k2] ∧ E w (.agg #[.bool e.low.1, .slice A1 n1 c1, .slice D1 m1 k1]) e.low ∧ E w (.agg #[.bool e.high.1, .slice A2 n2 c2, .slice D2 m2 k2]) e.high
theorem VE.sz (E : World → Value → Raw → Prop) : Szd (VE E) 10 := fun w u q h => by
  obtain ⟨_, _, _, _, _, _, _, _, _, _, _, _, e, _⟩ := h
  rw [e]; rfl
theorem VE.map {E F : World → Value → Raw → Prop} {w w' : World} {u : Value} {e : RV} (h : VE E w u e) (hf : ∀ u q, (q = e.low ∨ q = e.high) → E w u q → F w' u q) : VE F w' u e := by
  obtain ⟨A1, n1, c1, D1, m1, k1, A2, n2, c2, D2, m2, k2, e1, h1, h2⟩ := h
  exact ⟨A1, n1, c1, D1, m1, k1, A2, n2, c2, D2, m2, k2, e1, hf _ _ (.inl rfl) h1, hf _ _ (.inr rfl) h2⟩
/-- What must hold. -/
structure RO where
  coef : List Raw
  kind : Int
  right : Raw
def OE (E : World → Value → Raw → Prop) (w : World) (u : Value) (e : RO) : Prop :=
  ∃ A n c A1 n1 c1 D1 m1 k1, u = .agg #[.slice A n c, .int .u8 e.kind, .bool e.right.1, .slice A1 n1 c1, .slice D1 m1 k1] ∧ Lst E w (.slice A n c) e.coef ∧ E w (.agg #[.bool e.right.1, .slice A1 n1 c1, .slice D1 m1 k1]) e.right
theorem OE.sz (E : World → Value → Raw → Prop) : Szd (OE E) 5 := fun w u q h => by
  obtain ⟨_, _, _, _, _, _, _, _, _, e, _⟩ := h
  rw [e]; rfl
/-- A model, as it is told. -/
structure RM where
  most : Bool
  vars : List RV
  goal : List Raw
  rows : List RO
structure MSt (E : World → Value → Raw → Prop) (w : World) (AV : Option Addr) (nV cV : Nat) (AG : Option Addr) (nG cG : Nat) (AO : Option Addr) (nO cO : Nat) (M : RM) : Prop where
  v : Lst (VE E) w (.slice AV nV cV) M.vars
  g : Lst E w (.slice AG nG cG) M.goal
  o : Lst (OE E) w (.slice AO nO cO) M.rows
theorem MSt.below {E : World → Value → Raw → Prop} (hE : ∀ w w' u q, E w u q → Below w.heap.size w w' → E w' u q) {w w' : World} {AV : Option Addr} {nV cV : Nat} {AG : Option Addr} {nG cG : Nat} {AO : Option Addr} {nO cO : Nat} {M : RM} (h : MSt E w AV nV cV AG nG cG AO nO cO M) (k : Below w.heap.size w w') : MSt E w' AV nV cV AG nG cG AO nO cO M :=
  ⟨h.v.below (fun u q x => x.map fun u q _ y => hE _ _ _ _ y k) k, h.g.below (fun u q x => hE _ _ _ _ x k) k, h.o.below (fun u q x => by
    obtain ⟨A, n, c, A1, n1, c1, D1, m1, k1, e1, h1, h2⟩ := x
    exact ⟨A, n, c, A1, n1, c1, D1, m1, k1, e1, h1.below (fun u q x => hE _ _ _ _ x k) k, hE _ _ _ _ h2 k⟩) k⟩
theorem rw_b (w w' : World) (u : Value) (q : Raw) (h : RRw w u q) (k : Below w.heap.size w w') : RRw w' u q := h.below k
theorem raw_b (w w' : World) (u : Value) (q : Raw) (h : RRaw w u q) (k : Below w.heap.size w w') : RRaw w' u q := RPrt.below h k
def vsz (e : RV) : Nat := 1 + e.name.size + rsz e.low + rsz e.high
def osz (e : RO) : Nat := 1 + (e.coef.length + tsz e.coef) + rsz e.right
def msz (M : RM) : Nat := 1 + (M.vars.length + (M.vars.map vsz).sum) + (M.goal.length + tsz M.goal) + (M.rows.length + (M.rows.map osz).sum)
theorem sum_take {α : Type} (f : α → Nat) (l : List α) (i : Nat) : ((l.take i).map f).sum ≤ (l.map f).sum := by
  have : (l.map f).sum = ((l.take i).map f).sum + ((l.drop i).map f).sum := by
    conv => lhs; rw [← List.take_append_drop i l]
    rw [List.map_append, List.sum_append]
  omega
theorem sum_mem {α : Type} (f : α → Nat) {l : List α} {x : α} (h : x ∈ l) : f x ≤ (l.map f).sum := by
  induction l with
  | nil => cases h
  | cons a l ih =>
    rw [List.map_cons, List.sum_cons]
    rcases List.mem_cons.1 h with rfl | h
    · omega
    · have := ih h
      omega
theorem RatSize_any {w : World} {b : Bool} {A : Option Addr} {n c : Nat} {D : Option Addr} {m k : Nat} {e : Raw} (h : RRw w (.agg #[.bool b, .slice A n c, .slice D m k]) e) :
    Calls Tryd.prog 34 #[.agg #[.bool b, .slice A n c, .slice D m k]] w fun e_ w' => ∃ r : Nat, e_ = .returned (.int .i64 (r : Int)) ∧ Cnt r (rsz e) ∧ r ≤ 500000000000000 ∧ Below w.heap.size w w' := by
  obtain ⟨A', n', c', D', m', k', e0, h1, h2, h3, h4, h5, h6, h7, h8⟩ := h
  cases e0
  exact (RatSize_ok w e.1 A n c D m k h4 h8).mono fun e_ w' ⟨r, q1, q2, q3⟩ => ⟨r, q1, by rw [rsz, h1.1, h5.1]; exact q2, by have := q2.1; omega, q3.out⟩
set_option maxHeartbeats 2000000 in
theorem VarSize_ok {w : World} {u : Value} {e : RV} (h : VE RRw w u e) (hn : e.name.size ≤ 140737488351232) :
    Calls Tryd.prog 184 #[u] w fun e_ w' => ∃ r : Nat, e_ = .returned (.int .i64 (r : Int)) ∧ Cnt r (vsz e) ∧ r ≤ 2000000000000000 ∧ Below w.heap.size w w' := by
  refine opq fun R hR => ?_
  obtain ⟨A1, n1, c1, D1, m1, k1, A2, n2, c2, D2, m2, k2, rfl, h1, h2⟩ := h
  replace h1 := hide h1
  replace h2 := hide h2
  have K := hide (Blk.new w 158 #[.string e.name, .bool e.wh, .bool e.hl, .bool e.low.1, .slice A1 n1 c1, .slice D1 m1 k1, .bool e.hh, .bool e.high.1, .slice A2 n2 c2, .slice D2 m2 k2])
  have b0 := hide ((Below.refl w.heap.size w).alloc (Nat.le_refl _) (.cells #[.string e.name, .bool e.wh, .bool e.hl, .bool e.low.1, .slice A1 n1 c1, .slice D1 m1 k1, .bool e.hh, .bool e.high.1, .slice A2 n2 c2, .slice D2 m2 k2] 158))
  have hv : Hid (vsz e = 1 + e.name.size + rsz e.low + rsz e.high) := rfl
  obtain ⟨s, hs⟩ : ∃ s, s = e.name := ⟨_, rfl⟩
  rw [← hs] at K b0 hv hn ⊢
  generalize e.wh = wh at *
  generalize e.hl = hl at *
  generalize e.hh = hh at *
  replace hs := hide hs
  go_enter Tryd.func184, Tryd.ntmps184
  have c0 := K.out.at_ 0 rfl
  obtain ⟨y0, hy0, t0⟩ : ∃ y : Nat, (1 : Int) + (s.size : Int) = (y : Nat) ∧ y = 1 + s.size := ⟨1 + s.size, by omega, rfl⟩
  have v0 : y0 ≤ 140737488351233 := by omega
  replace t0 := hide t0
  by_cases g0 : y0 ≤ 1048576
  · have c3 := K.out.at_ 3 rfl
    have c4 := K.out.at_ 4 rfl
    have c5 := K.out.at_ 5 rfl
    go_wp2_with fail
    refine (RatSize_any (h1.out.below b0.out)).mono ?_
    rintro e_ w1 ⟨r1, rfl, q1, s1, d0⟩
    replace K := hide (K.out.below' d0)
    replace b0 := hide (below_tr b0.out d0)
    clear d0 c0 c3 c4 c5
    obtain ⟨y1, hy1, t1⟩ : ∃ y : Nat, (y0 : Int) + (r1 : Int) = (y : Nat) ∧ y = y0 + r1 := ⟨y0 + r1, by omega, rfl⟩
    have C1 : Hid (Cnt y1 (1 + s.size + rsz e.low)) := ⟨by have := q1.1; have := t0.out; omega, by have := q1.2; have := t0.out; omega⟩
    have v1 : y1 ≤ 600000000000000 := by omega
    clear q1 s1 t1 hy0
    by_cases g1 : y1 ≤ 1048576
    · have c7 := K.out.at_ 7 rfl
      have c8 := K.out.at_ 8 rfl
      have c9 := K.out.at_ 9 rfl
      go_wp2_with fail
      refine (RatSize_any (h2.out.below b0.out)).mono ?_
      rintro e_ w2 ⟨r2, rfl, q2, s2, d0⟩
      replace b0 := hide (below_tr b0.out d0)
      clear d0 c7 c8 c9
      obtain ⟨y2, hy2, t2⟩ : ∃ y : Nat, (y1 : Int) + (r2 : Int) = (y : Nat) ∧ y = y1 + r2 := ⟨y1 + r2, by omega, rfl⟩
      have C2 : Hid (Cnt y2 (vsz e)) := by
        show Cnt _ _
        rw [hv.out]
        exact ⟨by have := q2.1; have := C1.out.1; omega, by have := q2.2; have := C1.out.2; omega⟩
      have v2 : y2 ≤ 2000000000000000 := by omega
      clear q2 s2 t2
      go_wp2
      exact opq_end hR ⟨y2, rfl, C2.out, v2, b0.out⟩
    · have C2 : Hid (Cnt y1 (vsz e)) := by
        show Cnt _ _
        rw [hv.out]
        exact ⟨by have := C1.out.1; omega, .inr (by omega)⟩
      go_wp2
      exact opq_end hR ⟨y1, rfl, C2.out, by omega, b0.out⟩
  · have C2 : Hid (Cnt y0 (vsz e)) := by
      show Cnt _ _
      rw [hv.out]
      exact ⟨by have := t0.out; omega, .inr (by omega)⟩
    go_wp2
    exact opq_end hR ⟨y0, rfl, C2.out, by omega, b0.out⟩
set_option maxHeartbeats 2000000 in
theorem RowSize_ok {w : World} {u : Value} {e : RO} (h : OE RRw w u e) :
    Calls Tryd.prog 185 #[u] w fun e_ w' => ∃ r : Nat, e_ = .returned (.int .i64 (r : Int)) ∧ Cnt r (osz e) ∧ r ≤ 2000000000000000 ∧ Below w.heap.size w w' := by
  refine opq fun R hR => ?_
  obtain ⟨A, n, c, A1, n1, c1, D1, m1, k1, rfl, h1, h2⟩ := h
  have hl := h1.len
  replace h1 := hide h1
  replace h2 := hide h2
  have K := hide (Blk.new w 164 #[.slice A n c, .int .u8 e.kind, .bool e.right.1, .slice A1 n1 c1, .slice D1 m1 k1])
  have b0 := hide ((Below.refl w.heap.size w).alloc (Nat.le_refl _) (.cells #[.slice A n c, .int .u8 e.kind, .bool e.right.1, .slice A1 n1 c1, .slice D1 m1 k1] 164))
  have hv : Hid (osz e = 1 + (n + tsz e.coef) + rsz e.right) := by
    show _ = _
    rw [osz, hl]
  clear hl
  generalize e.kind = kd at *
  go_enter Tryd.func185, Tryd.ntmps185
  have c0 := K.out.at_ 0 rfl
  go_wp2_with fail
  refine (RatsSize_any _ A n c e.coef (h1.out.rw_below b0.out)).mono ?_
  rintro e_ w1 ⟨r1, rfl, q1, s1, d0⟩
  replace K := hide (K.out.below' d0)
  replace b0 := hide (below_tr b0.out d0)
  clear d0 c0
  obtain ⟨y1, hy1, t1⟩ : ∃ y : Nat, (1 : Int) + (r1 : Int) = (y : Nat) ∧ y = 1 + r1 := ⟨1 + r1, by omega, rfl⟩
  have C1 : Hid (Cnt y1 (1 + (n + tsz e.coef))) := ⟨by have := q1.1; omega, by have := q1.2; omega⟩
  have v1 : y1 ≤ 600000000000000 := by omega
  clear q1 s1 t1
  by_cases g1 : y1 ≤ 1048576
  · have c2 := K.out.at_ 2 rfl
    have c3 := K.out.at_ 3 rfl
    have c4 := K.out.at_ 4 rfl
    go_wp2_with fail
    refine (RatSize_any (h2.out.below b0.out)).mono ?_
    rintro e_ w2 ⟨r2, rfl, q2, s2, d0⟩
    replace b0 := hide (below_tr b0.out d0)
    clear d0 c2 c3 c4
    obtain ⟨y2, hy2, t2⟩ : ∃ y : Nat, (y1 : Int) + (r2 : Int) = (y : Nat) ∧ y = y1 + r2 := ⟨y1 + r2, by omega, rfl⟩
    have C2 : Hid (Cnt y2 (osz e)) := by
      show Cnt _ _
      rw [hv.out]
      exact ⟨by have := q2.1; have := C1.out.1; omega, by have := q2.2; have := C1.out.2; omega⟩
    have v2 : y2 ≤ 2000000000000000 := by omega
    clear q2 s2 t2
    go_wp2
    exact opq_end hR ⟨y2, rfl, C2.out, v2, b0.out⟩
  · have C2 : Hid (Cnt y1 (osz e)) := by
      show Cnt _ _
      rw [hv.out]
      exact ⟨by have := C1.out.1; omega, .inr (by omega)⟩
    go_wp2
    exact opq_end hR ⟨y1, rfl, C2.out, by omega, b0.out⟩
set_option maxHeartbeats 2000000 in
theorem VarsSize_ok (w : World) (A : Option Addr) (n c : Nat) (es : List RV) (h : Lst (VE RRw) w (.slice A n c) es) (hnn : Hid (∀ e ∈ es, e.name.size ≤ 140737488351232)) : Calls Tryd.prog 145 #[.slice A n c] w fun e w' => ∃ r : Nat, e = .returned (.int .i64 (r : Int)) ∧ Cnt r (n + (es.map vsz).sum) ∧ r ≤ 3000000000000000 ∧ Below w.heap.size w w' := by
  refine opq fun R hR => ?_
  have hq := hide h.len
  have hb : n ≤ 140737488355328 := by
    obtain ⟨_, _, _, _, e, _, _, _, h4, _⟩ := h
    cases e
    exact h4
  have L := hide h
  clear h
  go_enter Tryd.func145, Tryd.ntmps145
  go_wp2
  go_loopw [3, 4] (fun nv iv wr => ∃ (i z : Nat), i ≤ n ∧ iv = .int .i64 (i : Nat) ∧ nv = .int .i64 (z : Nat) ∧ z ≤ 3000000000000000 ∧ Hid (Cnt z (n + ((es.take i).map vsz).sum)) ∧ Hid (Below w.heap.size w wr)) (fun _ iv _ => n - (intOf iv).toNat)
  case atStart => exact ⟨0, n, by omega, rfl, rfl, by omega, ⟨by simp, .inl (by simp)⟩, Below.refl _ _⟩
  case round =>
    obtain ⟨i, z, hi, rfl, rfl, hz, hC, hbel⟩ := hrel
    by_cases hlt : i < n
    · by_cases hm : z ≤ 1048576
      · obtain ⟨x, hx⟩ : ∃ x, es[i]? = some x := ⟨_, List.getElem?_eq_getElem (by rw [hq.out]; exact hlt)⟩
        obtain ⟨ad, u, rfl, _, X, cl⟩ := L.out.cellsN (VE.sz RRw) hx
        obtain ⟨A1, n1, c1, D1, m1, k1, A2, n2, c2, D2, m2, k2, rfl, X1, X2⟩ := X
        have x0 := cell_below hbel.out (cl 0 _ rfl)
        rw [Nat.add_zero] at x0
        have x1 := cell_below hbel.out (cl 1 _ rfl)
        rw [add_off _ _ _ (by omega)] at x1
        have x2 := cell_below hbel.out (cl 2 _ rfl)
        rw [add_off _ _ _ (by omega)] at x2
        have x3 := cell_below hbel.out (cl 3 _ rfl)
        rw [add_off _ _ _ (by omega)] at x3
        have x4 := cell_below hbel.out (cl 4 _ rfl)
        rw [add_off _ _ _ (by omega)] at x4
        have x5 := cell_below hbel.out (cl 5 _ rfl)
        rw [add_off _ _ _ (by omega)] at x5
        have x6 := cell_below hbel.out (cl 6 _ rfl)
        rw [add_off _ _ _ (by omega)] at x6
        have x7 := cell_below hbel.out (cl 7 _ rfl)
        rw [add_off _ _ _ (by omega)] at x7
        have x8 := cell_below hbel.out (cl 8 _ rfl)
        rw [add_off _ _ _ (by omega)] at x8
        have x9 := cell_below hbel.out (cl 9 _ rfl)
        rw [add_off _ _ _ (by omega)] at x9
        have X : Hid (VE RRw w (.agg #[.string x.name, .bool x.wh, .bool x.hl, .bool x.low.1, .slice A1 n1 c1, .slice D1 m1 k1, .bool x.hh, .bool x.high.1, .slice A2 n2 c2, .slice D2 m2 k2]) x) := ⟨A1, n1, c1, D1, m1, k1, A2, n2, c2, D2, m2, k2, rfl, X1, X2⟩
        have hT := hide (show es.take (i + 1) = es.take i ++ [x] by
          rw [List.take_add_one, hx]; rfl)
        have hnm := hide (hnn.out x (List.mem_of_getElem? hx))
        clear hx X1 X2 cl
        go_wp2_with fail
        refine (VarSize_ok (X.out.map fun u q _ y => y.below hbel.out) hnm.out).mono ?_
        rintro e w1 ⟨r, rfl, hr, hr0, d0⟩
        replace hbel := hide (below_tr hbel.out d0)
        clear d0 x0 x1 x2 x3 x4 x5 x6 x7 x8 x9 X
        obtain ⟨y, hy, hy2⟩ : ∃ y : Nat, (z : Int) + (r : Int) = (y : Nat) ∧ y = z + r := ⟨z + r, by omega, rfl⟩
        have hC2 : Hid (Cnt y (n + ((es.take (i + 1)).map vsz).sum)) := by
          show Cnt _ _
          rw [hT.out, List.map_append, List.sum_append]
          simp only [List.map_cons, List.map_nil, List.sum_cons, List.sum_nil, Nat.add_zero]
          obtain ⟨h1, h2⟩ := hC.out
          obtain ⟨h3, h4⟩ := hr
          exact ⟨by omega, by omega⟩
        have hy3 : y ≤ 3000000000000000 := by omega
        clear hr hr0 hy2
        go_wp2
        go_roundw
        case rel => exact ⟨i + 1, y, by omega, by go_num, rfl, hy3, hC2, hbel⟩
        case measure => simp [intOf]; omega
      · have hC2 : Hid (Cnt z (n + (es.map vsz).sum)) := by
          have := sum_take vsz es i
          obtain ⟨h1, h2⟩ := hC.out
          exact ⟨by omega, .inr (by omega)⟩
        go_wp2
        exact opq_end hR ⟨z, rfl, hC2.out, hz, hbel.out⟩
    · obtain rfl : i = n := by omega
      rw [List.take_of_length_le (by rw [hq.out]; exact Nat.le_refl _)] at hC
      go_wp2
      exact opq_end hR ⟨z, rfl, hC.out, hz, hbel.out⟩
theorem OE.rwb {w w' : World} {u : Value} {e : RO} (h : OE RRw w u e) (k : Below w.heap.size w w') : OE RRw w' u e := by
  obtain ⟨A, n, c, A1, n1, c1, D1, m1, k1, e1, h1, h2⟩ := h
  exact ⟨A, n, c, A1, n1, c1, D1, m1, k1, e1, h1.rw_below k, h2.below k⟩
set_option maxHeartbeats 2000000 in
theorem RowsSize_ok (w : World) (A : Option Addr) (n c : Nat) (es : List RO) (h : Lst (OE RRw) w (.slice A n c) es) : Calls Tryd.prog 146 #[.slice A n c] w fun e w' => ∃ r : Nat, e = .returned (.int .i64 (r : Int)) ∧ Cnt r (n + (es.map osz).sum) ∧ r ≤ 3000000000000000 ∧ Below w.heap.size w w' := by
  refine opq fun R hR => ?_
  have hq := hide h.len
  have hb : n ≤ 140737488355328 := by
    obtain ⟨_, _, _, _, e, _, _, _, h4, _⟩ := h
    cases e
    exact h4
  have L := hide h
  clear h
  go_enter Tryd.func146, Tryd.ntmps146
  go_wp2
  go_loopw [3, 4] (fun nv iv wr => ∃ (i z : Nat), i ≤ n ∧ iv = .int .i64 (i : Nat) ∧ nv = .int .i64 (z : Nat) ∧ z ≤ 3000000000000000 ∧ Hid (Cnt z (n + ((es.take i).map osz).sum)) ∧ Hid (Below w.heap.size w wr)) (fun _ iv _ => n - (intOf iv).toNat)
  case atStart => exact ⟨0, n, by omega, rfl, rfl, by omega, ⟨by simp, .inl (by simp)⟩, Below.refl _ _⟩
  case round =>
    obtain ⟨i, z, hi, rfl, rfl, hz, hC, hbel⟩ := hrel
    by_cases hlt : i < n
    · by_cases hm : z ≤ 1048576
      · obtain ⟨x, hx⟩ : ∃ x, es[i]? = some x := ⟨_, List.getElem?_eq_getElem (by rw [hq.out]; exact hlt)⟩
        obtain ⟨ad, u, rfl, _, X, cl⟩ := L.out.cellsN (OE.sz RRw) hx
        obtain ⟨A0_, l0_, k0_, A1, n1, c1, D1, m1, k1, rfl, X1, X2⟩ := X
        have x0 := cell_below hbel.out (cl 0 _ rfl)
        rw [Nat.add_zero] at x0
        have x1 := cell_below hbel.out (cl 1 _ rfl)
        rw [add_off _ _ _ (by omega)] at x1
        have x2 := cell_below hbel.out (cl 2 _ rfl)
        rw [add_off _ _ _ (by omega)] at x2
        have x3 := cell_below hbel.out (cl 3 _ rfl)
        rw [add_off _ _ _ (by omega)] at x3
        have x4 := cell_below hbel.out (cl 4 _ rfl)
        rw [add_off _ _ _ (by omega)] at x4
        have X : Hid (OE RRw w (.agg #[.slice A0_ l0_ k0_, .int .u8 x.kind, .bool x.right.1, .slice A1 n1 c1, .slice D1 m1 k1]) x) := ⟨A0_, l0_, k0_, A1, n1, c1, D1, m1, k1, rfl, X1, X2⟩
        have hT := hide (show es.take (i + 1) = es.take i ++ [x] by
          rw [List.take_add_one, hx]; rfl)
        clear hx X1 X2 cl
        go_wp2_with fail
        refine (RowSize_ok (X.out.rwb hbel.out)).mono ?_
        rintro e w1 ⟨r, rfl, hr, hr0, d0⟩
        replace hbel := hide (below_tr hbel.out d0)
        clear d0 x0 x1 x2 x3 x4 X
        obtain ⟨y, hy, hy2⟩ : ∃ y : Nat, (z : Int) + (r : Int) = (y : Nat) ∧ y = z + r := ⟨z + r, by omega, rfl⟩
        have hC2 : Hid (Cnt y (n + ((es.take (i + 1)).map osz).sum)) := by
          show Cnt _ _
          rw [hT.out, List.map_append, List.sum_append]
          simp only [List.map_cons, List.map_nil, List.sum_cons, List.sum_nil, Nat.add_zero]
          obtain ⟨h1, h2⟩ := hC.out
          obtain ⟨h3, h4⟩ := hr
          exact ⟨by omega, by omega⟩
        have hy3 : y ≤ 3000000000000000 := by omega
        clear hr hr0 hy2
        go_wp2
        go_roundw
        case rel => exact ⟨i + 1, y, by omega, by go_num, rfl, hy3, hC2, hbel⟩
        case measure => simp [intOf]; omega
      · have hC2 : Hid (Cnt z (n + (es.map osz).sum)) := by
          have := sum_take osz es i
          obtain ⟨h1, h2⟩ := hC.out
          exact ⟨by omega, .inr (by omega)⟩
        go_wp2
        exact opq_end hR ⟨z, rfl, hC2.out, hz, hbel.out⟩
    · obtain rfl : i = n := by omega
      rw [List.take_of_length_le (by rw [hq.out]; exact Nat.le_refl _)] at hC
      go_wp2
      exact opq_end hR ⟨z, rfl, hC.out, hz, hbel.out⟩
end Go.Proofs.YtkefmeddnncacaaDoor

/- models: twins of what is sought and of what must hold, and what is left of them. -/
set_option linter.unusedVariables false
set_option linter.unusedSimpArgs false
set_option maxRecDepth 100000
namespace Go.Proofs.YtkefmeddnncacaaDoor
open Go.RowKit

theorem Blk.sets {w : World} {g g' : Nat} {t : TypeId} {cs : Array Value} (h : Blk w g t cs) (hne : g ≠ g') (l : List (Nat × Value)) : Blk (l.foldl (fun w x => w.setCell ⟨g', x.1, none⟩ x.2) w) g t cs := by
  induction l generalizing w with
  | nil => exact h
  | cons x l ih => exact ih (h.far (p := ⟨g', x.1, none⟩) hne x.2)
theorem below_sets {B : Nat} {w0 w : World} {g' : Nat} (h : Below B w0 w) (hB : B ≤ g') (l : List (Nat × Value)) : Below B w0 (l.foldl (fun w x => w.setCell ⟨g', x.1, none⟩ x.2) w) := by
  induction l generalizing w with
  | nil => exact h
  | cons x l ih => exact ih (h.setCell (p := ⟨g', x.1, none⟩) hB x.2)
def Fact.twE (e : Raw) (B : Nat) : Fact := ⟨fun v w => TwE B w v e, fun _ _ _ h hb => h.below hb⟩
theorem tw_e {w : World} {b : Bool} {A D : Option Addr} {n c m k B : Nat} {e : Raw} (h : RRaw w (.agg #[.bool b, .slice A n c, .slice D m k]) e) (hs : SmE e) (hB : B ≤ w.heap.size) :
    Calls Tryd.prog 18 #[.agg #[.bool b, .slice A n c, .slice D m k]] w fun e_ w' => ∃ v, e_ = .returned v ∧ Below w.heap.size w w' ∧ (Fact.twE e B).holds v w' := by
  obtain ⟨u', d', e', P1, P2⟩ := h
  cases e'
  obtain ⟨_, _, _, f1, g1⟩ := P1.slice
  obtain ⟨_, _, _, f2, g2⟩ := P2.slice
  cases f1
  cases f2
  exact (rp_twin P1 P2 (by rw [← g1]; exact hs.1) (by rw [← g2]; exact hs.2)).mono fun e_ w' ⟨X, cx, Y, cy, h1, h2, h3, h4, h5⟩ => ⟨_, h1, h2.out, TwE.mono ⟨X, n, cx, Y, m, cy, rfl, h3, h4, h5⟩ hB⟩
theorem left_e {w : World} {B : Nat} {u v : Value} {e : Raw} (h : TwE B w u e) (h' : RRaw w v e) :
    Calls Tryd.prog 22 #[u, v] w fun e_ w' => ∃ r, e_ = .returned r ∧ Below w.heap.size w w' ∧ r = .bool true := by
  obtain ⟨X, nx, cx, Y, ny, cy, rfl, h1, h2, h3⟩ := h
  obtain ⟨u', d', rfl, P1, P2⟩ := h'
  obtain ⟨A, n, c, rfl, g1⟩ := P1.slice
  obtain ⟨D, m, k, rfl, g2⟩ := P2.slice
  obtain rfl : nx = n := by rw [← g1, h1.xs]
  obtain rfl : ny = m := by rw [← g2, h2.xs]
  exact rp_left h1 h2 P1 P2
theorem TwE.agg {w : World} {B : Nat} {u : Value} {e : Raw} (h : TwE B w u e) : ∃ X nx cx Y ny cy, u = .agg #[.bool e.1, .slice X nx cx, .slice Y ny cy] := by
  obtain ⟨X, nx, cx, Y, ny, cy, h0, _⟩ := h
  exact ⟨X, nx, cx, Y, ny, cy, h0⟩
theorem fhb_assayerlaw01_TwinRat (args : Array Value) (w : World) : (callFunc 18 args).run Tryd.prog w = .ok (.enter 18 args) w := callFunc_enter Tryd.func18 (by kernel_rfl) rfl args w
set_option maxHeartbeats 4000000 in
theorem twinVar_ok {w : World} {u : Value} {e : RV} (h : VE RRaw w u e) (s1 : SmE e.low) (s2 : SmE e.high) :
    Calls Tryd.prog 147 #[u] w fun e_ w' => ∃ v, e_ = .returned v ∧ Below w.heap.size w w' ∧ VE (TwE w.heap.size) w' v e := by
  refine opq fun R hR => ?_
  obtain ⟨s, wh, hl_, el, hh, eh⟩ := e
  obtain ⟨A1, n1, c1, D1, m1, k1, A2, n2, c2, D2, m2, k2, rfl, h1, h2⟩ := h
  dsimp only at h1 h2 s1 s2 ⊢
  obtain ⟨b1, hb1⟩ : ∃ b1, el.1 = b1 := ⟨_, rfl⟩
  obtain ⟨b2, hb2⟩ : ∃ b2, eh.1 = b2 := ⟨_, rfl⟩
  rw [hb1] at h1
  rw [hb2] at h2
  rw [hb1, hb2]
  clear hb1 hb2
  replace h1 := hide h1
  replace h2 := hide h2
  replace s1 := hide s1
  replace s2 := hide s2
  go_enter Tryd.func147, Tryd.ntmps147
  go_wp2
  obtain ⟨W1, hW, K1, K2, b0, ZW⟩ := alloc2 w #[.string s, .bool wh, .bool hl_, .bool b1, .slice A1 n1 c1, .slice D1 m1 k1, .bool hh, .bool b2, .slice A2 n2 c2, .slice D2 m2 k2] #[.string ⟨#[]⟩, .bool false, .bool false, .bool false, .slice none 0 0, .slice none 0 0, .bool false, .bool false, .slice none 0 0, .slice none 0 0] 158 158
  rw [hW]
  clear hW ZW
  have P0 : Hid (W1.cell? ⟨w.heap.size, 0, none⟩ = some (.string s)) := K1.out.at_ 0 rfl
  have P1 : Hid (W1.cell? ⟨w.heap.size, 1, none⟩ = some (.bool wh)) := K1.out.at_ 1 rfl
  have P2 : Hid (W1.cell? ⟨w.heap.size, 2, none⟩ = some (.bool hl_)) := K1.out.at_ 2 rfl
  have P3 : Hid (W1.cell? ⟨w.heap.size, 3, none⟩ = some (.bool b1)) := K1.out.at_ 3 rfl
  have P4 : Hid (W1.cell? ⟨w.heap.size, 4, none⟩ = some (.slice A1 n1 c1)) := K1.out.at_ 4 rfl
  have P5 : Hid (W1.cell? ⟨w.heap.size, 5, none⟩ = some (.slice D1 m1 k1)) := K1.out.at_ 5 rfl
  have P6 : Hid (W1.cell? ⟨w.heap.size, 6, none⟩ = some (.bool hh)) := K1.out.at_ 6 rfl
  have P7 : Hid (W1.cell? ⟨w.heap.size, 7, none⟩ = some (.bool b2)) := K1.out.at_ 7 rfl
  have P8 : Hid (W1.cell? ⟨w.heap.size, 8, none⟩ = some (.slice A2 n2 c2)) := K1.out.at_ 8 rfl
  have P9 : Hid (W1.cell? ⟨w.heap.size, 9, none⟩ = some (.slice D2 m2 k2)) := K1.out.at_ 9 rfl
  refine wp_region_facts 14 (fun w' => Below W1.heap.size W1 w') [(3, .eq ((.pointer (some ⟨w.heap.size, 0, none⟩) : Value))), (4, .eq (.string s)), (5, .eq ((.pointer (some ⟨w.heap.size, 1, none⟩) : Value))), (6, .eq (.bool wh)), (7, .eq ((.pointer (some ⟨w.heap.size, 2, none⟩) : Value))), (8, .eq (.bool hl_)), (9, .eq ((.pointer (some ⟨w.heap.size, 3, none⟩) : Value))), (10, .eq (.agg #[.bool b1, .slice A1 n1 c1, .slice D1 m1 k1])), (11, (.twE el w.heap.size)), (12, .eq ((.pointer (some ⟨w.heap.size, 6, none⟩) : Value))), (13, .eq (.bool hh)), (14, .eq ((.pointer (some ⟨w.heap.size, 7, none⟩) : Value))), (15, .eq (.agg #[.bool b2, .slice A2 n2 c2, .slice D2 m2 k2])), (16, (.twE eh w.heap.size))] [false, false, false, true, true, true, true, true, true, true, true, true, true, true, true, true, true, false] mixed (by kernel_rfl) (by kernel_rfl) (by kernel_rfl) (fun _ _ h hb => h.trans (hb.mono h.size)) ((Below.refl _ _).drew) ⟨?_, ?_, ?_, ?_, ?_, ?_, ?_, ?_, ?_, ?_, ?_, ?_, ?_, ?_, trivial⟩ ?_
  · exact .fieldAddr (.inl rfl) rfl rfl rfl (fun a w' hC hs hl => by rw [show a.eval (.tmp 1) = (.pointer (some ⟨w.heap.size, 0, none⟩) : Value) from (hs 1 (by kernel_rfl))]; simp [go_sem])
  · exact .load (.string s) (.inl rfl) rfl rfl (fun a w' hC hs hl => by rw [show a.eval (.tmp 3) = (.pointer (some ⟨w.heap.size, 0, none⟩) : Value) from (hl 3 (by kernel_rfl) (by kernel_rfl))]; exact ⟨by simp [go_sem, cell_below hC P0.out], rfl⟩)
  · exact .fieldAddr (.inl rfl) rfl rfl rfl (fun a w' hC hs hl => by rw [show a.eval (.tmp 1) = (.pointer (some ⟨w.heap.size, 0, none⟩) : Value) from (hs 1 (by kernel_rfl))]; simp [go_sem])
  · exact .load (.bool wh) (.inl rfl) rfl rfl (fun a w' hC hs hl => by rw [show a.eval (.tmp 5) = (.pointer (some ⟨w.heap.size, 1, none⟩) : Value) from (hl 5 (by kernel_rfl) (by kernel_rfl))]; exact ⟨by simp [go_sem, cell_below hC P1.out], rfl⟩)
  · exact .fieldAddr (.inl rfl) rfl rfl rfl (fun a w' hC hs hl => by rw [show a.eval (.tmp 1) = (.pointer (some ⟨w.heap.size, 0, none⟩) : Value) from (hs 1 (by kernel_rfl))]; simp [go_sem])
  · exact .load (.bool hl_) (.inl rfl) rfl rfl (fun a w' hC hs hl => by rw [show a.eval (.tmp 7) = (.pointer (some ⟨w.heap.size, 2, none⟩) : Value) from (hl 7 (by kernel_rfl) (by kernel_rfl))]; exact ⟨by simp [go_sem, cell_below hC P2.out], rfl⟩)
  · exact .fieldAddr (.inl rfl) rfl rfl rfl (fun a w' hC hs hl => by rw [show a.eval (.tmp 1) = (.pointer (some ⟨w.heap.size, 0, none⟩) : Value) from (hs 1 (by kernel_rfl))]; simp [go_sem])
  · exact .load (.agg #[.bool b1, .slice A1 n1 c1, .slice D1 m1 k1]) (.inl rfl) rfl rfl (fun a w' hC hs hl => by rw [show a.eval (.tmp 9) = (.pointer (some ⟨w.heap.size, 3, none⟩) : Value) from (hl 9 (by kernel_rfl) (by kernel_rfl))]; exact ⟨by simp [go_sem, cell_below hC P3.out, cell_below hC P4.out, cell_below hC P5.out], rfl⟩)
  · exact .call (.inl rfl) rfl rfl fhb_assayerlaw01_TwinRat (fun a w' hC hs hl => by
      show Calls _ _ #[a.eval (.tmp 10)] _ _
      rw [show a.eval (.tmp 10) = (.agg #[.bool b1, .slice A1 n1 c1, .slice D1 m1 k1] : Value) from (hl 10 (by kernel_rfl) (by kernel_rfl))]
      exact tw_e (h1.out.below (below_tr b0.out hC)) s1.out (below_tr b0.out hC).size)
  · exact .fieldAddr (.inl rfl) rfl rfl rfl (fun a w' hC hs hl => by rw [show a.eval (.tmp 1) = (.pointer (some ⟨w.heap.size, 0, none⟩) : Value) from (hs 1 (by kernel_rfl))]; simp [go_sem])
  · exact .load (.bool hh) (.inl rfl) rfl rfl (fun a w' hC hs hl => by rw [show a.eval (.tmp 12) = (.pointer (some ⟨w.heap.size, 6, none⟩) : Value) from (hl 12 (by kernel_rfl) (by kernel_rfl))]; exact ⟨by simp [go_sem, cell_below hC P6.out], rfl⟩)
  · exact .fieldAddr (.inl rfl) rfl rfl rfl (fun a w' hC hs hl => by rw [show a.eval (.tmp 1) = (.pointer (some ⟨w.heap.size, 0, none⟩) : Value) from (hs 1 (by kernel_rfl))]; simp [go_sem])
  · exact .load (.agg #[.bool b2, .slice A2 n2 c2, .slice D2 m2 k2]) (.inl rfl) rfl rfl (fun a w' hC hs hl => by rw [show a.eval (.tmp 14) = (.pointer (some ⟨w.heap.size, 7, none⟩) : Value) from (hl 14 (by kernel_rfl) (by kernel_rfl))]; exact ⟨by simp [go_sem, cell_below hC P7.out, cell_below hC P8.out, cell_below hC P9.out], rfl⟩)
  · exact .call (.inl rfl) rfl rfl fhb_assayerlaw01_TwinRat (fun a w' hC hs hl => by
      show Calls _ _ #[a.eval (.tmp 15)] _ _
      rw [show a.eval (.tmp 15) = (.agg #[.bool b2, .slice A2 n2 c2, .slice D2 m2 k2] : Value) from (hl 15 (by kernel_rfl) (by kernel_rfl))]
      exact tw_e (h2.out.below (below_tr b0.out hC)) s2.out (below_tr b0.out hC).size)
  · intro f wz hC hF _
    have f11 : (Fact.twE el w.heap.size).holds (f 11) wz := hF 11 (by kernel_rfl)
    have f16 : (Fact.twE eh w.heap.size).holds (f 16) wz := hF 16 (by kernel_rfl)
    have eqs : f 4 = .string s ∧ f 6 = .bool wh ∧ f 8 = .bool hl_ ∧ f 13 = .bool hh := ⟨hF 4 (by kernel_rfl), hF 6 (by kernel_rfl), hF 8 (by kernel_rfl), hF 13 (by kernel_rfl)⟩
    clear hF
    obtain ⟨q4, q6, q8, q13⟩ := eqs
    simp only [patch, List.drop]
    obtain ⟨X1, a1, p1, Y1, a2, p2, e11⟩ := TwE.agg f11
    obtain ⟨X2, a3, p3, Y2, a4, p4, e16⟩ := TwE.agg f16
    rw [e11] at f11 ⊢
    rw [e16] at f16 ⊢
    rw [q4, q6, q8, q13]
    clear e11 e16 q4 q6 q8 q13
    generalize f 3 = y3_
    generalize f 5 = y5_
    generalize f 7 = y7_
    generalize f 9 = y9_
    generalize f 10 = y10_
    generalize f 12 = y12_
    generalize f 14 = y14_
    generalize f 15 = y15_
    have t11 : Hid (TwE w.heap.size wz (.agg #[.bool el.1, .slice X1 a1 p1, .slice Y1 a2 p2]) el) := f11
    have t16 : Hid (TwE w.heap.size wz (.agg #[.bool eh.1, .slice X2 a3 p3, .slice Y2 a4 p4]) eh) := f16
    have b1_ := hide (below_tr b0.out hC)
    have KB := hide (K2.out.below' hC)
    clear hC b0 K1 K2 f11 f16 h1 h2 P0 P1 P2 P3 P4 P5 P6 P7 P8 P9
    have c0 := KB.out.at_ 0 rfl
    have c1 := KB.out.at_ 1 rfl
    have c2 := KB.out.at_ 2 rfl
    have c3 := KB.out.at_ 3 rfl
    have c4 := KB.out.at_ 4 rfl
    have c5 := KB.out.at_ 5 rfl
    have c6 := KB.out.at_ 6 rfl
    have c7 := KB.out.at_ 7 rfl
    have c8 := KB.out.at_ 8 rfl
    have c9 := KB.out.at_ 9 rfl
    have f0_ := KB.out.frozen 0
    have f1_ := KB.out.frozen 1
    have f2_ := KB.out.frozen 2
    have f3_ := KB.out.frozen 3
    have f4_ := KB.out.frozen 4
    have f5_ := KB.out.frozen 5
    have f6_ := KB.out.frozen 6
    have f7_ := KB.out.frozen 7
    have f8_ := KB.out.frozen 8
    have f9_ := KB.out.frozen 9
    go_wp2
    have far : ∀ g cs, Blk wz g T32 cs → Blk (([(0, .string s), (1, .bool wh), (2, .bool hl_), (3, .bool el.1), (4, .slice X1 a1 p1), (5, .slice Y1 a2 p2), (6, .bool hh), (7, .bool eh.1), (8, .slice X2 a3 p3), (9, .slice Y2 a4 p4)] : List (Nat × Value)).foldl (fun w_ x => w_.setCell ⟨w.heap.size + 1, x.1, none⟩ x.2) wz) g T32 cs := fun g cs hk => hk.sets (hk.type_ne KB.out (by decide)) _
    have bb := below_sets b1_.out (g' := w.heap.size + 1) (Nat.le_succ _) [(0, .string s), (1, .bool wh), (2, .bool hl_), (3, .bool el.1), (4, .slice X1 a1 p1), (5, .slice Y1 a2 p2), (6, .bool hh), (7, .bool eh.1), (8, .slice X2 a3 p3), (9, .slice Y2 a4 p4)]
    have NT : VE (TwE w.heap.size) (([(0, .string s), (1, .bool wh), (2, .bool hl_), (3, .bool el.1), (4, .slice X1 a1 p1), (5, .slice Y1 a2 p2), (6, .bool hh), (7, .bool eh.1), (8, .slice X2 a3 p3), (9, .slice Y2 a4 p4)] : List (Nat × Value)).foldl (fun w_ x => w_.setCell ⟨w.heap.size + 1, x.1, none⟩ x.2) wz) (.agg #[.string s, .bool wh, .bool hl_, .bool el.1, .slice X1 a1 p1, .slice Y1 a2 p2, .bool hh, .bool eh.1, .slice X2 a3 p3, .slice Y2 a4 p4]) ⟨s, wh, hl_, el, hh, eh⟩ := ⟨X1, a1, p1, Y1, a2, p2, X2, a3, p3, Y2, a4, p4, rfl, t11.out.keepB far, t16.out.keepB far⟩
    refine bodyPost_ret (v := .agg #[.string s, .bool wh, .bool hl_, .bool el.1, .slice X1 a1 p1, .slice Y1 a2 p2, .bool hh, .bool eh.1, .slice X2 a3 p3, .slice Y2 a4 p4]) (by simp [results, Tryd.results147, go_sem, c0, c1, c2, c3, c4, c5, c6, c7, c8, c9, f0_, f1_, f2_, f3_, f4_, f5_, f6_, f7_, f8_, f9_]) rfl ?_
    exact opq_end hR ⟨_, rfl, bb, NT⟩
set_option maxHeartbeats 4000000 in
theorem leftVar_ok {B : Nat} {w : World} {u v : Value} {e : RV} (h : VE (TwE B) w u e) (h' : VE RRaw w v e) :
    Calls Tryd.prog 154 #[u, v] w fun e_ w' => ∃ r, e_ = .returned r ∧ Below w.heap.size w w' ∧ r = .bool true := by
  refine opq fun R hR => ?_
  obtain ⟨X1, a1, p1, Y1, a2, p2, X2, a3, p3, Y2, a4, p4, rfl, h1, h2⟩ := h
  obtain ⟨A1, n1, c1, D1, m1, k1, A2, n2, c2, D2, m2, k2, rfl, g1, g2⟩ := h'
  replace h1 := hide h1
  replace h2 := hide h2
  replace g1 := hide g1
  replace g2 := hide g2
  have b1 := hide (((Below.refl w.heap.size w).alloc (Nat.le_refl _) (.cells #[.string e.name, .bool e.wh, .bool e.hl, .bool e.low.1, .slice X1 a1 p1, .slice Y1 a2 p2, .bool e.hh, .bool e.high.1, .slice X2 a3 p3, .slice Y2 a4 p4] 158)).alloc (by simp) (.cells #[.string e.name, .bool e.wh, .bool e.hl, .bool e.low.1, .slice A1 n1 c1, .slice D1 m1 k1, .bool e.hh, .bool e.high.1, .slice A2 n2 c2, .slice D2 m2 k2] 158))
  have K1 := hide ((Blk.new_at w w.heap.size rfl 158 #[.string e.name, .bool e.wh, .bool e.hl, .bool e.low.1, .slice X1 a1 p1, .slice Y1 a2 p2, .bool e.hh, .bool e.high.1, .slice X2 a3 p3, .slice Y2 a4 p4]).alloc (.cells #[.string e.name, .bool e.wh, .bool e.hl, .bool e.low.1, .slice A1 n1 c1, .slice D1 m1 k1, .bool e.hh, .bool e.high.1, .slice A2 n2 c2, .slice D2 m2 k2] 158))
  have K2 := hide (Blk.new_at (w.alloc (.cells #[.string e.name, .bool e.wh, .bool e.hl, .bool e.low.1, .slice X1 a1 p1, .slice Y1 a2 p2, .bool e.hh, .bool e.high.1, .slice X2 a3 p3, .slice Y2 a4 p4] 158)) (w.heap.size + 1) (by simp) 158 #[.string e.name, .bool e.wh, .bool e.hl, .bool e.low.1, .slice A1 n1 c1, .slice D1 m1 k1, .bool e.hh, .bool e.high.1, .slice A2 n2 c2, .slice D2 m2 k2])
  go_enter Tryd.func154, Tryd.ntmps154
  have x0 := K1.out.at_ 0 rfl
  have x1 := K1.out.at_ 1 rfl
  have x2 := K1.out.at_ 2 rfl
  have x3 := K1.out.at_ 3 rfl
  have x4 := K1.out.at_ 4 rfl
  have x5 := K1.out.at_ 5 rfl
  have y0 := K2.out.at_ 0 rfl
  have y1 := K2.out.at_ 1 rfl
  have y2 := K2.out.at_ 2 rfl
  have y3 := K2.out.at_ 3 rfl
  have y4 := K2.out.at_ 4 rfl
  have y5 := K2.out.at_ 5 rfl
  go_wp2_with fail
  refine (left_e (h1.out.below b1.out) (g1.out.below b1.out)).mono ?_
  rintro e w1 ⟨_, rfl, d1, rfl⟩
  replace K1 := hide (K1.out.below' d1)
  replace K2 := hide (K2.out.below' d1)
  replace b1 := hide (below_tr b1.out d1)
  clear d1 x0 x1 x2 x3 x4 x5 y0 y1 y2 y3 y4 y5
  have x6 := K1.out.at_ 6 rfl
  have x7 := K1.out.at_ 7 rfl
  have x8 := K1.out.at_ 8 rfl
  have x9 := K1.out.at_ 9 rfl
  have y6 := K2.out.at_ 6 rfl
  have y7 := K2.out.at_ 7 rfl
  have y8 := K2.out.at_ 8 rfl
  have y9 := K2.out.at_ 9 rfl
  go_wp2_with fail
  refine (left_e (h2.out.below b1.out) (g2.out.below b1.out)).mono ?_
  rintro e w2 ⟨_, rfl, d1, rfl⟩
  replace K1 := hide (K1.out.below' d1)
  replace K2 := hide (K2.out.below' d1)
  replace b1 := hide (below_tr b1.out d1)
  clear d1 x6 x7 x8 x9 y6 y7 y8 y9
  go_wp2
  exact opq_end hR ⟨_, rfl, b1.out, rfl⟩
def OT (B : Nat) (w : World) (u : Value) (e : RO) : Prop := ∃ X n p us X1 a1 p1 Y1 a2 p2, u = .agg #[.slice X n p, .int .u8 e.kind, .bool e.right.1, .slice X1 a1 p1, .slice Y1 a2 p2] ∧ TwL B w X n p us e.coef ∧ TwE B w (.agg #[.bool e.right.1, .slice X1 a1 p1, .slice Y1 a2 p2]) e.right
theorem OT.below {B : Nat} {w w' : World} {u : Value} {e : RO} (h : OT B w u e) (k : Below w.heap.size w w') : OT B w' u e := by
  obtain ⟨X, n, p, us, X1, a1, p1, Y1, a2, p2, e1, h1, h2⟩ := h
  exact ⟨X, n, p, us, X1, a1, p1, Y1, a2, p2, e1, h1.below k, h2.below k⟩
theorem OT.mono {B B' : Nat} {w : World} {u : Value} {e : RO} (h : OT B w u e) (k : B' ≤ B) : OT B' w u e := by
  obtain ⟨X, n, p, us, X1, a1, p1, Y1, a2, p2, e1, h1, h2⟩ := h
  exact ⟨X, n, p, us, X1, a1, p1, Y1, a2, p2, e1, h1.mono k, h2.mono k⟩
theorem TwL.keep2 {w : World} {B : Nat} {A : Option Addr} {n c : Nat} {us : List Value} {es : List Raw} {w' : World} (h : TwL B w A n c us es) (k1 : ∀ g cs, Blk w g TR cs → Blk w' g TR cs) (k2 : ∀ g cs, Blk w g T32 cs → Blk w' g T32 cs) : TwL B w' A n c us es := by
  obtain ⟨q, d, cs, h1, h2, h3⟩ := h.row
  exact ⟨h.lu, h.le, h.lt, h.bd, ⟨q, d, cs, h1.keep fun g cs _ hk => k1 g cs hk, k2 _ _ h2, h3⟩, fun j e he => by
    obtain ⟨u, hu, hE⟩ := h.els j e he
    exact ⟨u, hu, hE.keepB fun g cs hk => k2 g cs hk⟩, h.ap⟩
theorem OT.keep2 {B : Nat} {w w' : World} {u : Value} {e : RO} (h : OT B w u e) (k1 : ∀ g cs, Blk w g TR cs → Blk w' g TR cs) (k2 : ∀ g cs, Blk w g T32 cs → Blk w' g T32 cs) : OT B w' u e := by
  obtain ⟨X, n, p, us, X1, a1, p1, Y1, a2, p2, e1, h1, h2⟩ := h
  exact ⟨X, n, p, us, X1, a1, p1, Y1, a2, p2, e1, h1.keep2 k1 k2, h2.keepB k2⟩
theorem OT.sz (B : Nat) : Szd (OT B) 5 := fun w u q h => by
  obtain ⟨_, _, _, _, _, _, _, _, _, _, e, _⟩ := h
  rw [e]; rfl
theorem fhb_assayerlaw01_TwinRats (args : Array Value) (w : World) : (callFunc 81 args).run Tryd.prog w = .ok (.enter 81 args) w := callFunc_enter Tryd.func81 (by kernel_rfl) rfl args w
set_option maxHeartbeats 4000000 in
theorem twinRow_ok {w : World} {u : Value} {e : RO} (h : OE RRaw w u e) (hn : e.coef.length ≤ 100000) (s1 : ∀ x ∈ e.coef, SmE x) (s2 : SmE e.right) :
    Calls Tryd.prog 148 #[u] w fun e_ w' => ∃ v, e_ = .returned v ∧ Below w.heap.size w w' ∧ OT w.heap.size w' v e := by
  refine opq fun R hR => ?_
  obtain ⟨ec, kd, er⟩ := e
  obtain ⟨A, n, c, A1, n1, c1, D1, m1, k1, rfl, h1, h2⟩ := h
  dsimp only at h1 h2 s1 s2 hn ⊢
  have hle := hide h1.len
  have hnb : Hid (n ≤ 100000) := by
    show n ≤ 100000
    rw [← hle.out]; exact hn
  clear hn
  obtain ⟨b1, hb1⟩ : ∃ b1, er.1 = b1 := ⟨_, rfl⟩
  rw [hb1] at h2
  rw [hb1]
  clear hb1
  replace h1 := hide h1
  replace h2 := hide h2
  replace s1 := hide s1
  replace s2 := hide s2
  go_enter Tryd.func148, Tryd.ntmps148
  go_wp2
  obtain ⟨W1, hW, K1, K2, b0, ZW⟩ := alloc2 w #[.slice A n c, .int .u8 kd, .bool b1, .slice A1 n1 c1, .slice D1 m1 k1] #[.slice none 0 0, .int .u8 0, .bool false, .slice none 0 0, .slice none 0 0] 164 164
  rw [hW]
  clear hW ZW
  have P0 : Hid (W1.cell? ⟨w.heap.size, 0, none⟩ = some (.slice A n c)) := K1.out.at_ 0 rfl
  have P1 : Hid (W1.cell? ⟨w.heap.size, 1, none⟩ = some (.int .u8 kd)) := K1.out.at_ 1 rfl
  have P2 : Hid (W1.cell? ⟨w.heap.size, 2, none⟩ = some (.bool b1)) := K1.out.at_ 2 rfl
  have P3 : Hid (W1.cell? ⟨w.heap.size, 3, none⟩ = some (.slice A1 n1 c1)) := K1.out.at_ 3 rfl
  have P4 : Hid (W1.cell? ⟨w.heap.size, 4, none⟩ = some (.slice D1 m1 k1)) := K1.out.at_ 4 rfl
  refine wp_region_facts 8 (fun w' => Below W1.heap.size W1 w') [(3, .eq ((.pointer (some ⟨w.heap.size, 0, none⟩) : Value))), (4, .eq (.slice A n c)), (5, (.twL ec n w.heap.size)), (6, .eq ((.pointer (some ⟨w.heap.size, 1, none⟩) : Value))), (7, .eq (.int .u8 kd)), (8, .eq ((.pointer (some ⟨w.heap.size, 2, none⟩) : Value))), (9, .eq (.agg #[.bool b1, .slice A1 n1 c1, .slice D1 m1 k1])), (10, (.twE er w.heap.size))] [false, false, false, true, true, true, true, true, true, true, true, false] mixed (by kernel_rfl) (by kernel_rfl) (by kernel_rfl) (fun _ _ h hb => h.trans (hb.mono h.size)) ((Below.refl _ _).drew) ⟨?_, ?_, ?_, ?_, ?_, ?_, ?_, ?_, trivial⟩ ?_
  · exact .fieldAddr (.inl rfl) rfl rfl rfl (fun a w' hC hs hl => by rw [show a.eval (.tmp 1) = (.pointer (some ⟨w.heap.size, 0, none⟩) : Value) from (hs 1 (by kernel_rfl))]; simp [go_sem])
  · exact .load (.slice A n c) (.inl rfl) rfl rfl (fun a w' hC hs hl => by rw [show a.eval (.tmp 3) = (.pointer (some ⟨w.heap.size, 0, none⟩) : Value) from (hl 3 (by kernel_rfl) (by kernel_rfl))]; exact ⟨by simp [go_sem, cell_below hC P0.out], rfl⟩)
  · exact .call (.inl rfl) rfl rfl fhb_assayerlaw01_TwinRats (fun a w' hC hs hl => by
      show Calls _ _ #[a.eval (.tmp 4)] _ _
      rw [show a.eval (.tmp 4) = (.slice A n c : Value) from (hl 4 (by kernel_rfl) (by kernel_rfl))]
      exact tw_l hle.out (h1.out.raw_below (below_tr b0.out hC)) hnb.out s1.out (below_tr b0.out hC).size)
  · exact .fieldAddr (.inl rfl) rfl rfl rfl (fun a w' hC hs hl => by rw [show a.eval (.tmp 1) = (.pointer (some ⟨w.heap.size, 0, none⟩) : Value) from (hs 1 (by kernel_rfl))]; simp [go_sem])
  · exact .load (.int .u8 kd) (.inl rfl) rfl rfl (fun a w' hC hs hl => by rw [show a.eval (.tmp 6) = (.pointer (some ⟨w.heap.size, 1, none⟩) : Value) from (hl 6 (by kernel_rfl) (by kernel_rfl))]; exact ⟨by simp [go_sem, cell_below hC P1.out], rfl⟩)
  · exact .fieldAddr (.inl rfl) rfl rfl rfl (fun a w' hC hs hl => by rw [show a.eval (.tmp 1) = (.pointer (some ⟨w.heap.size, 0, none⟩) : Value) from (hs 1 (by kernel_rfl))]; simp [go_sem])
  · exact .load (.agg #[.bool b1, .slice A1 n1 c1, .slice D1 m1 k1]) (.inl rfl) rfl rfl (fun a w' hC hs hl => by rw [show a.eval (.tmp 8) = (.pointer (some ⟨w.heap.size, 2, none⟩) : Value) from (hl 8 (by kernel_rfl) (by kernel_rfl))]; exact ⟨by simp [go_sem, cell_below hC P2.out, cell_below hC P3.out, cell_below hC P4.out], rfl⟩)
  · exact .call (.inl rfl) rfl rfl fhb_assayerlaw01_TwinRat (fun a w' hC hs hl => by
      show Calls _ _ #[a.eval (.tmp 9)] _ _
      rw [show a.eval (.tmp 9) = (.agg #[.bool b1, .slice A1 n1 c1, .slice D1 m1 k1] : Value) from (hl 9 (by kernel_rfl) (by kernel_rfl))]
      exact tw_e (h2.out.below (below_tr b0.out hC)) s2.out (below_tr b0.out hC).size)
  · intro f wz hC hF _
    have f5 : (Fact.twL ec n w.heap.size).holds (f 5) wz := hF 5 (by kernel_rfl)
    have f10 : (Fact.twE er w.heap.size).holds (f 10) wz := hF 10 (by kernel_rfl)
    have q7 : f 7 = .int .u8 kd := hF 7 (by kernel_rfl)
    clear hF
    simp only [patch, List.drop]
    obtain ⟨X, p, us, e5, t5⟩ := f5
    obtain ⟨X1, a1, p1, Y1, a2, p2, e10⟩ := TwE.agg f10
    rw [e10] at f10 ⊢
    rw [e5, q7]
    clear e5 e10 q7
    generalize f 3 = y3_
    generalize f 4 = y4_
    generalize f 6 = y6_
    generalize f 8 = y8_
    generalize f 9 = y9_
    replace t5 := hide t5
    have t10 : Hid (TwE w.heap.size wz (.agg #[.bool er.1, .slice X1 a1 p1, .slice Y1 a2 p2]) er) := f10
    have b1_ := hide (below_tr b0.out hC)
    have KB := hide (K2.out.below' hC)
    clear hC b0 K1 K2 f10 h1 h2 P0 P1 P2 P3 P4
    have c0 := KB.out.at_ 0 rfl
    have c1 := KB.out.at_ 1 rfl
    have c2 := KB.out.at_ 2 rfl
    have c3 := KB.out.at_ 3 rfl
    have c4 := KB.out.at_ 4 rfl
    have f0_ := KB.out.frozen 0
    have f1_ := KB.out.frozen 1
    have f2_ := KB.out.frozen 2
    have f3_ := KB.out.frozen 3
    have f4_ := KB.out.frozen 4
    go_wp2
    have far : ∀ t, t ≠ 164 → ∀ g cs, Blk wz g t cs → Blk (([(0, .slice X n p), (1, .int .u8 kd), (2, .bool er.1), (3, .slice X1 a1 p1), (4, .slice Y1 a2 p2)] : List (Nat × Value)).foldl (fun w_ x => w_.setCell ⟨w.heap.size + 1, x.1, none⟩ x.2) wz) g t cs := fun t ht g cs hk => hk.sets (hk.type_ne KB.out ht) _
    have bb := below_sets b1_.out (g' := w.heap.size + 1) (Nat.le_succ _) [(0, .slice X n p), (1, .int .u8 kd), (2, .bool er.1), (3, .slice X1 a1 p1), (4, .slice Y1 a2 p2)]
    have NT : OT w.heap.size (([(0, .slice X n p), (1, .int .u8 kd), (2, .bool er.1), (3, .slice X1 a1 p1), (4, .slice Y1 a2 p2)] : List (Nat × Value)).foldl (fun w_ x => w_.setCell ⟨w.heap.size + 1, x.1, none⟩ x.2) wz) (.agg #[.slice X n p, .int .u8 kd, .bool er.1, .slice X1 a1 p1, .slice Y1 a2 p2]) ⟨ec, kd, er⟩ := ⟨X, n, p, us, X1, a1, p1, Y1, a2, p2, rfl, t5.out.keep2 (far _ (by decide)) (far _ (by decide)), t10.out.keepB (far _ (by decide))⟩
    refine bodyPost_ret (v := .agg #[.slice X n p, .int .u8 kd, .bool er.1, .slice X1 a1 p1, .slice Y1 a2 p2]) (by simp [results, Tryd.results148, go_sem, c0, c1, c2, c3, c4, f0_, f1_, f2_, f3_, f4_]) rfl ?_
    exact opq_end hR ⟨_, rfl, bb, NT⟩
set_option maxHeartbeats 4000000 in
theorem leftRow_ok {B : Nat} {w : World} {u v : Value} {e : RO} (h : OT B w u e) (h' : OE RRaw w v e) :
    Calls Tryd.prog 155 #[u, v] w fun e_ w' => ∃ r, e_ = .returned r ∧ Below w.heap.size w w' ∧ r = .bool true := by
  refine opq fun R hR => ?_
  obtain ⟨X, n, p, us, X1, a1, p1, Y1, a2, p2, rfl, h1, h2⟩ := h
  obtain ⟨A0_, l0_, k0_, A1, n1, c1, D1, m1, k1, rfl, g1, g2⟩ := h'
  obtain rfl : n = l0_ := by rw [← h1.le, g1.len]
  replace h1 := hide h1
  replace h2 := hide h2
  replace g1 := hide g1
  replace g2 := hide g2
  have b1 := hide (((Below.refl w.heap.size w).alloc (Nat.le_refl _) (.cells #[.slice X n p, .int .u8 e.kind, .bool e.right.1, .slice X1 a1 p1, .slice Y1 a2 p2] 164)).alloc (by simp) (.cells #[.slice A0_ n k0_, .int .u8 e.kind, .bool e.right.1, .slice A1 n1 c1, .slice D1 m1 k1] 164))
  have K1 := hide ((Blk.new_at w w.heap.size rfl 164 #[.slice X n p, .int .u8 e.kind, .bool e.right.1, .slice X1 a1 p1, .slice Y1 a2 p2]).alloc (.cells #[.slice A0_ n k0_, .int .u8 e.kind, .bool e.right.1, .slice A1 n1 c1, .slice D1 m1 k1] 164))
  have K2 := hide (Blk.new_at (w.alloc (.cells #[.slice X n p, .int .u8 e.kind, .bool e.right.1, .slice X1 a1 p1, .slice Y1 a2 p2] 164)) (w.heap.size + 1) (by simp) 164 #[.slice A0_ n k0_, .int .u8 e.kind, .bool e.right.1, .slice A1 n1 c1, .slice D1 m1 k1])
  go_enter Tryd.func155, Tryd.ntmps155
  have x0 := K1.out.at_ 0 rfl
  have y0 := K2.out.at_ 0 rfl
  go_wp2_with fail
  refine (leftRats_ok (h1.out.below b1.out) (g1.out.raw_below b1.out)).mono ?_
  rintro e w1 ⟨_, rfl, d1, rfl⟩
  replace K1 := hide (K1.out.below' d1)
  replace K2 := hide (K2.out.below' d1)
  replace b1 := hide (below_tr b1.out d1)
  clear d1 x0 y0
  have x1 := K1.out.at_ 1 rfl
  have x2 := K1.out.at_ 2 rfl
  have x3 := K1.out.at_ 3 rfl
  have x4 := K1.out.at_ 4 rfl
  have y1 := K2.out.at_ 1 rfl
  have y2 := K2.out.at_ 2 rfl
  have y3 := K2.out.at_ 3 rfl
  have y4 := K2.out.at_ 4 rfl
  go_wp2_with fail
  refine (left_e (h2.out.below b1.out) (g2.out.below b1.out)).mono ?_
  rintro e w2 ⟨_, rfl, d1, rfl⟩
  replace K1 := hide (K1.out.below' d1)
  replace K2 := hide (K2.out.below' d1)
  replace b1 := hide (below_tr b1.out d1)
  clear d1 x1 x2 x3 x4 y1 y2 y3 y4
  go_wp2
  exact opq_end hR ⟨_, rfl, b1.out, rfl⟩
end Go.Proofs.YtkefmeddnncacaaDoor

/- models: twins of lists of what is sought and of what must hold. -/
set_option linter.unusedVariables false
set_option linter.unusedSimpArgs false
set_option maxRecDepth 100000
namespace Go.Proofs.YtkefmeddnncacaaDoor
open Go.RowKit

theorem flat_append (us vs : List Value) : flat (us ++ vs) = flat us ++ flat vs := by
  induction us with
  | nil => simp [flat]
  | cons a us ih => show a.cells.toList ++ flat (us ++ vs) = (a.cells.toList ++ flat us) ++ flat vs; rw [ih, List.append_assoc]
theorem flat_one (u : Value) : flat [u] = u.cells.toList := by simp [flat]
/-- The elements that far. -/
structure TwQ {α : Type} (E : World → Value → α → Prop) (m : Nat) (w : World) (i : Nat) (us : List Value) (es : List α) : Prop where
  lu : us.length = i
  sz : ∀ u ∈ us, u.cells.size = m
  els : ∀ (j : Nat) u, us[j]? = some u → ∃ e, es[j]? = some e ∧ E w u e
theorem TwQ.keep {α : Type} {E : World → Value → α → Prop} {m : Nat} {w w' : World} {i : Nat} {us : List Value} {es : List α} (h : TwQ E m w i us es) (k : ∀ u e, E w u e → E w' u e) : TwQ E m w' i us es :=
  ⟨h.lu, h.sz, fun j u hu => by
    obtain ⟨e, he, hE⟩ := h.els j u hu
    exact ⟨e, he, k _ _ hE⟩⟩
theorem TwQ.snoc {α : Type} {E : World → Value → α → Prop} {m : Nat} {w : World} {i : Nat} {us : List Value} {es : List α} (h : TwQ E m w i us es) {u : Value} {e : α} (hs : u.cells.size = m) (hE : E w u e) (he : es[i]? = some e) : TwQ E m w (i + 1) (us ++ [u]) es := by
  refine ⟨by simp [h.lu], fun v hv => ?_, fun j v hj => ?_⟩
  · rcases List.mem_append.1 hv with hv | hv
    · exact h.sz v hv
    · simp at hv; subst hv; exact hs
  · by_cases hl : j < us.length
    · rw [List.getElem?_append_left hl] at hj
      exact h.els j v hj
    · rw [List.getElem?_append_right (by omega)] at hj
      have := (List.getElem?_eq_some_iff.1 hj).1
      simp at this
      obtain rfl : j = us.length := by omega
      simp at hj
      subst hj
      exact ⟨e, by rw [h.lu]; exact he, hE⟩
/-- A list of the law's own, with a mark behind it. -/
structure TwS {α : Type} (E : World → Value → α → Prop) (m : Nat) (t : TypeId) (mk : List Value) (B : Nat) (w : World) (A : Option Addr) (n c : Nat) (es : List α) : Prop where
  le : es.length = n
  lt : n < c
  bd : n ≤ 100000
  row : ∃ us : List Value, TwQ E m w n us es ∧ w.ownsRow B t m (.slice A (n + 1) c) (n + 1) (flat us ++ mk)
theorem TwS.keep {α : Type} {E : World → Value → α → Prop} {m : Nat} {t : TypeId} {mk : List Value} {B : Nat} {w w' : World} {A : Option Addr} {n c : Nat} {es : List α} (h : TwS E m t mk B w A n c es) (k : ∀ u e, E w u e → E w' u e) (k2 : ∀ g cs, Blk w g t cs → Blk w' g t cs) : TwS E m t mk B w' A n c es := by
  obtain ⟨us, h1, h2⟩ := h.row
  exact ⟨h.le, h.lt, h.bd, us, h1.keep k, own_keepS h2 k2⟩
theorem TwS.below {α : Type} {E : World → Value → α → Prop} {m : Nat} {t : TypeId} {mk : List Value} {B : Nat} {w w' : World} {A : Option Addr} {n c : Nat} {es : List α} (h : TwS E m t mk B w A n c es) (hE : ∀ u e, E w u e → E w' u e) (hb : Below w.heap.size w w') : TwS E m t mk B w' A n c es := by
  obtain ⟨us, h1, h2⟩ := h.row
  exact ⟨h.le, h.lt, h.bd, us, h1.keep hE, own_below h2 hb⟩
theorem TwS.mono {α : Type} {E F : World → Value → α → Prop} {m : Nat} {t : TypeId} {mk : List Value} {B B' : Nat} {w : World} {A : Option Addr} {n c : Nat} {es : List α} (h : TwS E m t mk B w A n c es) (hE : ∀ u e, E w u e → F w u e) (hB : B' ≤ B) : TwS F m t mk B' w A n c es := by
  obtain ⟨us, h1, h2⟩ := h.row
  exact ⟨h.le, h.lt, h.bd, us, ⟨h1.lu, h1.sz, fun j u hu => by
    obtain ⟨e, he, hx⟩ := h1.els j u hu
    exact ⟨e, he, hE _ _ hx⟩⟩, own_monoT h2 hB⟩
theorem TwS.cell {α : Type} {E : World → Value → α → Prop} {m : Nat} {t : TypeId} {mk : List Value} {B : Nat} {w : World} {A : Option Addr} {n c : Nat} {es : List α} (h : TwS E m t mk B w A n c es) : ∃ ad, A = some ad ∧ (∀ (j : Nat) e, es[j]? = some e → ∃ u, E w u e ∧ ∀ i x, u.cells.toList[i]? = some x → w.cell? (ad.add (j * m + i)) = some x) ∧ ∀ i x, mk[i]? = some x → w.cell? (ad.add (n * m + i)) = some x := by
  obtain ⟨us, h1, h2⟩ := h.row
  obtain ⟨g, cap, cur, e, hB, hn, hm, hk, hs, ht⟩ := own_some h2 (by omega)
  cases e
  refine ⟨_, rfl, fun j e he => ?_, fun i x hx => ?_⟩
  · have hj : j < us.length := by
      rw [h1.lu, ← h.le]
      exact (List.getElem?_eq_some_iff.1 he).1
    obtain ⟨e', he', hE⟩ := h1.els j _ (List.getElem?_eq_getElem hj)
    rw [he] at he'
    cases he'
    refine ⟨_, hE, fun i x hx => ?_⟩
    have hi : i < m := by
      have := (List.getElem?_eq_some_iff.1 hx).1
      rw [Array.length_toList, h1.sz _ (List.getElem_mem hj)] at this
      exact this
    rw [add0, hk.cell]
    refine take_get ht ?_
    have hx2 : (flat us)[j * m + i]? = some x := by
      rw [flat_getN h1.sz (List.getElem?_eq_getElem hj) i hi]; exact hx
    rw [List.getElem?_append_left (List.getElem?_eq_some_iff.1 hx2).1]
    exact hx2
  · rw [add0, hk.cell]
    refine take_get ht ?_
    rw [List.getElem?_append_right (by rw [flat_lenN h1.sz, h1.lu]; omega), flat_lenN h1.sz, h1.lu, show n * m + i - n * m = i by omega]
    exact hx
def VT (B : Nat) : World → Value → RV → Prop := VE (TwE B)
theorem VT.below {B : Nat} {w w' : World} {u : Value} {e : RV} (h : VT B w u e) (k : Below w.heap.size w w') : VT B w' u e := VE.map h fun u q _ y => y.below k
theorem VT.mono {B B' : Nat} {w : World} {u : Value} {e : RV} (h : VT B w u e) (k : B' ≤ B) : VT B' w u e := VE.map h fun u q _ y => y.mono k
theorem VT.keepB {B : Nat} {w w' : World} {u : Value} {e : RV} (h : VT B w u e) (k : ∀ g cs, Blk w g T32 cs → Blk w' g T32 cs) : VT B w' u e := VE.map h fun u q _ y => y.keepB k
theorem infoV : (Tryd.prog.info? 158).map (fun i => (i.zero, i.size, i.bytes)) = some (some (.agg #[.string ⟨#[]⟩, .bool false, .bool false, .bool false, .slice none 0 0, .slice none 0 0, .bool false, .bool false, .slice none 0 0, .slice none 0 0]), 10, 144) := by kernel_rfl
theorem mkV_room (c : Int) (m : Nat) (hc : c = m) (hm : m ≤ 1000000) (w : World) :
    (Instr.makeSlice 42 (.int .i64 0) (.int .i64 c)).run Tryd.prog w = .ok (.slice (some ⟨w.heap.size, 0, none⟩) 0 m) (w.alloc (.cells (madeCells #[.string ⟨#[]⟩, .bool false, .bool false, .bool false, .slice none 0 0, .slice none 0 0, .bool false, .bool false, .slice none 0 0, .slice none 0 0] (m * 10)) 158)) := by
  subst hc
  obtain ⟨i0, hi, hz0, hz1, hz2⟩ := info_parts infoV
  have hb' : (i0.bytes : Int) * (m : Int) ≤ 281474976710656 := by
    rw [hz2]
    omega
  have hr := run_make (P := Tryd.prog) w 42 158 i0 (.agg #[.string ⟨#[]⟩, .bool false, .bool false, .bool false, .slice none 0 0, .slice none 0 0, .bool false, .bool false, .slice none 0 0, .slice none 0 0]) (by kernel_rfl) hi hz0 .i64 .i64 0 (m : Int) (by omega) (by omega) hb' (by omega)
  rw [hr, hz1]
  simp only [Int.toNat_natCast]
  rfl
set_option maxHeartbeats 4000000 in
theorem twinVars_ok {w : World} {v : Value} {es : List RV} {n : Nat} (hn : es.length = n) (h : Lst (VE RRaw) w v es) (hl : n ≤ 100000) (hs : ∀ e ∈ es, SmE e.low ∧ SmE e.high) :
    Calls Tryd.prog 80 #[v] w fun e w' => ∃ X c, e = .returned (.slice X n c) ∧ Below w.heap.size w w' ∧ TwS (VT w.heap.size) 10 158 (#[.string ⟨#[115, 112, 97, 114, 101]⟩, .bool false, .bool false, .bool false, .slice none 0 0, .slice none 0 0, .bool false, .bool false, .slice none 0 0, .slice none 0 0]).toList w.heap.size w' X n c es := by
  refine opq fun R hR => ?_
  obtain ⟨A, c, rfl⟩ := h.sl
  rw [hn] at h ⊢
  replace hn := hide hn
  have L := hide h
  replace hs := hide hs
  clear h
  have hmk := mkV_room ((n : Int) + 1) (n + 1) (by omega) (by omega)
  go_enter Tryd.func80, Tryd.ntmps80
  go_wp2
  clear hmk
  have r0 : Hid ((w.alloc (.cells (madeCells #[.string ⟨#[]⟩, .bool false, .bool false, .bool false, .slice none 0 0, .slice none 0 0, .bool false, .bool false, .slice none 0 0, .slice none 0 0] ((n + 1) * 10)) 158)).ownsRow w.heap.size 158 10 (.slice (some ⟨w.heap.size, 0, none⟩) 0 (n + 1)) 0 (flat [])) :=
    ⟨rfl, .inr ⟨w.heap.size, n + 1, _, rfl, Nat.le_refl _, (Blk.new w 158 _).eq, Nat.zero_le _, (by simp [maxLen]; omega), (by rw [size_madeCells]), by simp [flat]⟩⟩
  have b0 := hide ((Below.refl w.heap.size w).alloc (Nat.le_refl _) (.cells (madeCells #[.string ⟨#[]⟩, .bool false, .bool false, .bool false, .slice none 0 0, .slice none 0 0, .bool false, .bool false, .slice none 0 0, .slice none 0 0] ((n + 1) * 10)) 158))
  go_loopw [3, 4] (fun tv iv wr => ∃ (i : Nat) (T : Option Addr) (cT : Nat) (us : List Value), i ≤ n ∧ iv = .int .i64 (i : Nat) ∧ tv = .slice T i cT ∧ Hid (Below w.heap.size w wr) ∧ Hid (wr.ownsRow w.heap.size 158 10 (.slice T i cT) i (flat us)) ∧ Hid (TwQ (VT w.heap.size) 10 wr i us es)) (fun _ iv _ => n - (intOf iv).toNat)
  case atStart => exact ⟨0, _, _, [], by omega, rfl, rfl, b0, r0, ⟨rfl, fun u h => (by cases h), fun j u h => (by simp at h)⟩⟩
  case round =>
    clear b0 r0
    obtain ⟨i, T, cT, us, hi, rfl, rfl, b0, row, tw⟩ := hrel
    by_cases hlt : i < n
    · obtain ⟨x, hx⟩ : ∃ x, es[i]? = some x := ⟨_, List.getElem?_eq_getElem (by rw [hn.out]; exact hlt)⟩
      obtain ⟨ad, u, rfl, _, X, cl⟩ := L.out.cellsN (VE.sz RRaw) hx
      obtain ⟨A1, n1, c1, D1, m1, k1, A2, n2, c2, D2, m2, k2, rfl, X1, X2⟩ := X
      have x0 := cell_below b0.out (cl 0 _ rfl)
      rw [Nat.add_zero] at x0
      have x1 := cell_below b0.out (cl 1 _ rfl)
      rw [add_off _ _ _ (by omega)] at x1
      have x2 := cell_below b0.out (cl 2 _ rfl)
      rw [add_off _ _ _ (by omega)] at x2
      have x3 := cell_below b0.out (cl 3 _ rfl)
      rw [add_off _ _ _ (by omega)] at x3
      have x4 := cell_below b0.out (cl 4 _ rfl)
      rw [add_off _ _ _ (by omega)] at x4
      have x5 := cell_below b0.out (cl 5 _ rfl)
      rw [add_off _ _ _ (by omega)] at x5
      have x6 := cell_below b0.out (cl 6 _ rfl)
      rw [add_off _ _ _ (by omega)] at x6
      have x7 := cell_below b0.out (cl 7 _ rfl)
      rw [add_off _ _ _ (by omega)] at x7
      have x8 := cell_below b0.out (cl 8 _ rfl)
      rw [add_off _ _ _ (by omega)] at x8
      have x9 := cell_below b0.out (cl 9 _ rfl)
      rw [add_off _ _ _ (by omega)] at x9
      have X : Hid (VE RRaw w (.agg #[.string x.name, .bool x.wh, .bool x.hl, .bool x.low.1, .slice A1 n1 c1, .slice D1 m1 k1, .bool x.hh, .bool x.high.1, .slice A2 n2 c2, .slice D2 m2 k2]) x) := ⟨A1, n1, c1, D1, m1, k1, A2, n2, c2, D2, m2, k2, rfl, X1, X2⟩
      have hsx := hide (hs.out x (List.mem_of_getElem? hx))
      replace hx := hide hx
      clear X1 X2 cl
      go_wp2_with fail
      refine (twinVar_ok (X.out.map fun u q _ y => y.below b0.out) hsx.out.1 hsx.out.2).mono ?_
      rintro e w1 ⟨v, rfl, d1, T1⟩
      obtain ⟨X1, a1, p1, Y1, a2, p2, X2, a3, p3, Y2, a4, p4, rfl, t1, t2⟩ := T1
      have K := hide (Blk.new w1 158 #[.string x.name, .bool x.wh, .bool x.hl, .bool x.low.1, .slice X1 a1 p1, .slice Y1 a2 p2, .bool x.hh, .bool x.high.1, .slice X2 a3 p3, .slice Y2 a4 p4])
      have yy : Below w1.heap.size w1 (w1.alloc (.cells #[.string x.name, .bool x.wh, .bool x.hl, .bool x.low.1, .slice X1 a1 p1, .slice Y1 a2 p2, .bool x.hh, .bool x.high.1, .slice X2 a3 p3, .slice Y2 a4 p4] 158)) := (Below.refl _ _).alloc (Nat.le_refl _) _
      have D := hide (below_tr d1 yy)
      have TE : Hid (VT w.heap.size (w1.alloc (.cells #[.string x.name, .bool x.wh, .bool x.hl, .bool x.low.1, .slice X1 a1 p1, .slice Y1 a2 p2, .bool x.hh, .bool x.high.1, .slice X2 a3 p3, .slice Y2 a4 p4] 158)) (.agg #[.string x.name, .bool x.wh, .bool x.hl, .bool x.low.1, .slice X1 a1 p1, .slice Y1 a2 p2, .bool x.hh, .bool x.high.1, .slice X2 a3 p3, .slice Y2 a4 p4]) x) := (show VT wr.heap.size _ _ _ from ⟨X1, a1, p1, Y1, a2, p2, X2, a3, p3, Y2, a4, p4, rfl, t1.below yy, t2.below yy⟩).mono b0.out.size
      have S6 := hide (own_below row.out D.out)
      have S7 := hide (below_tr b0.out D.out)
      have S8 : Hid (w.heap.size ≤ (w1.alloc (.cells #[.string x.name, .bool x.wh, .bool x.hl, .bool x.low.1, .slice X1 a1 p1, .slice Y1 a2 p2, .bool x.hh, .bool x.high.1, .slice X2 a3 p3, .slice Y2 a4 p4] 158)).heap.size) := S7.out.size
      have TW := hide (tw.out.keep fun u e h => h.below D.out)
      clear x0 x1 x2 x3 x4 x5 x6 x7 x8 x9 d1 t1 t2 yy row X tw D
      go_wp2_with (at_builtin; refine wpList_appv (P := Tryd.prog) (t := 42) (e := 158) (z := .agg #[.string ⟨#[]⟩, .bool false, .bool false, .bool false, .slice none 0 0, .slice none 0 0, .bool false, .bool false, .slice none 0 0, .slice none 0 0]) (size := 10) (b := 144) (by kernel_rfl) infoV rfl (by omega) _ rfl _ _ rfl w.heap.size i _ (flat us) rfl S6.out ⟨w1.heap.size, 0, none⟩ 1 1 (#[.string x.name, .bool x.wh, .bool x.hl, .bool x.low.1, .slice X1 a1 p1, .slice Y1 a2 p2, .bool x.hh, .bool x.high.1, .slice X2 a3 p3, .slice Y2 a4 p4]).toList rfl rfl (fun j u hj => by rw [add0, K.out.cell]; rw [Array.getElem?_toList] at hj; exact hj) (fun u hu => List.all_eq_true.1 (show ((#[.string x.name, .bool x.wh, .bool x.hl, .bool x.low.1, .slice X1 a1 p1, .slice Y1 a2 p2, .bool x.hh, .bool x.high.1, .slice X2 a3 p3, .slice Y2 a4 p4]).toList.all fun u => u.oneCell') = true from rfl) u hu) (by omega) (by omega) S8.out ?_; intro v' w3 q1 q2)
      obtain ⟨T2, cT2, e2⟩ := own_slice q1.out
      subst e2
      go_roundw
      case rel =>
        have far : ∀ t, t ≠ 158 → ∀ g cs, Blk (w1.alloc (.cells #[.string x.name, .bool x.wh, .bool x.hl, .bool x.low.1, .slice X1 a1 p1, .slice Y1 a2 p2, .bool x.hh, .bool x.high.1, .slice X2 a3 p3, .slice Y2 a4 p4] 158)) g t cs → Blk w3 g t cs := fun t ht g cs hk => blk_grown S6.out q2.out hk ht
        refine ⟨i + 1, T2, cT2, us ++ [.agg #[.string x.name, .bool x.wh, .bool x.hl, .bool x.low.1, .slice X1 a1 p1, .slice Y1 a2 p2, .bool x.hh, .bool x.high.1, .slice X2 a3 p3, .slice Y2 a4 p4]], by omega, by go_num, rfl, S7.out.trans ((Below.refl _ _).grown q2.out S8.out (fun k e => (own_rowT S6.out k e).1)), ?_, (TW.out.keep fun u e h => h.keepB (far _ (by decide))).snoc rfl (TE.out.keepB (far _ (by decide))) hx.out⟩
        rw [flat_append, flat_one]
        exact q1.out
      case measure => simp [intOf]; omega
    · obtain rfl : i = n := by omega
      have yy : Below wr.heap.size wr (wr.alloc (.cells #[.string ⟨#[115, 112, 97, 114, 101]⟩, .bool false, .bool false, .bool false, .slice none 0 0, .slice none 0 0, .bool false, .bool false, .slice none 0 0, .slice none 0 0] 158)) := (Below.refl _ _).alloc (Nat.le_refl _) _
      have K := hide (Blk.new wr 158 #[.string ⟨#[115, 112, 97, 114, 101]⟩, .bool false, .bool false, .bool false, .slice none 0 0, .slice none 0 0, .bool false, .bool false, .slice none 0 0, .slice none 0 0])
      have S6 := hide (own_below row.out yy)
      have S7 := hide (below_tr b0.out yy)
      have S8 : Hid (w.heap.size ≤ (wr.alloc (.cells #[.string ⟨#[115, 112, 97, 114, 101]⟩, .bool false, .bool false, .bool false, .slice none 0 0, .slice none 0 0, .bool false, .bool false, .slice none 0 0, .slice none 0 0] 158)).heap.size) := S7.out.size
      have TW := hide (tw.out.keep fun u e h => h.below yy)
      clear yy row tw b0
      go_wp2_with (at_builtin; refine wpList_appv (P := Tryd.prog) (t := 42) (e := 158) (z := .agg #[.string ⟨#[]⟩, .bool false, .bool false, .bool false, .slice none 0 0, .slice none 0 0, .bool false, .bool false, .slice none 0 0, .slice none 0 0]) (size := 10) (b := 144) (by kernel_rfl) infoV rfl (by omega) _ rfl _ _ rfl w.heap.size i _ (flat us) rfl S6.out ⟨wr.heap.size, 0, none⟩ 1 1 (#[.string ⟨#[115, 112, 97, 114, 101]⟩, .bool false, .bool false, .bool false, .slice none 0 0, .slice none 0 0, .bool false, .bool false, .slice none 0 0, .slice none 0 0]).toList rfl rfl (fun j u hj => by rw [add0, K.out.cell]; rw [Array.getElem?_toList] at hj; exact hj) (fun u hu => List.all_eq_true.1 (show ((#[.string ⟨#[115, 112, 97, 114, 101]⟩, .bool false, .bool false, .bool false, .slice none 0 0, .slice none 0 0, .bool false, .bool false, .slice none 0 0, .slice none 0 0]).toList.all fun u => u.oneCell') = true from rfl) u hu) (by omega) (by omega) S8.out ?_; intro v' w3 q1 q2; obtain ⟨T2, cT2, e2⟩ := own_slice q1.out; subst e2; have hc2 : i < cT2 := own_cap q1.out)
      have far : ∀ t, t ≠ 158 → ∀ g cs, Blk (wr.alloc (.cells #[.string ⟨#[115, 112, 97, 114, 101]⟩, .bool false, .bool false, .bool false, .slice none 0 0, .slice none 0 0, .bool false, .bool false, .slice none 0 0, .slice none 0 0] 158)) g t cs → Blk w3 g t cs := fun t ht g cs hk => blk_grown S6.out q2.out hk ht
      have b3 := hide (S7.out.trans ((Below.refl _ _).grown q2.out S8.out (fun k e => (own_rowT S6.out k e).1)))
      have TB : Hid (TwS (VT w.heap.size) 10 158 (#[.string ⟨#[115, 112, 97, 114, 101]⟩, .bool false, .bool false, .bool false, .slice none 0 0, .slice none 0 0, .bool false, .bool false, .slice none 0 0, .slice none 0 0]).toList w.heap.size w3 T2 i cT2 es) := ⟨hn.out, hc2, hl, us, TW.out.keep fun u e h => h.keepB (far _ (by decide)), q1.out⟩
      clear far TW
      go_wp2
      exact opq_end hR ⟨T2, cT2, rfl, b3.out, TB.out⟩
theorem OE.rawb {w w' : World} {u : Value} {e : RO} (h : OE RRaw w u e) (k : Below w.heap.size w w') : OE RRaw w' u e := by
  obtain ⟨A, n, c, A1, n1, c1, D1, m1, k1, e1, h1, h2⟩ := h
  exact ⟨A, n, c, A1, n1, c1, D1, m1, k1, e1, h1.raw_below k, h2.below k⟩
theorem infoO : (Tryd.prog.info? 164).map (fun i => (i.zero, i.size, i.bytes)) = some (some (.agg #[.slice none 0 0, .int .u8 0, .bool false, .slice none 0 0, .slice none 0 0]), 5, 88) := by kernel_rfl
theorem mkO_room (c : Int) (m : Nat) (hc : c = m) (hm : m ≤ 1000000) (w : World) :
    (Instr.makeSlice 43 (.int .i64 0) (.int .i64 c)).run Tryd.prog w = .ok (.slice (some ⟨w.heap.size, 0, none⟩) 0 m) (w.alloc (.cells (madeCells #[.slice none 0 0, .int .u8 0, .bool false, .slice none 0 0, .slice none 0 0] (m * 5)) 164)) := by
  subst hc
  obtain ⟨i0, hi, hz0, hz1, hz2⟩ := info_parts infoO
  have hb' : (i0.bytes : Int) * (m : Int) ≤ 281474976710656 := by
    rw [hz2]
    omega
  have hr := run_make (P := Tryd.prog) w 43 164 i0 (.agg #[.slice none 0 0, .int .u8 0, .bool false, .slice none 0 0, .slice none 0 0]) (by kernel_rfl) hi hz0 .i64 .i64 0 (m : Int) (by omega) (by omega) hb' (by omega)
  rw [hr, hz1]
  simp only [Int.toNat_natCast]
  rfl
set_option maxHeartbeats 4000000 in
theorem twinRows_ok {w : World} {v : Value} {es : List RO} {n : Nat} (hn : es.length = n) (h : Lst (OE RRaw) w v es) (hl : n ≤ 100000) (hs : ∀ e ∈ es, e.coef.length ≤ 100000 ∧ (∀ x ∈ e.coef, SmE x) ∧ SmE e.right) :
    Calls Tryd.prog 82 #[v] w fun e w' => ∃ X c, e = .returned (.slice X n c) ∧ Below w.heap.size w w' ∧ TwS (OT w.heap.size) 5 164 (#[.slice none 0 0, .int .u8 77, .bool false, .slice none 0 0, .slice none 0 0]).toList w.heap.size w' X n c es := by
  refine opq fun R hR => ?_
  obtain ⟨A, c, rfl⟩ := h.sl
  rw [hn] at h ⊢
  replace hn := hide hn
  have L := hide h
  replace hs := hide hs
  clear h
  have hmk := mkO_room ((n : Int) + 1) (n + 1) (by omega) (by omega)
  go_enter Tryd.func82, Tryd.ntmps82
  go_wp2
  clear hmk
  have r0 : Hid ((w.alloc (.cells (madeCells #[.slice none 0 0, .int .u8 0, .bool false, .slice none 0 0, .slice none 0 0] ((n + 1) * 5)) 164)).ownsRow w.heap.size 164 5 (.slice (some ⟨w.heap.size, 0, none⟩) 0 (n + 1)) 0 (flat [])) :=
    ⟨rfl, .inr ⟨w.heap.size, n + 1, _, rfl, Nat.le_refl _, (Blk.new w 164 _).eq, Nat.zero_le _, (by simp [maxLen]; omega), (by rw [size_madeCells]), by simp [flat]⟩⟩
  have b0 := hide ((Below.refl w.heap.size w).alloc (Nat.le_refl _) (.cells (madeCells #[.slice none 0 0, .int .u8 0, .bool false, .slice none 0 0, .slice none 0 0] ((n + 1) * 5)) 164))
  go_loopw [3, 4] (fun tv iv wr => ∃ (i : Nat) (T : Option Addr) (cT : Nat) (us : List Value), i ≤ n ∧ iv = .int .i64 (i : Nat) ∧ tv = .slice T i cT ∧ Hid (Below w.heap.size w wr) ∧ Hid (wr.ownsRow w.heap.size 164 5 (.slice T i cT) i (flat us)) ∧ Hid (TwQ (OT w.heap.size) 5 wr i us es)) (fun _ iv _ => n - (intOf iv).toNat)
  case atStart => exact ⟨0, _, _, [], by omega, rfl, rfl, b0, r0, ⟨rfl, fun u h => (by cases h), fun j u h => (by simp at h)⟩⟩
  case round =>
    clear b0 r0
    obtain ⟨i, T, cT, us, hi, rfl, rfl, b0, row, tw⟩ := hrel
    by_cases hlt : i < n
    · obtain ⟨x, hx⟩ : ∃ x, es[i]? = some x := ⟨_, List.getElem?_eq_getElem (by rw [hn.out]; exact hlt)⟩
      obtain ⟨ad, u, rfl, _, X, cl⟩ := L.out.cellsN (OE.sz RRaw) hx
      obtain ⟨A0_, l0_, k0_, A1, n1, c1, D1, m1, k1, rfl, X1, X2⟩ := X
      have x0 := cell_below b0.out (cl 0 _ rfl)
      rw [Nat.add_zero] at x0
      have x1 := cell_below b0.out (cl 1 _ rfl)
      rw [add_off _ _ _ (by omega)] at x1
      have x2 := cell_below b0.out (cl 2 _ rfl)
      rw [add_off _ _ _ (by omega)] at x2
      have x3 := cell_below b0.out (cl 3 _ rfl)
      rw [add_off _ _ _ (by omega)] at x3
      have x4 := cell_below b0.out (cl 4 _ rfl)
      rw [add_off _ _ _ (by omega)] at x4
      have X : Hid (OE RRaw w (.agg #[.slice A0_ l0_ k0_, .int .u8 x.kind, .bool x.right.1, .slice A1 n1 c1, .slice D1 m1 k1]) x) := ⟨A0_, l0_, k0_, A1, n1, c1, D1, m1, k1, rfl, X1, X2⟩
      have hsx := hide (hs.out x (List.mem_of_getElem? hx))
      replace hx := hide hx
      clear X1 X2 cl
      go_wp2_with fail
      refine (twinRow_ok (X.out.rawb b0.out) hsx.out.1 hsx.out.2.1 hsx.out.2.2).mono ?_
      rintro e w1 ⟨v, rfl, d1, T1⟩
      obtain ⟨X0_, nX, p, us1, X1, a1, p1, Y1, a2, p2, rfl, t1, t2⟩ := T1
      have K := hide (Blk.new w1 164 #[.slice X0_ nX p, .int .u8 x.kind, .bool x.right.1, .slice X1 a1 p1, .slice Y1 a2 p2])
      have yy : Below w1.heap.size w1 (w1.alloc (.cells #[.slice X0_ nX p, .int .u8 x.kind, .bool x.right.1, .slice X1 a1 p1, .slice Y1 a2 p2] 164)) := (Below.refl _ _).alloc (Nat.le_refl _) _
      have D := hide (below_tr d1 yy)
      have TE : Hid (OT w.heap.size (w1.alloc (.cells #[.slice X0_ nX p, .int .u8 x.kind, .bool x.right.1, .slice X1 a1 p1, .slice Y1 a2 p2] 164)) (.agg #[.slice X0_ nX p, .int .u8 x.kind, .bool x.right.1, .slice X1 a1 p1, .slice Y1 a2 p2]) x) := (show OT wr.heap.size _ _ _ from ⟨X0_, nX, p, us1, X1, a1, p1, Y1, a2, p2, rfl, t1.below yy, t2.below yy⟩).mono b0.out.size
      have S6 := hide (own_below row.out D.out)
      have S7 := hide (below_tr b0.out D.out)
      have S8 : Hid (w.heap.size ≤ (w1.alloc (.cells #[.slice X0_ nX p, .int .u8 x.kind, .bool x.right.1, .slice X1 a1 p1, .slice Y1 a2 p2] 164)).heap.size) := S7.out.size
      have TW := hide (tw.out.keep fun u e h => h.below D.out)
      clear x0 x1 x2 x3 x4 d1 t1 t2 yy row X tw D
      go_wp2_with (at_builtin; refine wpList_appv (P := Tryd.prog) (t := 43) (e := 164) (z := .agg #[.slice none 0 0, .int .u8 0, .bool false, .slice none 0 0, .slice none 0 0]) (size := 5) (b := 88) (by kernel_rfl) infoO rfl (by omega) _ rfl _ _ rfl w.heap.size i _ (flat us) rfl S6.out ⟨w1.heap.size, 0, none⟩ 1 1 (#[.slice X0_ nX p, .int .u8 x.kind, .bool x.right.1, .slice X1 a1 p1, .slice Y1 a2 p2]).toList rfl rfl (fun j u hj => by rw [add0, K.out.cell]; rw [Array.getElem?_toList] at hj; exact hj) (fun u hu => List.all_eq_true.1 (show ((#[.slice X0_ nX p, .int .u8 x.kind, .bool x.right.1, .slice X1 a1 p1, .slice Y1 a2 p2]).toList.all fun u => u.oneCell') = true from rfl) u hu) (by omega) (by omega) S8.out ?_; intro v' w3 q1 q2)
      obtain ⟨T2, cT2, e2⟩ := own_slice q1.out
      subst e2
      go_roundw
      case rel =>
        have far : ∀ t, t ≠ 164 → ∀ g cs, Blk (w1.alloc (.cells #[.slice X0_ nX p, .int .u8 x.kind, .bool x.right.1, .slice X1 a1 p1, .slice Y1 a2 p2] 164)) g t cs → Blk w3 g t cs := fun t ht g cs hk => blk_grown S6.out q2.out hk ht
        refine ⟨i + 1, T2, cT2, us ++ [.agg #[.slice X0_ nX p, .int .u8 x.kind, .bool x.right.1, .slice X1 a1 p1, .slice Y1 a2 p2]], by omega, by go_num, rfl, S7.out.trans ((Below.refl _ _).grown q2.out S8.out (fun k e => (own_rowT S6.out k e).1)), ?_, (TW.out.keep fun u e h => h.keep2 (far _ (by decide)) (far _ (by decide))).snoc rfl (TE.out.keep2 (far _ (by decide)) (far _ (by decide))) hx.out⟩
        rw [flat_append, flat_one]
        exact q1.out
      case measure => simp [intOf]; omega
    · obtain rfl : i = n := by omega
      have yy : Below wr.heap.size wr (wr.alloc (.cells #[.slice none 0 0, .int .u8 77, .bool false, .slice none 0 0, .slice none 0 0] 164)) := (Below.refl _ _).alloc (Nat.le_refl _) _
      have K := hide (Blk.new wr 164 #[.slice none 0 0, .int .u8 77, .bool false, .slice none 0 0, .slice none 0 0])
      have S6 := hide (own_below row.out yy)
      have S7 := hide (below_tr b0.out yy)
      have S8 : Hid (w.heap.size ≤ (wr.alloc (.cells #[.slice none 0 0, .int .u8 77, .bool false, .slice none 0 0, .slice none 0 0] 164)).heap.size) := S7.out.size
      have TW := hide (tw.out.keep fun u e h => h.below yy)
      clear yy row tw b0
      go_wp2_with (at_builtin; refine wpList_appv (P := Tryd.prog) (t := 43) (e := 164) (z := .agg #[.slice none 0 0, .int .u8 0, .bool false, .slice none 0 0, .slice none 0 0]) (size := 5) (b := 88) (by kernel_rfl) infoO rfl (by omega) _ rfl _ _ rfl w.heap.size i _ (flat us) rfl S6.out ⟨wr.heap.size, 0, none⟩ 1 1 (#[.slice none 0 0, .int .u8 77, .bool false, .slice none 0 0, .slice none 0 0]).toList rfl rfl (fun j u hj => by rw [add0, K.out.cell]; rw [Array.getElem?_toList] at hj; exact hj) (fun u hu => List.all_eq_true.1 (show ((#[.slice none 0 0, .int .u8 77, .bool false, .slice none 0 0, .slice none 0 0]).toList.all fun u => u.oneCell') = true from rfl) u hu) (by omega) (by omega) S8.out ?_; intro v' w3 q1 q2; obtain ⟨T2, cT2, e2⟩ := own_slice q1.out; subst e2; have hc2 : i < cT2 := own_cap q1.out)
      have far : ∀ t, t ≠ 164 → ∀ g cs, Blk (wr.alloc (.cells #[.slice none 0 0, .int .u8 77, .bool false, .slice none 0 0, .slice none 0 0] 164)) g t cs → Blk w3 g t cs := fun t ht g cs hk => blk_grown S6.out q2.out hk ht
      have b3 := hide (S7.out.trans ((Below.refl _ _).grown q2.out S8.out (fun k e => (own_rowT S6.out k e).1)))
      have TB : Hid (TwS (OT w.heap.size) 5 164 (#[.slice none 0 0, .int .u8 77, .bool false, .slice none 0 0, .slice none 0 0]).toList w.heap.size w3 T2 i cT2 es) := ⟨hn.out, hc2, hl, us, TW.out.keep fun u e h => h.keep2 (far _ (by decide)) (far _ (by decide)), q1.out⟩
      clear far TW
      go_wp2
      exact opq_end hR ⟨T2, cT2, rfl, b3.out, TB.out⟩
theorem ld_VarAt {w : World} {p : Addr} {a0 a1 a2 a3 a4 a5 a6 a7 a8 a9 : Value} (h0 : w.cell? p = some a0) (h1 : w.cell? ⟨p.block, p.off + 1, none⟩ = some a1) (h2 : w.cell? ⟨p.block, p.off + 2, none⟩ = some a2) (h3 : w.cell? ⟨p.block, p.off + 3, none⟩ = some a3) (h4 : w.cell? ⟨p.block, p.off + 4, none⟩ = some a4) (h5 : w.cell? ⟨p.block, p.off + 5, none⟩ = some a5) (h6 : w.cell? ⟨p.block, p.off + 6, none⟩ = some a6) (h7 : w.cell? ⟨p.block, p.off + 7, none⟩ = some a7) (h8 : w.cell? ⟨p.block, p.off + 8, none⟩ = some a8) (h9 : w.cell? ⟨p.block, p.off + 9, none⟩ = some a9) : (Instr.loadAt 158 (.pointer (some p))).run Tryd.prog w = .ok (.agg #[a0, a1, a2, a3, a4, a5, a6, a7, a8, a9]) w := by simp [go_sem, h0, h1, h2, h3, h4, h5, h6, h7, h8, h9]
theorem ld_RowAt {w : World} {p : Addr} {a0 a1 a2 a3 a4 : Value} (h0 : w.cell? p = some a0) (h1 : w.cell? ⟨p.block, p.off + 1, none⟩ = some a1) (h2 : w.cell? ⟨p.block, p.off + 2, none⟩ = some a2) (h3 : w.cell? ⟨p.block, p.off + 3, none⟩ = some a3) (h4 : w.cell? ⟨p.block, p.off + 4, none⟩ = some a4) : (Instr.loadAt 164 (.pointer (some p))).run Tryd.prog w = .ok (.agg #[a0, a1, a2, a3, a4]) w := by simp [go_sem, h0, h1, h2, h3, h4]
theorem fhc_assayerlaw01_LeftVar (args : Array Value) (w : World) : (callFunc 154 args).run Tryd.prog w = .ok (.enter 154 args) w := callFunc_enter Tryd.func154 (by kernel_rfl) rfl args w
set_option maxHeartbeats 4000000 in
theorem leftVars_ok {B : Nat} {w : World} {X0 : Option Addr} {n c : Nat} {v : Value} {es : List RV} (h : TwS (VT B) 10 158 (#[.string ⟨#[115, 112, 97, 114, 101]⟩, .bool false, .bool false, .bool false, .slice none 0 0, .slice none 0 0, .bool false, .bool false, .slice none 0 0, .slice none 0 0]).toList B w X0 n c es) (h' : Lst (VE RRaw) w v es) :
    Calls Tryd.prog 87 #[.slice X0 n c, v] w fun e w' => ∃ u, e = .returned u ∧ Below w.heap.size w w' ∧ u = .bool true := by
  refine opq fun R hR => ?_
  obtain ⟨A', c', rfl⟩ := h'.sl
  have hle := h.le
  have hlc := h.lt
  have hbd := h.bd
  rw [hle] at h' ⊢
  obtain ⟨ad, rfl, hel, hmk⟩ := h.cell
  replace hel := hide hel
  replace hmk := hide hmk
  replace hle := hide hle
  have M := hide h'
  clear h h'
  have hc1 : ¬ ((c : Int) ≤ (n : Int)) := by omega
  go_enter Tryd.func87, Tryd.ntmps87
  go_wp2
  go_loopw [5] (fun iv wr => ∃ (i : Nat), i ≤ n ∧ iv = .int .i64 (i : Nat) ∧ Hid (Below w.heap.size w wr)) (fun iv _ => n - (intOf iv).toNat)
  case atStart => exact ⟨0, by omega, rfl, Below.refl _ _⟩
  case round =>
    obtain ⟨i, hi, rfl, b0⟩ := hrel
    by_cases hlt : i < n
    · obtain ⟨e, he⟩ : ∃ e, es[i]? = some e := ⟨_, List.getElem?_eq_getElem (by rw [hle.out]; exact hlt)⟩
      obtain ⟨u1, XT, ct⟩ := hel.out i e he
      obtain ⟨X1, a1, p1, Y1, a2, p2, X2, a3, p3, Y2, a4, p4, rfl, t1, t2⟩ := XT
      obtain ⟨ad2, u2, rfl, _, XI, cl⟩ := M.out.cellsN (VE.sz RRaw) he
      obtain ⟨A1, n1, c1, D1, m1, k1, A2, n2, c2, D2, m2, k2, rfl, s1, s2⟩ := XI
      have P0 : Hid (wr.cell? (ad.add (i * 10)) = _) := cell_below b0.out (by have := ct 0 _ rfl; rw [Nat.add_zero] at this; exact this)
      have Q0 : Hid (wr.cell? (ad2.add (i * 10)) = _) := cell_below b0.out (by have := cl 0 _ rfl; rw [Nat.add_zero] at this; exact this)
      have P1 : Hid (wr.cell? ⟨(ad.add (i * 10)).block, (ad.add (i * 10)).off + 1, none⟩ = _) := cell_below b0.out (by have := ct 1 _ rfl; rw [add_off _ _ _ (by omega)] at this; exact this)
      have Q1 : Hid (wr.cell? ⟨(ad2.add (i * 10)).block, (ad2.add (i * 10)).off + 1, none⟩ = _) := cell_below b0.out (by have := cl 1 _ rfl; rw [add_off _ _ _ (by omega)] at this; exact this)
      have P2 : Hid (wr.cell? ⟨(ad.add (i * 10)).block, (ad.add (i * 10)).off + 2, none⟩ = _) := cell_below b0.out (by have := ct 2 _ rfl; rw [add_off _ _ _ (by omega)] at this; exact this)
      have Q2 : Hid (wr.cell? ⟨(ad2.add (i * 10)).block, (ad2.add (i * 10)).off + 2, none⟩ = _) := cell_below b0.out (by have := cl 2 _ rfl; rw [add_off _ _ _ (by omega)] at this; exact this)
      have P3 : Hid (wr.cell? ⟨(ad.add (i * 10)).block, (ad.add (i * 10)).off + 3, none⟩ = _) := cell_below b0.out (by have := ct 3 _ rfl; rw [add_off _ _ _ (by omega)] at this; exact this)
      have Q3 : Hid (wr.cell? ⟨(ad2.add (i * 10)).block, (ad2.add (i * 10)).off + 3, none⟩ = _) := cell_below b0.out (by have := cl 3 _ rfl; rw [add_off _ _ _ (by omega)] at this; exact this)
      have P4 : Hid (wr.cell? ⟨(ad.add (i * 10)).block, (ad.add (i * 10)).off + 4, none⟩ = _) := cell_below b0.out (by have := ct 4 _ rfl; rw [add_off _ _ _ (by omega)] at this; exact this)
      have Q4 : Hid (wr.cell? ⟨(ad2.add (i * 10)).block, (ad2.add (i * 10)).off + 4, none⟩ = _) := cell_below b0.out (by have := cl 4 _ rfl; rw [add_off _ _ _ (by omega)] at this; exact this)
      have P5 : Hid (wr.cell? ⟨(ad.add (i * 10)).block, (ad.add (i * 10)).off + 5, none⟩ = _) := cell_below b0.out (by have := ct 5 _ rfl; rw [add_off _ _ _ (by omega)] at this; exact this)
      have Q5 : Hid (wr.cell? ⟨(ad2.add (i * 10)).block, (ad2.add (i * 10)).off + 5, none⟩ = _) := cell_below b0.out (by have := cl 5 _ rfl; rw [add_off _ _ _ (by omega)] at this; exact this)
      have P6 : Hid (wr.cell? ⟨(ad.add (i * 10)).block, (ad.add (i * 10)).off + 6, none⟩ = _) := cell_below b0.out (by have := ct 6 _ rfl; rw [add_off _ _ _ (by omega)] at this; exact this)
      have Q6 : Hid (wr.cell? ⟨(ad2.add (i * 10)).block, (ad2.add (i * 10)).off + 6, none⟩ = _) := cell_below b0.out (by have := cl 6 _ rfl; rw [add_off _ _ _ (by omega)] at this; exact this)
      have P7 : Hid (wr.cell? ⟨(ad.add (i * 10)).block, (ad.add (i * 10)).off + 7, none⟩ = _) := cell_below b0.out (by have := ct 7 _ rfl; rw [add_off _ _ _ (by omega)] at this; exact this)
      have Q7 : Hid (wr.cell? ⟨(ad2.add (i * 10)).block, (ad2.add (i * 10)).off + 7, none⟩ = _) := cell_below b0.out (by have := cl 7 _ rfl; rw [add_off _ _ _ (by omega)] at this; exact this)
      have P8 : Hid (wr.cell? ⟨(ad.add (i * 10)).block, (ad.add (i * 10)).off + 8, none⟩ = _) := cell_below b0.out (by have := ct 8 _ rfl; rw [add_off _ _ _ (by omega)] at this; exact this)
      have Q8 : Hid (wr.cell? ⟨(ad2.add (i * 10)).block, (ad2.add (i * 10)).off + 8, none⟩ = _) := cell_below b0.out (by have := cl 8 _ rfl; rw [add_off _ _ _ (by omega)] at this; exact this)
      have P9 : Hid (wr.cell? ⟨(ad.add (i * 10)).block, (ad.add (i * 10)).off + 9, none⟩ = _) := cell_below b0.out (by have := ct 9 _ rfl; rw [add_off _ _ _ (by omega)] at this; exact this)
      have Q9 : Hid (wr.cell? ⟨(ad2.add (i * 10)).block, (ad2.add (i * 10)).off + 9, none⟩ = _) := cell_below b0.out (by have := cl 9 _ rfl; rw [add_off _ _ _ (by omega)] at this; exact this)
      have XT : Hid (VT B wr (.agg #[.string e.name, .bool e.wh, .bool e.hl, .bool e.low.1, .slice X1 a1 p1, .slice Y1 a2 p2, .bool e.hh, .bool e.high.1, .slice X2 a3 p3, .slice Y2 a4 p4]) e) := (show VT B w (.agg #[.string e.name, .bool e.wh, .bool e.hl, .bool e.low.1, .slice X1 a1 p1, .slice Y1 a2 p2, .bool e.hh, .bool e.high.1, .slice X2 a3 p3, .slice Y2 a4 p4]) e from ⟨X1, a1, p1, Y1, a2, p2, X2, a3, p3, Y2, a4, p4, rfl, t1, t2⟩).below b0.out
      have XI : Hid (VE RRaw wr (.agg #[.string e.name, .bool e.wh, .bool e.hl, .bool e.low.1, .slice A1 n1 c1, .slice D1 m1 k1, .bool e.hh, .bool e.high.1, .slice A2 n2 c2, .slice D2 m2 k2]) e) := (fun h => VE.map h fun u q _ y => RPrt.below y b0.out)  (show VE RRaw w (.agg #[.string e.name, .bool e.wh, .bool e.hl, .bool e.low.1, .slice A1 n1 c1, .slice D1 m1 k1, .bool e.hh, .bool e.high.1, .slice A2 n2 c2, .slice D2 m2 k2]) e from ⟨A1, n1, c1, D1, m1, k1, A2, n2, c2, D2, m2, k2, rfl, s1, s2⟩)
      clear ct cl he t1 t2 s1 s2
      have hlt2 : ¬ ((n : Int) ≤ (i : Int)) := by omega
      go_wp2
      refine wp_region_facts 10 (fun w' => Below wr.heap.size wr w') [(25, .eq (.slice (some ad) n c)), (26, .eq (.int .i64 (i : Nat))), (27, .eq ((.pointer (some (ad.add (i * 10))) : Value))), (28, .eq (.agg #[.string e.name, .bool e.wh, .bool e.hl, .bool e.low.1, .slice X1 a1 p1, .slice Y1 a2 p2, .bool e.hh, .bool e.high.1, .slice X2 a3 p3, .slice Y2 a4 p4])), (29, .eq (.slice (some ad2) n c')), (30, .eq (.int .i64 (i : Nat))), (31, .eq ((.pointer (some (ad2.add (i * 10))) : Value))), (32, .eq (.agg #[.string e.name, .bool e.wh, .bool e.hl, .bool e.low.1, .slice A1 n1 c1, .slice D1 m1 k1, .bool e.hh, .bool e.high.1, .slice A2 n2 c2, .slice D2 m2 k2])), (33, .eq (.bool true)), (34, .eq (.bool false))] [false, false, false, false, false, false, false, false, false, false, false, false, false, false, false, false, false, false, false, false, false, false, false, false, false, true, true, true, true, true, true, true, true, true, true, false, false, false, false, false, false, false, false, false, false, false, false] mixed (by kernel_rfl) (by kernel_rfl) (by kernel_rfl) (fun _ _ h hb => h.trans (hb.mono h.size)) ((Below.refl _ _).drew) ⟨?_, ?_, ?_, ?_, ?_, ?_, ?_, ?_, ?_, ?_, trivial⟩ ?_
      · exact .moveC (.inl rfl) (.inl rfl) rfl (fun a w' hC hs => (hs 0 (by kernel_rfl)))
      · exact .moveC (.inl rfl) (.inl rfl) rfl (fun a w' hC hs => (hs 5 (by kernel_rfl)))
      · exact .value (.inl rfl) (by intro T e; cases e) rfl rfl (fun a w' hC hs hl => by
          have e0 : a.eval (.tmp 25) = (.slice (some ad) n c) := (hl 25 (by kernel_rfl) (by kernel_rfl))
          have e1 : a.eval (.tmp 26) = (.int .i64 (i : Nat)) := (hl 26 (by kernel_rfl) (by kernel_rfl))
          simp only [execOp, e0, e1]
          simp [go_sem, hlt2])
      · exact .load (.agg #[.string e.name, .bool e.wh, .bool e.hl, .bool e.low.1, .slice X1 a1 p1, .slice Y1 a2 p2, .bool e.hh, .bool e.high.1, .slice X2 a3 p3, .slice Y2 a4 p4]) (.inl rfl) rfl rfl (fun a w' hC hs hl => by rw [show a.eval (.tmp 27) = (.pointer (some (ad.add (i * 10))) : Value) from (hl 27 (by kernel_rfl) (by kernel_rfl))]; exact ⟨ld_VarAt (cell_below hC P0.out) (cell_below hC P1.out) (cell_below hC P2.out) (cell_below hC P3.out) (cell_below hC P4.out) (cell_below hC P5.out) (cell_below hC P6.out) (cell_below hC P7.out) (cell_below hC P8.out) (cell_below hC P9.out), rfl⟩)
      · exact .moveC (.inl rfl) (.inl rfl) rfl (fun a w' hC hs => (hs 1 (by kernel_rfl)))
      · exact .moveC (.inl rfl) (.inl rfl) rfl (fun a w' hC hs => (hs 5 (by kernel_rfl)))
      · exact .value (.inl rfl) (by intro T e; cases e) rfl rfl (fun a w' hC hs hl => by
          have e0 : a.eval (.tmp 29) = (.slice (some ad2) n c') := (hl 29 (by kernel_rfl) (by kernel_rfl))
          have e1 : a.eval (.tmp 30) = (.int .i64 (i : Nat)) := (hl 30 (by kernel_rfl) (by kernel_rfl))
          simp only [execOp, e0, e1]
          simp [go_sem, hlt2])
      · exact .load (.agg #[.string e.name, .bool e.wh, .bool e.hl, .bool e.low.1, .slice A1 n1 c1, .slice D1 m1 k1, .bool e.hh, .bool e.high.1, .slice A2 n2 c2, .slice D2 m2 k2]) (.inl rfl) rfl rfl (fun a w' hC hs hl => by rw [show a.eval (.tmp 31) = (.pointer (some (ad2.add (i * 10))) : Value) from (hl 31 (by kernel_rfl) (by kernel_rfl))]; exact ⟨ld_VarAt (cell_below hC Q0.out) (cell_below hC Q1.out) (cell_below hC Q2.out) (cell_below hC Q3.out) (cell_below hC Q4.out) (cell_below hC Q5.out) (cell_below hC Q6.out) (cell_below hC Q7.out) (cell_below hC Q8.out) (cell_below hC Q9.out), rfl⟩)
      · exact .call (.inl rfl) rfl rfl fhc_assayerlaw01_LeftVar (fun a w' hC hs hl => by
          show Calls _ _ #[a.eval (.tmp 28), a.eval (.tmp 32)] _ _
          rw [show a.eval (.tmp 28) = (.agg #[.string e.name, .bool e.wh, .bool e.hl, .bool e.low.1, .slice X1 a1 p1, .slice Y1 a2 p2, .bool e.hh, .bool e.high.1, .slice X2 a3 p3, .slice Y2 a4 p4] : Value) from (hl 28 (by kernel_rfl) (by kernel_rfl)), show a.eval (.tmp 32) = (.agg #[.string e.name, .bool e.wh, .bool e.hl, .bool e.low.1, .slice A1 n1 c1, .slice D1 m1 k1, .bool e.hh, .bool e.high.1, .slice A2 n2 c2, .slice D2 m2 k2] : Value) from (hl 32 (by kernel_rfl) (by kernel_rfl))]
          exact leftVar_ok (XT.out.below hC) (XI.out.map fun u q _ y => RPrt.below y hC))
      · exact .value (.inl rfl) (by intro T e; cases e) rfl rfl (fun a w' hC hs hl => by
          have e0 : a.eval (.tmp 33) = (.bool true) := (hl 33 (by kernel_rfl) (by kernel_rfl))
          simp only [execOp, e0]
          skip
          simp [go_sem] <;> rfl)
      · intro f wz hC hF _
        have fz : f 34 = .bool false := hF 34 (by kernel_rfl)
        clear hF
        simp only [patch, List.drop]
        rw [fz]
        clear fz
        try change wpList _ _ _ [] _ _
        generalize f 25 = y25_
        generalize f 26 = y26_
        generalize f 27 = y27_
        generalize f 28 = y28_
        generalize f 29 = y29_
        generalize f 30 = y30_
        generalize f 31 = y31_
        generalize f 32 = y32_
        generalize f 33 = y33_
        have b0' := hide (below_tr b0.out hC)
        clear hC hlt2 XT XI P0 Q0 P1 Q1 P2 Q2 P3 Q3 P4 Q4 P5 Q5 P6 Q6 P7 Q7 P8 Q8 P9 Q9
        go_wp2
        go_roundw
        case rel => exact ⟨i + 1, by omega, by go_num, b0'⟩
        case measure => simp [intOf]; omega
    · obtain rfl : i = n := by omega
      have m0 := cell_below b0.out (hmk.out 0 _ rfl)
      rw [Nat.add_zero] at m0
      have m1 := cell_below b0.out (hmk.out 1 _ rfl)
      rw [add_off _ _ _ (by omega)] at m1
      have m2 := cell_below b0.out (hmk.out 2 _ rfl)
      rw [add_off _ _ _ (by omega)] at m2
      have m3 := cell_below b0.out (hmk.out 3 _ rfl)
      rw [add_off _ _ _ (by omega)] at m3
      have m4 := cell_below b0.out (hmk.out 4 _ rfl)
      rw [add_off _ _ _ (by omega)] at m4
      have m5 := cell_below b0.out (hmk.out 5 _ rfl)
      rw [add_off _ _ _ (by omega)] at m5
      have m6 := cell_below b0.out (hmk.out 6 _ rfl)
      rw [add_off _ _ _ (by omega)] at m6
      have m7 := cell_below b0.out (hmk.out 7 _ rfl)
      rw [add_off _ _ _ (by omega)] at m7
      have m8 := cell_below b0.out (hmk.out 8 _ rfl)
      rw [add_off _ _ _ (by omega)] at m8
      have m9 := cell_below b0.out (hmk.out 9 _ rfl)
      rw [add_off _ _ _ (by omega)] at m9
      have K := Blk.new wr 158 #[.string ⟨#[115, 112, 97, 114, 101]⟩, .bool false, .bool false, .bool false, .slice none 0 0, .slice none 0 0, .bool false, .bool false, .slice none 0 0, .slice none 0 0]
      have k0 := K.at_ 0 rfl
      go_wp2
      exact opq_end hR ⟨_, rfl, b0.out.alloc b0.out.size _, rfl⟩
theorem fhc_assayerlaw01_LeftRow (args : Array Value) (w : World) : (callFunc 155 args).run Tryd.prog w = .ok (.enter 155 args) w := callFunc_enter Tryd.func155 (by kernel_rfl) rfl args w
set_option maxHeartbeats 4000000 in
theorem leftRows_ok {B : Nat} {w : World} {X0 : Option Addr} {n c : Nat} {v : Value} {es : List RO} (h : TwS (OT B) 5 164 (#[.slice none 0 0, .int .u8 77, .bool false, .slice none 0 0, .slice none 0 0]).toList B w X0 n c es) (h' : Lst (OE RRaw) w v es) :
    Calls Tryd.prog 89 #[.slice X0 n c, v] w fun e w' => ∃ u, e = .returned u ∧ Below w.heap.size w w' ∧ u = .bool true := by
  refine opq fun R hR => ?_
  obtain ⟨A', c', rfl⟩ := h'.sl
  have hle := h.le
  have hlc := h.lt
  have hbd := h.bd
  rw [hle] at h' ⊢
  obtain ⟨ad, rfl, hel, hmk⟩ := h.cell
  replace hel := hide hel
  replace hmk := hide hmk
  replace hle := hide hle
  have M := hide h'
  clear h h'
  have hc1 : ¬ ((c : Int) ≤ (n : Int)) := by omega
  go_enter Tryd.func89, Tryd.ntmps89
  go_wp2
  go_loopw [5] (fun iv wr => ∃ (i : Nat), i ≤ n ∧ iv = .int .i64 (i : Nat) ∧ Hid (Below w.heap.size w wr)) (fun iv _ => n - (intOf iv).toNat)
  case atStart => exact ⟨0, by omega, rfl, Below.refl _ _⟩
  case round =>
    obtain ⟨i, hi, rfl, b0⟩ := hrel
    by_cases hlt : i < n
    · obtain ⟨e, he⟩ : ∃ e, es[i]? = some e := ⟨_, List.getElem?_eq_getElem (by rw [hle.out]; exact hlt)⟩
      obtain ⟨u1, XT, ct⟩ := hel.out i e he
      obtain ⟨X0_, nX, p, us1, X1, a1, p1, Y1, a2, p2, rfl, t1, t2⟩ := XT
      obtain ⟨ad2, u2, rfl, _, XI, cl⟩ := M.out.cellsN (OE.sz RRaw) he
      obtain ⟨A0_, l0_, k0_, A1, n1, c1, D1, m1, k1, rfl, s1, s2⟩ := XI
      have P0 : Hid (wr.cell? (ad.add (i * 5)) = _) := cell_below b0.out (by have := ct 0 _ rfl; rw [Nat.add_zero] at this; exact this)
      have Q0 : Hid (wr.cell? (ad2.add (i * 5)) = _) := cell_below b0.out (by have := cl 0 _ rfl; rw [Nat.add_zero] at this; exact this)
      have P1 : Hid (wr.cell? ⟨(ad.add (i * 5)).block, (ad.add (i * 5)).off + 1, none⟩ = _) := cell_below b0.out (by have := ct 1 _ rfl; rw [add_off _ _ _ (by omega)] at this; exact this)
      have Q1 : Hid (wr.cell? ⟨(ad2.add (i * 5)).block, (ad2.add (i * 5)).off + 1, none⟩ = _) := cell_below b0.out (by have := cl 1 _ rfl; rw [add_off _ _ _ (by omega)] at this; exact this)
      have P2 : Hid (wr.cell? ⟨(ad.add (i * 5)).block, (ad.add (i * 5)).off + 2, none⟩ = _) := cell_below b0.out (by have := ct 2 _ rfl; rw [add_off _ _ _ (by omega)] at this; exact this)
      have Q2 : Hid (wr.cell? ⟨(ad2.add (i * 5)).block, (ad2.add (i * 5)).off + 2, none⟩ = _) := cell_below b0.out (by have := cl 2 _ rfl; rw [add_off _ _ _ (by omega)] at this; exact this)
      have P3 : Hid (wr.cell? ⟨(ad.add (i * 5)).block, (ad.add (i * 5)).off + 3, none⟩ = _) := cell_below b0.out (by have := ct 3 _ rfl; rw [add_off _ _ _ (by omega)] at this; exact this)
      have Q3 : Hid (wr.cell? ⟨(ad2.add (i * 5)).block, (ad2.add (i * 5)).off + 3, none⟩ = _) := cell_below b0.out (by have := cl 3 _ rfl; rw [add_off _ _ _ (by omega)] at this; exact this)
      have P4 : Hid (wr.cell? ⟨(ad.add (i * 5)).block, (ad.add (i * 5)).off + 4, none⟩ = _) := cell_below b0.out (by have := ct 4 _ rfl; rw [add_off _ _ _ (by omega)] at this; exact this)
      have Q4 : Hid (wr.cell? ⟨(ad2.add (i * 5)).block, (ad2.add (i * 5)).off + 4, none⟩ = _) := cell_below b0.out (by have := cl 4 _ rfl; rw [add_off _ _ _ (by omega)] at this; exact this)
      have XT : Hid (OT B wr (.agg #[.slice X0_ nX p, .int .u8 e.kind, .bool e.right.1, .slice X1 a1 p1, .slice Y1 a2 p2]) e) := (show OT B w (.agg #[.slice X0_ nX p, .int .u8 e.kind, .bool e.right.1, .slice X1 a1 p1, .slice Y1 a2 p2]) e from ⟨X0_, nX, p, us1, X1, a1, p1, Y1, a2, p2, rfl, t1, t2⟩).below b0.out
      have XI : Hid (OE RRaw wr (.agg #[.slice A0_ l0_ k0_, .int .u8 e.kind, .bool e.right.1, .slice A1 n1 c1, .slice D1 m1 k1]) e) := (fun h => OE.rawb h b0.out)  (show OE RRaw w (.agg #[.slice A0_ l0_ k0_, .int .u8 e.kind, .bool e.right.1, .slice A1 n1 c1, .slice D1 m1 k1]) e from ⟨A0_, l0_, k0_, A1, n1, c1, D1, m1, k1, rfl, s1, s2⟩)
      clear ct cl he t1 t2 s1 s2
      have hlt2 : ¬ ((n : Int) ≤ (i : Int)) := by omega
      go_wp2
      refine wp_region_facts 10 (fun w' => Below wr.heap.size wr w') [(25, .eq (.slice (some ad) n c)), (26, .eq (.int .i64 (i : Nat))), (27, .eq ((.pointer (some (ad.add (i * 5))) : Value))), (28, .eq (.agg #[.slice X0_ nX p, .int .u8 e.kind, .bool e.right.1, .slice X1 a1 p1, .slice Y1 a2 p2])), (29, .eq (.slice (some ad2) n c')), (30, .eq (.int .i64 (i : Nat))), (31, .eq ((.pointer (some (ad2.add (i * 5))) : Value))), (32, .eq (.agg #[.slice A0_ l0_ k0_, .int .u8 e.kind, .bool e.right.1, .slice A1 n1 c1, .slice D1 m1 k1])), (33, .eq (.bool true)), (34, .eq (.bool false))] [false, false, false, false, false, false, false, false, false, false, false, false, false, false, false, false, false, false, false, false, false, false, false, false, false, true, true, true, true, true, true, true, true, true, true, false, false, false, false, false, false, false, false, false, false, false, false] mixed (by kernel_rfl) (by kernel_rfl) (by kernel_rfl) (fun _ _ h hb => h.trans (hb.mono h.size)) ((Below.refl _ _).drew) ⟨?_, ?_, ?_, ?_, ?_, ?_, ?_, ?_, ?_, ?_, trivial⟩ ?_
      · exact .moveC (.inl rfl) (.inl rfl) rfl (fun a w' hC hs => (hs 0 (by kernel_rfl)))
      · exact .moveC (.inl rfl) (.inl rfl) rfl (fun a w' hC hs => (hs 5 (by kernel_rfl)))
      · exact .value (.inl rfl) (by intro T e; cases e) rfl rfl (fun a w' hC hs hl => by
          have e0 : a.eval (.tmp 25) = (.slice (some ad) n c) := (hl 25 (by kernel_rfl) (by kernel_rfl))
          have e1 : a.eval (.tmp 26) = (.int .i64 (i : Nat)) := (hl 26 (by kernel_rfl) (by kernel_rfl))
          simp only [execOp, e0, e1]
          simp [go_sem, hlt2])
      · exact .load (.agg #[.slice X0_ nX p, .int .u8 e.kind, .bool e.right.1, .slice X1 a1 p1, .slice Y1 a2 p2]) (.inl rfl) rfl rfl (fun a w' hC hs hl => by rw [show a.eval (.tmp 27) = (.pointer (some (ad.add (i * 5))) : Value) from (hl 27 (by kernel_rfl) (by kernel_rfl))]; exact ⟨ld_RowAt (cell_below hC P0.out) (cell_below hC P1.out) (cell_below hC P2.out) (cell_below hC P3.out) (cell_below hC P4.out), rfl⟩)
      · exact .moveC (.inl rfl) (.inl rfl) rfl (fun a w' hC hs => (hs 1 (by kernel_rfl)))
      · exact .moveC (.inl rfl) (.inl rfl) rfl (fun a w' hC hs => (hs 5 (by kernel_rfl)))
      · exact .value (.inl rfl) (by intro T e; cases e) rfl rfl (fun a w' hC hs hl => by
          have e0 : a.eval (.tmp 29) = (.slice (some ad2) n c') := (hl 29 (by kernel_rfl) (by kernel_rfl))
          have e1 : a.eval (.tmp 30) = (.int .i64 (i : Nat)) := (hl 30 (by kernel_rfl) (by kernel_rfl))
          simp only [execOp, e0, e1]
          simp [go_sem, hlt2])
      · exact .load (.agg #[.slice A0_ l0_ k0_, .int .u8 e.kind, .bool e.right.1, .slice A1 n1 c1, .slice D1 m1 k1]) (.inl rfl) rfl rfl (fun a w' hC hs hl => by rw [show a.eval (.tmp 31) = (.pointer (some (ad2.add (i * 5))) : Value) from (hl 31 (by kernel_rfl) (by kernel_rfl))]; exact ⟨ld_RowAt (cell_below hC Q0.out) (cell_below hC Q1.out) (cell_below hC Q2.out) (cell_below hC Q3.out) (cell_below hC Q4.out), rfl⟩)
      · exact .call (.inl rfl) rfl rfl fhc_assayerlaw01_LeftRow (fun a w' hC hs hl => by
          show Calls _ _ #[a.eval (.tmp 28), a.eval (.tmp 32)] _ _
          rw [show a.eval (.tmp 28) = (.agg #[.slice X0_ nX p, .int .u8 e.kind, .bool e.right.1, .slice X1 a1 p1, .slice Y1 a2 p2] : Value) from (hl 28 (by kernel_rfl) (by kernel_rfl)), show a.eval (.tmp 32) = (.agg #[.slice A0_ l0_ k0_, .int .u8 e.kind, .bool e.right.1, .slice A1 n1 c1, .slice D1 m1 k1] : Value) from (hl 32 (by kernel_rfl) (by kernel_rfl))]
          exact leftRow_ok (XT.out.below hC) (XI.out.rawb hC))
      · exact .value (.inl rfl) (by intro T e; cases e) rfl rfl (fun a w' hC hs hl => by
          have e0 : a.eval (.tmp 33) = (.bool true) := (hl 33 (by kernel_rfl) (by kernel_rfl))
          simp only [execOp, e0]
          skip
          simp [go_sem] <;> rfl)
      · intro f wz hC hF _
        have fz : f 34 = .bool false := hF 34 (by kernel_rfl)
        clear hF
        simp only [patch, List.drop]
        rw [fz]
        clear fz
        try change wpList _ _ _ [] _ _
        generalize f 25 = y25_
        generalize f 26 = y26_
        generalize f 27 = y27_
        generalize f 28 = y28_
        generalize f 29 = y29_
        generalize f 30 = y30_
        generalize f 31 = y31_
        generalize f 32 = y32_
        generalize f 33 = y33_
        have b0' := hide (below_tr b0.out hC)
        clear hC hlt2 XT XI P0 Q0 P1 Q1 P2 Q2 P3 Q3 P4 Q4
        go_wp2
        go_roundw
        case rel => exact ⟨i + 1, by omega, by go_num, b0'⟩
        case measure => simp [intOf]; omega
    · obtain rfl : i = n := by omega
      have m0 := cell_below b0.out (hmk.out 0 _ rfl)
      rw [Nat.add_zero] at m0
      have m1 := cell_below b0.out (hmk.out 1 _ rfl)
      rw [add_off _ _ _ (by omega)] at m1
      have m2 := cell_below b0.out (hmk.out 2 _ rfl)
      rw [add_off _ _ _ (by omega)] at m2
      have m3 := cell_below b0.out (hmk.out 3 _ rfl)
      rw [add_off _ _ _ (by omega)] at m3
      have m4 := cell_below b0.out (hmk.out 4 _ rfl)
      rw [add_off _ _ _ (by omega)] at m4
      have K := Blk.new wr 164 #[.slice none 0 0, .int .u8 77, .bool false, .slice none 0 0, .slice none 0 0]
      have k0 := K.at_ 1 rfl
      go_wp2
      exact opq_end hR ⟨_, rfl, b0.out.alloc b0.out.size _, rfl⟩
end Go.Proofs.YtkefmeddnncacaaDoor

/- models: what comes in; how large; a model's twin, and what is left of it. -/
set_option linter.unusedVariables false
set_option linter.unusedSimpArgs false
set_option maxRecDepth 100000
namespace Go.Proofs.YtkefmeddnncacaaDoor
open Go.ChangeShapes Go.WideShapes Go.ChangeAt Go.RowKit Go.Joins

theorem open_lstF {H : Type} {α : Type} {E : World → Value → α → Prop} {enc : TypeId × Value → H} {W : World} {t e : TypeId} {m b : Nat} (hE : Szd E m) (hm0 : 0 < m) (hb0 : 0 < b) {v : Value} {d : DataW H} {ps : List MemPlace} {fuel : Nat} (ht : Tryd.prog.underlying t = some (.slice e)) (hb : Tryd.prog.bytesOf e = b) (hc3 : Tryd.prog.cellsOf e = m)
    (hel : ∀ (fuel : Nat) cs d ps, DataW.trod enc Tryd.prog W 0 (fun _ => true) true fuel e cs = some (d, ps) → (DataW.weights Tryd.prog e d).all (· ≤ reachBytes) = true → ∃ u q, cs = u.cells.toList ∧ E W u q)
    (hf : DataW.trod enc Tryd.prog W 0 (fun _ => true) true fuel t [v] = some (d, ps)) (hz : (DataW.weights Tryd.prog t d).all (· ≤ reachBytes) = true) : ∃ A n c es, v = .slice A n c ∧ Lst E W v es := by
  rcases Deep.open_slice ht hf with ⟨e1, _⟩ | ⟨a, len, cap, mm, n, D, Pl, e1, _, hl, hm, hmm, hx, hi⟩
  · cases e1
    exact ⟨none, 0, 0, [], rfl, lst_nil _ _⟩
  · cases e1
    simp only [Prod.mk.injEq] at hx
    obtain ⟨rfl, rfl⟩ := hx
    have hcap : mm = cap := by simpa using hmm
    subst hcap
    simp only [DataW.weights, ht, hb, List.all_cons, List.all_append, Bool.and_eq_true, decide_eq_true_eq] at hz
    obtain ⟨hz0, hz1, _⟩ := hz
    simp only [List.length_map, List.length_range] at hz0
    have hr : reachBytes = 140737488351232 := by decide
    rw [hr] at hz0
    rw [hc3] at hi
    have key : ∀ i, i < len → ∃ u, ∃ e, W.cells? 0 (a.add (i * m)) m = some u.cells.toList ∧ E W u e := fun i hlt => by
      obtain ⟨cs', h1, h2⟩ := hi i (by omega)
      obtain ⟨u, e, rfl, hu⟩ := hel _ _ _ _ h2 (weightsAll_of hz1 (D i) (List.mem_map.2 ⟨i, List.mem_range.2 hlt, rfl⟩))
      exact ⟨u, e, h1, hu⟩
    obtain ⟨U, hU⟩ := Deep.choose_lt (α := Value) (p := fun i u => ∃ e, W.cells? 0 (a.add (i * m)) m = some u.cells.toList ∧ E W u e) key
    by_cases h0 : len = 0
    · subst h0
      exact ⟨some a, 0, mm, [], rfl, some a, 0, mm, [], rfl, hl, rfl, rfl, by omega, fun h => absurd h (by omega), fun j q hq => by simp at hq⟩
    obtain ⟨u00, q00, _⟩ := key 0 (by omega)
    haveI : Inhabited α := ⟨q00⟩
    obtain ⟨X, hX⟩ := Deep.choose_lt (α := α) (p := fun i e => W.cells? 0 (a.add (i * m)) m = some (U i).cells.toList ∧ E W (U i) e) (fun i hlt => hU i hlt)
    have hget : ∀ i, i < len → ((List.range len).map U)[i]? = some (U i) := fun i hlt => by
      rw [List.getElem?_map, List.getElem?_range hlt]; rfl
    have hall : ∀ u ∈ (List.range len).map U, u.cells.size = m := fun u hu => by
      obtain ⟨i, hi2, rfl⟩ := List.mem_map.1 hu
      exact hE _ _ _ (hX i (List.mem_range.1 hi2)).2
    have hcell : ∀ (j : Nat) u, (flat ((List.range len).map U))[j]? = some u → W.cell? (a.add j) = some u := fun j u hj => by
      have hlt : j < len * m := by
        have := (List.getElem?_eq_some_iff.1 hj).1
        rw [flat_lenN hall] at this
        simpa using this
      have hd : m * (j / m) + j % m = j := Nat.div_add_mod j m
      have h3 : j / m < len := Nat.div_lt_of_lt_mul (by rw [Nat.mul_comm]; exact hlt)
      have hmod := Nat.mod_lt j hm0
      have := flat_getN hall (hget (j / m) h3) (j % m) hmod
      rw [Nat.mul_comm (j / m) m, hd, hj] at this
      obtain ⟨_, _, hc⟩ := World.cells?_some (hX (j / m) h3).1
      have := (hc (j % m) hmod).trans this.symm
      rw [add_add, Nat.mul_comm (j / m) m, hd] at this
      exact this
    have hbl : len ≤ 140737488351232 := by
      have : len * 1 ≤ len * b := Nat.mul_le_mul_left _ hb0
      have h9 : len * b ≤ (len + (mm - len)) * b := Nat.mul_le_mul_right _ (by omega)
      omega
    refine ⟨some a, len, mm, (List.range len).map X, rfl, some a, len, mm, (List.range len).map U, rfl, hl, by simp, by simp, by omega, fun h0 => ⟨a, rfl, ?_, hcell⟩, fun j q hq => ?_⟩
    · have hm1 : (flat ((List.range len).map U))[0]? = some ((flat ((List.range len).map U))[0]'(by rw [flat_lenN hall]; simp only [List.length_map, List.length_range]; exact Nat.mul_pos h0 hm0)) := List.getElem?_eq_getElem _
      have h4 := hcell 0 _ hm1
      have e2 : a.add 0 = a := by unfold Addr.add; simp
      rw [e2] at h4
      exact World.block_lt_of_cell? W a h4
    · have hlt : j < len := by
        have := (List.getElem?_eq_some_iff.1 hq).1
        simpa using this
      rw [List.getElem?_map, List.getElem?_range hlt] at hq
      cases hq
      exact ⟨U j, hget j hlt, (hX j hlt).2⟩
theorem list10 {cs : List Value} (h : cs.length = 10) : ∃ a b c d e f g i j k, cs = [a, b, c, d, e, f, g, i, j, k] := by
  match cs, h with
  | [a, b, c, d, e, f, g, i, j, k], _ => exact ⟨a, b, c, d, e, f, g, i, j, k, rfl⟩
theorem list5 {cs : List Value} (h : cs.length = 5) : ∃ a b c d e, cs = [a, b, c, d, e] := by
  match cs, h with
  | [a, b, c, d, e], _ => exact ⟨a, b, c, d, e, rfl⟩
/-- A name that is no longer than any text that comes in. -/
def VEn (w : World) (u : Value) (e : RV) : Prop := VE RRw w u e ∧ e.name.size ≤ 140737488351232
theorem VEn.sz : Szd VEn 10 := fun w u q h => VE.sz RRw w u q h.1
theorem var_cells {H : Type} {enc : TypeId × Value → H} {W : World} {fuel : Nat} {cs : List Value} {d : DataW H} {ps : List MemPlace} (h : DataW.trod enc Tryd.prog W 0 (fun _ => true) true fuel 158 cs = some (d, ps))
    (hz : (DataW.weights Tryd.prog 158 d).all (· ≤ reachBytes) = true) : ∃ u e, cs = u.cells.toList ∧ VEn W u e := by
  obtain ⟨xs, n, _, hx, hlen, hxl, hfs⟩ := DataW.trod_struct Tryd.underlying158 h
  rw [show Tryd.prog.cellsOf 158 = 10 by kernel_rfl] at hlen
  obtain ⟨c0, c1, c2, c3, c4, c5, c6, c7, c8, c9, rfl⟩ := list10 hlen
  match xs, hxl with
  | [y0, y1, y2, y3, y4, y5], _ =>
    simp only [Prod.mk.injEq] at hx
    obtain ⟨rfl, rfl⟩ := hx
    simp only [DataW.weights, Tryd.underlying158, DataW.weightsEach, List.map_cons, List.map_nil, List.append_nil, List.all_append, Bool.and_eq_true] at hz
    obtain ⟨z0, z1, z2, z3, z4, z5⟩ := hz
    have h0 : DataW.trod enc Tryd.prog W 0 (fun _ => true) true n 9 [c0] = some y0 := hfs 0 _ rfl
    have h1 : DataW.trod enc Tryd.prog W 0 (fun _ => true) true n 4 [c1] = some y1 := hfs 1 _ rfl
    have h2 : DataW.trod enc Tryd.prog W 0 (fun _ => true) true n 4 [c2] = some y2 := hfs 2 _ rfl
    have h3 : DataW.trod enc Tryd.prog W 0 (fun _ => true) true n 51 [c3, c4, c5] = some y3 := hfs 3 _ rfl
    have h4 : DataW.trod enc Tryd.prog W 0 (fun _ => true) true n 4 [c6] = some y4 := hfs 4 _ rfl
    have h5 : DataW.trod enc Tryd.prog W 0 (fun _ => true) true n 51 [c7, c8, c9] = some y5 := hfs 5 _ rfl
    obtain ⟨s, e0, ey, hs⟩ := DataW.trod_string (by kernel_rfl) h0
    cases e0
    subst ey
    obtain ⟨b1, rfl⟩ := trod_bool (by kernel_rfl) h1
    obtain ⟨b2, rfl⟩ := trod_bool (by kernel_rfl) h2
    obtain ⟨b4, rfl⟩ := trod_bool (by kernel_rfl) h4
    obtain ⟨u3, e3, q3, r3⟩ := rat_cells h3 z3
    obtain ⟨u5, e5, q5, r5⟩ := rat_cells h5 z5
    have r3' := r3
    have r5' := r5
    obtain ⟨A1, n1, k1, D1, m1, j1, rfl, _⟩ := r3'
    obtain ⟨A2, n2, k2, D2, m2, j2, rfl, _⟩ := r5'
    have q3' : [c3, c4, c5] = [.bool e3.1, .slice A1 n1 k1, .slice D1 m1 j1] := q3
    have q5' : [c7, c8, c9] = [.bool e5.1, .slice A2 n2 k2, .slice D2 m2 j2] := q5
    cases q3'
    cases q5'
    refine ⟨.agg #[.string s, .bool b1, .bool b2, .bool e3.1, .slice A1 n1 k1, .slice D1 m1 j1, .bool b4, .bool e5.1, .slice A2 n2 k2, .slice D2 m2 j2], ⟨s, b1, b2, e3, b4, e5⟩, rfl, ⟨A1, n1, k1, D1, m1, j1, A2, n2, k2, D2, m2, j2, rfl, r3, r5⟩, ?_⟩
    have hr : reachBytes = 140737488351232 := by decide
    simp only [DataW.weights, List.all_cons, List.all_nil, Bool.and_true, decide_eq_true_eq, hr] at z0
    show s.size ≤ _
    exact z0
theorem row_cells {H : Type} {enc : TypeId × Value → H} {W : World} {fuel : Nat} {cs : List Value} {d : DataW H} {ps : List MemPlace} (h : DataW.trod enc Tryd.prog W 0 (fun _ => true) true fuel 164 cs = some (d, ps))
    (hz : (DataW.weights Tryd.prog 164 d).all (· ≤ reachBytes) = true) : ∃ u e, cs = u.cells.toList ∧ OE RRw W u e := by
  obtain ⟨xs, n, _, hx, hlen, hxl, hfs⟩ := DataW.trod_struct Tryd.underlying164 h
  rw [show Tryd.prog.cellsOf 164 = 5 by kernel_rfl] at hlen
  obtain ⟨c0, c1, c2, c3, c4, rfl⟩ := list5 hlen
  match xs, hxl with
  | [y0, y1, y2], _ =>
    simp only [Prod.mk.injEq] at hx
    obtain ⟨rfl, rfl⟩ := hx
    simp only [DataW.weights, Tryd.underlying164, DataW.weightsEach, List.map_cons, List.map_nil, List.append_nil, List.all_append, Bool.and_eq_true] at hz
    obtain ⟨z0, z1, z2⟩ := hz
    have h0 : DataW.trod enc Tryd.prog W 0 (fun _ => true) true n 22 [c0] = some y0 := hfs 0 _ rfl
    have h1 : DataW.trod enc Tryd.prog W 0 (fun _ => true) true n 162 [c1] = some y1 := hfs 1 _ rfl
    have h2 : DataW.trod enc Tryd.prog W 0 (fun _ => true) true n 51 [c2, c3, c4] = some y2 := hfs 2 _ rfl
    obtain ⟨A0, n0, k0, es, rfl, L0⟩ := open_ratsF (by kernel_rfl) h0 z0
    obtain ⟨kd, e1, _, _⟩ := DataW.trod_int (k := .u8) (by kernel_rfl) h1
    cases e1
    obtain ⟨u2, e2, q2, r2⟩ := rat_cells h2 z2
    have r2' := r2
    obtain ⟨A1, n1, k1, D1, m1, j1, rfl, _⟩ := r2'
    have q2' : [c2, c3, c4] = [.bool e2.1, .slice A1 n1 k1, .slice D1 m1 j1] := q2
    cases q2'
    exact ⟨.agg #[.slice A0 n0 k0, .int .u8 kd, .bool e2.1, .slice A1 n1 k1, .slice D1 m1 j1], ⟨es, kd, e2⟩, rfl, A0, n0, k0, A1, n1, k1, D1, m1, j1, rfl, L0, r2⟩
/-- A model that came in. -/
structure MRw (w : World) (AV : Option Addr) (nV cV : Nat) (AG : Option Addr) (nG cG : Nat) (AO : Option Addr) (nO cO : Nat) (M : RM) : Prop where
  st : MSt RRw w AV nV cV AG nG cG AO nO cO M
  nm : Hid (∀ e ∈ M.vars, e.name.size ≤ 140737488351232)
theorem MRw.below {w w' : World} {AV : Option Addr} {nV cV : Nat} {AG : Option Addr} {nG cG : Nat} {AO : Option Addr} {nO cO : Nat} {M : RM} (h : MRw w AV nV cV AG nG cG AO nO cO M) (k : Below w.heap.size w w') : MRw w' AV nV cV AG nG cG AO nO cO M := ⟨h.st.below rw_b k, h.nm⟩
theorem open_model {H : Type} {enc : TypeId × Value → H} {W : World} {base : Nat} {v : Value} {d : DataW H} {ps : List MemPlace}
    (hval : Value.okWide Tryd.prog W .any base 45 v) (h : DataW.Trod enc Tryd.prog W 0 (fun _ => true) true 45 v d ps) (hz : (DataW.weights Tryd.prog 45 d).all (· ≤ reachBytes) = true) :
    ∃ mo AV nV cV AG nG cG AO nO cO M, v = .agg #[.bool mo, .slice AV nV cV, .slice AG nG cG, .slice AO nO cO] ∧ M.most = mo ∧ MRw W AV nV cV AG nG cG AO nO cO M := by
  obtain ⟨cs, rfl, hsz⟩ := okWide_struct Tryd.underlying45 hval
  obtain ⟨x0, x1, x2, x3, rfl⟩ := array4 (hsz.trans (by kernel_rfl))
  obtain ⟨fuel, hf⟩ := h
  obtain ⟨xs, n, _, hx, hl, hlen, hfs⟩ := DataW.trod_struct Tryd.underlying45 hf
  match xs, hlen with
  | [y0, y1, y2, y3], _ =>
    simp only [Prod.mk.injEq] at hx
    obtain ⟨rfl, rfl⟩ := hx
    have hz' := hz
    simp only [DataW.weights, Tryd.underlying45, DataW.weightsEach, List.map_cons, List.map_nil, List.append_nil, List.all_append, Bool.and_eq_true] at hz'
    obtain ⟨z0, z1, z2, z3⟩ := hz'
    have h0 : DataW.trod enc Tryd.prog W 0 (fun _ => true) true n 4 [x0] = some y0 := hfs 0 _ rfl
    have h1 : DataW.trod enc Tryd.prog W 0 (fun _ => true) true n 42 [x1] = some y1 := hfs 1 _ rfl
    have h2 : DataW.trod enc Tryd.prog W 0 (fun _ => true) true n 22 [x2] = some y2 := hfs 2 _ rfl
    have h3 : DataW.trod enc Tryd.prog W 0 (fun _ => true) true n 43 [x3] = some y3 := hfs 3 _ rfl
    obtain ⟨mo, rfl⟩ := trod_bool (by kernel_rfl) h0
    obtain ⟨AV, nV, cV, es1, rfl, L1⟩ := open_lstF (e := 158) VEn.sz (by decide) (b := 144) (by decide) (by kernel_rfl) (by kernel_rfl) (by kernel_rfl) (fun _ _ _ _ => var_cells) h1 z1
    obtain ⟨AG, nG, cG, es2, rfl, L2⟩ := open_ratsF (by kernel_rfl) h2 z2
    obtain ⟨AO, nO, cO, es3, rfl, L3⟩ := open_lstF (e := 164) (OE.sz RRw) (by decide) (b := 88) (by decide) (by kernel_rfl) (by kernel_rfl) (by kernel_rfl) (fun _ _ _ _ => row_cells) h3 z3
    have L1' : Lst (VE RRw) W (.slice AV nV cV) es1 := by
      have := L1.imp (F := VE RRw) id fun u q _ h => h.1
      rwa [List.map_id] at this
    refine ⟨mo, AV, nV, cV, AG, nG, cG, AO, nO, cO, ⟨mo, es1, es2, es3⟩, rfl, rfl, ⟨L1', L2, L3⟩, fun e he => ?_⟩
    obtain ⟨A, n, c, us, e1, g1, g2, g3, g4, g5, g6⟩ := L1
    obtain ⟨j, hj, rfl⟩ := List.getElem_of_mem he
    obtain ⟨u, _, hE⟩ := g6 j _ (List.getElem?_eq_getElem hj)
    exact hE.2
set_option maxHeartbeats 2000000 in
theorem ModelSize_ok {w : World} {AV : Option Addr} {nV cV : Nat} {AG : Option Addr} {nG cG : Nat} {AO : Option Addr} {nO cO : Nat} {mo : Bool} {M : RM} (h : MRw w AV nV cV AG nG cG AO nO cO M) :
    Calls Tryd.prog 79 #[.agg #[.bool mo, .slice AV nV cV, .slice AG nG cG, .slice AO nO cO]] w fun e w' => ∃ r : Nat, e = .returned (.int .i64 (r : Int)) ∧ Cnt r (msz M) ∧ Below w.heap.size w w' := by
  refine opq fun R hR => ?_
  have lV := h.st.v.len
  have lG := h.st.g.len
  have lO := h.st.o.len
  have hN : Hid (msz M = 1 + (nV + (M.vars.map vsz).sum) + (nG + tsz M.goal) + (nO + (M.rows.map osz).sum)) := by
    show _ = _
    rw [msz, lV, lG, lO]
  clear lV lG lO
  replace h := hide h
  have K := hide (Blk.new w 45 #[.bool mo, .slice AV nV cV, .slice AG nG cG, .slice AO nO cO])
  have b0 := hide ((Below.refl w.heap.size w).alloc (Nat.le_refl _) (.cells #[.bool mo, .slice AV nV cV, .slice AG nG cG, .slice AO nO cO] 45))
  have c1 := K.out.at_ 1 rfl
  go_enter Tryd.func79, Tryd.ntmps79
  go_wp2_with fail
  refine (VarsSize_ok _ AV nV cV M.vars (h.out.below b0.out).st.v h.out.nm).mono ?_
  rintro e w1 ⟨r1, rfl, q1, s1, d0⟩
  replace K := hide (K.out.below' d0)
  replace b0 := hide (below_tr b0.out d0)
  clear d0 c1
  obtain ⟨y1, hy1, t1⟩ : ∃ y : Nat, (1 : Int) + (r1 : Int) = (y : Nat) ∧ y = 1 + r1 := ⟨1 + r1, by omega, rfl⟩
  have C1 : Hid (Cnt y1 (1 + (nV + (M.vars.map vsz).sum))) := ⟨by have := q1.1; omega, by have := q1.2; omega⟩
  have v1 : y1 ≤ 3000000000000001 := by omega
  clear q1 s1 t1
  by_cases g1 : y1 ≤ 1048576
  · have c2 := K.out.at_ 2 rfl
    go_wp2_with fail
    refine (RatsSize_any _ AG nG cG M.goal (h.out.below b0.out).st.g).mono ?_
    rintro e w2 ⟨r2, rfl, q2, s2, d0⟩
    replace K := hide (K.out.below' d0)
    replace b0 := hide (below_tr b0.out d0)
    clear d0 c2
    obtain ⟨y2, hy2, t2⟩ : ∃ y : Nat, (y1 : Int) + (r2 : Int) = (y : Nat) ∧ y = y1 + r2 := ⟨y1 + r2, by omega, rfl⟩
    have C2 : Hid (Cnt y2 (1 + (nV + (M.vars.map vsz).sum) + (nG + tsz M.goal))) := ⟨by have := q2.1; have := C1.out.1; omega, by have := q2.2; have := C1.out.2; omega⟩
    have v2 : y2 ≤ 4000000000000001 := by omega
    clear q2 s2 t2
    by_cases g2 : y2 ≤ 1048576
    · have c3 := K.out.at_ 3 rfl
      go_wp2_with fail
      refine (RowsSize_ok _ AO nO cO M.rows (h.out.below b0.out).st.o).mono ?_
      rintro e w3 ⟨r3, rfl, q3, s3, d0⟩
      replace b0 := hide (below_tr b0.out d0)
      clear d0 c3
      obtain ⟨y3, hy3, t3⟩ : ∃ y : Nat, (y2 : Int) + (r3 : Int) = (y : Nat) ∧ y = y2 + r3 := ⟨y2 + r3, by omega, rfl⟩
      have C3 : Hid (Cnt y3 (msz M)) := by
        show Cnt _ _
        rw [hN.out]
        exact ⟨by have := q3.1; have := C2.out.1; omega, by have := q3.2; have := C2.out.2; omega⟩
      have v3 : y3 ≤ 8000000000000001 := by omega
      clear q3 s3 t3
      go_wp2
      exact opq_end hR ⟨y3, rfl, C3.out, b0.out⟩
    · have C3 : Hid (Cnt y2 (msz M)) := by
        show Cnt _ _
        rw [hN.out]
        exact ⟨by have := C2.out.1; omega, .inr (by omega)⟩
      go_wp2
      exact opq_end hR ⟨y2, rfl, C3.out, b0.out⟩
  · have C3 : Hid (Cnt y1 (msz M)) := by
      show Cnt _ _
      rw [hN.out]
      exact ⟨by have := C1.out.1; omega, .inr (by omega)⟩
    go_wp2
    exact opq_end hR ⟨y1, rfl, C3.out, b0.out⟩
/-- What stands in a model that is not too great. -/
structure MOk (M : RM) : Prop where
  v : ∀ e ∈ M.vars, SmE e.low ∧ SmE e.high
  g : ∀ e ∈ M.goal, SmE e
  o : ∀ e ∈ M.rows, e.coef.length ≤ 100000 ∧ (∀ x ∈ e.coef, SmE x) ∧ SmE e.right
theorem smR {e : Raw} (h : rsz e ≤ 3000) : SmE e := by
  unfold rsz at h
  exact ⟨by omega, by omega⟩
theorem MRw.ok {w : World} {AV : Option Addr} {nV cV : Nat} {AG : Option Addr} {nG cG : Nat} {AO : Option Addr} {nO cO : Nat} {M : RM} (h : MRw w AV nV cV AG nG cG AO nO cO M) (hs : msz M ≤ 3000) : MOk M ∧ MSt RRaw w AV nV cV AG nG cG AO nO cO M := by
  unfold msz at hs
  have kv : ∀ e ∈ M.vars, rsz e.low ≤ 3000 ∧ rsz e.high ≤ 3000 := fun e he => by
    have h1 := sum_mem vsz he
    have h2 : vsz e = 1 + e.name.size + rsz e.low + rsz e.high := rfl
    omega
  have ko : ∀ e ∈ M.rows, e.coef.length ≤ 3000 ∧ tsz e.coef ≤ 3000 ∧ rsz e.right ≤ 3000 := fun e he => by
    have h1 := sum_mem osz he
    have h2 : osz e = 1 + (e.coef.length + tsz e.coef) + rsz e.right := rfl
    omega
  refine ⟨⟨fun e he => ⟨smR (kv e he).1, smR (kv e he).2⟩, smE_k (by omega), fun e he => ⟨Nat.le_trans (ko e he).1 (by decide), smE_k (Nat.le_trans (ko e he).2.1 (by decide)), smR (ko e he).2.2⟩⟩, ?_, ?_, ?_⟩
  · have := h.st.v.imp (F := VE RRaw) id fun u q hq x => x.map fun u q' hq' y => (y.raw (by rcases hq' with rfl | rfl; exact Nat.le_trans (kv q hq).1 (by decide); exact Nat.le_trans (kv q hq).2 (by decide))).1
    rwa [List.map_id] at this
  · exact (h.st.g.rawW 3000 (by omega) (by decide)).1
  · have := h.st.o.imp (F := OE RRaw) id fun u q hq x => by
      obtain ⟨A, n, c, A1, n1, c1, D1, m1, k1, e1, h1, h2⟩ := x
      exact ⟨A, n, c, A1, n1, c1, D1, m1, k1, e1, (h1.rawW 3000 (ko q hq).2.1 (by decide)).1, (h2.raw (Nat.le_trans (ko q hq).2.2 (by decide))).1⟩
    rwa [List.map_id] at this
/-- A twin. -/
structure MTw (B : Nat) (w : World) (AV : Option Addr) (nV cV : Nat) (AG : Option Addr) (nG cG : Nat) (AO : Option Addr) (nO cO : Nat) (M : RM) : Prop where
  v : TwS (VT B) 10 158 (#[.string ⟨#[115, 112, 97, 114, 101]⟩, .bool false, .bool false, .bool false, .slice none 0 0, .slice none 0 0, .bool false, .bool false, .slice none 0 0, .slice none 0 0] : Array Value).toList B w AV nV cV M.vars
  g : ∃ us, TwL B w AG nG cG us M.goal
  o : TwS (OT B) 5 164 (#[.slice none 0 0, .int .u8 77, .bool false, .slice none 0 0, .slice none 0 0] : Array Value).toList B w AO nO cO M.rows
theorem MTw.below {B : Nat} {w w' : World} {AV : Option Addr} {nV cV : Nat} {AG : Option Addr} {nG cG : Nat} {AO : Option Addr} {nO cO : Nat} {M : RM} (h : MTw B w AV nV cV AG nG cG AO nO cO M) (k : Below w.heap.size w w') : MTw B w' AV nV cV AG nG cG AO nO cO M := ⟨h.v.below (fun u e x => x.below k) k, by
    obtain ⟨us, x⟩ := h.g
    exact ⟨us, x.below k⟩, h.o.below (fun u e x => x.below k) k⟩
def Fact.twV (es : List RV) (n B : Nat) : Fact := ⟨fun v w => ∃ A c, v = .slice A n c ∧ TwS (VT B) 10 158 (#[.string ⟨#[115, 112, 97, 114, 101]⟩, .bool false, .bool false, .bool false, .slice none 0 0, .slice none 0 0, .bool false, .bool false, .slice none 0 0, .slice none 0 0] : Array Value).toList B w A n c es, fun _ _ _ ⟨A, c, h1, h2⟩ hb => ⟨A, c, h1, h2.below (fun u e x => x.below hb) hb⟩⟩
def Fact.twO (es : List RO) (n B : Nat) : Fact := ⟨fun v w => ∃ A c, v = .slice A n c ∧ TwS (OT B) 5 164 (#[.slice none 0 0, .int .u8 77, .bool false, .slice none 0 0, .slice none 0 0] : Array Value).toList B w A n c es, fun _ _ _ ⟨A, c, h1, h2⟩ hb => ⟨A, c, h1, h2.below (fun u e x => x.below hb) hb⟩⟩
theorem tw_v {w : World} {v : Value} {es : List RV} {n B : Nat} (hn : es.length = n) (h : Lst (VE RRaw) w v es) (hl : n ≤ 100000) (hs : ∀ e ∈ es, SmE e.low ∧ SmE e.high) (hB : B ≤ w.heap.size) :
    Calls Tryd.prog 80 #[v] w fun e w' => ∃ u, e = .returned u ∧ Below w.heap.size w w' ∧ (Fact.twV es n B).holds u w' :=
  (twinVars_ok hn h hl hs).mono fun e w' ⟨X, c, h1, h2, h3⟩ => ⟨_, h1, h2, X, c, rfl, h3.mono (fun u e x => x.mono hB) hB⟩
theorem tw_o {w : World} {v : Value} {es : List RO} {n B : Nat} (hn : es.length = n) (h : Lst (OE RRaw) w v es) (hl : n ≤ 100000) (hs : ∀ e ∈ es, e.coef.length ≤ 100000 ∧ (∀ x ∈ e.coef, SmE x) ∧ SmE e.right) (hB : B ≤ w.heap.size) :
    Calls Tryd.prog 82 #[v] w fun e w' => ∃ u, e = .returned u ∧ Below w.heap.size w w' ∧ (Fact.twO es n B).holds u w' :=
  (twinRows_ok hn h hl hs).mono fun e w' ⟨X, c, h1, h2, h3⟩ => ⟨_, h1, h2, X, c, rfl, h3.mono (fun u e x => x.mono hB) hB⟩
theorem fhd_assayerlaw01_TwinRats (args : Array Value) (w : World) : (callFunc 81 args).run Tryd.prog w = .ok (.enter 81 args) w := callFunc_enter Tryd.func81 (by kernel_rfl) rfl args w
theorem fhd_assayerlaw01_TwinRows (args : Array Value) (w : World) : (callFunc 82 args).run Tryd.prog w = .ok (.enter 82 args) w := callFunc_enter Tryd.func82 (by kernel_rfl) rfl args w
theorem fhd_assayerlaw01_TwinVars (args : Array Value) (w : World) : (callFunc 80 args).run Tryd.prog w = .ok (.enter 80 args) w := callFunc_enter Tryd.func80 (by kernel_rfl) rfl args w
set_option maxHeartbeats 4000000 in
theorem twinModel_ok {w : World} {AV : Option Addr} {nV cV : Nat} {AG : Option Addr} {nG cG : Nat} {AO : Option Addr} {nO cO : Nat} {mo : Bool} {M : RM} (h : MSt RRaw w AV nV cV AG nG cG AO nO cO M) (hM : MOk M) (vv : nV ≤ 100000) (vg : nG ≤ 100000) (vo : nO ≤ 100000) :
    Calls Tryd.prog 17 #[.agg #[.bool mo, .slice AV nV cV, .slice AG nG cG, .slice AO nO cO]] w fun e w' => ∃ XV dV XG dG XO dO, e = .returned (.agg #[.bool mo, .slice XV nV dV, .slice XG nG dG, .slice XO nO dO]) ∧ Below w.heap.size w w' ∧ MTw w.heap.size w' XV nV dV XG nG dG XO nO dO M := by
  refine opq fun R hR => ?_
  have lV := hide h.v.len
  have lG := hide h.g.len
  have lO := hide h.o.len
  replace h := hide h
  replace hM := hide hM
  replace vv := hide vv
  replace vg := hide vg
  replace vo := hide vo
  go_enter Tryd.func17, Tryd.ntmps17
  go_wp2
  obtain ⟨W1, hW, K1, K2, b0, ZW⟩ := alloc2 w #[.bool mo, .slice AV nV cV, .slice AG nG cG, .slice AO nO cO] #[.bool false, .slice none 0 0, .slice none 0 0, .slice none 0 0] 45 45
  rw [hW]
  clear hW ZW
  have P0 : Hid (W1.cell? ⟨w.heap.size, 0, none⟩ = some (.bool mo)) := K1.out.at_ 0 rfl
  have P1 : Hid (W1.cell? ⟨w.heap.size, 1, none⟩ = some (.slice AV nV cV)) := K1.out.at_ 1 rfl
  have P2 : Hid (W1.cell? ⟨w.heap.size, 2, none⟩ = some (.slice AG nG cG)) := K1.out.at_ 2 rfl
  have P3 : Hid (W1.cell? ⟨w.heap.size, 3, none⟩ = some (.slice AO nO cO)) := K1.out.at_ 3 rfl
  refine wp_region_facts 11 (fun w' => Below W1.heap.size W1 w') [(3, .eq ((.pointer (some ⟨w.heap.size, 0, none⟩) : Value))), (4, .eq (.bool mo)), (5, .eq ((.pointer (some ⟨w.heap.size, 1, none⟩) : Value))), (6, .eq (.slice AV nV cV)), (7, (.twV M.vars nV w.heap.size)), (8, .eq ((.pointer (some ⟨w.heap.size, 2, none⟩) : Value))), (9, .eq (.slice AG nG cG)), (10, (.twL M.goal nG w.heap.size)), (11, .eq ((.pointer (some ⟨w.heap.size, 3, none⟩) : Value))), (12, .eq (.slice AO nO cO)), (13, (.twO M.rows nO w.heap.size))] [false, false, false, true, true, true, true, true, true, true, true, true, true, true, false] mixed (by kernel_rfl) (by kernel_rfl) (by kernel_rfl) (fun _ _ h hb => h.trans (hb.mono h.size)) ((Below.refl _ _).drew) ⟨?_, ?_, ?_, ?_, ?_, ?_, ?_, ?_, ?_, ?_, ?_, trivial⟩ ?_
  · exact .fieldAddr (.inl rfl) rfl rfl rfl (fun a w' hC hs hl => by rw [show a.eval (.tmp 1) = (.pointer (some ⟨w.heap.size, 0, none⟩) : Value) from (hs 1 (by kernel_rfl))]; simp [go_sem])
  · exact .load (.bool mo) (.inl rfl) rfl rfl (fun a w' hC hs hl => by rw [show a.eval (.tmp 3) = (.pointer (some ⟨w.heap.size, 0, none⟩) : Value) from (hl 3 (by kernel_rfl) (by kernel_rfl))]; exact ⟨by simp [go_sem, cell_below hC P0.out], rfl⟩)
  · exact .fieldAddr (.inl rfl) rfl rfl rfl (fun a w' hC hs hl => by rw [show a.eval (.tmp 1) = (.pointer (some ⟨w.heap.size, 0, none⟩) : Value) from (hs 1 (by kernel_rfl))]; simp [go_sem])
  · exact .load (.slice AV nV cV) (.inl rfl) rfl rfl (fun a w' hC hs hl => by rw [show a.eval (.tmp 5) = (.pointer (some ⟨w.heap.size, 1, none⟩) : Value) from (hl 5 (by kernel_rfl) (by kernel_rfl))]; exact ⟨by simp [go_sem, cell_below hC P1.out], rfl⟩)
  · exact .call (.inl rfl) rfl rfl fhd_assayerlaw01_TwinVars (fun a w' hC hs hl => by
      show Calls _ _ #[a.eval (.tmp 6)] _ _
      rw [show a.eval (.tmp 6) = (.slice AV nV cV : Value) from (hl 6 (by kernel_rfl) (by kernel_rfl))]
      exact tw_v lV.out (h.out.below raw_b (below_tr b0.out hC)).v vv.out hM.out.v (below_tr b0.out hC).size)
  · exact .fieldAddr (.inl rfl) rfl rfl rfl (fun a w' hC hs hl => by rw [show a.eval (.tmp 1) = (.pointer (some ⟨w.heap.size, 0, none⟩) : Value) from (hs 1 (by kernel_rfl))]; simp [go_sem])
  · exact .load (.slice AG nG cG) (.inl rfl) rfl rfl (fun a w' hC hs hl => by rw [show a.eval (.tmp 8) = (.pointer (some ⟨w.heap.size, 2, none⟩) : Value) from (hl 8 (by kernel_rfl) (by kernel_rfl))]; exact ⟨by simp [go_sem, cell_below hC P2.out], rfl⟩)
  · exact .call (.inl rfl) rfl rfl fhd_assayerlaw01_TwinRats (fun a w' hC hs hl => by
      show Calls _ _ #[a.eval (.tmp 9)] _ _
      rw [show a.eval (.tmp 9) = (.slice AG nG cG : Value) from (hl 9 (by kernel_rfl) (by kernel_rfl))]
      exact tw_l lG.out (h.out.below raw_b (below_tr b0.out hC)).g vg.out hM.out.g (below_tr b0.out hC).size)
  · exact .fieldAddr (.inl rfl) rfl rfl rfl (fun a w' hC hs hl => by rw [show a.eval (.tmp 1) = (.pointer (some ⟨w.heap.size, 0, none⟩) : Value) from (hs 1 (by kernel_rfl))]; simp [go_sem])
  · exact .load (.slice AO nO cO) (.inl rfl) rfl rfl (fun a w' hC hs hl => by rw [show a.eval (.tmp 11) = (.pointer (some ⟨w.heap.size, 3, none⟩) : Value) from (hl 11 (by kernel_rfl) (by kernel_rfl))]; exact ⟨by simp [go_sem, cell_below hC P3.out], rfl⟩)
  · exact .call (.inl rfl) rfl rfl fhd_assayerlaw01_TwinRows (fun a w' hC hs hl => by
      show Calls _ _ #[a.eval (.tmp 12)] _ _
      rw [show a.eval (.tmp 12) = (.slice AO nO cO : Value) from (hl 12 (by kernel_rfl) (by kernel_rfl))]
      exact tw_o lO.out (h.out.below raw_b (below_tr b0.out hC)).o vo.out hM.out.o (below_tr b0.out hC).size)
  · intro f wz hC hF _
    have f4 : f 4 = .bool mo := hF 4 (by kernel_rfl)
    have f7 : (Fact.twV M.vars nV w.heap.size).holds (f 7) wz := hF 7 (by kernel_rfl)
    have f10 : (Fact.twL M.goal nG w.heap.size).holds (f 10) wz := hF 10 (by kernel_rfl)
    have f13 : (Fact.twO M.rows nO w.heap.size).holds (f 13) wz := hF 13 (by kernel_rfl)
    clear hF
    simp only [patch, List.drop]
    obtain ⟨XV, dV, e7, t7⟩ := f7
    obtain ⟨XG, dG, us10, e10, t10⟩ := f10
    obtain ⟨XO, dO, e13, t13⟩ := f13
    rw [f4, e7, e10, e13]
    clear f4 e7 e10 e13
    generalize f 3 = y3_
    generalize f 5 = y5_
    generalize f 6 = y6_
    generalize f 8 = y8_
    generalize f 9 = y9_
    generalize f 11 = y11_
    generalize f 12 = y12_
    replace t7 := hide t7
    replace t10 := hide t10
    replace t13 := hide t13
    have b1 := hide (below_tr b0.out hC)
    have KB := hide (K2.out.below' hC)
    clear hC b0 K1 K2 P0 P1 P2 P3 h
    have c0 := KB.out.at_ 0 rfl
    have c1 := KB.out.at_ 1 rfl
    have c2 := KB.out.at_ 2 rfl
    have c3 := KB.out.at_ 3 rfl
    have f0 := KB.out.frozen 0
    have f1 := KB.out.frozen 1
    have f2 := KB.out.frozen 2
    have f3 := KB.out.frozen 3
    go_wp2
    have far : ∀ t, t ≠ 45 → ∀ g cs, Blk wz g t cs → Blk ((((wz.setCell ⟨w.heap.size + 1, 0, none⟩ (.bool mo)).setCell ⟨w.heap.size + 1, 1, none⟩ (.slice XV nV dV)).setCell ⟨w.heap.size + 1, 2, none⟩ (.slice XG nG dG)).setCell ⟨w.heap.size + 1, 3, none⟩ (.slice XO nO dO)) g t cs := fun t ht g cs hk => (((hk.far (p := ⟨w.heap.size + 1, 0, none⟩) (hk.type_ne KB.out ht) _).far (p := ⟨w.heap.size + 1, 1, none⟩) (hk.type_ne KB.out ht) _).far (p := ⟨w.heap.size + 1, 2, none⟩) (hk.type_ne KB.out ht) _).far (p := ⟨w.heap.size + 1, 3, none⟩) (hk.type_ne KB.out ht) _
    have NT : MTw w.heap.size ((((wz.setCell ⟨w.heap.size + 1, 0, none⟩ (.bool mo)).setCell ⟨w.heap.size + 1, 1, none⟩ (.slice XV nV dV)).setCell ⟨w.heap.size + 1, 2, none⟩ (.slice XG nG dG)).setCell ⟨w.heap.size + 1, 3, none⟩ (.slice XO nO dO)) XV nV dV XG nG dG XO nO dO M :=
      ⟨t7.out.keep (fun u e x => x.keepB (far _ (by decide))) (far _ (by decide)), ⟨us10, t10.out.keep2 (far _ (by decide)) (far _ (by decide))⟩, t13.out.keep (fun u e x => x.keep2 (far _ (by decide)) (far _ (by decide))) (far _ (by decide))⟩
    have bb : Below w.heap.size w ((((wz.setCell ⟨w.heap.size + 1, 0, none⟩ (.bool mo)).setCell ⟨w.heap.size + 1, 1, none⟩ (.slice XV nV dV)).setCell ⟨w.heap.size + 1, 2, none⟩ (.slice XG nG dG)).setCell ⟨w.heap.size + 1, 3, none⟩ (.slice XO nO dO)) := (((b1.out.setCell (p := ⟨w.heap.size + 1, 0, none⟩) (Nat.le_succ _) _).setCell (p := ⟨w.heap.size + 1, 1, none⟩) (Nat.le_succ _) _).setCell (p := ⟨w.heap.size + 1, 2, none⟩) (Nat.le_succ _) _).setCell (p := ⟨w.heap.size + 1, 3, none⟩) (Nat.le_succ _) _
    refine bodyPost_ret (v := .agg #[.bool mo, .slice XV nV dV, .slice XG nG dG, .slice XO nO dO]) (by simp [results, Tryd.results17, go_sem, c0, c1, c2, c3, f0, f1, f2, f3]) rfl ?_
    exact opq_end hR ⟨XV, dV, XG, dG, XO, dO, rfl, bb, NT⟩
set_option maxHeartbeats 2000000 in
theorem leftModel_ok {B : Nat} {w : World} {AV : Option Addr} {nV cV : Nat} {AG : Option Addr} {nG cG : Nat} {AO : Option Addr} {nO cO : Nat} {mo : Bool} {XV : Option Addr} {dV : Nat} {XG : Option Addr} {dG : Nat} {XO : Option Addr} {dO : Nat} {M : RM} (h : MTw B w XV nV dV XG nG dG XO nO dO M) (h' : MSt RRaw w AV nV cV AG nG cG AO nO cO M) :
    Calls Tryd.prog 21 #[.agg #[.bool mo, .slice XV nV dV, .slice XG nG dG, .slice XO nO dO], .agg #[.bool mo, .slice AV nV cV, .slice AG nG cG, .slice AO nO cO]] w fun e w' => ∃ u, e = .returned u ∧ Below w.heap.size w w' ∧ u = .bool true := by
  refine opq fun R hR => ?_
  replace h := hide h
  replace h' := hide h'
  have b0 := hide ((Below.refl w.heap.size w).alloc (Nat.le_refl _) (.cells #[.bool mo, .slice XV nV dV, .slice XG nG dG, .slice XO nO dO] 45))
  have b1 := hide (b0.out.alloc b0.out.size (.cells #[.bool mo, .slice AV nV cV, .slice AG nG cG, .slice AO nO cO] 45))
  have K1 := hide ((Blk.new_at w w.heap.size rfl 45 #[.bool mo, .slice XV nV dV, .slice XG nG dG, .slice XO nO dO]).alloc (.cells #[.bool mo, .slice AV nV cV, .slice AG nG cG, .slice AO nO cO] 45))
  have K2 := hide (Blk.new_at (w.alloc (.cells #[.bool mo, .slice XV nV dV, .slice XG nG dG, .slice XO nO dO] 45)) (w.heap.size + 1) (by simp) 45 #[.bool mo, .slice AV nV cV, .slice AG nG cG, .slice AO nO cO])
  clear b0
  go_enter Tryd.func21, Tryd.ntmps21
  have x0 := K1.out.at_ 0 rfl
  have y0 := K2.out.at_ 0 rfl
  have x1 := K1.out.at_ 1 rfl
  have y1 := K2.out.at_ 1 rfl
  go_wp2_with fail
  refine (leftVars_ok (h.out.below b1.out).v (h'.out.below raw_b b1.out).v).mono ?_
  rintro e w1 ⟨_, rfl, d1, rfl⟩
  replace K1 := hide (K1.out.below' d1)
  replace K2 := hide (K2.out.below' d1)
  replace b1 := hide (below_tr b1.out d1)
  clear d1 x0 y0 x1 y1
  obtain ⟨us, hr⟩ := (h.out.below b1.out).g
  replace hr := hide hr
  have x2 := K1.out.at_ 2 rfl
  have y2 := K2.out.at_ 2 rfl
  go_wp2_with fail
  refine (leftRats_ok hr.out (h'.out.below raw_b b1.out).g).mono ?_
  rintro e w2 ⟨_, rfl, d1, rfl⟩
  replace K1 := hide (K1.out.below' d1)
  replace K2 := hide (K2.out.below' d1)
  replace b1 := hide (below_tr b1.out d1)
  clear d1 x2 y2
  have x3 := K1.out.at_ 3 rfl
  have y3 := K2.out.at_ 3 rfl
  go_wp2_with fail
  refine (leftRows_ok (h.out.below b1.out).o (h'.out.below raw_b b1.out).o).mono ?_
  rintro e w3 ⟨_, rfl, d1, rfl⟩
  replace K1 := hide (K1.out.below' d1)
  replace K2 := hide (K2.out.below' d1)
  replace b1 := hide (below_tr b1.out d1)
  clear d1 x3 y3
  go_wp2
  exact opq_end hR ⟨_, rfl, b1.out, rfl⟩
end Go.Proofs.YtkefmeddnncacaaDoor

/- models: what is gone through; which of two values is better. -/
set_option linter.unusedVariables false
set_option linter.unusedSimpArgs false
set_option maxRecDepth 100000
namespace Go.Proofs.YtkefmeddnncacaaDoor
open Go.RowKit

set_option maxHeartbeats 4000000 in
theorem mgreat_ok {w : World} {AV : Option Addr} {nV cV : Nat} {AG : Option Addr} {nG cG : Nat} {AO : Option Addr} {nO cO : Nat} {mo : Bool} {M : RM} (h : MRw w AV nV cV AG nG cG AO nO cO M) {AX : Option Addr} {nX cX : Nat} {x : List Raw} (hx : Lst RRw w (.slice AX nX cX) x) :
    Calls Tryd.prog 16 #[.agg #[.bool mo, .slice AV nV cV, .slice AG nG cG, .slice AO nO cO], .slice AX nX cX] w fun e w' => ∃ b, e = .returned (.bool b) ∧ (b = false → nV ≤ 40 ∧ nO ≤ 70 ∧ msz M ≤ 3000 ∧ nX ≤ 50 ∧ tsz x ≤ 500) ∧ Below w.heap.size w w' := by
  refine opq fun R hR => ?_
  have bX : nX ≤ 140737488355328 := by
    rw [← hx.len]
    exact hx.le_
  have bV : nV ≤ 140737488355328 := by
    rw [← h.st.v.len]
    exact h.st.v.le_
  have bO : nO ≤ 140737488355328 := by
    rw [← h.st.o.len]
    exact h.st.o.le_
  replace h := hide h
  replace hx := hide hx
  have K := hide (Blk.new w 45 #[.bool mo, .slice AV nV cV, .slice AG nG cG, .slice AO nO cO])
  have b0 := hide ((Below.refl w.heap.size w).alloc (Nat.le_refl _) (.cells #[.bool mo, .slice AV nV cV, .slice AG nG cG, .slice AO nO cO] 45))
  go_enter Tryd.func16, Tryd.ntmps16
  have c0 := K.out.at_ 0 rfl
  have c1 := K.out.at_ 1 rfl
  have c2 := K.out.at_ 2 rfl
  have c3 := K.out.at_ 3 rfl
  by_cases g0 : 40 < nV
  · have z0 : (nV : Int) > 40 := by omega
    go_wp2
    exact opq_end hR ⟨true, rfl, fun e => (by cases e), b0.out⟩
  have z0 : ¬ ((nV : Int) > 40) := by omega
  by_cases g1 : 70 < nO
  · have z1 : (nO : Int) > 70 := by omega
    go_wp2
    exact opq_end hR ⟨true, rfl, fun e => (by cases e), b0.out⟩
  have z1 : ¬ ((nO : Int) > 70) := by omega
  go_wp2_with fail
  refine (ModelSize_ok (h.out.below b0.out)).mono ?_
  rintro e w1 ⟨r, rfl, cnt, d0⟩
  replace b0 := hide (below_tr b0.out d0)
  clear d0 c0 c1 c2 c3
  by_cases g2 : 3000 < r
  · have z2 : (r : Int) > 3000 := by omega
    go_wp2
    exact opq_end hR ⟨true, rfl, fun e => (by cases e), b0.out⟩
  have z2 : ¬ ((r : Int) > 3000) := by omega
  have hsz : Hid (msz M ≤ 3000) := (by have := cnt.2; omega : msz M ≤ 3000)
  by_cases g3 : 50 < nX
  · have z3 : (nX : Int) > 50 := by omega
    go_wp2
    exact opq_end hR ⟨true, rfl, fun e => (by cases e), b0.out⟩
  have z3 : ¬ ((nX : Int) > 50) := by omega
  clear cnt
  go_wp2_with fail
  refine (RatsSize_any _ AX nX cX x (hx.out.rw_below b0.out)).mono ?_
  rintro e w2 ⟨q, rfl, cnt, _, d0⟩
  replace b0 := hide (below_tr b0.out d0)
  clear d0
  by_cases g4 : 500 < q
  · have z4 : (q : Int) > 500 := by omega
    go_wp2
    exact opq_end hR ⟨true, rfl, fun e => (by cases e), b0.out⟩
  have z4 : ¬ ((q : Int) > 500) := by omega
  have sx : Hid (tsz x ≤ 500) := (by have := cnt.2; omega : tsz x ≤ 500)
  clear cnt
  go_wp2
  exact opq_end hR ⟨_, rfl, fun _ => ⟨by omega, by omega, hsz.out, by omega, sx.out⟩, b0.out⟩
/-- Which of two values is better. -/
def bet (mo : Bool) (p q : Rat) : Bool := if mo then decide (cmpQ p q > 0) else decide (cmpQ q p > 0)
theorem cmpQ_flip (p q : Rat) : decide (cmpQ q p > 0) = decide (cmpQ p q < 0) := by
  by_cases h : p < q
  · rw [cmpQ_lt h, cmpQ_gt h]; decide
  · by_cases h2 : q < p
    · rw [cmpQ_lt h2, cmpQ_gt h2]; decide
    · rw [Rat.le_antisymm (Rat.not_lt.1 h2) (Rat.not_lt.1 h), cmpQ_eq]
set_option maxHeartbeats 4000000 in
theorem better_ok {w : World} {AV : Option Addr} {nV cV : Nat} {AG : Option Addr} {nG cG : Nat} {AO : Option Addr} {nO cO : Nat} {mo : Bool} {v v' : Value} {p q : Rat} (h : RArg w v p) (h' : RArg w v' q) (hT : Tab w) (r : Bool) (hr : bet mo p q = r) :
    Calls Tryd.prog 19 #[.agg #[.bool mo, .slice AV nV cV, .slice AG nG cG, .slice AO nO cO], v, v'] w fun e w' => ∃ u, e = .returned u ∧ Below w.heap.size w w' ∧ u = .bool r := by
  refine opq fun R hR => ?_
  obtain ⟨b1, A1, n1, c1, D1, m1, k1, rfl⟩ := h.slice
  obtain ⟨b2, A2, n2, c2, D2, m2, k2, rfl⟩ := h'.slice
  replace h := hide h
  replace h' := hide h'
  have T := hide hT
  clear hT
  go_enter Tryd.func19, Tryd.ntmps19
  obtain ⟨W1, hW, K1, K2, K3, b0, ZW⟩ := alloc3 w #[.bool mo, .slice AV nV cV, .slice AG nG cG, .slice AO nO cO] #[.bool b1, .slice A1 n1 c1, .slice D1 m1 k1] #[.bool b2, .slice A2 n2 c2, .slice D2 m2 k2] 45 TR TR
  have x0 := K1.out.at_ 0 rfl
  have y0 := K2.out.at_ 0 rfl
  have y1 := K2.out.at_ 1 rfl
  have y2 := K2.out.at_ 2 rfl
  have z0 := K3.out.at_ 0 rfl
  have z1 := K3.out.at_ 1 rfl
  have z2 := K3.out.at_ 2 rfl
  cases mo
  · have p0 := K2.out.frozen 0
    have p1 := K2.out.frozen 1
    have p2 := K2.out.frozen 2
    have q0 := K3.out.frozen 0
    have q1 := K3.out.frozen 1
    have q2 := K3.out.frozen 2
    go_wp2_with (first | rw [hW] | fail)
    have hb := ((((((b0.out.setCell (p := ⟨w.heap.size + 1, 0, none⟩) (Nat.le_succ _) (.bool b2)).setCell (p := ⟨w.heap.size + 1, 1, none⟩) (Nat.le_succ _) (.slice A2 n2 c2)).setCell (p := ⟨w.heap.size + 1, 2, none⟩) (Nat.le_succ _) (.slice D2 m2 k2)).setCell (p := ⟨w.heap.size + 1 + 1, 0, none⟩) (by show w.heap.size ≤ w.heap.size + 1 + 1; omega) (.bool b1)).setCell (p := ⟨w.heap.size + 1 + 1, 1, none⟩) (by show w.heap.size ≤ w.heap.size + 1 + 1; omega) (.slice A1 n1 c1)).setCell (p := ⟨w.heap.size + 1 + 1, 2, none⟩) (by show w.heap.size ≤ w.heap.size + 1 + 1; omega) (.slice D1 m1 k1))
    refine (rCmp_eq (h'.out.below hb) (h.out.below hb) (T.out.below hb) _ rfl).mono ?_
    rintro e w2 ⟨_, rfl, d1, rfl⟩
    have hr' : decide (cmpQ q p > 0) = r := hr
    generalize cmpQ q p = c at hr' ⊢
    have b1 := hide (below_tr hb d1)
    clear hb d1 x0 y0 y1 y2 z0 z1 z2 p0 p1 p2 q0 q1 q2
    subst hr'
    go_wp2
    exact opq_end hR ⟨_, rfl, b1.out, rfl⟩
  · go_wp2_with (first | rw [hW] | fail)
    refine (rCmp_eq (h.out.below b0.out) (h'.out.below b0.out) (T.out.below b0.out) _ rfl).mono ?_
    rintro e w2 ⟨_, rfl, d1, rfl⟩
    have hr' : decide (cmpQ p q > 0) = r := hr
    generalize cmpQ p q = c at hr' ⊢
    have b1 := hide (below_tr b0.out d1)
    clear d1 x0 y0 y1 y2 z0 z1 z2
    subst hr'
    go_wp2
    exact opq_end hR ⟨_, rfl, b1.out, rfl⟩
set_option maxHeartbeats 4000000 in
theorem qbetter_ok {w : World} {AV : Option Addr} {nV cV : Nat} {AG : Option Addr} {nG cG : Nat} {AO : Option Addr} {nO cO : Nat} {mo : Bool} {v v' : Value} {p q : Rat} (h : RArg w v p) (h' : RArg w v' q) (s1 : H p 100000) (s2 : H q 100000) (r : Bool) (hr : bet mo p q = r) :
    Calls Tryd.prog 20 #[.agg #[.bool mo, .slice AV nV cV, .slice AG nG cG, .slice AO nO cO], v, v'] w fun e w' => ∃ u, e = .returned u ∧ Below w.heap.size w w' ∧ u = .bool r := by
  refine opq fun R hR => ?_
  obtain ⟨b1, A1, n1, c1, D1, m1, k1, rfl⟩ := h.slice
  obtain ⟨b2, A2, n2, c2, D2, m2, k2, rfl⟩ := h'.slice
  replace h := hide h
  replace h' := hide h'
  replace s1 := hide s1
  replace s2 := hide s2
  go_enter Tryd.func20, Tryd.ntmps20
  obtain ⟨W1, hW, K1, K2, K3, b0, ZW⟩ := alloc3 w #[.bool mo, .slice AV nV cV, .slice AG nG cG, .slice AO nO cO] #[.bool b1, .slice A1 n1 c1, .slice D1 m1 k1] #[.bool b2, .slice A2 n2 c2, .slice D2 m2 k2] 45 TR TR
  have y0 := K2.out.at_ 0 rfl
  have y1 := K2.out.at_ 1 rfl
  have y2 := K2.out.at_ 2 rfl
  have z0 := K3.out.at_ 0 rfl
  have z1 := K3.out.at_ 1 rfl
  have z2 := K3.out.at_ 2 rfl
  go_wp2_with (first | rw [hW] | fail)
  refine (krCmp_eq (h.out.below b0.out) (h'.out.below b0.out) s1.out s2.out rfl).mono ?_
  rintro e w2 ⟨_, rfl, d1, rfl⟩
  replace K1 := hide (K1.out.below' d1)
  have b1 := hide (below_tr b0.out d1)
  have x0 := K1.out.at_ 0 rfl
  clear d1 b0 K1
  cases mo
  · have hr' : decide (cmpQ p q < 0) = r := (cmpQ_flip p q).symm.trans hr
    generalize cmpQ p q = c at hr' ⊢
    subst hr'
    go_wp2
    exact opq_end hR ⟨_, rfl, b1.out, rfl⟩
  · have hr' : decide (cmpQ p q > 0) = r := hr
    generalize cmpQ p q = c at hr' ⊢
    subst hr'
    go_wp2
    exact opq_end hR ⟨_, rfl, b1.out, rfl⟩
end Go.Proofs.YtkefmeddnncacaaDoor
