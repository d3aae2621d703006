/- Laws with a Book of fractions: words; twins; two lists are the same. -/
import Derived.Test.YtfpnhggbfakdkaaDoorBF
import Derived.Test.YtfpnhggbfakdkaaDoorBJ
import Derived.Test.YtfpnhggbfakdkaaDoorVB
import Derived.Test.YtfpnhggbfakdkaaDoorFR
/- the laws' Book where lists of fractions are held too: lists of a law's own. -/
set_option linter.unusedVariables false
set_option linter.unusedSimpArgs false
set_option maxRecDepth 100000
namespace Go.Proofs.YtfpnhggbfakdkaaDoor
open Go.RowKit

/-- The entries of a list's elements, of number k + 1 and on. -/
def entsU (k : Nat) : List Value → List Ent
  | [] => []
  | .agg #[_, .slice A n c, .slice D m d] :: us => ⟨A, n, c, none, 0, 0, k + 1⟩ :: ⟨D, m, d, none, 0, 0, k + 2⟩ :: entsU (k + 2) us
  | _ :: us => entsU (k + 2) us
theorem entsU_cons (k : Nat) (b : Bool) (A D : Option Addr) (n c m d : Nat) (us : List Value) : entsU k (.agg #[.bool b, .slice A n c, .slice D m d] :: us) = [⟨A, n, c, none, 0, 0, k + 1⟩] ++ [⟨D, m, d, none, 0, 0, k + 2⟩] ++ entsU (k + 2) us := rfl
/-- A fraction by its shape. -/
def Shp (u : Value) : Prop := ∃ b A n c D m k, u = .agg #[.bool b, .slice A n c, .slice D m k]
/-- A fraction whose parts lie in memory of their own from lo on. -/
def ElB (lo : Nat) (w : World) (u : Value) : Prop := ∃ b A n c D m k xs ys, u = .agg #[.bool b, .slice A n c, .slice D m k] ∧ LRow lo w A n c xs ∧ LRow lo w D m k ys ∧ n ≤ 500000 ∧ m ≤ 500000 ∧ ∀ g, blkOf A c = some g → blkOf D k ≠ some g
theorem Sep.blk {A A' : Option Addr} {n c n' c' : Nat} (h : Sep (.slice A n c) (.slice A' n' c')) {g : Nat} (hg : blkOf A c = some g) : blkOf A' c' ≠ some g := by
  intro hg'
  obtain ⟨c0, a, rfl, ha⟩ := blkOf_eq hg
  obtain ⟨c0', a', rfl, ha'⟩ := blkOf_eq hg'
  rcases h _ _ _ _ _ _ rfl rfl with z | z | ⟨b, b', z1, z2, z3⟩
  · exact c0 z
  · exact c0' z
  · cases z1; cases z2
    exact z3 (ha.trans ha'.symm)
theorem RatR.elB {q : Rat} {B : Nat} {w : World} {u : Value} (h : RatR q B w u) (s : H q 500000) : ElB B w u := by
  obtain ⟨b, A, n, c, D, m, k, rfl⟩ := h.slice
  have p := PR.of h
  obtain ⟨xs, e1⟩ := p.i.lrow
  obtain ⟨ys, e2⟩ := p.d.lrow
  exact ⟨b, A, n, c, D, m, k, xs, ys, rfl, e1, e2, by rw [p.len.1]; exact s.1, by rw [p.len.2]; exact s.2, fun g hg => p.sp.blk hg⟩
theorem HB.list {B lo : Nat} {w : World} (hB : B ≤ lo) (us : List Value) : ∀ (es : List Ent) (k : Nat), HB B w.heap.size w es → (∀ (i : Nat) (e : Ent) g, es[i]? = some e → e.has g → ∀ u ∈ us, ¬ uhas u g) → (∀ u ∈ us, ElB lo w u) → UAp us → k + 2 * us.length ≤ 100000 → HB B w.heap.size w (es ++ entsU k us) := by
  induction us with
  | nil => intro es k h _ _ _ _; rw [show entsU k [] = [] from rfl, List.append_nil]; exact h
  | cons u us ih =>
    intro es k h hap hel hua hk
    obtain ⟨b, A, n, c, D, m, d, xs, ys, rfl, l1, l2, n1, n2, hs⟩ := hel _ List.mem_cons_self
    rw [List.length_cons] at hk
    have a1 : ∀ (i : Nat) (e : Ent) g, es[i]? = some e → e.has g → blkOf A c ≠ some g := fun i e g he hg hx => hap i e g he hg _ List.mem_cons_self ⟨b, A, n, c, D, m, d, rfl, .inl hx⟩
    have h1 := HB.snocA (k := k + 1) h l1 hB (Nat.le_refl _) a1 n1 (by omega)
    have last : ∀ (es : List Ent) (A : Option Addr) (n c k i : Nat) (e : Ent) (g : Nat), (es ++ [⟨A, n, c, none, 0, 0, k⟩])[i]? = some e → e.has g → es[i]? = some e ∨ blkOf A c = some g := fun es A n c k i e g he hg => by
      by_cases hi : i < es.length
      · rw [List.getElem?_append_left hi] at he
        exact .inl he
      · rw [List.getElem?_append_right (by omega)] at he
        have := (List.getElem?_eq_some_iff.1 he).1
        simp at this
        obtain rfl : i = es.length := by omega
        simp at he
        subst he
        rcases hg with x | x
        · exact .inr x
        · simp [blkOf] at x
    have a2 : ∀ (i : Nat) (e : Ent) g, (es ++ [⟨A, n, c, none, 0, 0, k + 1⟩])[i]? = some e → e.has g → blkOf D d ≠ some g := fun i e g he hg hx => by
      rcases last _ _ _ _ _ _ _ _ he hg with y | y
      · exact hap i e g y hg _ List.mem_cons_self ⟨b, A, n, c, D, m, d, rfl, .inr hx⟩
      · exact hs g y hx
    have h2 := HB.snocA (k := k + 2) h1 l2 hB (Nat.le_refl _) a2 n2 (by omega)
    rw [entsU_cons, ← List.append_assoc, ← List.append_assoc]
    refine ih _ (k + 2) h2 (fun i e g he hg v hv hx => ?_) (fun v hv => hel v (List.mem_cons_of_mem _ hv)) (fun i j v v' hij hi hj => ?_) (by omega)
    · have key : ∀ g, uhas (.agg #[.bool b, .slice A n c, .slice D m d]) g → ¬ uhas v g := fun g hg => by
        obtain ⟨i, hi, rfl⟩ := List.getElem_of_mem hv
        exact hua 0 (i + 1) _ _ (by omega) rfl (by rw [List.getElem?_cons_succ, List.getElem?_eq_getElem hi]) g hg
      rcases last _ _ _ _ _ _ _ _ he hg with y | y
      · rcases last _ _ _ _ _ _ _ _ y hg with y | y
        · exact hap i e g y hg v (List.mem_cons_of_mem _ hv) hx
        · exact key g ⟨b, A, n, c, D, m, d, rfl, .inl y⟩ hx
      · exact key g ⟨b, A, n, c, D, m, d, rfl, .inr y⟩ hx
    · exact hua (i + 1) (j + 1) v v' (by omega) hi hj
theorem ElB.uhas {lo : Nat} {w : World} {u : Value} (h : ElB lo w u) {g : Nat} (hg : uhas u g) : lo ≤ g := by
  obtain ⟨b, A, n, c, D, m, k, xs, ys, rfl, l1, l2, _⟩ := h
  obtain ⟨_, _, _, _, _, _, _, e, hx⟩ := hg
  cases e
  rcases hx with x | x
  · obtain ⟨_, _, h1, _⟩ := l1.blk x
    exact h1
  · obtain ⟨_, _, h1, _⟩ := l2.blk x
    exact h1
theorem HW.list {B : Nat} {w w' : World} {es : List Ent} (h : HW B w es) (kb : Below w.heap.size w w') {us : List Value} (hel : ∀ u ∈ us, ElB w.heap.size w' u) (hua : UAp us) (hB : B ≤ w.heap.size) {k : Nat} (hk : k + 2 * us.length ≤ 100000) : HW B w' (es ++ entsU k us) := by
  have h1 := HB.bel h kb
  obtain ⟨_, _, _, h0, _⟩ := h1
  exact HB.list hB us es k (HB.up (HB.bel h kb) kb.size) (fun i e g he hg u hu hx => by
    have := h0 i e g he hg
    have := (hel u hu).uhas hx
    omega) hel hua hk
theorem HBR.next {B : Nat} {w w' : World} {fs : List Ent} (h : HBR B w.heap.size w fs) (kb : Below w.heap.size w w') {A : Option Addr} {n c : Nat} {xs : List Value} (l : RRow w.heap.size w' A n c xs) (hB : B ≤ w.heap.size) (hn : n ≤ 500000) {k : Nat} (hk : k ≤ 100000) : HBR B w'.heap.size w' (fs ++ [⟨A, n, c, none, 0, 0, k⟩]) :=
  HBR.snoc (h.bel kb) l rfl hB kb.size hn hk
theorem HBR.below {B : Nat} {w w' : World} {fs : List Ent} (h : HBR B w.heap.size w fs) (k : Below w.heap.size w w') : HBR B w'.heap.size w' fs := (h.bel k).up k.size
/-- A list of the call's own, as the Book holds it. -/
theorem OLst.parts {w : World} {B : Nat} {v : Value} {qs : List Rat} (h : OLst w B v qs) (hs : Hs qs 500000) (hn : qs.length ≤ 500000) :
    ∃ A c us, v = .slice A qs.length c ∧ us.length = qs.length ∧ RRow B w A qs.length c (flat us) ∧ (∀ u ∈ us, ElB B w u) ∧ UAp us := by
  obtain ⟨us, h1, h2, h3, h4⟩ := h
  have hel : ∀ u ∈ us, ElB B w u := fun u hu => by
    obtain ⟨i, hi, rfl⟩ := List.getElem_of_mem hu
    obtain ⟨x, hx, hr⟩ := h3 i (qs[i]'(by omega)) (List.getElem?_eq_getElem _)
    rw [List.getElem?_eq_getElem hi] at hx
    cases hx
    exact hr.elB (hs _ (List.getElem_mem _))
  rcases Nat.eq_zero_or_pos qs.length with h0 | h0
  · have hu : us = [] := List.eq_nil_of_length_eq_zero (by omega)
    subst hu
    rcases h2.2 with ⟨e, _⟩ | ⟨g, cap, cur, e, hB, hh, hnc, hcm, hcs, htk⟩
    · refine ⟨none, 0, [], by rw [e, h0], h1, ⟨by rw [h0]; rfl, by omega, .inl rfl⟩, hel, h4⟩
    · exact ⟨_, cap, [], e, h1, ⟨by rw [h0]; rfl, hnc, .inr ⟨g, cur, rfl, hB, ⟨hh⟩, by omega, htk⟩⟩, hel, h4⟩
  · obtain ⟨g, cap, cur, e, hB, hnc, hcm, hk, hcs, htk⟩ := own_some h2 h0
    exact ⟨_, cap, us, e, h1, ⟨by
      have e3 : cur.toList.length = cap * 3 := by rw [Array.length_toList]; exact hcs
      rw [← htk, List.length_take]; omega, hnc, .inr ⟨g, cur, rfl, hB, hk, by omega, htk⟩⟩, hel, h4⟩
/-! ### a twin of a list -/
/-- An element of a twin. -/
def TwE (B : Nat) (w : World) (u : Value) (e : Raw) : Prop := ∃ X nx cx Y ny cy, u = .agg #[.bool e.1, .slice X nx cx, .slice Y ny cy] ∧ Tw B w X nx cx e.2.1 ∧ Tw B w Y ny cy e.2.2 ∧ Sep (.slice X nx cx) (.slice Y ny cy)
/-- A list of fractions of the law's own, with a mark behind it. -/
structure TwL (B : Nat) (w : World) (A : Option Addr) (n c : Nat) (us : List Value) (es : List Raw) : Prop where
  lu : us.length = n
  le : es.length = n
  lt : n < c
  bd : n ≤ 100000
  row : ∃ q d cs, RRow B w A (n + 1) c (flat us ++ [.bool false, .slice none 0 0, .slice (some ⟨q, 0, none⟩) 1 d]) ∧ Blk w q T32 cs ∧ cs[0]? = some (.int .u32 77)
  els : ∀ (j : Nat) e, es[j]? = some e → ∃ u, us[j]? = some u ∧ TwE B w u e
  ap : UAp us
theorem Tw.keepB {B : Nat} {w w' : World} {A : Option Addr} {n c : Nat} {xs : List Nat} (h : Tw B w A n c xs) (k : ∀ g cs, Blk w g T32 cs → Blk w' g T32 cs) : Tw B w' A n c xs := by
  have hlt := h.lt
  rcases h.fr with f | ⟨g', cs', rfl, hB, hk, hc⟩
  · omega
  · have hk' := k _ _ hk
    refine ⟨⟨h.rd.1, h.rd.2.1, fun hn => ?_⟩, .inr ⟨g', cs', rfl, hB, hk', hc⟩, h.lt, h.is, h.len⟩
    obtain ⟨ad, e2, hl, hcl⟩ := h.rd.2.2 hn
    cases e2
    refine ⟨_, rfl, hk'.lt, fun j hj => ?_⟩
    have := hcl j hj
    rw [add0, hk.cell] at this
    rw [add0, hk'.cell]
    exact this
theorem TwE.keepB {B : Nat} {w w' : World} {u : Value} {e : Raw} (h : TwE B w u e) (k : ∀ g cs, Blk w g T32 cs → Blk w' g T32 cs) : TwE B w' u e := by
  obtain ⟨X, nx, cx, Y, ny, cy, e1, h1, h2, h3⟩ := h
  exact ⟨X, nx, cx, Y, ny, cy, e1, h1.keepB k, h2.keepB k, h3⟩
theorem TwE.below {B : Nat} {w w' : World} {u : Value} {e : Raw} (h : TwE B w u e) (k : Below w.heap.size w w') : TwE B w' u e := h.keepB fun g cs hk => hk.below' k
theorem Tw.mono {B B' : Nat} {w : World} {A : Option Addr} {n c : Nat} {xs : List Nat} (h : Tw B w A n c xs) (hB : B' ≤ B) : Tw B' w A n c xs := ⟨h.rd, h.fr.mono hB, h.lt, h.is, h.len⟩
theorem TwE.mono {B B' : Nat} {w : World} {u : Value} {e : Raw} (h : TwE B w u e) (hB : B' ≤ B) : TwE B' w u e := by
  obtain ⟨X, nx, cx, Y, ny, cy, e1, h1, h2, h3⟩ := h
  exact ⟨X, nx, cx, Y, ny, cy, e1, h1.mono hB, h2.mono hB, h3⟩
theorem TwE.raw {B : Nat} {w : World} {u : Value} {e : Raw} (h : TwE B w u e) : RRaw w u e := by
  obtain ⟨X, nx, cx, Y, ny, cy, e1, h1, h2, h3⟩ := h
  exact ⟨_, _, e1, h1.prt, h2.prt⟩
theorem TwE.elB {B : Nat} {w : World} {u : Value} {e : Raw} (h : TwE B w u e) : ElB B w u := by
  obtain ⟨X, nx, cx, Y, ny, cy, e1, h1, h2, h3⟩ := h
  obtain ⟨xs, l1⟩ := h1.lrow
  obtain ⟨ys, l2⟩ := h2.lrow
  have := h1.len
  have := h2.len
  exact ⟨_, X, nx, cx, Y, ny, cy, xs, ys, e1, l1, l2, by omega, by omega, fun g hg => h3.blk hg⟩
theorem TwE.own_blk {B : Nat} {w : World} {u : Value} {e : Raw} (h : TwE B w u e) {g : Nat} (hg : uhas u g) : B ≤ g ∧ g < w.heap.size := by
  obtain ⟨X, nx, cx, Y, ny, cy, rfl, h1, h2, h3⟩ := h
  obtain ⟨_, _, _, _, _, _, _, e, hx⟩ := hg
  cases e
  rcases hx with x | x
  · exact h1.fr.own_blk x
  · exact h2.fr.own_blk x
theorem RRow.below {B : Nat} {w w' : World} {A : Option Addr} {n c : Nat} {xs : List Value} (h : RRow B w A n c xs) (k : Below w.heap.size w w') : RRow B w' A n c xs := h.keep fun g cs _ hk => hk.below' k
theorem RRow.mono {B B' : Nat} {w : World} {A : Option Addr} {n c : Nat} {xs : List Value} (h : RRow B w A n c xs) (hB : B' ≤ B) : RRow B' w A n c xs := by
  refine ⟨h.len, h.le, ?_⟩
  rcases h.own with e | ⟨g, cs, e, h1, h2⟩
  · exact .inl e
  · exact .inr ⟨g, cs, e, Nat.le_trans hB h1, h2⟩
theorem TwL.below {B : Nat} {w w' : World} {A : Option Addr} {n c : Nat} {us : List Value} {es : List Raw} (h : TwL B w A n c us es) (k : Below w.heap.size w w') : TwL B w' A n c us es := by
  obtain ⟨q, d, cs, h1, h2, h3⟩ := h.row
  exact ⟨h.lu, h.le, h.lt, h.bd, ⟨q, d, cs, h1.below k, h2.below' k, h3⟩, fun j e he => by
    obtain ⟨u, hu, hE⟩ := h.els j e he
    exact ⟨u, hu, hE.below k⟩, h.ap⟩
theorem TwL.el {B : Nat} {w : World} {A : Option Addr} {n c : Nat} {us : List Value} {es : List Raw} (h : TwL B w A n c us es) {j : Nat} {u : Value} (hj : us[j]? = some u) : ∃ e, es[j]? = some e ∧ TwE B w u e := by
  have hl := (List.getElem?_eq_some_iff.1 hj).1
  have h1 := h.lu
  have h2 := h.le
  obtain ⟨u', hu, hE⟩ := h.els j (es[j]'(by omega)) (List.getElem?_eq_getElem _)
  rw [hj] at hu
  cases hu
  exact ⟨_, List.getElem?_eq_getElem _, hE⟩
theorem TwL.flen {B : Nat} {w : World} {A : Option Addr} {n c : Nat} {us : List Value} {es : List Raw} (h : TwL B w A n c us es) : (flat us).length = n * 3 := by
  rw [flat_len, h.lu, Nat.mul_comm]
  intro u hu
  obtain ⟨i, hi, rfl⟩ := List.getElem_of_mem hu
  obtain ⟨e, _, X, nx, cx, Y, ny, cy, e1, _⟩ := h.el (List.getElem?_eq_getElem hi)
  rw [e1]; rfl
theorem TwL.rrow {B : Nat} {w : World} {A : Option Addr} {n c : Nat} {us : List Value} {es : List Raw} (h : TwL B w A n c us es) : RRow B w A n c (flat us) := by
  obtain ⟨q, d, cs, h1, h2, h3⟩ := h.row
  have := h1.take (Nat.le_succ n)
  rwa [List.take_append_of_le_length (by rw [h.flen]; exact Nat.le_refl _), List.take_of_length_le (by rw [h.flen]; exact Nat.le_refl _)] at this
theorem TwL.elB {B : Nat} {w : World} {A : Option Addr} {n c : Nat} {us : List Value} {es : List Raw} (h : TwL B w A n c us es) : ∀ u ∈ us, ElB B w u := fun u hu => by
  obtain ⟨i, hi, rfl⟩ := List.getElem_of_mem hu
  obtain ⟨e, _, hE⟩ := h.el (List.getElem?_eq_getElem hi)
  exact hE.elB
theorem RRow.lst {α : Type} {E : World → Value → α → Prop} {B : Nat} {w : World} {A : Option Addr} {n c : Nat} {us : List Value} {qs : List α} (h : RRow B w A n c (flat us)) (hu : us.length = n) (hq : qs.length = n) (hn : n ≤ 1000000) (hE : ∀ (j : Nat) q, qs[j]? = some q → ∃ u, us[j]? = some u ∧ E w u q) : Lst E w (.slice A n c) qs := by
  refine ⟨A, n, c, us, rfl, h.le, hq.symm, hu, by omega, fun h0 => ?_, hE⟩
  have hle := h.le
  rcases h.own with e | ⟨g, cs, e, hB, hk, hc, ht⟩
  · omega
  · exact ⟨_, e, hk.lt, fun j u hj => by
      rw [add0, hk.cell]
      exact take_get ht hj⟩
theorem TwL.lst {B : Nat} {w : World} {A : Option Addr} {n c : Nat} {us : List Value} {es : List Raw} (h : TwL B w A n c us es) : Lst RRaw w (.slice A n c) es :=
  h.rrow.lst h.lu h.le (by have := h.bd; omega) fun j q hq => by
    obtain ⟨u, hu, hE⟩ := h.els j q hq
    exact ⟨u, hu, hE.raw⟩
end Go.Proofs.YtfpnhggbfakdkaaDoor

/- the laws' Book: two lists are the same; the Book is told a list of fractions. -/
set_option linter.unusedVariables false
set_option linter.unusedSimpArgs false
set_option maxRecDepth 100000
namespace Go.Proofs.YtfpnhggbfakdkaaDoor
open Go.RowKit

theorem shp_cells {us : List Value} (hs : ∀ u ∈ us, Shp u) : ∀ u ∈ us, u.cells.size = 3 := fun u hu => by
  obtain ⟨b, A, n, c, D, m, k, rfl⟩ := hs u hu
  rfl
/-- An element's cells. -/
theorem RRow.el {B : Nat} {w : World} {A : Option Addr} {n c : Nat} {us : List Value} (h : RRow B w A n c (flat us)) (hu : us.length = n) (hs : ∀ u ∈ us, Shp u) {i : Nat} (hi : i < n) :
    ∃ g b A1 n1 c1 D1 m1 k1, A = some ⟨g, 0, none⟩ ∧ us[i]? = some (.agg #[.bool b, .slice A1 n1 c1, .slice D1 m1 k1]) ∧ w.cell? ⟨g, i * 3, none⟩ = some (.bool b) ∧ w.cell? ⟨g, i * 3 + 1, none⟩ = some (.slice A1 n1 c1) ∧ w.cell? ⟨g, i * 3 + 2, none⟩ = some (.slice D1 m1 k1) := by
  have hj : us[i]? = some (us[i]'(by omega)) := List.getElem?_eq_getElem _
  obtain ⟨b, A1, n1, c1, D1, m1, k1, e⟩ := hs _ (List.getElem_mem (by omega : i < us.length))
  rw [e] at hj
  obtain ⟨g, e0, _, _, _, c0, _⟩ := h.at_ (i := i * 3) (by omega)
  obtain ⟨g1, e1, _, _, _, c1', _⟩ := h.at_ (i := i * 3 + 1) (by omega)
  obtain ⟨g2, e2, _, _, _, c2', _⟩ := h.at_ (i := i * 3 + 2) (by omega)
  rw [e0] at e1 e2
  cases e1
  cases e2
  have f0 := flat_get (shp_cells hs) hj 0 (by omega)
  have f1 := flat_get (shp_cells hs) hj 1 (by omega)
  have f2 := flat_get (shp_cells hs) hj 2 (by omega)
  rw [Nat.mul_comm 3 i] at f0 f1 f2
  exact ⟨g, b, A1, n1, c1, D1, m1, k1, e0, hj, by rw [c0]; exact f0, by rw [c1', f1]; rfl, by rw [c2', f2]; rfl⟩
end Go.Proofs.YtfpnhggbfakdkaaDoor
