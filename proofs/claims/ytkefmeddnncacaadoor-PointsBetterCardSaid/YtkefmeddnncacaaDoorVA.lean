/- vecs: words for lists of fractions; Zero, Scale, Check, fit. -/
import Derived.Test.YtkefmeddnncacaaDoorFR
import Derived.Test.YtkefmeddnncacaaDoorCa
/- lists of fractions: words. -/
set_option linter.unusedVariables false
set_option linter.unusedSimpArgs false
set_option maxRecDepth 100000
namespace Go.Proofs.YtkefmeddnncacaaDoor
open Go.RowKit

/-- The cells of values, one behind the other. -/
def flat (us : List Value) : List Value := us.flatMap fun u => u.cells.toList
/-- A list whose elements (of three cells) are as told. -/
def Lst {α : Type} (E : World → Value → α → Prop) (w : World) (v : Value) (qs : List α) : Prop :=
  ∃ A n c us, v = .slice A n c ∧ n ≤ c ∧ n = qs.length ∧ us.length = n ∧ n ≤ 140737488355328 ∧
    (0 < n → ∃ ad, A = some ad ∧ ad.block < w.heap.size ∧ ∀ (j : Nat) u, (flat us)[j]? = some u → w.cell? (ad.add j) = some u) ∧
    ∀ (j : Nat) q, qs[j]? = some q → ∃ u, us[j]? = some u ∧ E w u q
/-- Such a value is a fraction by its shape. -/
def Tri {α : Type} (E : World → Value → α → Prop) : Prop := ∀ w u q, E w u q → ∃ b A n c D m k, u = .agg #[.bool b, .slice A n c, .slice D m k]
theorem Lst.imp {α β : Type} {E : World → Value → α → Prop} {F : World → Value → β → Prop} {w : World} {v : Value} {qs : List α} (h : Lst E w v qs) (f : α → β) (hf : ∀ u q, q ∈ qs → E w u q → F w u (f q)) : Lst F w v (qs.map f) := by
  obtain ⟨A, n, c, us, e, h1, h2, h3, h4, h5, h6⟩ := h
  refine ⟨A, n, c, us, e, h1, by rw [List.length_map]; exact h2, h3, h4, h5, fun j q hq => ?_⟩
  rw [List.getElem?_map] at hq
  obtain ⟨p, hp, rfl⟩ := Option.map_eq_some_iff.1 hq
  obtain ⟨u, hu, he⟩ := h6 j p hp
  exact ⟨u, hu, hf u p (List.mem_of_getElem? hp) he⟩
theorem Lst.below {α : Type} {E : World → Value → α → Prop} {w w' : World} {v : Value} {qs : List α} (h : Lst E w v qs) (hE : ∀ u q, E w u q → E w' u q) (hb : Below w.heap.size w w') : Lst E w' v qs := by
  obtain ⟨A, n, c, us, e, h1, h2, h3, h4, h5, h6⟩ := h
  refine ⟨A, n, c, us, e, h1, h2, h3, h4, fun h0 => ?_, fun j q hq => ?_⟩
  · obtain ⟨ad, e1, hl, hc⟩ := h5 h0
    exact ⟨ad, e1, Nat.lt_of_lt_of_le hl hb.size, fun j u hu => cell_below hb (hc j u hu)⟩
  · obtain ⟨u, hu, he⟩ := h6 j q hq
    exact ⟨u, hu, hE u q he⟩
theorem Lst.can_below {w w' : World} {v : Value} {qs : List Rat} (h : Lst RCan w v qs) (hb : Below w.heap.size w w') : Lst RCan w' v qs := Lst.below h (fun u q h => h.below hb) hb
theorem Lst.arg_below {w w' : World} {v : Value} {qs : List Rat} (h : Lst RArg w v qs) (hb : Below w.heap.size w w') : Lst RArg w' v qs := Lst.below h (fun u q h => h.below hb) hb
theorem lst_nil {α : Type} (E : World → Value → α → Prop) (w : World) : Lst E w (.slice none 0 0) [] := ⟨none, 0, 0, [], rfl, Nat.le_refl _, rfl, rfl, by omega, fun h => absurd h (by omega), fun j q h => by simp at h⟩
theorem flat_get {us : List Value} (h3 : ∀ u ∈ us, u.cells.size = 3) {j : Nat} {u : Value} (hj : us[j]? = some u) (i : Nat) (hi : i < 3) : (flat us)[3 * j + i]? = u.cells.toList[i]? := by
  induction us generalizing j with
  | nil => simp at hj
  | cons a us ih =>
    have ha : a.cells.toList.length = 3 := by rw [Array.length_toList]; exact h3 a List.mem_cons_self
    show (a.cells.toList ++ flat us)[3 * j + i]? = _
    cases j with
    | zero =>
      simp only [List.getElem?_cons_zero, Option.some.injEq] at hj
      subst hj
      rw [List.getElem?_append_left (by omega)]
      simp
    | succ j =>
      rw [List.getElem?_append_right (by omega), ha, show 3 * (j + 1) + i - 3 = 3 * j + i by omega]
      exact ih (fun u hu => h3 u (List.mem_cons_of_mem _ hu)) (by simpa using hj)
theorem flat_len {us : List Value} (h3 : ∀ u ∈ us, u.cells.size = 3) : (flat us).length = 3 * us.length := by
  induction us with
  | nil => rfl
  | cons a us ih =>
    show (a.cells.toList ++ flat us).length = _
    rw [List.length_append, ih (fun u hu => h3 u (List.mem_cons_of_mem _ hu)), Array.length_toList, h3 a List.mem_cons_self, List.length_cons]
    omega
/-- An element. -/
theorem Lst.get {α : Type} {E : World → Value → α → Prop} (hT : Tri E) {w : World} {A : Option Addr} {n c : Nat} {qs : List α} (h : Lst E w (.slice A n c) qs) {j : Nat} {q : α} (hj : qs[j]? = some q) :
    ∃ ad b A1 n1 c1 A2 n2 c2, A = some ad ∧ j < n ∧ w.cell? (ad.add (3 * j)) = some (.bool b) ∧ w.cell? (ad.add (3 * j + 1)) = some (.slice A1 n1 c1) ∧ w.cell? (ad.add (3 * j + 2)) = some (.slice A2 n2 c2) ∧ E w (.agg #[.bool b, .slice A1 n1 c1, .slice A2 n2 c2]) q := by
  obtain ⟨A', n', c', us, e, h1, h2, h3, h4, h5, h6⟩ := h
  cases e
  have hjn : j < n := by
    rw [h2]
    exact (List.getElem?_eq_some_iff.1 hj).1
  obtain ⟨ad, rfl, hl, hc⟩ := h5 (by omega)
  obtain ⟨u, hu, he⟩ := h6 j q hj
  obtain ⟨b, A1, n1, c1, A2, n2, c2, rfl⟩ := hT _ _ _ he
  have hall : ∀ u ∈ us, u.cells.size = 3 := fun u hu => by
    obtain ⟨i, hi, rfl⟩ := List.getElem_of_mem hu
    obtain ⟨u', hu', he'⟩ := h6 i (qs[i]'(by omega)) (List.getElem?_eq_getElem _)
    rw [List.getElem?_eq_getElem hi] at hu'
    cases hu'
    obtain ⟨_, _, _, _, _, _, _, e⟩ := hT _ _ _ he'
    rw [e]; rfl
  refine ⟨ad, b, A1, n1, c1, A2, n2, c2, rfl, hjn, hc _ _ ?_, hc _ _ ?_, hc _ _ ?_, he⟩
  · exact flat_get hall hu 0 (by omega)
  · exact flat_get hall hu 1 (by omega)
  · exact flat_get hall hu 2 (by omega)
end Go.Proofs.YtkefmeddnncacaaDoor

/- lists of fractions: append; vecs: Zero. -/
set_option linter.unusedVariables false
set_option linter.unusedSimpArgs false
set_option maxRecDepth 100000
namespace Go.Proofs.YtkefmeddnncacaaDoor
open Go.RowKit

theorem infoR : (Tryd.prog.info? 51).map (fun i => (i.zero, i.size, i.bytes)) = some (some (.agg #[.bool false, .slice none 0 0, .slice none 0 0]), 3, 56) := by kernel_rfl
theorem flat_snoc (us : List Value) (u : Value) : flat (us ++ [u]) = flat us ++ u.cells.toList := by simp [flat]
theorem own_row {w : World} {base n : Nat} {v : Value} {xs : List Value} (h : w.ownsRow base TR 3 v n xs) : ∀ k, v.ownBlock = some k → base ≤ k ∧ ∃ cs, Blk w k TR cs := by
  intro k hk
  rcases h.2 with ⟨rfl, rfl⟩ | ⟨g, cap, cur, rfl, hB, hh, hnc, hcm, hcs, htk⟩
  · cases hk
  · have : g = k := by simpa [Value.ownBlock] using hk
    subst this
    exact ⟨hB, cur, ⟨hh⟩⟩
/-- The blocks that a fraction's parts may come to write. -/
def uhas (u : Value) (g : Nat) : Prop := ∃ b A n c D m k, u = .agg #[.bool b, .slice A n c, .slice D m k] ∧ (blkOf A c = some g ∨ blkOf D k = some g)
/-- No two elements' parts share memory. -/
def UAp (us : List Value) : Prop := ∀ (i j : Nat) u u', i < j → us[i]? = some u → us[j]? = some u' → ∀ g, uhas u g → ¬ uhas u' g
theorem UAp.nil : UAp [] := fun i j u u' _ h => by simp at h
theorem Fr.own_blk {t : TypeId} {B : Nat} {w : World} {A : Option Addr} {c g : Nat} (h : Fr t B w A c) (hg : blkOf A c = some g) : B ≤ g ∧ g < w.heap.size := by
  have h0 := blkOf_pos hg
  rcases h with h | ⟨g', cs, rfl, hB, hk, hc⟩
  · omega
  · rw [blkOf_some h0] at hg
    cases hg
    exact ⟨hB, hk.lt⟩
theorem RatR.own_blk {q : Rat} {B : Nat} {w : World} {u : Value} (h : RatR q B w u) {g : Nat} (hg : uhas u g) : B ≤ g ∧ g < w.heap.size := by
  obtain ⟨b, A, n, c, D, m, k, rfl, hg⟩ := hg
  obtain ⟨u', d', e, h1, h2, h3⟩ := h
  cases e
  obtain ⟨_, _, e, _, f, _⟩ := h1
  cases e
  obtain ⟨_, _, e, _, f', _⟩ := h2
  cases e
  rcases hg with x | x
  · exact f.own_blk x
  · exact f'.own_blk x
theorem UAp.snoc {us : List Value} {u : Value} (h : UAp us) (hn : ∀ u' ∈ us, ∀ g, uhas u' g → ¬ uhas u g) : UAp (us ++ [u]) := by
  intro i j v v' hij hi hj g hg
  have hl := (List.getElem?_eq_some_iff.1 hj).1
  simp at hl
  rw [List.getElem?_append_left (by omega)] at hi
  by_cases hj2 : j < us.length
  · rw [List.getElem?_append_left hj2] at hj
    exact h i j v v' hij hi hj g hg
  · rw [List.getElem?_append_right (by omega)] at hj
    obtain rfl : j = us.length := by omega
    simp at hj
    subst hj
    exact hn v (List.mem_of_getElem? hi) g hg
/-- A list of the call's own: its elements too. -/
def OLst (w : World) (B : Nat) (v : Value) (qs : List Rat) : Prop :=
  ∃ us, us.length = qs.length ∧ w.ownsRow B TR 3 v qs.length (flat us) ∧ (∀ (j : Nat) q, qs[j]? = some q → ∃ u, us[j]? = some u ∧ RatR q B w u) ∧ UAp us
theorem OLst.lst {w : World} {B : Nat} {v : Value} {qs : List Rat} (h : OLst w B v qs) (hn : qs.length ≤ 1000000) : Lst RCan w v qs := by
  obtain ⟨us, h1, h2, h3, _⟩ := h
  rcases h2.2 with ⟨e, h0⟩ | ⟨g, cap, cur, e, hB, hh, hnc, hcm, hcs, htk⟩
  · obtain rfl : qs = [] := List.eq_nil_of_length_eq_zero h0
    rw [e]
    exact lst_nil RCan w
  · subst e
    refine ⟨_, _, cap, us, rfl, hnc, rfl, h1, by omega, fun h0 => ⟨_, rfl, (Array.getElem?_eq_some_iff.1 hh).1, fun j u hj => ?_⟩, fun j q hq => ?_⟩
    · have k : Blk w g TR cur := ⟨hh⟩
      rw [add0, k.cell]
      exact take_get htk hj
    · obtain ⟨u, hu, hr⟩ := h3 j q hq
      exact ⟨u, hu, hr.can⟩
theorem OLst.nil (w : World) (B : Nat) : OLst w B (.slice none 0 0) [] := ⟨[], rfl, World.ownsRow_nil _ _ _ _, fun j q h => by simp at h, .nil⟩
theorem OLst.below {w w' : World} {B : Nat} {v : Value} {qs : List Rat} (h : OLst w B v qs) (hb : Below w.heap.size w w') : OLst w' B v qs := by
  obtain ⟨us, h1, h2, h3, h4⟩ := h
  exact ⟨us, h1, own_below h2 hb, fun j q hq => by
    obtain ⟨u, hu, hr⟩ := h3 j q hq
    exact ⟨u, hu, hr.below hb⟩, h4⟩
theorem OLst.slice {w : World} {B : Nat} {v : Value} {qs : List Rat} (h : OLst w B v qs) : ∃ A c, v = .slice A qs.length c := by
  obtain ⟨us, h1, h2, h3, _⟩ := h
  exact own_slice h2
def rats (zs : List Int) : List Rat := zs.map fun (z : Int) => (z : Rat)
/-- What a law's own list of whole numbers is. -/
def NumsAt (w : World) (g : Nat) (zs : List Int) : Prop := ∀ (j : Nat) z, zs[j]? = some z → w.cell? ⟨g, j, none⟩ = some (.int .i64 z)
end Go.Proofs.YtkefmeddnncacaaDoor

/- vecs: Scale. -/
set_option linter.unusedVariables false
set_option linter.unusedSimpArgs false
set_option maxRecDepth 100000
namespace Go.Proofs.YtkefmeddnncacaaDoor
open Go.RowKit

theorem own_mono {w : World} {B B' n : Nat} {v : Value} {xs : List Value} (h : w.ownsRow B TR 3 v n xs) (hB : B' ≤ B) : w.ownsRow B' TR 3 v n xs := by
  refine ⟨h.1, ?_⟩
  rcases h.2 with h2 | ⟨g, cap, cur, e1, hg, r⟩
  · exact .inl h2
  · exact .inr ⟨g, cap, cur, e1, Nat.le_trans hB hg, r⟩
theorem OLst.mono {w : World} {B B' : Nat} {v : Value} {qs : List Rat} (h : OLst w B v qs) (hB : B' ≤ B) : OLst w B' v qs := by
  obtain ⟨us, h1, h2, h3, h4⟩ := h
  exact ⟨us, h1, own_mono h2 hB, fun j q hq => by
    obtain ⟨u, hu, hr⟩ := h3 j q hq
    exact ⟨u, hu, hr.mono hB⟩, h4⟩
theorem add_off (ad : Addr) (m k : Nat) (hk : 0 < k) : ad.add (m + k) = ⟨(ad.add m).block, (ad.add m).off + k, none⟩ := by
  unfold Addr.add
  rw [if_neg (by omega)]
  by_cases h : m = 0
  · subst h; simp
  · rw [if_neg h]; simp [Nat.add_assoc]
theorem Lst.at_ {α : Type} {E : World → Value → α → Prop} (hT : Tri E) {w : World} {A : Option Addr} {n c : Nat} {qs : List α} (h : Lst E w (.slice A n c) qs) {j : Nat} {q : α} (hj : qs[j]? = some q) :
    ∃ ad b A1 n1 c1 A2 n2 c2, A = some ad ∧ j < n ∧ w.cell? (ad.add (j * 3)) = some (.bool b) ∧ w.cell? ⟨(ad.add (j * 3)).block, (ad.add (j * 3)).off + 1, none⟩ = some (.slice A1 n1 c1) ∧ w.cell? ⟨(ad.add (j * 3)).block, (ad.add (j * 3)).off + 2, none⟩ = some (.slice A2 n2 c2) ∧ E w (.agg #[.bool b, .slice A1 n1 c1, .slice A2 n2 c2]) q := by
  obtain ⟨ad, b, A1, n1, c1, A2, n2, c2, e, h1, h2, h3, h4, h5⟩ := h.get hT hj
  rw [Nat.mul_comm] at h2 h3 h4
  rw [add_off _ _ _ (by omega)] at h3 h4
  exact ⟨ad, b, A1, n1, c1, A2, n2, c2, e, h1, h2, h3, h4, h5⟩
end Go.Proofs.YtkefmeddnncacaaDoor

/- vecs: Check, fit. -/
set_option linter.unusedVariables false
set_option linter.unusedSimpArgs false
set_option maxRecDepth 100000
namespace Go.Proofs.YtkefmeddnncacaaDoor
open Go.RowKit

/-- A raw fraction of a list. -/
abbrev Raw := Bool × List Nat × List Nat
def RRaw (w : World) (u : Value) (e : Raw) : Prop := RPrt w u e.1 e.2.1 e.2.2
def rk (e : Raw) : Bool := rok e.1 e.2.1 e.2.2
theorem RPrt.slice {w : World} {v : Value} {b : Bool} {xs ys : List Nat} (h : RPrt w v b xs ys) : ∃ b A n c D m k, v = .agg #[.bool b, .slice A n c, .slice D m k] := by
  obtain ⟨u, d, rfl, ⟨A, n, c, rfl, _⟩, ⟨D, m, k, rfl, _⟩⟩ := h
  exact ⟨_, _, _, _, _, _, _, rfl⟩
theorem tri_raw : Tri RRaw := fun w u q h => h.slice
theorem RRaw.below {w w' : World} {u : Value} {e : Raw} (h : RRaw w u e) (hb : Below w.heap.size w w') : RRaw w' u e := RPrt.below h hb
theorem Lst.raw_below {w w' : World} {v : Value} {es : List Raw} (h : Lst RRaw w v es) (hb : Below w.heap.size w w') : Lst RRaw w' v es := Lst.below h (fun u q h => h.below hb) hb
theorem Lst.len {α : Type} {E : World → Value → α → Prop} {w : World} {A : Option Addr} {n c : Nat} {qs : List α} (h : Lst E w (.slice A n c) qs) : qs.length = n := by
  obtain ⟨_, _, _, _, e, _, h2, _⟩ := h
  cases e
  exact h2.symm
abbrev ckF : Value := .func (.func 101) #[] #[]
end Go.Proofs.YtkefmeddnncacaaDoor

/- vecs: fit. -/
set_option linter.unusedVariables false
set_option linter.unusedSimpArgs false
set_option maxRecDepth 100000
namespace Go.Proofs.YtkefmeddnncacaaDoor
open Go.RowKit

/-- Two raw lists that may be, as long. -/
def fits (es fs : List Raw) : Bool := decide (es.length = fs.length) && es.all rk && fs.all rk
end Go.Proofs.YtkefmeddnncacaaDoor
