/- The laws' Book where lists of fractions are held too: kept, filled, grown, looked at, apart. -/
import Derived.Test.YtfpnhggbfakdkaaDoorBK
import Derived.Test.YtfpnhggbfakdkaaDoorVA
import Derived.Test.YtfpnhggbfakdkaaDoorFR
/- the laws' Book where lists of fractions are held too: words; one more is kept. -/
set_option linter.unusedVariables false
set_option linter.unusedSimpArgs false
set_option maxRecDepth 100000
namespace Go.Proofs.YtfpnhggbfakdkaaDoor
open Go.RowKit

abbrev bkF (num : Nat) (v u : Value) : Array Value := #[.int .i64 (num : Nat), .slice none 0 0, v, .slice none 0 0, .slice none 0 0, .slice none 0 0, .slice none 0 0, .slice none 0 0, u, .slice none 0 0, .slice none 0 0, .slice none 0 0, .slice none 0 0]
end Go.Proofs.YtfpnhggbfakdkaaDoor

/- the laws' Book: lists of fractions in memory of their own, apart from each other; their marks. -/
set_option linter.unusedVariables false
set_option linter.unusedSimpArgs false
set_option maxRecDepth 100000
namespace Go.Proofs.YtfpnhggbfakdkaaDoor
open Go.RowKit

section
/-- A list of n fractions with room for c, in memory of its own from B on. -/
structure RRow (B : Nat) (w : World) (A : Option Addr) (n c : Nat) (xs : List Value) : Prop where
  len : xs.length = n * 3
  le : n ≤ c
  own : c = 0 ∨ ∃ g cs, A = some ⟨g, 0, none⟩ ∧ B ≤ g ∧ Blk w g TR cs ∧ c * 3 ≤ cs.size ∧ cs.toList.take (n * 3) = xs
variable {B : Nat} {w w' : World} {A : Option Addr} {n c : Nat} {xs : List Value}
theorem RRow.blk (h : RRow B w A n c xs) {g : Nat} (hg : blkOf A c = some g) : ∃ cs, A = some ⟨g, 0, none⟩ ∧ B ≤ g ∧ Blk w g TR cs ∧ c * 3 ≤ cs.size ∧ cs.toList.take (n * 3) = xs := by
  have h0 := blkOf_pos hg
  rcases h.own with e | ⟨g', cs, rfl, hB, hk, hc, ht⟩
  · omega
  · rw [blkOf_some h0] at hg
    cases hg
    exact ⟨cs, rfl, hB, hk, hc, ht⟩
theorem RRow.keep (h : RRow B w A n c xs) (k : ∀ g cs, blkOf A c = some g → Blk w g TR cs → Blk w' g TR cs) : RRow B w' A n c xs := by
  refine ⟨h.len, h.le, ?_⟩
  rcases Nat.eq_zero_or_pos c with h0 | h0
  · exact .inl h0
  · rcases h.own with e | ⟨g', cs, rfl, hB, hk, hc, ht⟩
    · omega
    · exact .inr ⟨g', cs, rfl, hB, k _ _ (blkOf_some h0) hk, hc, ht⟩
theorem RRow.at_ (h : RRow B w A n c xs) {i : Nat} (hi : i < n * 3) : ∃ g, A = some ⟨g, 0, none⟩ ∧ blkOf A c = some g ∧ B ≤ g ∧ g < w.heap.size ∧ w.cell? ⟨g, i, none⟩ = xs[i]? ∧ w.frozen? ⟨g, i, none⟩ = false := by
  have := h.le
  rcases h.own with e | ⟨g', cs, rfl, hB, hk, hc, ht⟩
  · omega
  · refine ⟨g', rfl, blkOf_some (by omega), hB, hk.lt, ?_, hk.frozen i⟩
    rw [hk.cell, ← ht, List.getElem?_take, if_pos hi, Array.getElem?_toList]
theorem RRow.set_ (h : RRow B w A n c xs) {i g : Nat} (hi : i < n * 3) (hg : blkOf A c = some g) (u : Value) : RRow B (w.setCell ⟨g, i, none⟩ u) A n c (xs.set i u) := by
  obtain ⟨cs, rfl, hB, hk, hc, ht⟩ := h.blk hg
  refine ⟨by rw [List.length_set]; exact h.len, h.le, .inr ⟨g, _, rfl, hB, hk.set_ i u, by simpa using hc, ?_⟩⟩
  rw [← ht, Array.toList_setIfInBounds, List.take_set]
end
section
/-- What is held: each list's cells, in blocks apart from the others'. -/
structure HeldR (B : Nat) (w : World) (es : List Ent) (X Y : Nat → List Value) : Prop where
  a : ∀ (i : Nat) (e : Ent), es[i]? = some e → RRow B w e.A e.n e.c (X i)
  l : ∀ (i : Nat) (e : Ent), es[i]? = some e → RRow B w e.L e.m e.d (Y i)
  apart : ∀ (i j : Nat) (e e' : Ent), i ≠ j → es[i]? = some e → es[j]? = some e' → ∀ g, e.has g → ¬ e'.has g
  two : ∀ (i : Nat) (e : Ent), es[i]? = some e → (e.L = e.A ∧ e.n ≤ e.m) ∨ ∀ g, blkOf e.L e.d = some g → blkOf e.A e.c ≠ some g
variable {B : Nat} {w w' : World} {es : List Ent} {X Y : Nat → List Value}
theorem HeldR.keep (h : HeldR B w es X Y) (k : ∀ g cs, B ≤ g → Blk w g TR cs → Blk w' g TR cs) : HeldR B w' es X Y := by
  refine ⟨fun i e he => (h.a i e he).keep fun g cs hg hk => ?_, fun i e he => (h.l i e he).keep fun g cs hg hk => ?_, h.apart, h.two⟩
  · obtain ⟨_, _, hB, _⟩ := (h.a i e he).blk hg
    exact k g cs hB hk
  · obtain ⟨_, _, hB, _⟩ := (h.l i e he).blk hg
    exact k g cs hB hk
theorem HeldR.lt (h : HeldR B w es X Y) {i : Nat} {e : Ent} (he : es[i]? = some e) {g : Nat} (hg : e.has g) : g < w.heap.size := by
  rcases hg with hg | hg
  · obtain ⟨_, _, _, hk, _⟩ := (h.a i e he).blk hg
    exact hk.lt
  · obtain ⟨_, _, _, hk, _⟩ := (h.l i e he).blk hg
    exact hk.lt
theorem HeldR.set_ (h : HeldR B w es X Y) (hd : ∀ (i : Nat) (e : Ent), es[i]? = some e → e.d = 0) {i j g : Nat} {e : Ent} (he : es[i]? = some e) (hj : j < e.n * 3) (hg : blkOf e.A e.c = some g) (u : Value) :
    HeldR B (w.setCell ⟨g, j, none⟩ u) es (upd X i ((X i).set j u)) Y := by
  refine ⟨fun i' e' he' => ?_, fun i' e' he' => (h.l i' e' he').keep fun g' cs hg' hk => ?_, h.apart, h.two⟩
  · by_cases hi : i' = i
    · subst hi
      rw [he] at he'
      cases he'
      rw [upd_same]
      exact (h.a _ _ he).set_ hj hg u
    · rw [upd_ne _ _ hi]
      exact (h.a _ _ he').keep fun g' cs hg' hk => hk.far (p := ⟨g, j, none⟩) (fun e0 => h.apart _ _ _ _ hi he' he g' (.inl hg') (.inl (by rw [e0]; exact hg))) u
  · rw [hd _ _ he'] at hg'
    simp [blkOf] at hg'
theorem HeldR.start (h : HeldR B w es X Y) {i : Nat} {e : Ent} (he : es[i]? = some e) : HeldR B w (es.set i ⟨e.A, e.n, e.c, e.A, e.n, e.c, e.k⟩) X (upd Y i (X i)) := by
  refine ⟨fun i' e' he' => ?_, fun i' e' he' => ?_, fun i' j' e1 e2 hne h1 h2 g hg1 hg2 => ?_, fun i' e' he' => ?_⟩
  · rcases get_set_cases he' with ⟨rfl, rfl⟩ | ⟨hi, h1⟩
    · exact h.a _ e he
    · exact h.a _ _ h1
  · rcases get_set_cases he' with ⟨rfl, rfl⟩ | ⟨hi, h1⟩
    · rw [upd_same]
      exact h.a _ _ he
    · rw [upd_ne _ _ hi]
      exact h.l _ _ h1
  · rcases get_set_cases h1 with ⟨rfl, rfl⟩ | ⟨hi, k1⟩ <;> rcases get_set_cases h2 with ⟨rfl, rfl⟩ | ⟨hi2, k2⟩
    · exact hne rfl
    · exact h.apart _ _ _ _ hne he k2 g (by rcases hg1 with x | x <;> exact .inl x) hg2
    · exact h.apart _ _ _ _ hne k1 he g hg1 (by rcases hg2 with x | x <;> exact .inl x)
    · exact h.apart _ _ _ _ hne k1 k2 g hg1 hg2
  · rcases get_set_cases he' with ⟨rfl, rfl⟩ | ⟨hi, h1⟩
    · exact .inl ⟨rfl, Nat.le_refl _⟩
    · exact h.two _ _ h1
theorem HeldR.push (h : HeldR B w es X Y) {i : Nat} {e : Ent} (he : es[i]? = some e) {A' : Option Addr} {c' : Nat} {x : List Value}
    (hrow : RRow B w' A' (e.m + 1) c' (Y i ++ x)) (hg : w.grownBy w' (blkOf e.L e.d)) (hk : ∀ m c2 ys, m ≤ e.m → RRow B w e.L m c2 ys → RRow B w' e.L m c2 ys) (hor : (A' = e.L ∧ c' = e.d) ∨ A' = some ⟨w.heap.size, 0, none⟩ ∧ Below w.heap.size w w') :
    HeldR B w' (es.set i ⟨e.A, e.n, e.c, A', e.m + 1, c', e.k⟩) X (upd Y i (Y i ++ x)) := by
  have hkp : ∀ g cs, g < w.heap.size → blkOf e.L e.d ≠ some g → Blk w g TR cs → Blk w' g TR cs := fun g cs hlt hne hb => hb.keep (hg.block g hlt (fun e0 => hne e0.symm))
  have hnew : ∀ g, blkOf A' c' = some g → blkOf e.L e.d = some g ∨ g = w.heap.size := fun g hg0 => by
    rcases hor with ⟨rfl, rfl⟩ | ⟨rfl, _⟩
    · exact .inl hg0
    · rw [blkOf_some (blkOf_pos hg0)] at hg0
      cases hg0
      exact .inr rfl
  have hoth : ∀ (i' : Nat) (e' : Ent), i' ≠ i → es[i']? = some e' → ∀ g cs, e'.has g → Blk w g TR cs → Blk w' g TR cs := fun i' e' hi h1 g cs hg0 hb =>
    hkp g cs hb.lt (fun e0 => h.apart _ _ _ _ hi h1 he g hg0 (.inr e0)) hb
  refine ⟨fun i' e' he' => ?_, fun i' e' he' => ?_, fun i' j' e1 e2 hne h1 h2 g hg1 hg2 => ?_, fun i' e' he' => ?_⟩
  · rcases get_set_cases he' with ⟨rfl, rfl⟩ | ⟨hi, h1⟩
    · rcases h.two _ _ he with ⟨e0, hn⟩ | hne
      · have := hk e.n e.c (X i') hn (by rw [e0]; exact h.a _ _ he)
        rw [e0] at this
        exact this
      · exact (h.a _ _ he).keep fun g cs hg0 hb => hkp g cs hb.lt (fun e0 => hne g e0 hg0) hb
    · exact (h.a _ _ h1).keep fun g cs hg0 hb => hoth _ _ hi h1 g cs (.inl hg0) hb
  · rcases get_set_cases he' with ⟨rfl, rfl⟩ | ⟨hi, h1⟩
    · rw [upd_same]
      exact hrow
    · rw [upd_ne _ _ hi]
      exact (h.l _ _ h1).keep fun g cs hg0 hb => hoth _ _ hi h1 g cs (.inr hg0) hb
  · have key : ∀ g, Ent.has ⟨e.A, e.n, e.c, A', e.m + 1, c', e.k⟩ g → e.has g ∨ g = w.heap.size := fun g hg0 => by
      rcases hg0 with x | x
      · exact .inl (.inl x)
      · rcases hnew g x with y | y
        · exact .inl (.inr y)
        · exact .inr y
    rcases get_set_cases h1 with ⟨rfl, rfl⟩ | ⟨hi, k1⟩ <;> rcases get_set_cases h2 with ⟨rfl, rfl⟩ | ⟨hi2, k2⟩
    · exact hne rfl
    · rcases key g hg1 with y | y
      · exact h.apart _ _ _ _ hne he k2 g y hg2
      · have := h.lt k2 hg2; omega
    · rcases key g hg2 with y | y
      · exact h.apart _ _ _ _ hne k1 he g hg1 y
      · have := h.lt k1 hg1; omega
    · exact h.apart _ _ _ _ hne k1 k2 g hg1 hg2
  · rcases get_set_cases he' with ⟨rfl, rfl⟩ | ⟨hi, h1⟩
    · rcases hor with ⟨rfl, rfl⟩ | ⟨rfl, _⟩
      · rcases h.two _ _ he with ⟨e0, hn⟩ | hne
        · exact .inl ⟨e0, Nat.le_succ_of_le hn⟩
        · exact .inr hne
      · refine .inr fun g hg0 hg1 => ?_
        rcases hnew g hg0 with y | y
        · rw [blkOf_some (blkOf_pos hg0)] at hg0
          cases hg0
          have := h.lt he (.inl hg1); omega
        · have := h.lt he (.inl hg1); omega
    · exact h.two _ _ h1
end
section
variable {B : Nat} {w w' : World} {A : Option Addr} {n c : Nat} {xs : List Value}
theorem RRow.other (h : RRow B w A n c xs) (hg : w.grownBy w' (blkOf A c)) {g : Nat} {t : TypeId} {cs : Array Value} (ht : t ≠ TR) (hk : Blk w g t cs) : Blk w' g t cs :=
  hk.keep (hg.block g hk.lt (fun e => by
    obtain ⟨cs', _, _, k2, _⟩ := h.blk e.symm
    exact hk.type_ne k2 ht rfl))
theorem RRow.base (h : RRow B w A n c xs) (hg : w.grownBy w' (blkOf A c)) (hB : B ≤ w.heap.size) : Below B w w' := (Below.refl B w).grown hg hB (fun q e => by
    obtain ⟨cs', _, h1, _⟩ := h.blk e
    exact h1)
end
theorem RRow.take {B : Nat} {w : World} {A : Option Addr} {n c m : Nat} {xs : List Value} (h : RRow B w A n c xs) (hm : m ≤ n) : RRow B w A m c (xs.take (m * 3)) := by
  refine ⟨by rw [List.length_take, h.len]; omega, Nat.le_trans hm h.le, ?_⟩
  rcases h.own with e | ⟨g, cs, e, hB, hk, hc, ht⟩
  · exact .inl e
  · exact .inr ⟨g, cs, e, hB, hk, hc, by rw [← ht, List.take_take, Nat.min_eq_left (by omega)]⟩
/-- m fractions that are marks of number k, newer than lo. -/
def Mks (w : World) (lo k m : Nat) (xs : List Value) : Prop :=
  ∀ j, j < m → xs[j * 3]? = some (.bool false) ∧ xs[j * 3 + 1]? = some (.slice none 0 0) ∧ ∃ q d cs, xs[j * 3 + 2]? = some (.slice (some ⟨q, 0, none⟩) 1 d) ∧ lo ≤ q ∧ Blk w q T32 cs ∧ cs[0]? = some (mk32 k)
theorem Mks.keep {w w' : World} {lo k m : Nat} {xs : List Value} (h : Mks w lo k m xs) (hk : ∀ q cs, lo ≤ q → Blk w q T32 cs → Blk w' q T32 cs) : Mks w' lo k m xs := fun j hj => by
  obtain ⟨h0, h1, q, d, cs, h2, h3, h4, h5⟩ := h j hj
  exact ⟨h0, h1, q, d, cs, h2, h3, hk q cs h3 h4, h5⟩
theorem Mks.low {w : World} {lo lo' k m : Nat} {xs : List Value} (h : Mks w lo k m xs) (hl : lo' ≤ lo) : Mks w lo' k m xs := fun j hj => by
  obtain ⟨h0, h1, q, d, cs, h2, h3, h4, h5⟩ := h j hj
  exact ⟨h0, h1, q, d, cs, h2, Nat.le_trans hl h3, h4, h5⟩
theorem Mks.snoc {w : World} {lo k m q d : Nat} {cs : Array Value} {xs : List Value} (h : Mks w lo k m xs) (hl : xs.length = m * 3) (hq : lo ≤ q) (hb : Blk w q T32 cs) (hc : cs[0]? = some (mk32 k)) : Mks w lo k (m + 1) (xs ++ [.bool false, .slice none 0 0, .slice (some ⟨q, 0, none⟩) 1 d]) := fun j hj => by
  by_cases h0 : j < m
  · obtain ⟨h0, h1, q, d, cs, h2, h3, h4, h5⟩ := h j h0
    refine ⟨?_, ?_, q, d, cs, ?_, h3, h4, h5⟩
    all_goals rw [List.getElem?_append_left (by omega)]; assumption
  · obtain rfl : j = m := by omega
    refine ⟨?_, ?_, q, d, cs, ?_, hq, hb, hc⟩
    · rw [List.getElem?_append_right (by omega), show j * 3 - xs.length = 0 by omega]; rfl
    · rw [List.getElem?_append_right (by omega), show j * 3 + 1 - xs.length = 1 by omega]; rfl
    · rw [List.getElem?_append_right (by omega), show j * 3 + 2 - xs.length = 2 by omega]; rfl
/-- One more mark, where its cells are overwritten. -/
theorem Mks.put {w : World} {lo k j q d : Nat} {cs : Array Value} {xs : List Value} (h : Mks w lo k j xs) (hl : (j + 1) * 3 ≤ xs.length) (hq : lo ≤ q) (hb : Blk w q T32 cs) (hc : cs[0]? = some (mk32 k)) :
    Mks w lo k (j + 1) (((xs.set (j * 3) (.bool false)).set (j * 3 + 1) (.slice none 0 0)).set (j * 3 + 2) (.slice (some ⟨q, 0, none⟩) 1 d)) := fun i hi => by
  by_cases h0 : i < j
  · obtain ⟨h0, h1, q, d, cs, h2, h3, h4, h5⟩ := h i h0
    refine ⟨?_, ?_, q, d, cs, ?_, h3, h4, h5⟩
    all_goals
      rw [List.getElem?_set_ne (by omega), List.getElem?_set_ne (by omega), List.getElem?_set_ne (by omega)]
      assumption
  · obtain rfl : i = j := by omega
    refine ⟨?_, ?_, q, d, cs, ?_, hq, hb, hc⟩
    · rw [List.getElem?_set_ne (by omega), List.getElem?_set_ne (by omega), List.getElem?_set_self (by omega)]
    · rw [List.getElem?_set_ne (by omega), List.getElem?_set_self (by rw [List.length_set]; omega)]
    · rw [List.getElem?_set_self (by rw [List.length_set, List.length_set]; omega)]
end Go.Proofs.YtfpnhggbfakdkaaDoor

/- the laws' Book where lists of fractions are held too: each list of parts is filled, grown, looked at. -/
set_option linter.unusedVariables false
set_option linter.unusedSimpArgs false
set_option maxRecDepth 100000
namespace Go.Proofs.YtfpnhggbfakdkaaDoor
open Go.RowKit

/-- Memory below B stays, and all blocks of another type than T. -/
structure BelT (T : TypeId) (B : Nat) (w w' : World) : Prop where
  base : Below B w w'
  keep : ∀ b t cs, t ≠ T → Blk w b t cs → Blk w' b t cs
theorem BelT.refl (T : TypeId) (B : Nat) (w : World) : BelT T B w w := ⟨Below.refl _ _, fun _ _ _ _ h => h⟩
theorem BelT.size {T : TypeId} {B : Nat} {w w' : World} (h : BelT T B w w') : w.heap.size ≤ w'.heap.size := h.base.size
theorem BelT.alloc {T : TypeId} {B : Nat} {w w' : World} (h : BelT T B w w') (hB : B ≤ w'.heap.size) (o : Obj) : BelT T B w (w'.alloc o) := ⟨h.base.alloc hB o, fun b t cs ht hk => (h.keep b t cs ht hk).alloc o⟩
theorem BelT.drew {T : TypeId} {B : Nat} {w w' : World} (h : BelT T B w w') : BelT T B w w'.drew := ⟨h.base.drew, fun b t cs ht hk => (h.keep b t cs ht hk).drew⟩
theorem BelT.setCell {T : TypeId} {B g j : Nat} {w w' : World} {cs : Array Value} (h : BelT T B w w') (hk : Blk w' g T cs) (hg : B ≤ g) (u : Value) : BelT T B w (w'.setCell ⟨g, j, none⟩ u) :=
  ⟨h.base.setCell (p := ⟨g, j, none⟩) hg u, fun b t cs' ht hk' => (h.keep b t cs' ht hk').far (p := ⟨g, j, none⟩) ((h.keep b t cs' ht hk').type_ne hk ht) u⟩
/-- A list that grows is older than lo, or new. -/
def Old (lo top : Nat) (es : List Ent) : Prop := ∀ (i : Nat) (e : Ent) g, es[i]? = some e → e.has g → g < lo ∨ top ≤ g
theorem Old.set_ {lo top i : Nat} {es : List Ent} {e1 : Ent} (h : Old lo top es) (he : ∀ g, e1.has g → g < lo ∨ top ≤ g) : Old lo top (es.set i e1) := by
  intro j e' g hj hg
  rcases get_set_cases hj with ⟨rfl, rfl⟩ | ⟨_, h1⟩
  · exact he g hg
  · exact h _ _ _ h1 hg
/-- All blocks stay, and memory below B. -/
structure BelA (B : Nat) (w w' : World) : Prop where
  base : Below B w w'
  keep : ∀ b t cs, Blk w b t cs → Blk w' b t cs
theorem BelA.refl (B : Nat) (w : World) : BelA B w w := ⟨Below.refl _ _, fun _ _ _ h => h⟩
theorem BelA.size {B : Nat} {w w' : World} (h : BelA B w w') : w.heap.size ≤ w'.heap.size := h.base.size
theorem BelA.alloc {B : Nat} {w w' : World} (h : BelA B w w') (hB : B ≤ w'.heap.size) (o : Obj) : BelA B w (w'.alloc o) := ⟨h.base.alloc hB o, fun b t cs hk => (h.keep b t cs hk).alloc o⟩
theorem BelA.drewN {B : Nat} {w w' : World} (h : BelA B w w') (q : Nat) : BelA B w (w'.drewN q) := ⟨below_drewN h.base q, fun b t cs hk => (h.keep b t cs hk).drewN q⟩
theorem BelA.below {B : Nat} {w w1 w2 : World} (h : BelA B w w1) (k : Below w1.heap.size w1 w2) (hB : B ≤ w1.heap.size) : BelA B w w2 := ⟨h.base.trans (k.mono hB), fun b t cs hk => (h.keep b t cs hk).below' k⟩
end Go.Proofs.YtfpnhggbfakdkaaDoor

/- the laws' Book: each list of fractions is filled with its mark, grown, looked at. -/
set_option linter.unusedVariables false
set_option linter.unusedSimpArgs false
set_option maxRecDepth 100000
namespace Go.Proofs.YtfpnhggbfakdkaaDoor
open Go.RowKit

/-- The first i entries are grown. -/
structure GrownR (w : World) (lo : Nat) (es : List Ent) (i : Nat) (es' : List Ent) (Y : Nat → List Value) : Prop where
  len : es'.length = es.length
  same : ∀ (j : Nat) (e' : Ent), es'[j]? = some e' → ∃ e, es[j]? = some e ∧ e'.A = e.A ∧ e'.n = e.n ∧ e'.c = e.c ∧ e'.k = e.k
  done : ∀ (j : Nat) (e' : Ent), j < i → es'[j]? = some e' → e'.m = e'.n + 40 ∧ Mks w lo e'.k (e'.n + 40) (Y j)
theorem GrownR.keep {w w' : World} {lo i : Nat} {es es' : List Ent} {Y : Nat → List Value} (h : GrownR w lo es i es' Y) (k : ∀ g cs, Blk w g T32 cs → Blk w' g T32 cs) : GrownR w' lo es i es' Y :=
  ⟨h.len, h.same, fun j e' hj he => ⟨(h.done j e' hj he).1, (h.done j e' hj he).2.keep fun g cs _ hk => k g cs hk⟩⟩
end Go.Proofs.YtfpnhggbfakdkaaDoor

/- the laws' Book: each list of fractions that is held is looked at. -/
set_option linter.unusedVariables false
set_option linter.unusedSimpArgs false
set_option maxRecDepth 100000
namespace Go.Proofs.YtfpnhggbfakdkaaDoor
open Go.RowKit

theorem RRow.mark {B : Nat} {w : World} {A : Option Addr} {n c lo k : Nat} {xs : List Value} (h : RRow B w A n c xs) (m : Mks w lo k n xs) {j : Nat} (hj : j < n) :
    ∃ g q d cs, A = some ⟨g, 0, none⟩ ∧ w.cell? ⟨g, j * 3, none⟩ = some (.bool false) ∧ w.cell? ⟨g, j * 3 + 1, none⟩ = some (.slice none 0 0) ∧ w.cell? ⟨g, j * 3 + 2, none⟩ = some (.slice (some ⟨q, 0, none⟩) 1 d) ∧ Hid (Blk w q T32 cs) ∧ Hid (cs[0]? = some (mk32 k)) := by
  obtain ⟨h0, h1, q, d, cs, h2, h3, h4, h5⟩ := m j hj
  obtain ⟨g, e, _, _, _, c0, _⟩ := h.at_ (i := j * 3) (by omega)
  obtain ⟨g1, e1, _, _, _, c1, _⟩ := h.at_ (i := j * 3 + 1) (by omega)
  obtain ⟨g2, e2, _, _, _, c2, _⟩ := h.at_ (i := j * 3 + 2) (by omega)
  rw [e] at e1 e2
  cases e1
  cases e2
  exact ⟨g, q, d, cs, e, by rw [c0, h0], by rw [c1, h1], by rw [c2, h2], h4, h5⟩
end Go.Proofs.YtfpnhggbfakdkaaDoor

/- the laws' Book where lists of fractions are held too: Apart. -/
set_option linter.unusedVariables false
set_option linter.unusedSimpArgs false
set_option maxRecDepth 100000
namespace Go.Proofs.YtfpnhggbfakdkaaDoor
open Go.RowKit

/-- Lists of fractions that are held, each in a block of its own, of number at most hi. -/
def HBR (B hi : Nat) (w : World) (fs : List Ent) : Prop :=
  ∃ X Y, HeldR B w fs X Y ∧ (∀ (i : Nat) (e : Ent) g, fs[i]? = some e → e.has g → g < hi) ∧ ∀ e ∈ fs, e.k ≤ 100000 ∧ e.n ≤ 500000 ∧ e.d = 0
theorem HBR.nil (B hi : Nat) (w : World) : HBR B hi w [] :=
  ⟨fun _ => [], fun _ => [], ⟨fun i e h => by simp at h, fun i e h => by simp at h, fun i j e e' _ h => by simp at h, fun i e h => by simp at h⟩, fun i e g h => by simp at h, fun e h => by simp at h⟩
theorem HBR.keep {B hi : Nat} {w w' : World} {fs : List Ent} (h : HBR B hi w fs) (k : ∀ g cs, Blk w g TR cs → Blk w' g TR cs) : HBR B hi w' fs := by
  obtain ⟨X, Y, h1, h2, h3⟩ := h
  exact ⟨X, Y, h1.keep fun g cs _ hk => k g cs hk, h2, h3⟩
theorem HBR.bel {B hi : Nat} {w w' : World} {fs : List Ent} (h : HBR B hi w fs) (k : Below w.heap.size w w') : HBR B hi w' fs := h.keep fun g cs hk => hk.below' k
theorem HBR.up {B hi hi' : Nat} {w : World} {fs : List Ent} (h : HBR B hi w fs) (hh : hi ≤ hi') : HBR B hi' w fs := by
  obtain ⟨X, Y, h1, h2, h3⟩ := h
  exact ⟨X, Y, h1, fun i e g he hg => Nat.lt_of_lt_of_le (h2 i e g he hg) hh, h3⟩
theorem HBR.snoc {B hi hi' : Nat} {w : World} {es : List Ent} (h : HBR B hi w es) {A : Option Addr} {n c : Nat} {xs : List Value} (l : RRow hi w A n c xs) (hh : hi' = w.heap.size) (hB : B ≤ hi) (hw : hi ≤ w.heap.size) (hn : n ≤ 500000) {k : Nat} (hk : k ≤ 100000) : HBR B hi' w (es ++ [⟨A, n, c, none, 0, 0, k⟩]) := by
  subst hh
  obtain ⟨X, Y, h1, h2, h3⟩ := h
  have hl : ∀ g, blkOf A c = some g → hi ≤ g ∧ g < w.heap.size := fun g hg => by
    obtain ⟨cs, _, e1, e2, _⟩ := l.blk hg
    exact ⟨e1, e2.lt⟩
  have hcase : ∀ (i : Nat) (e : Ent), (es ++ [⟨A, n, c, none, 0, 0, k⟩])[i]? = some e → (es[i]? = some e ∧ i < es.length) ∨ (i = es.length ∧ e = ⟨A, n, c, none, 0, 0, k⟩) := fun i e he => by
    by_cases hi : i < es.length
    · rw [List.getElem?_append_left hi] at he
      exact .inl ⟨he, hi⟩
    · rw [List.getElem?_append_right (by omega)] at he
      have := (List.getElem?_eq_some_iff.1 he).1
      simp at this
      obtain rfl : i = es.length := by omega
      simp at he
      exact .inr ⟨rfl, he.symm⟩
  have hnew : ∀ g, Ent.has ⟨A, n, c, none, 0, 0, k⟩ g → blkOf A c = some g := fun g hg => by
    rcases hg with x | x
    · exact x
    · simp [blkOf] at x
  refine ⟨upd X es.length xs, upd Y es.length [], ⟨fun i e he => ?_, fun i e he => ?_, fun i j e e' hne he he' g hg hg' => ?_, fun i e he => ?_⟩, fun i e g he hg => ?_, fun e he => ?_⟩
  · rcases hcase i e he with ⟨x, y⟩ | ⟨rfl, rfl⟩
    · rw [upd_ne _ _ (by omega)]; exact h1.a _ _ x
    · rw [upd_same]
      refine ⟨l.len, l.le, ?_⟩
      rcases l.own with z | ⟨g, cs, z1, z2, z3⟩
      · exact .inl z
      · exact .inr ⟨g, cs, z1, Nat.le_trans hB z2, z3⟩
  · rcases hcase i e he with ⟨x, y⟩ | ⟨rfl, rfl⟩
    · rw [upd_ne _ _ (by omega)]; exact h1.l _ _ x
    · rw [upd_same]; exact ⟨rfl, Nat.le_refl _, .inl rfl⟩
  · rcases hcase i e he with ⟨x, y⟩ | ⟨rfl, rfl⟩ <;> rcases hcase j e' he' with ⟨x', y'⟩ | ⟨rfl, rfl⟩
    · exact h1.apart _ _ _ _ hne x x' g hg hg'
    · have := h2 _ _ _ x hg
      have := hl g (hnew g hg')
      omega
    · have := h2 _ _ _ x' hg'
      have := hl g (hnew g hg)
      omega
    · exact hne rfl
  · rcases hcase i e he with ⟨x, y⟩ | ⟨rfl, rfl⟩
    · exact h1.two _ _ x
    · exact .inr fun g hg => by simp [blkOf] at hg
  · rcases hcase i e he with ⟨x, y⟩ | ⟨rfl, rfl⟩
    · have := h2 _ _ _ x hg
      omega
    · exact (hl g (hnew g hg)).2
  · rcases List.mem_append.1 he with x | x
    · exact h3 e x
    · simp at x
      subst x
      exact ⟨hk, hn, rfl⟩
end Go.Proofs.YtfpnhggbfakdkaaDoor
