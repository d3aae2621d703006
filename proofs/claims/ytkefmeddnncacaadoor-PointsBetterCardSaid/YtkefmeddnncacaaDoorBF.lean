/- The laws' Book where lists of fractions are held too: kept, filled, grown, looked at, apart. -/
import Derived.Test.YtkefmeddnncacaaDoorBK
import Derived.Test.YtkefmeddnncacaaDoorVA
import Derived.Test.YtkefmeddnncacaaDoorFR
/- the laws' Book where lists of fractions are held too: words; one more is kept. -/
set_option linter.unusedVariables false
set_option linter.unusedSimpArgs false
set_option maxRecDepth 100000
namespace Go.Proofs.YtkefmeddnncacaaDoor
open Go.RowKit

abbrev THR : TypeId := 124
abbrev bkF (num : Nat) (v u : Value) : Array Value := #[.int .i64 (num : Nat), .slice none 0 0, v, .slice none 0 0, .slice none 0 0, .slice none 0 0, .slice none 0 0, .slice none 0 0, u, .slice none 0 0, .slice none 0 0, .slice none 0 0, .slice none 0 0]
/-- The Book: its numbers' part, whatever its fractions' part be. -/
structure BookU (u : Value) (B : Nat) (w : World) (g num : Nat) (v : Value) (es : List Ent) : Prop where
  blk : Blk w g TBK (bkF num v u)
  own : B ≤ g
  row : w.ownsRow B TH 3 v es.length (flatE es)
/-- The Book: its fractions' part. -/
structure BookV (v : Value) (B : Nat) (w : World) (g num : Nat) (u : Value) (fs : List Ent) : Prop where
  blk : Blk w g TBK (bkF num v u)
  own : B ≤ g
  row : w.ownsRow B THR 3 u fs.length (flatE fs)
/-- The Book: both. -/
structure BookF (B : Nat) (w : World) (g num : Nat) (v u : Value) (es fs : List Ent) : Prop where
  U : BookU u B w g num v es
  V : BookV v B w g num u fs
/-- All blocks but the Book's own stay, and memory below B. -/
structure KpV (B : Nat) (w w' : World) : Prop where
  base : Below B w w'
  nums : ∀ b t cs, t ≠ TBK → t ≠ THR → Blk w b t cs → Blk w' b t cs
structure KpF (B : Nat) (w w' : World) : Prop where
  base : Below B w w'
  nums : ∀ b t cs, t ≠ TBK → t ≠ TH → t ≠ THR → Blk w b t cs → Blk w' b t cs
theorem Kp.f {B : Nat} {a b : World} (h : Kp B a b) : KpF B a b := ⟨h.base, fun b t cs n1 n2 _ x => h.nums b t cs n1 n2 x⟩
theorem KpV.f {B : Nat} {a b : World} (h : KpV B a b) : KpF B a b := ⟨h.base, fun b t cs n1 _ n2 x => h.nums b t cs n1 n2 x⟩
theorem own_keepT {t : TypeId} {w w' : World} {B n : Nat} {v : Value} {xs : List Value} (h : w.ownsRow B t 3 v n xs) (k : ∀ r cs, Blk w r t cs → Blk w' r t cs) : w'.ownsRow B t 3 v n xs := by
  refine ⟨h.1, ?_⟩
  rcases h.2 with e | ⟨r, cap, cur, e, hB, hh, rest⟩
  · exact .inl e
  · exact .inr ⟨r, cap, cur, e, hB, (k r cur ⟨hh⟩).eq, rest⟩
theorem BookU.keep {B : Nat} {w w' : World} {g num : Nat} {v u : Value} {es : List Ent} (h : BookU u B w g num v es) (k : ∀ g t cs, t ≠ T32 → t ≠ TR → Blk w g t cs → Blk w' g t cs) : BookU u B w' g num v es :=
  ⟨k _ _ _ (by decide) (by decide) h.blk, h.own, own_keepT h.row fun r cs hk => k r TH cs (by decide) (by decide) hk⟩
theorem BookV.keep {B : Nat} {w w' : World} {g num : Nat} {v u : Value} {es : List Ent} (h : BookV v B w g num u es) (k : ∀ g t cs, t ≠ T32 → t ≠ TR → Blk w g t cs → Blk w' g t cs) : BookV v B w' g num u es :=
  ⟨k _ _ _ (by decide) (by decide) h.blk, h.own, own_keepT h.row fun r cs hk => k r THR cs (by decide) (by decide) hk⟩
theorem BookF.keep {B : Nat} {w w' : World} {g num : Nat} {v u : Value} {es fs : List Ent} (h : BookF B w g num v u es fs) (k : ∀ g t cs, t ≠ T32 → t ≠ TR → Blk w g t cs → Blk w' g t cs) : BookF B w' g num v u es fs := ⟨h.U.keep k, h.V.keep k⟩
end Go.Proofs.YtkefmeddnncacaaDoor

/- the laws' Book: lists of fractions in memory of their own, apart from each other; their marks. -/
set_option linter.unusedVariables false
set_option linter.unusedSimpArgs false
set_option maxRecDepth 100000
namespace Go.Proofs.YtkefmeddnncacaaDoor
open Go.RowKit

section
/-- A list of n fractions with room for c, in memory of its own from B on. -/
structure RRow (B : Nat) (w : World) (A : Option Addr) (n c : Nat) (xs : List Value) : Prop where
  len : xs.length = n * 3
  le : n ≤ c
  own : c = 0 ∨ ∃ g cs, A = some ⟨g, 0, none⟩ ∧ B ≤ g ∧ Blk w g TR cs ∧ c * 3 ≤ cs.size ∧ cs.toList.take (n * 3) = xs
variable {B : Nat} {w w' : World} {A : Option Addr} {n c : Nat} {xs : List Value}
theorem RRow.blk (h : RRow B w A n c xs) {g : Nat} (hg : blkOf A c = some g) : ∃ cs, A = some ⟨g, 0, none⟩ ∧ B ≤ g ∧ Blk w g TR cs ∧ c * 3 ≤ cs.size ∧ cs.toList.take (n * 3) = xs := by
  have h0 := blkOf_pos hg
  rcases h.own with e | ⟨g', cs, rfl, hB, hk, hc, ht⟩
  · omega
  · rw [blkOf_some h0] at hg
    cases hg
    exact ⟨cs, rfl, hB, hk, hc, ht⟩
theorem RRow.keep (h : RRow B w A n c xs) (k : ∀ g cs, blkOf A c = some g → Blk w g TR cs → Blk w' g TR cs) : RRow B w' A n c xs := by
  refine ⟨h.len, h.le, ?_⟩
  rcases Nat.eq_zero_or_pos c with h0 | h0
  · exact .inl h0
  · rcases h.own with e | ⟨g', cs, rfl, hB, hk, hc, ht⟩
    · omega
    · exact .inr ⟨g', cs, rfl, hB, k _ _ (blkOf_some h0) hk, hc, ht⟩
theorem RRow.at_ (h : RRow B w A n c xs) {i : Nat} (hi : i < n * 3) : ∃ g, A = some ⟨g, 0, none⟩ ∧ blkOf A c = some g ∧ B ≤ g ∧ g < w.heap.size ∧ w.cell? ⟨g, i, none⟩ = xs[i]? ∧ w.frozen? ⟨g, i, none⟩ = false := by
  have := h.le
  rcases h.own with e | ⟨g', cs, rfl, hB, hk, hc, ht⟩
  · omega
  · refine ⟨g', rfl, blkOf_some (by omega), hB, hk.lt, ?_, hk.frozen i⟩
    rw [hk.cell, ← ht, List.getElem?_take, if_pos hi, Array.getElem?_toList]
theorem RRow.set_ (h : RRow B w A n c xs) {i g : Nat} (hi : i < n * 3) (hg : blkOf A c = some g) (u : Value) : RRow B (w.setCell ⟨g, i, none⟩ u) A n c (xs.set i u) := by
  obtain ⟨cs, rfl, hB, hk, hc, ht⟩ := h.blk hg
  refine ⟨by rw [List.length_set]; exact h.len, h.le, .inr ⟨g, _, rfl, hB, hk.set_ i u, by simpa using hc, ?_⟩⟩
  rw [← ht, Array.toList_setIfInBounds, List.take_set]
/-- append of one fraction. -/
theorem app1R {P : Program} {t : TypeId} (ht : P.underlying t = some (.slice TR)) (he : (P.info? TR).map (fun i => (i.zero, i.size, i.bytes)) = some (some (.agg #[.bool false, .slice none 0 0, .slice none 0 0]), 3, 56)) (ty : TypeId)
    (h : RRow B w A n c xs) (hB : B ≤ w.heap.size) (hn : n ≤ 1000000) (x0 x1 x2 : Value) (h1 : ∀ u ∈ [x0, x1, x2], u.oneCell' = true) (ad : Addr) (cc : Nat) (hnews : ∀ (j : Nat) u, [x0, x1, x2][j]? = some u → w.cell? (ad.add j) = some u) :
    ∃ A' c' w', (Builtin.append_ #[t, t] ty #[.slice A n c, .slice (some ad) 1 cc]).run P w = .ok (.slice A' (n + 1) c') w' ∧ RRow B w' A' (n + 1) c' (xs ++ [x0, x1, x2]) ∧ w.grownBy w' (blkOf A c) ∧ (∀ m c2 ys, m ≤ n → RRow B w A m c2 ys → RRow B w' A m c2 ys) ∧ ((A' = A ∧ c' = c) ∨ A' = some ⟨w.heap.size, 0, none⟩ ∧ Below w.heap.size w w') := by
  obtain ⟨i0, hi, hz0, hz1, hz2⟩ := info_parts he
  by_cases hlt : n < c
  · rcases h.own with e | ⟨g, cs, rfl, hg, hk, hc, htk⟩
    · omega
    · have hr := run_append_room (P := P) w t ty TR i0 ht hi g n c cs hk.eq ad 1 cc [x0, x1, x2] (by rw [hz1]; rfl) hnews h1 hlt (by rw [hz1]; simp; omega)
      rw [hz1] at hr
      have hk' := setRow_heap w g cs ((cs.toList.take (n * 3) ++ [x0, x1, x2] ++ cs.toList.drop (n * 3 + [x0, x1, x2].length)).toArray) TR _ hk.eq
      have hL : ∀ (m c2 : Nat) (ys : List Value), m ≤ n → RRow B w (some ⟨g, 0, none⟩) m c2 ys → RRow B (w.setRow g (cs.toList.take (n * 3) ++ [x0, x1, x2] ++ cs.toList.drop (n * 3 + [x0, x1, x2].length)).toArray) (some ⟨g, 0, none⟩) m c2 ys := by
        intro m c2 ys hm l
        refine ⟨l.len, l.le, ?_⟩
        rcases l.own with e | ⟨g', cs', e, hg', hk2, hc', ht'⟩
        · exact .inl e
        · cases e
          have ecs : cs' = cs := by
            have := hk2.eq.symm.trans hk.eq
            simpa using this
          subst ecs
          refine .inr ⟨g, _, rfl, hg, ⟨hk'⟩, ?_, ?_⟩
          · simp only [List.size_toArray, List.length_append, List.length_take, List.length_drop, Array.length_toList, List.length_cons, List.length_nil]
            omega
          · rw [← ht']
            simp only [List.append_assoc]
            rw [List.take_append_of_le_length (by simp; omega), List.take_take, Nat.min_eq_left (by omega)]
      refine ⟨_, c, _, hr, ⟨by simp [h.len]; omega, hlt, .inr ⟨g, _, rfl, hg, ⟨hk'⟩, ?_, ?_⟩⟩, ⟨rfl, rfl, rfl, by simp, fun k _ hk => setRow_other w g k _ (fun e => hk (by rw [blkOf_some (by omega), e]))⟩, hL, .inl ⟨rfl, rfl⟩⟩
      · simp only [List.size_toArray, List.length_append, List.length_take, List.length_drop, Array.length_toList, List.length_cons, List.length_nil]
        omega
      · have hl : (cs.toList.take (n * 3) ++ [x0, x1, x2]).length = (n + 1) * 3 := by simp; omega
        rw [show (cs.toList.take (n * 3) ++ [x0, x1, x2] ++ cs.toList.drop (n * 3 + [x0, x1, x2].length)).toArray.toList = cs.toList.take (n * 3) ++ [x0, x1, x2] ++ cs.toList.drop (n * 3 + [x0, x1, x2].length) from rfl, List.take_append_of_le_length (by omega), List.take_of_length_le (by omega), htk]
  · have hnc : n = c := by have := h.le; omega
    have grown : ∀ w'', w'' = w.drew.alloc (.cells (xs.toArray ++ [x0, x1, x2].toArray ++ Builtin.zeroCells (Value.agg #[.bool false, .slice none 0 0, .slice none 0 0]).cells (grownCap w (n + 1) c TR - (n + 1))) TR) →
        RRow B w'' (some ⟨w.heap.size, 0, none⟩) (n + 1) (grownCap w (n + 1) c TR) (xs ++ [x0, x1, x2]) ∧ w.grownBy w'' (blkOf A c) ∧ (∀ m c2 ys, m ≤ n → RRow B w A m c2 ys → RRow B w'' A m c2 ys) ∧ Below w.heap.size w w'' := by
      rintro _ rfl
      have hge := grownCap_ge w (n + 1) c TR
      have hb : Below w.heap.size w (w.drew.alloc (.cells (xs.toArray ++ [x0, x1, x2].toArray ++ Builtin.zeroCells (Value.agg #[.bool false, .slice none 0 0, .slice none 0 0]).cells (grownCap w (n + 1) c TR - (n + 1))) TR)) := (Below.refl _ w).drew.alloc (Nat.le_refl _) _
      refine ⟨⟨by simp [h.len]; omega, hge, .inr ⟨w.heap.size, _, rfl, hB, ⟨heap_alloc_new w.drew _⟩, ?_, ?_⟩⟩, ⟨rfl, rfl, rfl, by simp, fun k hk _ => hb.block k hk⟩, fun m c2 ys _ l => l.keep fun g cs _ hk => hk.below' hb, hb⟩
      · simp only [Array.size_append, List.size_toArray, size_zeroCells, h.len, List.length_cons, List.length_nil, show (Value.agg #[.bool false, .slice none 0 0, .slice none 0 0]).cells.size = 3 from rfl]
        omega
      · simp only [Array.toList_append, List.append_assoc]
        rw [← List.append_assoc, List.take_append_of_le_length (by simp [h.len]; omega), List.take_of_length_le (by simp [h.len]; omega)]
    rcases A with _ | b
    · have h0 : c = 0 := by
        rcases h.own with e | ⟨g, cs, e, _⟩
        · exact e
        · cases e
      subst h0
      subst hnc
      have hx0 : xs = [] := List.eq_nil_of_length_eq_zero h.len
      subst hx0
      have hr := run_append_nil (P := P) w t ty TR i0 (.agg #[.bool false, .slice none 0 0, .slice none 0 0]) ht hi hz0 ad 1 cc [x0, x1, x2] (by rw [hz1]; rfl) hnews (by omega) (by omega) (by rw [hz2]; omega)
      obtain ⟨g1, g2, g3, g4⟩ := grown _ rfl
      simp only [Nat.zero_add, List.nil_append, Array.empty_append] at g1 g2 g3 g4 ⊢
      exact ⟨_, _, _, hr, g1, g2, g3, .inr ⟨rfl, g4⟩⟩
    · have holds : ∀ (j : Nat) u, xs[j]? = some u → w.cell? (b.add j) = some u := fun j u hj => by
        have hj2 : j < n * 3 := by rw [← h.len]; exact (List.getElem?_eq_some_iff.1 hj).1
        obtain ⟨g, e, _, _, _, hc, _⟩ := h.at_ hj2
        cases e
        rw [add0, hc, hj]
      have hr := run_append_grow (P := P) w t ty TR i0 (.agg #[.bool false, .slice none 0 0, .slice none 0 0]) ht hi hz0 b n c xs (by rw [hz1, h.len]) holds ad 1 cc [x0, x1, x2] (by rw [hz1]; rfl) hnews (by omega) (by omega) (by rw [hz2]; exact growslice_fits (by omega) (by omega))
      obtain ⟨g1, g2, g3, g4⟩ := grown _ rfl
      exact ⟨_, _, _, hr, g1, g2, g3, .inr ⟨rfl, g4⟩⟩
end
section
/-- What is held: each list's cells, in blocks apart from the others'. -/
structure HeldR (B : Nat) (w : World) (es : List Ent) (X Y : Nat → List Value) : Prop where
  a : ∀ (i : Nat) (e : Ent), es[i]? = some e → RRow B w e.A e.n e.c (X i)
  l : ∀ (i : Nat) (e : Ent), es[i]? = some e → RRow B w e.L e.m e.d (Y i)
  apart : ∀ (i j : Nat) (e e' : Ent), i ≠ j → es[i]? = some e → es[j]? = some e' → ∀ g, e.has g → ¬ e'.has g
  two : ∀ (i : Nat) (e : Ent), es[i]? = some e → (e.L = e.A ∧ e.n ≤ e.m) ∨ ∀ g, blkOf e.L e.d = some g → blkOf e.A e.c ≠ some g
variable {B : Nat} {w w' : World} {es : List Ent} {X Y : Nat → List Value}
theorem HeldR.keep (h : HeldR B w es X Y) (k : ∀ g cs, B ≤ g → Blk w g TR cs → Blk w' g TR cs) : HeldR B w' es X Y := by
  refine ⟨fun i e he => (h.a i e he).keep fun g cs hg hk => ?_, fun i e he => (h.l i e he).keep fun g cs hg hk => ?_, h.apart, h.two⟩
  · obtain ⟨_, _, hB, _⟩ := (h.a i e he).blk hg
    exact k g cs hB hk
  · obtain ⟨_, _, hB, _⟩ := (h.l i e he).blk hg
    exact k g cs hB hk
theorem HeldR.lt (h : HeldR B w es X Y) {i : Nat} {e : Ent} (he : es[i]? = some e) {g : Nat} (hg : e.has g) : g < w.heap.size := by
  rcases hg with hg | hg
  · obtain ⟨_, _, _, hk, _⟩ := (h.a i e he).blk hg
    exact hk.lt
  · obtain ⟨_, _, _, hk, _⟩ := (h.l i e he).blk hg
    exact hk.lt
theorem HeldR.set_ (h : HeldR B w es X Y) (hd : ∀ (i : Nat) (e : Ent), es[i]? = some e → e.d = 0) {i j g : Nat} {e : Ent} (he : es[i]? = some e) (hj : j < e.n * 3) (hg : blkOf e.A e.c = some g) (u : Value) :
    HeldR B (w.setCell ⟨g, j, none⟩ u) es (upd X i ((X i).set j u)) Y := by
  refine ⟨fun i' e' he' => ?_, fun i' e' he' => (h.l i' e' he').keep fun g' cs hg' hk => ?_, h.apart, h.two⟩
  · by_cases hi : i' = i
    · subst hi
      rw [he] at he'
      cases he'
      rw [upd_same]
      exact (h.a _ _ he).set_ hj hg u
    · rw [upd_ne _ _ hi]
      exact (h.a _ _ he').keep fun g' cs hg' hk => hk.far (p := ⟨g, j, none⟩) (fun e0 => h.apart _ _ _ _ hi he' he g' (.inl hg') (.inl (by rw [e0]; exact hg))) u
  · rw [hd _ _ he'] at hg'
    simp [blkOf] at hg'
theorem HeldR.start (h : HeldR B w es X Y) {i : Nat} {e : Ent} (he : es[i]? = some e) : HeldR B w (es.set i ⟨e.A, e.n, e.c, e.A, e.n, e.c, e.k⟩) X (upd Y i (X i)) := by
  refine ⟨fun i' e' he' => ?_, fun i' e' he' => ?_, fun i' j' e1 e2 hne h1 h2 g hg1 hg2 => ?_, fun i' e' he' => ?_⟩
  · rcases get_set_cases he' with ⟨rfl, rfl⟩ | ⟨hi, h1⟩
    · exact h.a _ e he
    · exact h.a _ _ h1
  · rcases get_set_cases he' with ⟨rfl, rfl⟩ | ⟨hi, h1⟩
    · rw [upd_same]
      exact h.a _ _ he
    · rw [upd_ne _ _ hi]
      exact h.l _ _ h1
  · rcases get_set_cases h1 with ⟨rfl, rfl⟩ | ⟨hi, k1⟩ <;> rcases get_set_cases h2 with ⟨rfl, rfl⟩ | ⟨hi2, k2⟩
    · exact hne rfl
    · exact h.apart _ _ _ _ hne he k2 g (by rcases hg1 with x | x <;> exact .inl x) hg2
    · exact h.apart _ _ _ _ hne k1 he g hg1 (by rcases hg2 with x | x <;> exact .inl x)
    · exact h.apart _ _ _ _ hne k1 k2 g hg1 hg2
  · rcases get_set_cases he' with ⟨rfl, rfl⟩ | ⟨hi, h1⟩
    · exact .inl ⟨rfl, Nat.le_refl _⟩
    · exact h.two _ _ h1
theorem HeldR.push (h : HeldR B w es X Y) {i : Nat} {e : Ent} (he : es[i]? = some e) {A' : Option Addr} {c' : Nat} {x : List Value}
    (hrow : RRow B w' A' (e.m + 1) c' (Y i ++ x)) (hg : w.grownBy w' (blkOf e.L e.d)) (hk : ∀ m c2 ys, m ≤ e.m → RRow B w e.L m c2 ys → RRow B w' e.L m c2 ys) (hor : (A' = e.L ∧ c' = e.d) ∨ A' = some ⟨w.heap.size, 0, none⟩ ∧ Below w.heap.size w w') :
    HeldR B w' (es.set i ⟨e.A, e.n, e.c, A', e.m + 1, c', e.k⟩) X (upd Y i (Y i ++ x)) := by
  have hkp : ∀ g cs, g < w.heap.size → blkOf e.L e.d ≠ some g → Blk w g TR cs → Blk w' g TR cs := fun g cs hlt hne hb => hb.keep (hg.block g hlt (fun e0 => hne e0.symm))
  have hnew : ∀ g, blkOf A' c' = some g → blkOf e.L e.d = some g ∨ g = w.heap.size := fun g hg0 => by
    rcases hor with ⟨rfl, rfl⟩ | ⟨rfl, _⟩
    · exact .inl hg0
    · rw [blkOf_some (blkOf_pos hg0)] at hg0
      cases hg0
      exact .inr rfl
  have hoth : ∀ (i' : Nat) (e' : Ent), i' ≠ i → es[i']? = some e' → ∀ g cs, e'.has g → Blk w g TR cs → Blk w' g TR cs := fun i' e' hi h1 g cs hg0 hb =>
    hkp g cs hb.lt (fun e0 => h.apart _ _ _ _ hi h1 he g hg0 (.inr e0)) hb
  refine ⟨fun i' e' he' => ?_, fun i' e' he' => ?_, fun i' j' e1 e2 hne h1 h2 g hg1 hg2 => ?_, fun i' e' he' => ?_⟩
  · rcases get_set_cases he' with ⟨rfl, rfl⟩ | ⟨hi, h1⟩
    · rcases h.two _ _ he with ⟨e0, hn⟩ | hne
      · have := hk e.n e.c (X i') hn (by rw [e0]; exact h.a _ _ he)
        rw [e0] at this
        exact this
      · exact (h.a _ _ he).keep fun g cs hg0 hb => hkp g cs hb.lt (fun e0 => hne g e0 hg0) hb
    · exact (h.a _ _ h1).keep fun g cs hg0 hb => hoth _ _ hi h1 g cs (.inl hg0) hb
  · rcases get_set_cases he' with ⟨rfl, rfl⟩ | ⟨hi, h1⟩
    · rw [upd_same]
      exact hrow
    · rw [upd_ne _ _ hi]
      exact (h.l _ _ h1).keep fun g cs hg0 hb => hoth _ _ hi h1 g cs (.inr hg0) hb
  · have key : ∀ g, Ent.has ⟨e.A, e.n, e.c, A', e.m + 1, c', e.k⟩ g → e.has g ∨ g = w.heap.size := fun g hg0 => by
      rcases hg0 with x | x
      · exact .inl (.inl x)
      · rcases hnew g x with y | y
        · exact .inl (.inr y)
        · exact .inr y
    rcases get_set_cases h1 with ⟨rfl, rfl⟩ | ⟨hi, k1⟩ <;> rcases get_set_cases h2 with ⟨rfl, rfl⟩ | ⟨hi2, k2⟩
    · exact hne rfl
    · rcases key g hg1 with y | y
      · exact h.apart _ _ _ _ hne he k2 g y hg2
      · have := h.lt k2 hg2; omega
    · rcases key g hg2 with y | y
      · exact h.apart _ _ _ _ hne k1 he g hg1 y
      · have := h.lt k1 hg1; omega
    · exact h.apart _ _ _ _ hne k1 k2 g hg1 hg2
  · rcases get_set_cases he' with ⟨rfl, rfl⟩ | ⟨hi, h1⟩
    · rcases hor with ⟨rfl, rfl⟩ | ⟨rfl, _⟩
      · rcases h.two _ _ he with ⟨e0, hn⟩ | hne
        · exact .inl ⟨e0, Nat.le_succ_of_le hn⟩
        · exact .inr hne
      · refine .inr fun g hg0 hg1 => ?_
        rcases hnew g hg0 with y | y
        · rw [blkOf_some (blkOf_pos hg0)] at hg0
          cases hg0
          have := h.lt he (.inl hg1); omega
        · have := h.lt he (.inl hg1); omega
    · exact h.two _ _ h1
end
section
variable {B : Nat} {w w' : World} {A : Option Addr} {n c : Nat} {xs : List Value}
theorem RRow.other (h : RRow B w A n c xs) (hg : w.grownBy w' (blkOf A c)) {g : Nat} {t : TypeId} {cs : Array Value} (ht : t ≠ TR) (hk : Blk w g t cs) : Blk w' g t cs :=
  hk.keep (hg.block g hk.lt (fun e => by
    obtain ⟨cs', _, _, k2, _⟩ := h.blk e.symm
    exact hk.type_ne k2 ht rfl))
theorem RRow.base (h : RRow B w A n c xs) (hg : w.grownBy w' (blkOf A c)) (hB : B ≤ w.heap.size) : Below B w w' := (Below.refl B w).grown hg hB (fun q e => by
    obtain ⟨cs', _, h1, _⟩ := h.blk e
    exact h1)
theorem wpList_app1R {P : Program} {t : TypeId} (ht : P.underlying t = some (.slice TR)) (he : (P.info? TR).map (fun i => (i.zero, i.size, i.bytes)) = some (some (.agg #[.bool false, .slice none 0 0, .slice none 0 0]), 3, 56))
    {ops : Array Oper} {rest : List Oper} {o : Oper} {a : Act} {Q : Exit → Act → World → Prop} (hgd : o.guard = none) (s x : Operand)
    (ho : o.op = .call { callee := .builtin .append, args := #[s, x], argTypes := #[t, t] })
    (h : RRow B w A n c xs) (hs : a.eval s = .slice A n c) (hB : B ≤ w.heap.size) (hn : n ≤ 1000000) (u0 u1 u2 : Value) (hu : ∀ u ∈ [u0, u1, u2], u.oneCell' = true) (ad : Addr) (cc : Nat) (hx : a.eval x = .slice (some ad) 1 cc) (hcell : ∀ (j : Nat) u, [u0, u1, u2][j]? = some u → w.cell? (ad.add j) = some u)
    (hh : ∀ A' c' w', Hid (RRow B w' A' (n + 1) c' (xs ++ [u0, u1, u2])) → Hid (w.grownBy w' (blkOf A c)) → Hid (∀ m c2 ys, m ≤ n → RRow B w A m c2 ys → RRow B w' A m c2 ys) → Hid ((A' = A ∧ c' = c) ∨ A' = some ⟨w.heap.size, 0, none⟩ ∧ Below w.heap.size w w') → wpList P ops Q rest (a.put o.dst (.slice A' (n + 1) c')) w') : wpList P ops Q (o :: rest) a w := by
  refine wpList_plain hgd fun K hK => ?_
  obtain ⟨A', c', w', hrun, h2, h3, h4, h5⟩ := app1R (P := P) ht he o.type h hB hn u0 u1 u2 hu ad cc hcell
  unfold Oper.wp execOp
  simp only [ho, resolve, invoke, builtin, Sem.run_bind, Sem.run_pure, Result.andThen_ok, List.map_toArray, List.map_cons, List.map_nil, hs, hx, hrun]
  exact hK _ _ (hh A' c' w' h2 h3 h4 h5)
end
theorem RRow.take {B : Nat} {w : World} {A : Option Addr} {n c m : Nat} {xs : List Value} (h : RRow B w A n c xs) (hm : m ≤ n) : RRow B w A m c (xs.take (m * 3)) := by
  refine ⟨by rw [List.length_take, h.len]; omega, Nat.le_trans hm h.le, ?_⟩
  rcases h.own with e | ⟨g, cs, e, hB, hk, hc, ht⟩
  · exact .inl e
  · exact .inr ⟨g, cs, e, hB, hk, hc, by rw [← ht, List.take_take, Nat.min_eq_left (by omega)]⟩
theorem blk_news {w : World} {g : Nat} {x0 x1 x2 : Value} (h : Blk w g TR #[x0, x1, x2]) : ∀ (j : Nat) u, [x0, x1, x2][j]? = some u → w.cell? ((⟨g, 0, none⟩ : Addr).add j) = some u := fun j u hj => by
  rw [add0, h.cell]
  simpa using hj
theorem one3 (b : Bool) (A D : Option Addr) (n c m k : Nat) : ∀ u ∈ [Value.bool b, .slice A n c, .slice D m k], u.oneCell' = true := fun u hu => by
  simp at hu
  rcases hu with rfl | rfl | rfl <;> rfl
/-- m fractions that are marks of number k, newer than lo. -/
def Mks (w : World) (lo k m : Nat) (xs : List Value) : Prop :=
  ∀ j, j < m → xs[j * 3]? = some (.bool false) ∧ xs[j * 3 + 1]? = some (.slice none 0 0) ∧ ∃ q d cs, xs[j * 3 + 2]? = some (.slice (some ⟨q, 0, none⟩) 1 d) ∧ lo ≤ q ∧ Blk w q T32 cs ∧ cs[0]? = some (mk32 k)
theorem Mks.keep {w w' : World} {lo k m : Nat} {xs : List Value} (h : Mks w lo k m xs) (hk : ∀ q cs, lo ≤ q → Blk w q T32 cs → Blk w' q T32 cs) : Mks w' lo k m xs := fun j hj => by
  obtain ⟨h0, h1, q, d, cs, h2, h3, h4, h5⟩ := h j hj
  exact ⟨h0, h1, q, d, cs, h2, h3, hk q cs h3 h4, h5⟩
theorem Mks.low {w : World} {lo lo' k m : Nat} {xs : List Value} (h : Mks w lo k m xs) (hl : lo' ≤ lo) : Mks w lo' k m xs := fun j hj => by
  obtain ⟨h0, h1, q, d, cs, h2, h3, h4, h5⟩ := h j hj
  exact ⟨h0, h1, q, d, cs, h2, Nat.le_trans hl h3, h4, h5⟩
theorem Mks.snoc {w : World} {lo k m q d : Nat} {cs : Array Value} {xs : List Value} (h : Mks w lo k m xs) (hl : xs.length = m * 3) (hq : lo ≤ q) (hb : Blk w q T32 cs) (hc : cs[0]? = some (mk32 k)) : Mks w lo k (m + 1) (xs ++ [.bool false, .slice none 0 0, .slice (some ⟨q, 0, none⟩) 1 d]) := fun j hj => by
  by_cases h0 : j < m
  · obtain ⟨h0, h1, q, d, cs, h2, h3, h4, h5⟩ := h j h0
    refine ⟨?_, ?_, q, d, cs, ?_, h3, h4, h5⟩
    all_goals rw [List.getElem?_append_left (by omega)]; assumption
  · obtain rfl : j = m := by omega
    refine ⟨?_, ?_, q, d, cs, ?_, hq, hb, hc⟩
    · rw [List.getElem?_append_right (by omega), show j * 3 - xs.length = 0 by omega]; rfl
    · rw [List.getElem?_append_right (by omega), show j * 3 + 1 - xs.length = 1 by omega]; rfl
    · rw [List.getElem?_append_right (by omega), show j * 3 + 2 - xs.length = 2 by omega]; rfl
/-- One more mark, where its cells are overwritten. -/
theorem Mks.put {w : World} {lo k j q d : Nat} {cs : Array Value} {xs : List Value} (h : Mks w lo k j xs) (hl : (j + 1) * 3 ≤ xs.length) (hq : lo ≤ q) (hb : Blk w q T32 cs) (hc : cs[0]? = some (mk32 k)) :
    Mks w lo k (j + 1) (((xs.set (j * 3) (.bool false)).set (j * 3 + 1) (.slice none 0 0)).set (j * 3 + 2) (.slice (some ⟨q, 0, none⟩) 1 d)) := fun i hi => by
  by_cases h0 : i < j
  · obtain ⟨h0, h1, q, d, cs, h2, h3, h4, h5⟩ := h i h0
    refine ⟨?_, ?_, q, d, cs, ?_, h3, h4, h5⟩
    all_goals
      rw [List.getElem?_set_ne (by omega), List.getElem?_set_ne (by omega), List.getElem?_set_ne (by omega)]
      assumption
  · obtain rfl : i = j := by omega
    refine ⟨?_, ?_, q, d, cs, ?_, hq, hb, hc⟩
    · rw [List.getElem?_set_ne (by omega), List.getElem?_set_ne (by omega), List.getElem?_set_self (by omega)]
    · rw [List.getElem?_set_ne (by omega), List.getElem?_set_self (by rw [List.length_set]; omega)]
    · rw [List.getElem?_set_self (by rw [List.length_set, List.length_set]; omega)]
end Go.Proofs.YtkefmeddnncacaaDoor

/- the laws' Book where lists of fractions are held too: each list of parts is filled, grown, looked at. -/
set_option linter.unusedVariables false
set_option linter.unusedSimpArgs false
set_option maxRecDepth 100000
namespace Go.Proofs.YtkefmeddnncacaaDoor
open Go.RowKit

/-- Memory below B stays, and all blocks of another type than T. -/
structure BelT (T : TypeId) (B : Nat) (w w' : World) : Prop where
  base : Below B w w'
  keep : ∀ b t cs, t ≠ T → Blk w b t cs → Blk w' b t cs
theorem BelT.refl (T : TypeId) (B : Nat) (w : World) : BelT T B w w := ⟨Below.refl _ _, fun _ _ _ _ h => h⟩
theorem BelT.size {T : TypeId} {B : Nat} {w w' : World} (h : BelT T B w w') : w.heap.size ≤ w'.heap.size := h.base.size
theorem BelT.alloc {T : TypeId} {B : Nat} {w w' : World} (h : BelT T B w w') (hB : B ≤ w'.heap.size) (o : Obj) : BelT T B w (w'.alloc o) := ⟨h.base.alloc hB o, fun b t cs ht hk => (h.keep b t cs ht hk).alloc o⟩
theorem BelT.drew {T : TypeId} {B : Nat} {w w' : World} (h : BelT T B w w') : BelT T B w w'.drew := ⟨h.base.drew, fun b t cs ht hk => (h.keep b t cs ht hk).drew⟩
theorem BelT.setCell {T : TypeId} {B g j : Nat} {w w' : World} {cs : Array Value} (h : BelT T B w w') (hk : Blk w' g T cs) (hg : B ≤ g) (u : Value) : BelT T B w (w'.setCell ⟨g, j, none⟩ u) :=
  ⟨h.base.setCell (p := ⟨g, j, none⟩) hg u, fun b t cs' ht hk' => (h.keep b t cs' ht hk').far (p := ⟨g, j, none⟩) ((h.keep b t cs' ht hk').type_ne hk ht) u⟩
/-- .. all blocks but of type TH, those of parts from lo on. -/
structure BelG (lo B : Nat) (w w' : World) : Prop where
  base : Below B w w'
  keep : ∀ b t cs, t ≠ TH → (t = T32 → lo ≤ b) → Blk w b t cs → Blk w' b t cs
theorem BelG.refl (lo B : Nat) (w : World) : BelG lo B w w := ⟨Below.refl _ _, fun _ _ _ _ _ h => h⟩
theorem BelG.size {lo B : Nat} {w w' : World} (h : BelG lo B w w') : w.heap.size ≤ w'.heap.size := h.base.size
theorem BelG.alloc {lo B : Nat} {w w' : World} (h : BelG lo B w w') (hB : B ≤ w'.heap.size) (o : Obj) : BelG lo B w (w'.alloc o) := ⟨h.base.alloc hB o, fun b t cs ht hl hk => (h.keep b t cs ht hl hk).alloc o⟩
theorem BelG.setCell {lo B g j : Nat} {w w' : World} {cs : Array Value} (h : BelG lo B w w') (hk : Blk w' g TH cs) (hg : B ≤ g) (u : Value) : BelG lo B w (w'.setCell ⟨g, j, none⟩ u) :=
  ⟨h.base.setCell (p := ⟨g, j, none⟩) hg u, fun b t cs' ht hl hk' => (h.keep b t cs' ht hl hk').far (p := ⟨g, j, none⟩) ((h.keep b t cs' ht hl hk').type_ne hk ht) u⟩
/-- A list that grows is older than lo, or new. -/
def Old (lo top : Nat) (es : List Ent) : Prop := ∀ (i : Nat) (e : Ent) g, es[i]? = some e → e.has g → g < lo ∨ top ≤ g
theorem BelG.push {lo B : Nat} {w w1 w2 : World} {A : Option Addr} {n c : Nat} {xs : List Value} (h : BelG lo B w w1) (hl : LRow B w1 A n c xs) (hg : w1.grownBy w2 (blkOf A c)) (hB : B ≤ w1.heap.size) (ho : ∀ g, blkOf A c = some g → g < lo ∨ w.heap.size ≤ g) : BelG lo B w w2 := by
  refine ⟨h.base.trans (hl.base hg hB), fun b t cs ht hlo hk => ?_⟩
  have h1 := h.keep b t cs ht hlo hk
  by_cases h32 : t = T32
  · refine h1.keep (hg.block b h1.lt fun e => ?_)
    have := ho b e.symm
    have := hlo h32
    have := hk.lt
    omega
  · exact hl.other hg h32 h1
theorem Old.set_ {lo top i : Nat} {es : List Ent} {e1 : Ent} (h : Old lo top es) (he : ∀ g, e1.has g → g < lo ∨ top ≤ g) : Old lo top (es.set i e1) := by
  intro j e' g hj hg
  rcases get_set_cases hj with ⟨rfl, rfl⟩ | ⟨_, h1⟩
  · exact he g hg
  · exact h _ _ _ h1 hg
theorem BookU.len {B : Nat} {w : World} {g num : Nat} {v u : Value} {es : List Ent} (h : BookU u B w g num v es) : ∃ R c, v = .slice R es.length c := own_slice h.row
theorem BookV.len {B : Nat} {w : World} {g num : Nat} {v u : Value} {es : List Ent} (h : BookV u B w g num v es) : ∃ R c, v = .slice R es.length c := own_slice h.row
/-- All blocks stay, and memory below B. -/
structure BelA (B : Nat) (w w' : World) : Prop where
  base : Below B w w'
  keep : ∀ b t cs, Blk w b t cs → Blk w' b t cs
theorem BelA.refl (B : Nat) (w : World) : BelA B w w := ⟨Below.refl _ _, fun _ _ _ h => h⟩
theorem BelA.size {B : Nat} {w w' : World} (h : BelA B w w') : w.heap.size ≤ w'.heap.size := h.base.size
theorem BelA.alloc {B : Nat} {w w' : World} (h : BelA B w w') (hB : B ≤ w'.heap.size) (o : Obj) : BelA B w (w'.alloc o) := ⟨h.base.alloc hB o, fun b t cs hk => (h.keep b t cs hk).alloc o⟩
theorem BelA.drewN {B : Nat} {w w' : World} (h : BelA B w w') (q : Nat) : BelA B w (w'.drewN q) := ⟨below_drewN h.base q, fun b t cs hk => (h.keep b t cs hk).drewN q⟩
theorem BelA.below {B : Nat} {w w1 w2 : World} (h : BelA B w w1) (k : Below w1.heap.size w1 w2) (hB : B ≤ w1.heap.size) : BelA B w w2 := ⟨h.base.trans (k.mono hB), fun b t cs hk => (h.keep b t cs hk).below' k⟩
end Go.Proofs.YtkefmeddnncacaaDoor

/- the laws' Book: each list of fractions is filled with its mark, grown, looked at. -/
set_option linter.unusedVariables false
set_option linter.unusedSimpArgs false
set_option maxRecDepth 100000
namespace Go.Proofs.YtkefmeddnncacaaDoor
open Go.RowKit

/-- Memory below B stays, and all blocks but of fractions and of the row of them that is held. -/
structure BelR (B : Nat) (w w' : World) : Prop where
  base : Below B w w'
  keep : ∀ b t cs, t ≠ TR → t ≠ THR → Blk w b t cs → Blk w' b t cs
theorem BelR.refl (B : Nat) (w : World) : BelR B w w := ⟨Below.refl _ _, fun _ _ _ _ _ h => h⟩
theorem BelR.size {B : Nat} {w w' : World} (h : BelR B w w') : w.heap.size ≤ w'.heap.size := h.base.size
theorem BelR.below {B : Nat} {w w1 w2 : World} (h : BelR B w w1) (k : Below w1.heap.size w1 w2) (hB : B ≤ w1.heap.size) : BelR B w w2 := ⟨h.base.trans (k.mono hB), fun b t cs h1 h2 hk => (h.keep b t cs h1 h2 hk).below' k⟩
theorem BelR.setCell {B g j : Nat} {w w' : World} {cs : Array Value} (h : BelR B w w') (hk : Blk w' g THR cs) (hg : B ≤ g) (u : Value) : BelR B w (w'.setCell ⟨g, j, none⟩ u) :=
  ⟨h.base.setCell (p := ⟨g, j, none⟩) hg u, fun b t cs' h1 h2 hk' => (h.keep b t cs' h1 h2 hk').far (p := ⟨g, j, none⟩) ((h.keep b t cs' h1 h2 hk').type_ne hk h2) u⟩
theorem BelR.push {B : Nat} {w w1 w2 : World} {A : Option Addr} {n c : Nat} {xs : List Value} (h : BelR B w w1) (hl : RRow B w1 A n c xs) (hg : w1.grownBy w2 (blkOf A c)) (hB : B ≤ w1.heap.size) : BelR B w w2 :=
  ⟨h.base.trans (hl.base hg hB), fun b t cs h1 h2 hk => hl.other hg h1 (h.keep b t cs h1 h2 hk)⟩
/-- The first i entries are grown. -/
structure GrownR (w : World) (lo : Nat) (es : List Ent) (i : Nat) (es' : List Ent) (Y : Nat → List Value) : Prop where
  len : es'.length = es.length
  same : ∀ (j : Nat) (e' : Ent), es'[j]? = some e' → ∃ e, es[j]? = some e ∧ e'.A = e.A ∧ e'.n = e.n ∧ e'.c = e.c ∧ e'.k = e.k
  done : ∀ (j : Nat) (e' : Ent), j < i → es'[j]? = some e' → e'.m = e'.n + 40 ∧ Mks w lo e'.k (e'.n + 40) (Y j)
theorem GrownR.keep {w w' : World} {lo i : Nat} {es es' : List Ent} {Y : Nat → List Value} (h : GrownR w lo es i es' Y) (k : ∀ g cs, Blk w g T32 cs → Blk w' g T32 cs) : GrownR w' lo es i es' Y :=
  ⟨h.len, h.same, fun j e' hj he => ⟨(h.done j e' hj he).1, (h.done j e' hj he).2.keep fun g cs _ hk => k g cs hk⟩⟩
end Go.Proofs.YtkefmeddnncacaaDoor

/- the laws' Book: each list of fractions that is held is looked at. -/
set_option linter.unusedVariables false
set_option linter.unusedSimpArgs false
set_option maxRecDepth 100000
namespace Go.Proofs.YtkefmeddnncacaaDoor
open Go.RowKit

theorem RRow.mark {B : Nat} {w : World} {A : Option Addr} {n c lo k : Nat} {xs : List Value} (h : RRow B w A n c xs) (m : Mks w lo k n xs) {j : Nat} (hj : j < n) :
    ∃ g q d cs, A = some ⟨g, 0, none⟩ ∧ w.cell? ⟨g, j * 3, none⟩ = some (.bool false) ∧ w.cell? ⟨g, j * 3 + 1, none⟩ = some (.slice none 0 0) ∧ w.cell? ⟨g, j * 3 + 2, none⟩ = some (.slice (some ⟨q, 0, none⟩) 1 d) ∧ Hid (Blk w q T32 cs) ∧ Hid (cs[0]? = some (mk32 k)) := by
  obtain ⟨h0, h1, q, d, cs, h2, h3, h4, h5⟩ := m j hj
  obtain ⟨g, e, _, _, _, c0, _⟩ := h.at_ (i := j * 3) (by omega)
  obtain ⟨g1, e1, _, _, _, c1, _⟩ := h.at_ (i := j * 3 + 1) (by omega)
  obtain ⟨g2, e2, _, _, _, c2, _⟩ := h.at_ (i := j * 3 + 2) (by omega)
  rw [e] at e1 e2
  cases e1
  cases e2
  exact ⟨g, q, d, cs, e, by rw [c0, h0], by rw [c1, h1], by rw [c2, h2], h4, h5⟩
end Go.Proofs.YtkefmeddnncacaaDoor

/- the laws' Book where lists of fractions are held too: Apart. -/
set_option linter.unusedVariables false
set_option linter.unusedSimpArgs false
set_option maxRecDepth 100000
namespace Go.Proofs.YtkefmeddnncacaaDoor
open Go.RowKit

/-- Lists of fractions that are held, each in a block of its own, of number at most hi. -/
def HBR (B hi : Nat) (w : World) (fs : List Ent) : Prop :=
  ∃ X Y, HeldR B w fs X Y ∧ (∀ (i : Nat) (e : Ent) g, fs[i]? = some e → e.has g → g < hi) ∧ ∀ e ∈ fs, e.k ≤ 100000 ∧ e.n ≤ 500000 ∧ e.d = 0
theorem HBR.nil (B hi : Nat) (w : World) : HBR B hi w [] :=
  ⟨fun _ => [], fun _ => [], ⟨fun i e h => by simp at h, fun i e h => by simp at h, fun i j e e' _ h => by simp at h, fun i e h => by simp at h⟩, fun i e g h => by simp at h, fun e h => by simp at h⟩
theorem HBR.keep {B hi : Nat} {w w' : World} {fs : List Ent} (h : HBR B hi w fs) (k : ∀ g cs, Blk w g TR cs → Blk w' g TR cs) : HBR B hi w' fs := by
  obtain ⟨X, Y, h1, h2, h3⟩ := h
  exact ⟨X, Y, h1.keep fun g cs _ hk => k g cs hk, h2, h3⟩
theorem HBR.bel {B hi : Nat} {w w' : World} {fs : List Ent} (h : HBR B hi w fs) (k : Below w.heap.size w w') : HBR B hi w' fs := h.keep fun g cs hk => hk.below' k
theorem HBR.up {B hi hi' : Nat} {w : World} {fs : List Ent} (h : HBR B hi w fs) (hh : hi ≤ hi') : HBR B hi' w fs := by
  obtain ⟨X, Y, h1, h2, h3⟩ := h
  exact ⟨X, Y, h1, fun i e g he hg => Nat.lt_of_lt_of_le (h2 i e g he hg) hh, h3⟩
theorem HBR.snoc {B hi hi' : Nat} {w : World} {es : List Ent} (h : HBR B hi w es) {A : Option Addr} {n c : Nat} {xs : List Value} (l : RRow hi w A n c xs) (hh : hi' = w.heap.size) (hB : B ≤ hi) (hw : hi ≤ w.heap.size) (hn : n ≤ 500000) {k : Nat} (hk : k ≤ 100000) : HBR B hi' w (es ++ [⟨A, n, c, none, 0, 0, k⟩]) := by
  subst hh
  obtain ⟨X, Y, h1, h2, h3⟩ := h
  have hl : ∀ g, blkOf A c = some g → hi ≤ g ∧ g < w.heap.size := fun g hg => by
    obtain ⟨cs, _, e1, e2, _⟩ := l.blk hg
    exact ⟨e1, e2.lt⟩
  have hcase : ∀ (i : Nat) (e : Ent), (es ++ [⟨A, n, c, none, 0, 0, k⟩])[i]? = some e → (es[i]? = some e ∧ i < es.length) ∨ (i = es.length ∧ e = ⟨A, n, c, none, 0, 0, k⟩) := fun i e he => by
    by_cases hi : i < es.length
    · rw [List.getElem?_append_left hi] at he
      exact .inl ⟨he, hi⟩
    · rw [List.getElem?_append_right (by omega)] at he
      have := (List.getElem?_eq_some_iff.1 he).1
      simp at this
      obtain rfl : i = es.length := by omega
      simp at he
      exact .inr ⟨rfl, he.symm⟩
  have hnew : ∀ g, Ent.has ⟨A, n, c, none, 0, 0, k⟩ g → blkOf A c = some g := fun g hg => by
    rcases hg with x | x
    · exact x
    · simp [blkOf] at x
  refine ⟨upd X es.length xs, upd Y es.length [], ⟨fun i e he => ?_, fun i e he => ?_, fun i j e e' hne he he' g hg hg' => ?_, fun i e he => ?_⟩, fun i e g he hg => ?_, fun e he => ?_⟩
  · rcases hcase i e he with ⟨x, y⟩ | ⟨rfl, rfl⟩
    · rw [upd_ne _ _ (by omega)]; exact h1.a _ _ x
    · rw [upd_same]
      refine ⟨l.len, l.le, ?_⟩
      rcases l.own with z | ⟨g, cs, z1, z2, z3⟩
      · exact .inl z
      · exact .inr ⟨g, cs, z1, Nat.le_trans hB z2, z3⟩
  · rcases hcase i e he with ⟨x, y⟩ | ⟨rfl, rfl⟩
    · rw [upd_ne _ _ (by omega)]; exact h1.l _ _ x
    · rw [upd_same]; exact ⟨rfl, Nat.le_refl _, .inl rfl⟩
  · rcases hcase i e he with ⟨x, y⟩ | ⟨rfl, rfl⟩ <;> rcases hcase j e' he' with ⟨x', y'⟩ | ⟨rfl, rfl⟩
    · exact h1.apart _ _ _ _ hne x x' g hg hg'
    · have := h2 _ _ _ x hg
      have := hl g (hnew g hg')
      omega
    · have := h2 _ _ _ x' hg'
      have := hl g (hnew g hg)
      omega
    · exact hne rfl
  · rcases hcase i e he with ⟨x, y⟩ | ⟨rfl, rfl⟩
    · exact h1.two _ _ x
    · exact .inr fun g hg => by simp [blkOf] at hg
  · rcases hcase i e he with ⟨x, y⟩ | ⟨rfl, rfl⟩
    · have := h2 _ _ _ x hg
      omega
    · exact (hl g (hnew g hg)).2
  · rcases List.mem_append.1 he with x | x
    · exact h3 e x
    · simp at x
      subst x
      exact ⟨hk, hn, rfl⟩
theorem BookV.by {v : Value} {B : Nat} {w w' : World} {g num : Nat} {u : Value} {fs : List Ent} (h : BookV v B w g num u fs) (hb : Blk w' g TBK (bkF num v u)) (k : ∀ r cs, Blk w r THR cs → Blk w' r THR cs) : BookV v B w' g num u fs := ⟨hb, h.own, own_keepT h.row k⟩
theorem BookU.by {v : Value} {B : Nat} {w w' : World} {g num : Nat} {u : Value} {es : List Ent} (h : BookU u B w g num v es) (hb : Blk w' g TBK (bkF num v u)) (k : ∀ r cs, Blk w r TH cs → Blk w' r TH cs) : BookU u B w' g num v es := ⟨hb, h.own, own_keepT h.row k⟩

end Go.Proofs.YtkefmeddnncacaaDoor
