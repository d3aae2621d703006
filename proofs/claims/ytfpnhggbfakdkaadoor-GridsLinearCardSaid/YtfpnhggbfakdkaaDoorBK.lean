/- The laws' Book of lists of parts: kept, filled, grown, looked at, apart. -/
import Derived.Test.YtfpnhggbfakdkaaDoorNA
import Derived.Test.YtfpnhggbfakdkaaDoorCa
import Derived.Test.YtfpnhggbfakdkaaDoorIA
import Derived.Deep.RegionLaw
import Derived.BigQuiet
/- the laws' Book: kinds of which nothing is held. -/
set_option linter.unusedVariables false
set_option linter.unusedSimpArgs false
set_option maxRecDepth 100000
namespace Go.Proofs.YtfpnhggbfakdkaaDoor
open Go.RowKit

end Go.Proofs.YtfpnhggbfakdkaaDoor

/- the laws' Book: lists of parts that are held; one more is kept. -/
set_option linter.unusedVariables false
set_option linter.unusedSimpArgs false
set_option maxRecDepth 100000
namespace Go.Proofs.YtfpnhggbfakdkaaDoor
open Go.RowKit

/-- A list that is held: as it came, as it has grown, its number. -/
structure Ent where
  A : Option Addr
  n : Nat
  c : Nat
  L : Option Addr
  m : Nat
  d : Nat
  k : Nat
def Ent.cells (e : Ent) : List Value := [.slice e.A e.n e.c, .slice e.L e.m e.d, .int .i64 (e.k : Nat)]
def flatE (es : List Ent) : List Value := es.flatMap Ent.cells
abbrev bk (num : Nat) (v : Value) : Array Value := #[.int .i64 (num : Nat), .slice none 0 0, v, .slice none 0 0, .slice none 0 0, .slice none 0 0, .slice none 0 0, .slice none 0 0, .slice none 0 0, .slice none 0 0, .slice none 0 0, .slice none 0 0, .slice none 0 0]
/-- append in a region that draws. -/
theorem step_appv {P : Program} {t e : TypeId} {z : Value} {size b : Nat} (ht : P.underlying t = some (.slice e)) (he : (P.info? e).map (fun i => (i.zero, i.size, i.bytes)) = some (some z, size, b)) (hz : z.cells.size = size) (hsz : 0 < size) (w : World)
    {ops : Array Oper} {o : Oper} {a : Act} {K : Act → World → Prop} {Q : Exit → Act → World → Prop} {E : Prop} (hgd : o.guard = none) (s x : Operand)
    (ho : o.op = .call { callee := .builtin .append, args := #[s, x], argTypes := #[t, t] })
    (base n : Nat) (v : Value) (xs : List Value) (hs : a.eval s = v) (hown : w.ownsRow base e size v n xs) (ad : Addr) (m c : Nat) (news : List Value) (hx : a.eval x = .slice (some ad) m c)
    (hl : news.length = m * size) (hnews : ∀ (j : Nat) u, news[j]? = some u → w.cell? (ad.add j) = some u) (h1 : ∀ u ∈ news, u.oneCell' = true)
    (h63 : n + m ≤ 9223372036854775807) (hb : (n + m) * b ≤ 140737488355328) (hbase : base ≤ w.heap.size)
    (h : ∀ v' w', Hid (w'.ownsRow base e size v' (n + m) (xs ++ news)) → Hid (w.grownBy w' v.ownBlock) → K (a.put o.dst v') w') : if Region.wanted o (yielded ops a.tmps) = true then Oper.wp P o a w K Q else E := by
  have hw : Region.wanted o (yielded ops a.tmps) = true := by simp [Region.wanted, hgd]
  rw [if_pos hw]
  obtain ⟨i0, hi, hz0, hz1, hz2⟩ := info_parts he
  obtain ⟨v', w', hrun, h2, h3, _, h5⟩ := run_append_own_at (P := P) w base t o.type e i0 z size b ht hi hz0 hz1 hz2 hz hsz v n xs hown ad m c news hl hnews h1 (by simpa [maxLen] using h63) hb hbase
  unfold Oper.wp execOp
  simp only [ho, resolve, invoke, builtin, Sem.run_bind, Sem.run_pure, Result.andThen_ok, List.map_toArray, List.map_cons, List.map_nil, hs, hx, hrun]
  exact h v' w' h2 h3
theorem own_rowT {t : TypeId} {size : Nat} {w : World} {base n : Nat} {v : Value} {xs : List Value} (h : w.ownsRow base t size v n xs) : ∀ k, v.ownBlock = some k → base ≤ k ∧ ∃ cs, Blk w k t cs := by
  intro k hk
  rcases h.2 with ⟨rfl, rfl⟩ | ⟨g, cap, cur, rfl, hB, hh, hnc, hcm, hcs, htk⟩
  · cases hk
  · have : g = k := by simpa [Value.ownBlock] using hk
    subst this
    exact ⟨hB, cur, ⟨hh⟩⟩
theorem blk_grown {t t' : TypeId} {size : Nat} {w w' : World} {base n g : Nat} {v : Value} {xs : List Value} {cs : Array Value} (hr : w.ownsRow base t size v n xs) (hg : w.grownBy w' v.ownBlock) (hk : Blk w g t' cs) (hne : t' ≠ t) : Blk w' g t' cs :=
  hk.keep (hg.block g hk.lt (fun e => by
    obtain ⟨_, cs', k2⟩ := own_rowT hr g e.symm
    exact hk.type_ne k2 hne rfl))
end Go.Proofs.YtfpnhggbfakdkaaDoor

/- the laws' Book: lists of numbers in memory of their own, apart from each other. -/
set_option linter.unusedVariables false
set_option linter.unusedSimpArgs false
set_option maxRecDepth 100000
namespace Go.Proofs.YtfpnhggbfakdkaaDoor
open Go.RowKit

/-- A list of n numbers with room for c, in memory of its own from B on. -/
structure LRow (B : Nat) (w : World) (A : Option Addr) (n c : Nat) (xs : List Value) : Prop where
  len : xs.length = n
  le : n ≤ c
  own : c = 0 ∨ ∃ g cs, A = some ⟨g, 0, none⟩ ∧ B ≤ g ∧ Blk w g T32 cs ∧ c ≤ cs.size ∧ cs.toList.take n = xs
variable {B : Nat} {w w' : World} {A : Option Addr} {n c : Nat} {xs : List Value}
theorem LRow.blk (h : LRow B w A n c xs) {g : Nat} (hg : blkOf A c = some g) : ∃ cs, A = some ⟨g, 0, none⟩ ∧ B ≤ g ∧ Blk w g T32 cs ∧ c ≤ cs.size ∧ cs.toList.take n = xs := by
  have h0 := blkOf_pos hg
  rcases h.own with e | ⟨g', cs, rfl, hB, hk, hc, ht⟩
  · omega
  · rw [blkOf_some h0] at hg
    cases hg
    exact ⟨cs, rfl, hB, hk, hc, ht⟩
theorem LRow.keep (h : LRow B w A n c xs) (k : ∀ g cs, blkOf A c = some g → Blk w g T32 cs → Blk w' g T32 cs) : LRow B w' A n c xs := by
  refine ⟨h.len, h.le, ?_⟩
  rcases Nat.eq_zero_or_pos c with h0 | h0
  · exact .inl h0
  · rcases h.own with e | ⟨g', cs, rfl, hB, hk, hc, ht⟩
    · omega
    · exact .inr ⟨g', cs, rfl, hB, k _ _ (blkOf_some h0) hk, hc, ht⟩
theorem LRow.at_ (h : LRow B w A n c xs) {i : Nat} (hi : i < n) : ∃ g, A = some ⟨g, 0, none⟩ ∧ blkOf A c = some g ∧ B ≤ g ∧ g < w.heap.size ∧ w.cell? ⟨g, i, none⟩ = xs[i]? ∧ w.frozen? ⟨g, i, none⟩ = false := by
  have := h.le
  rcases h.own with e | ⟨g', cs, rfl, hB, hk, hc, ht⟩
  · omega
  · refine ⟨g', rfl, blkOf_some (by omega), hB, hk.lt, ?_, hk.frozen i⟩
    rw [hk.cell, ← ht, List.getElem?_take, if_pos hi, Array.getElem?_toList]
theorem LRow.set_ (h : LRow B w A n c xs) {i g : Nat} (hi : i < n) (hg : blkOf A c = some g) (u : Value) : LRow B (w.setCell ⟨g, i, none⟩ u) A n c (xs.set i u) := by
  obtain ⟨cs, rfl, hB, hk, hc, ht⟩ := h.blk hg
  refine ⟨by rw [List.length_set]; exact h.len, h.le, .inr ⟨g, _, rfl, hB, hk.set_ i u, by simpa using hc, ?_⟩⟩
  rw [← ht, Array.toList_setIfInBounds, List.take_set]
end Go.Proofs.YtfpnhggbfakdkaaDoor

/- the laws' Book: what is held, list by list. -/
set_option linter.unusedVariables false
set_option linter.unusedSimpArgs false
set_option maxRecDepth 100000
namespace Go.Proofs.YtfpnhggbfakdkaaDoor
open Go.RowKit

def Ent.has (e : Ent) (g : Nat) : Prop := blkOf e.A e.c = some g ∨ blkOf e.L e.d = some g
def upd (X : Nat → List Value) (i : Nat) (xs : List Value) : Nat → List Value := fun j => if j = i then xs else X j
theorem upd_same (X : Nat → List Value) (i : Nat) (xs : List Value) : upd X i xs i = xs := by simp [upd]
theorem upd_ne (X : Nat → List Value) {i j : Nat} (xs : List Value) (h : j ≠ i) : upd X i xs j = X j := by simp [upd, h]
/-- What is held: each list's cells, in blocks apart from the others'. -/
structure Held (B : Nat) (w : World) (es : List Ent) (X Y : Nat → List Value) : Prop where
  a : ∀ (i : Nat) (e : Ent), es[i]? = some e → LRow B w e.A e.n e.c (X i)
  l : ∀ (i : Nat) (e : Ent), es[i]? = some e → LRow B w e.L e.m e.d (Y i)
  apart : ∀ (i j : Nat) (e e' : Ent), i ≠ j → es[i]? = some e → es[j]? = some e' → ∀ g, e.has g → ¬ e'.has g
  two : ∀ (i : Nat) (e : Ent), es[i]? = some e → (e.L = e.A ∧ e.n ≤ e.m) ∨ ∀ g, blkOf e.L e.d = some g → blkOf e.A e.c ≠ some g
variable {B : Nat} {w w' : World} {es : List Ent} {X Y : Nat → List Value}
theorem Held.keep (h : Held B w es X Y) (k : ∀ g cs, B ≤ g → Blk w g T32 cs → Blk w' g T32 cs) : Held B w' es X Y := by
  refine ⟨fun i e he => (h.a i e he).keep fun g cs hg hk => ?_, fun i e he => (h.l i e he).keep fun g cs hg hk => ?_, h.apart, h.two⟩
  · obtain ⟨_, _, hB, _⟩ := (h.a i e he).blk hg
    exact k g cs hB hk
  · obtain ⟨_, _, hB, _⟩ := (h.l i e he).blk hg
    exact k g cs hB hk
theorem Held.lt (h : Held B w es X Y) {i : Nat} {e : Ent} (he : es[i]? = some e) {g : Nat} (hg : e.has g) : g < w.heap.size := by
  rcases hg with hg | hg
  · obtain ⟨_, _, _, hk, _⟩ := (h.a i e he).blk hg
    exact hk.lt
  · obtain ⟨_, _, _, hk, _⟩ := (h.l i e he).blk hg
    exact hk.lt
theorem get_set_cases {α : Type} {es : List α} {i j : Nat} {e1 e' : α} (h : (es.set i e1)[j]? = some e') : (j = i ∧ e' = e1) ∨ (j ≠ i ∧ es[j]? = some e') := by
  by_cases hj : j = i
  · subst hj
    rw [List.getElem?_set_self'] at h
    cases h1 : es[j]? with
    | none => rw [h1] at h; cases h
    | some a => rw [h1] at h; simp at h; exact .inl ⟨rfl, h.symm⟩
  · rw [List.getElem?_set_ne (fun e => hj e.symm)] at h
    exact .inr ⟨hj, h⟩
theorem Held.set_ (h : Held B w es X Y) (hd : ∀ (i : Nat) (e : Ent), es[i]? = some e → e.d = 0) {i j g : Nat} {e : Ent} (he : es[i]? = some e) (hj : j < e.n) (hg : blkOf e.A e.c = some g) (u : Value) :
    Held B (w.setCell ⟨g, j, none⟩ u) es (upd X i ((X i).set j u)) Y := by
  refine ⟨fun i' e' he' => ?_, fun i' e' he' => (h.l i' e' he').keep fun g' cs hg' hk => ?_, h.apart, h.two⟩
  · by_cases hi : i' = i
    · subst hi
      rw [he] at he'
      cases he'
      rw [upd_same]
      exact (h.a _ _ he).set_ hj hg u
    · rw [upd_ne _ _ hi]
      exact (h.a _ _ he').keep fun g' cs hg' hk => hk.far (p := ⟨g, j, none⟩) (fun e0 => h.apart _ _ _ _ hi he' he g' (.inl hg') (.inl (by rw [e0]; exact hg))) u
  · rw [hd _ _ he'] at hg'
    simp [blkOf] at hg'
theorem Held.start (h : Held B w es X Y) {i : Nat} {e : Ent} (he : es[i]? = some e) : Held B w (es.set i ⟨e.A, e.n, e.c, e.A, e.n, e.c, e.k⟩) X (upd Y i (X i)) := by
  refine ⟨fun i' e' he' => ?_, fun i' e' he' => ?_, fun i' j' e1 e2 hne h1 h2 g hg1 hg2 => ?_, fun i' e' he' => ?_⟩
  · rcases get_set_cases he' with ⟨rfl, rfl⟩ | ⟨hi, h1⟩
    · exact h.a _ e he
    · exact h.a _ _ h1
  · rcases get_set_cases he' with ⟨rfl, rfl⟩ | ⟨hi, h1⟩
    · rw [upd_same]
      exact h.a _ _ he
    · rw [upd_ne _ _ hi]
      exact h.l _ _ h1
  · rcases get_set_cases h1 with ⟨rfl, rfl⟩ | ⟨hi, k1⟩ <;> rcases get_set_cases h2 with ⟨rfl, rfl⟩ | ⟨hi2, k2⟩
    · exact hne rfl
    · exact h.apart _ _ _ _ hne he k2 g (by rcases hg1 with x | x <;> exact .inl x) hg2
    · exact h.apart _ _ _ _ hne k1 he g hg1 (by rcases hg2 with x | x <;> exact .inl x)
    · exact h.apart _ _ _ _ hne k1 k2 g hg1 hg2
  · rcases get_set_cases he' with ⟨rfl, rfl⟩ | ⟨hi, h1⟩
    · exact .inl ⟨rfl, Nat.le_refl _⟩
    · exact h.two _ _ h1
theorem Held.push (h : Held B w es X Y) {i : Nat} {e : Ent} (he : es[i]? = some e) {A' : Option Addr} {c' : Nat} {x : Value}
    (hrow : LRow B w' A' (e.m + 1) c' (Y i ++ [x])) (hg : w.grownBy w' (blkOf e.L e.d)) (hk : ∀ m c2 ys, m ≤ e.m → LRow B w e.L m c2 ys → LRow B w' e.L m c2 ys) (hor : (A' = e.L ∧ c' = e.d) ∨ A' = some ⟨w.heap.size, 0, none⟩ ∧ Below w.heap.size w w') :
    Held B w' (es.set i ⟨e.A, e.n, e.c, A', e.m + 1, c', e.k⟩) X (upd Y i (Y i ++ [x])) := by
  have hkp : ∀ g cs, g < w.heap.size → blkOf e.L e.d ≠ some g → Blk w g T32 cs → Blk w' g T32 cs := fun g cs hlt hne hb => hb.keep (hg.block g hlt (fun e0 => hne e0.symm))
  have hnew : ∀ g, blkOf A' c' = some g → blkOf e.L e.d = some g ∨ g = w.heap.size := fun g hg0 => by
    rcases hor with ⟨rfl, rfl⟩ | ⟨rfl, _⟩
    · exact .inl hg0
    · rw [blkOf_some (blkOf_pos hg0)] at hg0
      cases hg0
      exact .inr rfl
  have hoth : ∀ (i' : Nat) (e' : Ent), i' ≠ i → es[i']? = some e' → ∀ g cs, e'.has g → Blk w g T32 cs → Blk w' g T32 cs := fun i' e' hi h1 g cs hg0 hb =>
    hkp g cs hb.lt (fun e0 => h.apart _ _ _ _ hi h1 he g hg0 (.inr e0)) hb
  refine ⟨fun i' e' he' => ?_, fun i' e' he' => ?_, fun i' j' e1 e2 hne h1 h2 g hg1 hg2 => ?_, fun i' e' he' => ?_⟩
  · rcases get_set_cases he' with ⟨rfl, rfl⟩ | ⟨hi, h1⟩
    · rcases h.two _ _ he with ⟨e0, hn⟩ | hne
      · have := hk e.n e.c (X i') hn (by rw [e0]; exact h.a _ _ he)
        rw [e0] at this
        exact this
      · exact (h.a _ _ he).keep fun g cs hg0 hb => hkp g cs hb.lt (fun e0 => hne g e0 hg0) hb
    · exact (h.a _ _ h1).keep fun g cs hg0 hb => hoth _ _ hi h1 g cs (.inl hg0) hb
  · rcases get_set_cases he' with ⟨rfl, rfl⟩ | ⟨hi, h1⟩
    · rw [upd_same]
      exact hrow
    · rw [upd_ne _ _ hi]
      exact (h.l _ _ h1).keep fun g cs hg0 hb => hoth _ _ hi h1 g cs (.inr hg0) hb
  · have key : ∀ g, Ent.has ⟨e.A, e.n, e.c, A', e.m + 1, c', e.k⟩ g → e.has g ∨ g = w.heap.size := fun g hg0 => by
      rcases hg0 with x | x
      · exact .inl (.inl x)
      · rcases hnew g x with y | y
        · exact .inl (.inr y)
        · exact .inr y
    rcases get_set_cases h1 with ⟨rfl, rfl⟩ | ⟨hi, k1⟩ <;> rcases get_set_cases h2 with ⟨rfl, rfl⟩ | ⟨hi2, k2⟩
    · exact hne rfl
    · rcases key g hg1 with y | y
      · exact h.apart _ _ _ _ hne he k2 g y hg2
      · have := h.lt k2 hg2; omega
    · rcases key g hg2 with y | y
      · exact h.apart _ _ _ _ hne k1 he g hg1 y
      · have := h.lt k1 hg1; omega
    · exact h.apart _ _ _ _ hne k1 k2 g hg1 hg2
  · rcases get_set_cases he' with ⟨rfl, rfl⟩ | ⟨hi, h1⟩
    · rcases hor with ⟨rfl, rfl⟩ | ⟨rfl, _⟩
      · rcases h.two _ _ he with ⟨e0, hn⟩ | hne
        · exact .inl ⟨e0, Nat.le_succ_of_le hn⟩
        · exact .inr hne
      · refine .inr fun g hg0 hg1 => ?_
        rcases hnew g hg0 with y | y
        · rw [blkOf_some (blkOf_pos hg0)] at hg0
          cases hg0
          have := h.lt he (.inl hg1); omega
        · have := h.lt he (.inl hg1); omega
    · exact h.two _ _ h1
end Go.Proofs.YtfpnhggbfakdkaaDoor

/- the laws' Book: each list held is filled with its mark. -/
set_option linter.unusedVariables false
set_option linter.unusedSimpArgs false
set_option maxRecDepth 100000
namespace Go.Proofs.YtfpnhggbfakdkaaDoor
open Go.RowKit

def mk32 (k : Nat) : Value := .int .u32 (1000 + (k : Int))
end Go.Proofs.YtfpnhggbfakdkaaDoor

/- the laws' Book: each list held is grown. -/
set_option linter.unusedVariables false
set_option linter.unusedSimpArgs false
set_option maxRecDepth 100000
namespace Go.Proofs.YtfpnhggbfakdkaaDoor
open Go.RowKit

variable {B : Nat} {w w' : World} {A : Option Addr} {n c : Nat} {xs : List Value}
theorem LRow.other (h : LRow B w A n c xs) (hg : w.grownBy w' (blkOf A c)) {g : Nat} {t : TypeId} {cs : Array Value} (ht : t ≠ T32) (hk : Blk w g t cs) : Blk w' g t cs :=
  hk.keep (hg.block g hk.lt (fun e => by
    obtain ⟨cs', _, _, k2, _⟩ := h.blk e.symm
    exact hk.type_ne k2 ht rfl))
theorem LRow.base (h : LRow B w A n c xs) (hg : w.grownBy w' (blkOf A c)) (hB : B ≤ w.heap.size) : Below B w w' := (Below.refl B w).grown hg hB (fun q e => by
    obtain ⟨cs', _, h1, _⟩ := h.blk e
    exact h1)
/-- The first i entries are grown. -/
structure Grown (es : List Ent) (i : Nat) (es' : List Ent) (Y : Nat → List Value) : Prop where
  len : es'.length = es.length
  same : ∀ (j : Nat) (e' : Ent), es'[j]? = some e' → ∃ e, es[j]? = some e ∧ e'.A = e.A ∧ e'.n = e.n ∧ e'.c = e.c ∧ e'.k = e.k
  done : ∀ (j : Nat) (e' : Ent), j < i → es'[j]? = some e' → e'.m = e'.n + 40 ∧ Y j = List.replicate (e'.n + 40) (mk32 e'.k)
end Go.Proofs.YtfpnhggbfakdkaaDoor

/- the laws' Book: what is held is looked at. -/
set_option linter.unusedVariables false
set_option linter.unusedSimpArgs false
set_option maxRecDepth 100000
namespace Go.Proofs.YtfpnhggbfakdkaaDoor
open Go.RowKit

theorem LRow.marks {B : Nat} {w : World} {A : Option Addr} {n c : Nat} {u : Value} (h : LRow B w A n c (List.replicate n u)) {j : Nat} (hj : j < n) : ∃ g, A = some ⟨g, 0, none⟩ ∧ w.cell? ⟨g, j, none⟩ = some u := by
  obtain ⟨g, e, _, _, _, hc, _⟩ := h.at_ hj
  exact ⟨g, e, by rw [hc, List.getElem?_replicate, if_pos hj]⟩
end Go.Proofs.YtfpnhggbfakdkaaDoor

/- the laws' Book: Apart. -/
set_option linter.unusedVariables false
set_option linter.unusedSimpArgs false
set_option maxRecDepth 100000
namespace Go.Proofs.YtfpnhggbfakdkaaDoor
open Go.RowKit

theorem Fr.lrow {B : Nat} {w : World} {A : Option Addr} {c n : Nat} (h : Fr T32 B w A c) (hn : n ≤ c) : ∃ xs, LRow B w A n c xs := by
  rcases h with h | ⟨g, cs, e, hB, hk, hc⟩
  · exact ⟨List.replicate n undef, by simp, hn, .inl h⟩
  · exact ⟨cs.toList.take n, by rw [List.length_take, Array.length_toList]; omega, hn, .inr ⟨g, cs, e, hB, hk, hc, rfl⟩⟩
theorem NatR.lrow {N B : Nat} {w : World} {A : Option Addr} {n c : Nat} (h : NatR N B w (.slice A n c)) : ∃ xs, LRow B w A n c xs := by
  obtain ⟨A', c', e, _, f, l⟩ := h
  cases e
  exact f.lrow l
/-- Lists that are held, each in a block of its own, of number at most hi. -/
def HB (B hi : Nat) (w : World) (es : List Ent) : Prop :=
  ∃ X Y, Held B w es X Y ∧ (∀ (i : Nat) (e : Ent) g, es[i]? = some e → e.has g → g < hi) ∧ ∀ e ∈ es, e.k ≤ 100000 ∧ e.n ≤ 500000 ∧ e.d = 0
theorem HB.nil (B hi : Nat) (w : World) : HB B hi w [] :=
  ⟨fun _ => [], fun _ => [], ⟨fun i e h => by simp at h, fun i e h => by simp at h, fun i j e e' _ h => by simp at h, fun i e h => by simp at h⟩, fun i e g h => by simp at h, fun e h => by simp at h⟩
theorem HB.bel {B hi : Nat} {w w' : World} {es : List Ent} (h : HB B hi w es) (k : Below w.heap.size w w') : HB B hi w' es := by
  obtain ⟨X, Y, h1, h2, h3⟩ := h
  exact ⟨X, Y, h1.keep fun g cs _ hk => hk.below' k, h2, h3⟩
theorem HB.snoc {B hi hi' : Nat} {w : World} {es : List Ent} (h : HB B hi w es) {A : Option Addr} {n c : Nat} {xs : List Value} (l : LRow hi w A n c xs) (hh : hi' = w.heap.size) (hB : B ≤ hi) (hw : hi ≤ w.heap.size) (hn : n ≤ 500000) {k : Nat} (hk : k ≤ 100000) : HB B hi' w (es ++ [⟨A, n, c, none, 0, 0, k⟩]) := by
  subst hh
  obtain ⟨X, Y, h1, h2, h3⟩ := h
  have hl : ∀ g, blkOf A c = some g → hi ≤ g ∧ g < w.heap.size := fun g hg => by
    obtain ⟨cs, _, e1, e2, _⟩ := l.blk hg
    exact ⟨e1, e2.lt⟩
  have hcase : ∀ (i : Nat) (e : Ent), (es ++ [⟨A, n, c, none, 0, 0, k⟩])[i]? = some e → (es[i]? = some e ∧ i < es.length) ∨ (i = es.length ∧ e = ⟨A, n, c, none, 0, 0, k⟩) := fun i e he => by
    by_cases hi : i < es.length
    · rw [List.getElem?_append_left hi] at he
      exact .inl ⟨he, hi⟩
    · rw [List.getElem?_append_right (by omega)] at he
      have := (List.getElem?_eq_some_iff.1 he).1
      simp at this
      obtain rfl : i = es.length := by omega
      simp at he
      exact .inr ⟨rfl, he.symm⟩
  have hnew : ∀ g, Ent.has ⟨A, n, c, none, 0, 0, k⟩ g → blkOf A c = some g := fun g hg => by
    rcases hg with x | x
    · exact x
    · simp [blkOf] at x
  refine ⟨upd X es.length xs, upd Y es.length [], ⟨fun i e he => ?_, fun i e he => ?_, fun i j e e' hne he he' g hg hg' => ?_, fun i e he => ?_⟩, fun i e g he hg => ?_, fun e he => ?_⟩
  · rcases hcase i e he with ⟨x, y⟩ | ⟨rfl, rfl⟩
    · rw [upd_ne _ _ (by omega)]; exact h1.a _ _ x
    · rw [upd_same]
      refine ⟨l.len, l.le, ?_⟩
      rcases l.own with z | ⟨g, cs, z1, z2, z3⟩
      · exact .inl z
      · exact .inr ⟨g, cs, z1, Nat.le_trans hB z2, z3⟩
  · rcases hcase i e he with ⟨x, y⟩ | ⟨rfl, rfl⟩
    · rw [upd_ne _ _ (by omega)]; exact h1.l _ _ x
    · rw [upd_same]; exact ⟨rfl, Nat.le_refl _, .inl rfl⟩
  · rcases hcase i e he with ⟨x, y⟩ | ⟨rfl, rfl⟩ <;> rcases hcase j e' he' with ⟨x', y'⟩ | ⟨rfl, rfl⟩
    · exact h1.apart _ _ _ _ hne x x' g hg hg'
    · have := h2 _ _ _ x hg
      have := hl g (hnew g hg')
      omega
    · have := h2 _ _ _ x' hg'
      have := hl g (hnew g hg)
      omega
    · exact hne rfl
  · rcases hcase i e he with ⟨x, y⟩ | ⟨rfl, rfl⟩
    · exact h1.two _ _ x
    · exact .inr fun g hg => by simp [blkOf] at hg
  · rcases hcase i e he with ⟨x, y⟩ | ⟨rfl, rfl⟩
    · have := h2 _ _ _ x hg
      omega
    · exact (hl g (hnew g hg)).2
  · rcases List.mem_append.1 he with x | x
    · exact h3 e x
    · simp at x
      subst x
      exact ⟨hk, hn, rfl⟩
end Go.Proofs.YtfpnhggbfakdkaaDoor
