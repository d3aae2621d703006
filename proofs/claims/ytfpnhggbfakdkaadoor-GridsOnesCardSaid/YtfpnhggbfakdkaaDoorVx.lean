/- lists of fractions that are copied, and written into. -/
import Derived.Test.YtfpnhggbfakdkaaDoorVt
set_option linter.unusedVariables false
set_option linter.unusedSimpArgs false
set_option maxRecDepth 100000
namespace Go.Proofs.YtfpnhggbfakdkaaDoor
open Go.RowKit

/-- A list in a block of its own. -/
structure Row (w : World) (g n cap : Nat) (us : List Value) : Prop where
  blk : ∃ cur, Blk w g TR cur ∧ cur.size = cap * 3 ∧ cur.toList.take (n * 3) = flat us
  len : us.length = n
  le : n ≤ cap
  lim : n ≤ 140737488355328
theorem Row.lst {α : Type} {E : World → Value → α → Prop} {w : World} {g n cap : Nat} {us : List Value} {qs : List α} (h : Row w g n cap us) (hq : qs.length = n) (hE : ∀ (j : Nat) q, qs[j]? = some q → ∃ u, us[j]? = some u ∧ E w u q) : Lst E w (.slice (some ⟨g, 0, none⟩) n cap) qs := by
  obtain ⟨⟨cur, k, hs, ht⟩, h1, h2, h3⟩ := h
  exact ⟨_, n, cap, us, rfl, h2, hq.symm, h1, h3, fun h0 => ⟨_, rfl, k.lt, fun j u hj => by rw [add0, k.cell]; exact take_get ht hj⟩, hE⟩
theorem Row.below {w w' : World} {g n cap : Nat} {us : List Value} (h : Row w g n cap us) (hb : Below w.heap.size w w') : Row w' g n cap us := by
  obtain ⟨⟨cur, k, hs, ht⟩, h1, h2, h3⟩ := h
  exact ⟨⟨cur, k.below' hb, hs, ht⟩, h1, h2, h3⟩
theorem Row.slot {w : World} {g n cap : Nat} {us : List Value} (h : Row w g n cap us) {k : Nat} {b s1 s2 : Value} (hk : us[k]? = some (.agg #[b, s1, s2])) (h3 : ∀ u ∈ us, u.cells.size = 3) :
    w.cell? ⟨g, k * 3, none⟩ = some b ∧ w.cell? ⟨g, k * 3 + 1, none⟩ = some s1 ∧ w.cell? ⟨g, k * 3 + 2, none⟩ = some s2 := by
  obtain ⟨⟨cur, kk, hs, ht⟩, h1, h2, _⟩ := h
  refine ⟨?_, ?_, ?_⟩
  · rw [kk.cell]; exact take_get ht (by rw [Nat.mul_comm]; exact flat_get h3 hk 0 (by omega))
  · rw [kk.cell]; exact take_get ht (by rw [Nat.mul_comm]; exact flat_get h3 hk 1 (by omega))
  · rw [kk.cell]; exact take_get ht (by rw [Nat.mul_comm]; exact flat_get h3 hk 2 (by omega))
theorem flat_set {us : List Value} (h3 : ∀ u ∈ us, u.cells.size = 3) {k : Nat} (hk : k < us.length) (a b c : Value) :
    flat (us.set k (.agg #[a, b, c])) = (((flat us).set (k * 3) a).set (k * 3 + 1) b).set (k * 3 + 2) c := by
  induction us generalizing k with
  | nil => simp at hk
  | cons v us ih =>
    obtain ⟨x, y, z, e⟩ := list3 (show v.cells.toList.length = 3 by rw [Array.length_toList]; exact h3 v List.mem_cons_self)
    have e2 : flat (v :: us) = x :: y :: z :: flat us := by
      show v.cells.toList ++ flat us = _
      rw [e]; rfl
    cases k with
    | zero =>
      rw [List.set_cons_zero, e2]
      rfl
    | succ k =>
      rw [List.set_cons_succ, e2]
      show v.cells.toList ++ flat (us.set k (.agg #[a, b, c])) = _
      rw [e, ih (fun u hu => h3 u (List.mem_cons_of_mem _ hu)) (by simpa using hk), show (k + 1) * 3 = k * 3 + 1 + 1 + 1 by omega]
      rfl
/-- The cells of one place, as they are. -/
theorem Row.cells {w : World} {g n cap : Nat} {us : List Value} (h : Row w g n cap us) {k : Nat} (hk : k < n) :
    ∃ c0 c1 c2, w.cell? ⟨g, k * 3, none⟩ = some c0 ∧ w.cell? ⟨g, k * 3 + 1, none⟩ = some c1 ∧ w.cell? ⟨g, k * 3 + 2, none⟩ = some c2 ∧ w.frozen? ⟨g, k * 3, none⟩ = false ∧ w.frozen? ⟨g, k * 3 + 1, none⟩ = false ∧ w.frozen? ⟨g, k * 3 + 2, none⟩ = false := by
  obtain ⟨⟨cur, kk, hs, ht⟩, h1, h2, hl⟩ := h
  exact ⟨cur[k * 3]'(by omega), cur[k * 3 + 1]'(by omega), cur[k * 3 + 2]'(by omega), by rw [kk.cell]; exact Array.getElem?_eq_getElem _, by rw [kk.cell]; exact Array.getElem?_eq_getElem _, by rw [kk.cell]; exact Array.getElem?_eq_getElem _, kk.frozen _, kk.frozen _, kk.frozen _⟩
/-- One of them is written. -/
theorem Row.store {w : World} {g n cap : Nat} {us : List Value} (h : Row w g n cap us) (h3 : ∀ u ∈ us, u.cells.size = 3) {k : Nat} (hk : k < n) (b s1 s2 : Value) {W : World} (hW : W = ((w.setCell ⟨g, k * 3, none⟩ b).setCell ⟨g, k * 3 + 1, none⟩ s1).setCell ⟨g, k * 3 + 2, none⟩ s2) :
    Only g w W ∧ Row W g n cap (us.set k (.agg #[b, s1, s2])) ∧ ∀ B, B ≤ g → Below B w W := by
  subst hW
  obtain ⟨⟨cur, kk, hs, ht⟩, h1, h2, hl⟩ := h
  refine ⟨(((Only.refl _ _).set _ _).set _ _).set _ _, ⟨⟨_, ((kk.set_ (k * 3) _).set_ (k * 3 + 1) _).set_ (k * 3 + 2) _, by simpa using hs, ?_⟩, by simpa using h1, h2, hl⟩, fun B hB => ?_⟩
  · rw [flat_set h3 (by omega)]
    simp only [Array.toList_setIfInBounds]
    rw [List.take_set, List.take_set, List.take_set, ht]
  · exact (((Below.refl B w).setCell (p := ⟨g, k * 3, none⟩) hB _).setCell (p := ⟨g, k * 3 + 1, none⟩) hB _).setCell (p := ⟨g, k * 3 + 2, none⟩) hB _
theorem row_of_own {w : World} {B n : Nat} {v : Value} {us : List Value} (h : w.ownsRow B TR 3 v n (flat us)) (hl : us.length = n) (hn : 0 < n) (hm : n ≤ 1000000) : ∃ g cap, v = .slice (some ⟨g, 0, none⟩) n cap ∧ B ≤ g ∧ Row w g n cap us := by
  obtain ⟨g, cap, cur, e, hB, h1, h2, h3, h4, h5⟩ := own_some h hn
  exact ⟨g, cap, e, hB, ⟨cur, h3, h4, h5⟩, hl, h1, by omega⟩
end Go.Proofs.YtfpnhggbfakdkaaDoor
