/- lists of fractions that are copied, and written into. -/
import Derived.Test.YthnhcbdecgkacaaGreatDoorVt
set_option linter.unusedVariables false
set_option linter.unusedSimpArgs false
set_option maxRecDepth 100000
namespace Go.Proofs.YthnhcbdecgkacaaGreatDoor
open Go.RowKit

/-- A list in a block of its own. -/
structure Row (w : World) (g n cap : Nat) (us : List Value) : Prop where
  blk : ∃ cur, Blk w g TR cur ∧ cur.size = cap * 3 ∧ cur.toList.take (n * 3) = flat us
  len : us.length = n
  le : n ≤ cap
  lim : n ≤ 140737488355328
theorem Row.lst {α : Type} {E : World → Value → α → Prop} {w : World} {g n cap : Nat} {us : List Value} {qs : List α} (h : Row w g n cap us) (hq : qs.length = n) (hE : ∀ (j : Nat) q, qs[j]? = some q → ∃ u, us[j]? = some u ∧ E w u q) : Lst E w (.slice (some ⟨g, 0, none⟩) n cap) qs := by
  obtain ⟨⟨cur, k, hs, ht⟩, h1, h2, h3⟩ := h
  exact ⟨_, n, cap, us, rfl, h2, hq.symm, h1, h3, fun h0 => ⟨_, rfl, k.lt, fun j u hj => by rw [add0, k.cell]; exact take_get ht hj⟩, hE⟩
theorem Row.below {w w' : World} {g n cap : Nat} {us : List Value} (h : Row w g n cap us) (hb : Below w.heap.size w w') : Row w' g n cap us := by
  obtain ⟨⟨cur, k, hs, ht⟩, h1, h2, h3⟩ := h
  exact ⟨⟨cur, k.below' hb, hs, ht⟩, h1, h2, h3⟩
theorem Row.slot {w : World} {g n cap : Nat} {us : List Value} (h : Row w g n cap us) {k : Nat} {b s1 s2 : Value} (hk : us[k]? = some (.agg #[b, s1, s2])) (h3 : ∀ u ∈ us, u.cells.size = 3) :
    w.cell? ⟨g, k * 3, none⟩ = some b ∧ w.cell? ⟨g, k * 3 + 1, none⟩ = some s1 ∧ w.cell? ⟨g, k * 3 + 2, none⟩ = some s2 := by
  obtain ⟨⟨cur, kk, hs, ht⟩, h1, h2, _⟩ := h
  refine ⟨?_, ?_, ?_⟩
  · rw [kk.cell]; exact take_get ht (by rw [Nat.mul_comm]; exact flat_get h3 hk 0 (by omega))
  · rw [kk.cell]; exact take_get ht (by rw [Nat.mul_comm]; exact flat_get h3 hk 1 (by omega))
  · rw [kk.cell]; exact take_get ht (by rw [Nat.mul_comm]; exact flat_get h3 hk 2 (by omega))
theorem flat_set {us : List Value} (h3 : ∀ u ∈ us, u.cells.size = 3) {k : Nat} (hk : k < us.length) (a b c : Value) :
    flat (us.set k (.agg #[a, b, c])) = (((flat us).set (k * 3) a).set (k * 3 + 1) b).set (k * 3 + 2) c := by
  induction us generalizing k with
  | nil => simp at hk
  | cons v us ih =>
    obtain ⟨x, y, z, e⟩ := list3 (show v.cells.toList.length = 3 by rw [Array.length_toList]; exact h3 v List.mem_cons_self)
    have e2 : flat (v :: us) = x :: y :: z :: flat us := by
      show v.cells.toList ++ flat us = _
      rw [e]; rfl
    cases k with
    | zero =>
      rw [List.set_cons_zero, e2]
      rfl
    | succ k =>
      rw [List.set_cons_succ, e2]
      show v.cells.toList ++ flat (us.set k (.agg #[a, b, c])) = _
      rw [e, ih (fun u hu => h3 u (List.mem_cons_of_mem _ hu)) (by simpa using hk), show (k + 1) * 3 = k * 3 + 1 + 1 + 1 by omega]
      rfl
/-- The cells of one place, as they are. -/
theorem Row.cells {w : World} {g n cap : Nat} {us : List Value} (h : Row w g n cap us) {k : Nat} (hk : k < n) :
    ∃ c0 c1 c2, w.cell? ⟨g, k * 3, none⟩ = some c0 ∧ w.cell? ⟨g, k * 3 + 1, none⟩ = some c1 ∧ w.cell? ⟨g, k * 3 + 2, none⟩ = some c2 ∧ w.frozen? ⟨g, k * 3, none⟩ = false ∧ w.frozen? ⟨g, k * 3 + 1, none⟩ = false ∧ w.frozen? ⟨g, k * 3 + 2, none⟩ = false := by
  obtain ⟨⟨cur, kk, hs, ht⟩, h1, h2, hl⟩ := h
  exact ⟨cur[k * 3]'(by omega), cur[k * 3 + 1]'(by omega), cur[k * 3 + 2]'(by omega), by rw [kk.cell]; exact Array.getElem?_eq_getElem _, by rw [kk.cell]; exact Array.getElem?_eq_getElem _, by rw [kk.cell]; exact Array.getElem?_eq_getElem _, kk.frozen _, kk.frozen _, kk.frozen _⟩
/-- One of them is written. -/
theorem Row.store {w : World} {g n cap : Nat} {us : List Value} (h : Row w g n cap us) (h3 : ∀ u ∈ us, u.cells.size = 3) {k : Nat} (hk : k < n) (b s1 s2 : Value) {W : World} (hW : W = ((w.setCell ⟨g, k * 3, none⟩ b).setCell ⟨g, k * 3 + 1, none⟩ s1).setCell ⟨g, k * 3 + 2, none⟩ s2) :
    Only g w W ∧ Row W g n cap (us.set k (.agg #[b, s1, s2])) ∧ ∀ B, B ≤ g → Below B w W := by
  subst hW
  obtain ⟨⟨cur, kk, hs, ht⟩, h1, h2, hl⟩ := h
  refine ⟨(((Only.refl _ _).set _ _).set _ _).set _ _, ⟨⟨_, ((kk.set_ (k * 3) _).set_ (k * 3 + 1) _).set_ (k * 3 + 2) _, by simpa using hs, ?_⟩, by simpa using h1, h2, hl⟩, fun B hB => ?_⟩
  · rw [flat_set h3 (by omega)]
    simp only [Array.toList_setIfInBounds]
    rw [List.take_set, List.take_set, List.take_set, ht]
  · exact (((Below.refl B w).setCell (p := ⟨g, k * 3, none⟩) hB _).setCell (p := ⟨g, k * 3 + 1, none⟩) hB _).setCell (p := ⟨g, k * 3 + 2, none⟩) hB _
theorem row_of_own {w : World} {B n : Nat} {v : Value} {us : List Value} (h : w.ownsRow B TR 3 v n (flat us)) (hl : us.length = n) (hn : 0 < n) (hm : n ≤ 1000000) : ∃ g cap, v = .slice (some ⟨g, 0, none⟩) n cap ∧ B ≤ g ∧ Row w g n cap us := by
  obtain ⟨g, cap, cur, e, hB, h1, h2, h3, h4, h5⟩ := own_some h hn
  exact ⟨g, cap, e, hB, ⟨cur, h3, h4, h5⟩, hl, h1, by omega⟩
/-- 'append([]Rat(nil), l...)', l not empty. -/
theorem wpList_copyR {α : Type} {E : World → Value → α → Prop} (hT : Tri E) {w w0 : World} {ops : Array Oper} {rest : List Oper} {o : Oper} {a : Act} {Q : Exit → Act → World → Prop} (hgd : o.guard = none) (s x : Operand)
    (ho : o.op = .call { callee := .builtin .append, args := #[s, x], argTypes := #[58, 58] })
    (hs : a.eval s = .slice none 0 0) {A : Option Addr} {n c : Nat} (hx : a.eval x = .slice A n c) {qs : List α} (hL : Lst E w0 (.slice A n c) qs) (hb : Below w0.heap.size w0 w) (hn : 0 < n) (hm : n ≤ 1000000)
    (h : ∀ us g cap w', Hid (Row w' g n cap us) → Hid (w.heap.size ≤ g) → Hid (∀ u ∈ us, u.cells.size = 3) → Hid (∀ (j : Nat) q, qs[j]? = some q → ∃ u, us[j]? = some u ∧ E w0 u q) → Hid (Below w.heap.size w w') → wpList Tryz.prog ops Q rest (a.put o.dst (.slice (some ⟨g, 0, none⟩) n cap)) w') : wpList Tryz.prog ops Q (o :: rest) a w := by
  obtain ⟨A', n', c', us, e, h1, h2, h3, h4, h5, h6⟩ := hL
  cases e
  obtain ⟨ad, rfl, hl, hc⟩ := h5 hn
  have h33 := Lst.tri3 hT (by omega) h6
  refine wpList_appv (P := Tryz.prog) (t := 58) (e := TR) (z := .agg #[.bool false, .slice none 0 0, .slice none 0 0]) (size := 3) (b := 56) (by kernel_rfl) infoR rfl (by omega) w hgd s x ho w.heap.size 0 _ [] hs (World.ownsRow_nil _ _ _ _) ad n c (flat us) hx (by rw [flat_len h33, h3, Nat.mul_comm]) (fun j u hj => cell_below hb (hc j u hj)) (fun u hu => ?_) (by omega) (by omega) (Nat.le_refl _) fun v' w' k1 k2 => ?_
  · unfold flat at hu
    rw [List.mem_flatMap] at hu
    obtain ⟨u', hu', hm'⟩ := hu
    obtain ⟨i, hi, rfl⟩ := List.getElem_of_mem hu'
    obtain ⟨u2, hu2, he2⟩ := h6 i (qs[i]'(by omega)) (List.getElem?_eq_getElem _)
    rw [List.getElem?_eq_getElem hi] at hu2
    cases hu2
    obtain ⟨b1, B1, m1, d1, B2, m2, d2, e⟩ := hT _ _ _ he2
    rw [e] at hm'
    simp [Value.cells] at hm'
    rcases hm' with rfl | rfl | rfl <;> rfl
  · rw [Nat.zero_add, List.nil_append] at k1
    obtain ⟨g, cap, rfl, hB, hR⟩ := row_of_own k1.out h3 hn hm
    exact h us g cap w' hR hB h33 h6 ((Below.refl _ w).grown k2.out (Nat.le_refl _) (fun k e => by simp [Value.ownBlock] at e))
end Go.Proofs.YthnhcbdecgkacaaGreatDoor
