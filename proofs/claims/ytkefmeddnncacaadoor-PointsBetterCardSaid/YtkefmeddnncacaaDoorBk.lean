/- the laws' Book: two lists that one call answered; laws of nats that divide: words. -/
import Derived.Test.YtkefmeddnncacaaDoorBi
import Derived.Test.YtkefmeddnncacaaDoorRm
set_option linter.unusedVariables false
set_option linter.unusedSimpArgs false
set_option maxRecDepth 100000
namespace Go.Proofs.YtkefmeddnncacaaDoor
open Go.RowKit

theorem blkOf_eq {A : Option Addr} {c g : Nat} (h : blkOf A c = some g) : c ≠ 0 ∧ ∃ a, A = some a ∧ a.block = g := by
  unfold blkOf at h
  split at h
  · cases h
  · next hc =>
    refine ⟨hc, ?_⟩
    cases A with
    | none => cases h
    | some a => exact ⟨a, rfl, by simpa using h⟩
theorem HB.snocA {B hi B' : Nat} {w : World} {es : List Ent} (h : HB B hi w es) {A : Option Addr} {n c : Nat} {xs : List Value} (l : LRow B' w A n c xs) (hB : B ≤ B') (hh : hi ≤ w.heap.size) (hap : ∀ (i : Nat) (e : Ent) g, es[i]? = some e → e.has g → blkOf A c ≠ some g) (hn : n ≤ 500000) {k : Nat} (hk : k ≤ 100000) : HB B w.heap.size w (es ++ [⟨A, n, c, none, 0, 0, k⟩]) := by
  obtain ⟨X, Y, h1, h2, h3⟩ := h
  have hl : ∀ g, blkOf A c = some g → g < w.heap.size := fun g hg => by
    obtain ⟨cs, _, e1, e2, _⟩ := l.blk hg
    exact e2.lt
  have hcase : ∀ (i : Nat) (e : Ent), (es ++ [⟨A, n, c, none, 0, 0, k⟩])[i]? = some e → (es[i]? = some e ∧ i < es.length) ∨ (i = es.length ∧ e = ⟨A, n, c, none, 0, 0, k⟩) := fun i e he => by
    by_cases hi : i < es.length
    · rw [List.getElem?_append_left hi] at he
      exact .inl ⟨he, hi⟩
    · rw [List.getElem?_append_right (by omega)] at he
      have := (List.getElem?_eq_some_iff.1 he).1
      simp at this
      obtain rfl : i = es.length := by omega
      simp at he
      exact .inr ⟨rfl, he.symm⟩
  have hnew : ∀ g, Ent.has ⟨A, n, c, none, 0, 0, k⟩ g → blkOf A c = some g := fun g hg => by
    rcases hg with x | x
    · exact x
    · simp [blkOf] at x
  refine ⟨upd X es.length xs, upd Y es.length [], ⟨fun i e he => ?_, fun i e he => ?_, fun i j e e' hne he he' g hg hg' => ?_, fun i e he => ?_⟩, fun i e g he hg => ?_, fun e he => ?_⟩
  · rcases hcase i e he with ⟨x, y⟩ | ⟨rfl, rfl⟩
    · rw [upd_ne _ _ (by omega)]; exact h1.a _ _ x
    · rw [upd_same]
      refine ⟨l.len, l.le, ?_⟩
      rcases l.own with z | ⟨g, cs, z1, z2, z3⟩
      · exact .inl z
      · exact .inr ⟨g, cs, z1, Nat.le_trans hB z2, z3⟩
  · rcases hcase i e he with ⟨x, y⟩ | ⟨rfl, rfl⟩
    · rw [upd_ne _ _ (by omega)]; exact h1.l _ _ x
    · rw [upd_same]; exact ⟨rfl, Nat.le_refl _, .inl rfl⟩
  · rcases hcase i e he with ⟨x, y⟩ | ⟨rfl, rfl⟩ <;> rcases hcase j e' he' with ⟨x', y'⟩ | ⟨rfl, rfl⟩
    · exact h1.apart _ _ _ _ hne x x' g hg hg'
    · exact hap _ _ _ x hg (hnew g hg')
    · exact hap _ _ _ x' hg' (hnew g hg)
    · exact hne rfl
  · rcases hcase i e he with ⟨x, y⟩ | ⟨rfl, rfl⟩
    · exact h1.two _ _ x
    · exact .inr fun g hg => by simp [blkOf] at hg
  · rcases hcase i e he with ⟨x, y⟩ | ⟨rfl, rfl⟩
    · have := h2 _ _ _ x hg
      omega
    · exact hl g (hnew g hg)
  · rcases List.mem_append.1 he with x | x
    · exact h3 e x
    · simp at x
      subst x
      exact ⟨hk, hn, rfl⟩
/-- Two lists that one call answered, apart from each other. -/
theorem HW.next2 {B : Nat} {w w' : World} {es : List Ent} (h : HW B w es) (k : Below w.heap.size w w') {A : Option Addr} {n c : Nat} {xs : List Value} (l : LRow w.heap.size w' A n c xs) {A' : Option Addr} {n' c' : Nat} {xs' : List Value} (l' : LRow w.heap.size w' A' n' c' xs')
    (hs : Sep (.slice A n c) (.slice A' n' c')) (hB : B ≤ w.heap.size) (hn : n ≤ 500000) (hn' : n' ≤ 500000) {i i' : Nat} (hk : i ≤ 100000) (hk' : i' ≤ 100000) : HW B w' (es ++ [⟨A, n, c, none, 0, 0, i⟩] ++ [⟨A', n', c', none, 0, 0, i'⟩]) := by
  have h1 := HW.next h k l hB hn hk
  obtain ⟨X0, Y0, _, h0, _⟩ := id h
  refine HB.snocA (hi := w'.heap.size) h1 l' hB (Nat.le_refl _) (fun j e g he hg hg' => ?_) hn' hk'
  obtain ⟨cs, _, e1, e2, _⟩ := l'.blk hg'
  by_cases hj : j < es.length
  · rw [List.getElem?_append_left hj] at he
    have := h0 j e g he hg
    omega
  · rw [List.getElem?_append_right (by omega)] at he
    have hlt := (List.getElem?_eq_some_iff.1 he).1
    simp at hlt
    obtain rfl : j = es.length := by omega
    simp at he
    subst he
    have hg2 : blkOf A c = some g := by
      rcases hg with x | x
      · exact x
      · simp [blkOf] at x
    obtain ⟨c0, a, rfl, ha⟩ := blkOf_eq hg2
    obtain ⟨c0', a', rfl, ha'⟩ := blkOf_eq hg'
    rcases hs _ _ _ _ _ _ rfl rfl with z | z | ⟨b, b', z1, z2, z3⟩
    · exact c0 z
    · exact c0' z
    · cases z1; cases z2
      exact z3 (ha.trans ha'.symm)
/-! ### what a division answers -/
def divQ (xs ys : List Nat) : Nat := if chk xs = true ∧ chk ys = true ∧ ys ≠ [] then val xs / val ys else 0
def divR (xs ys : List Nat) : Nat := if chk xs = true ∧ chk ys = true ∧ ys ≠ [] then val xs % val ys else 0
def divK (xs ys : List Nat) : Int := if chk xs = true ∧ chk ys = true then if ys = [] then 10 else 0 else 1
theorem nq_Gcd {w : World} {v v' : Value} {xs ys : List Nat} (h : Prt w v xs) (h' : Prt w v' ys) :
    Calls Tryd.prog 208 #[v, v'] w fun e w' => ∃ A n c, e = .returned (.slice A n c) ∧ Hid (Below w.heap.size w w') ∧ NatR (Nat.gcd (nv xs) (nv ys)) w.heap.size w' (.slice A n c) := by
  obtain ⟨A, n, c, rfl, h1, h2, h3, h4⟩ := h
  obtain ⟨A', n', c', rfl, h1', h2', h3', h4'⟩ := h'
  exact (kGcd_ok w A A' n n' c c' xs ys h3 h3' h4 h4' (by omega) (by omega) h1 h1').mono fun e w' ⟨u, q1, q2, q3⟩ => by
    obtain ⟨A2, c2, rfl, q5⟩ := q2
    exact ⟨_, _, _, q1, q3, A2, c2, rfl, q5⟩
end Go.Proofs.YtkefmeddnncacaaDoor
