/- laws of nats that compare with the document's answer: words. -/
import Derived.Test.YtkefmeddnncacaaDoorBK
import Derived.Test.YtkefmeddnncacaaDoorRN
import Derived.Test.YtkefmeddnncacaaDoorND
set_option linter.unusedVariables false
set_option linter.unusedSimpArgs false
set_option maxRecDepth 100000
namespace Go.Proofs.YtkefmeddnncacaaDoor
open Go.RowKit


/-- Lists that are held, the last of them newest. -/
def HW (B : Nat) (w : World) (es : List Ent) : Prop := HB B w.heap.size w es
theorem HW.nil (B : Nat) (w : World) : HW B w [] := HB.nil _ _ _
theorem HB.up {B hi hi' : Nat} {w : World} {es : List Ent} (h : HB B hi w es) (hh : hi ≤ hi') : HB B hi' w es := by
  obtain ⟨X, Y, h1, h2, h3⟩ := h
  exact ⟨X, Y, h1, fun i e g he hg => Nat.lt_of_lt_of_le (h2 i e g he hg) hh, h3⟩
theorem HW.below {B : Nat} {w w' : World} {es : List Ent} (h : HW B w es) (k : Below w.heap.size w w') : HW B w' es := (HB.bel h k).up k.size
theorem HW.snoc {B B' : Nat} {w : World} {es : List Ent} (h : HB B B' w es) {A : Option Addr} {n c : Nat} {xs : List Value} (l : LRow B' w A n c xs) (hB : B ≤ B') (hw : B' ≤ w.heap.size) (hn : n ≤ 500000) {k : Nat} (hk : k ≤ 100000) : HW B w (es ++ [⟨A, n, c, none, 0, 0, k⟩]) :=
  HB.snoc h l rfl hB hw hn hk
theorem HW.next {B : Nat} {w w' : World} {es : List Ent} (h : HW B w es) (k : Below w.heap.size w w') {A : Option Addr} {n c : Nat} {xs : List Value} (l : LRow w.heap.size w' A n c xs) (hB : B ≤ w.heap.size) (hn : n ≤ 500000) {i : Nat} (hk : i ≤ 100000) : HW B w' (es ++ [⟨A, n, c, none, 0, 0, i⟩]) :=
  HW.snoc (HB.bel h k) l hB k.size hn hk
/-- A twin: a list of the law's own with a mark behind it. -/
structure Tw (B : Nat) (w : World) (A : Option Addr) (n c : Nat) (xs : List Nat) : Prop where
  rd : Rd w A (n + 1) (xs ++ [77])
  fr : Fr T32 B w A c
  lt : n < c
  is : Is32 xs
  len : n ≤ 100000
theorem Tw.below {B : Nat} {w w' : World} {A : Option Addr} {n c : Nat} {xs : List Nat} (h : Tw B w A n c xs) (k : Below w.heap.size w w') : Tw B w' A n c xs := ⟨h.rd.below k, h.fr.below k, h.lt, h.is, h.len⟩
theorem Tw.prt {B : Nat} {w : World} {A : Option Addr} {n c : Nat} {xs : List Nat} (h : Tw B w A n c xs) : Prt w (.slice A n c) xs := by
  have h1 := h.rd.take n (by omega)
  have hl : xs.length = n := by have := h.rd.1; simp at this; omega
  rw [List.take_append_of_le_length (by omega), List.take_of_length_le (by omega)] at h1
  exact ⟨A, n, c, rfl, Nat.le_of_lt h.lt, by have := h.len; omega, h1, h.is⟩
theorem Tw.lrow {B : Nat} {w : World} {A : Option Addr} {n c : Nat} {xs : List Nat} (h : Tw B w A n c xs) : ∃ ys, LRow B w A n c ys := h.fr.lrow (Nat.le_of_lt h.lt)
theorem np_twin {w : World} {A : Option Addr} {n c : Nat} {xs : List Nat} (h : Prt w (.slice A n c) xs) (hn : n ≤ 100000) :
    Calls Tryd.prog 84 #[.slice A n c] w fun e w' => ∃ X cx, e = .returned (.slice X n cx) ∧ Hid (Below w.heap.size w w') ∧ Tw w.heap.size w' X n cx xs := by
  obtain ⟨A', n', c', e, h1, h2, h3, h4⟩ := h
  cases e
  exact (TwinNat_ok w A n c xs h3 (by omega)).mono fun e w' ⟨A', c', e1, h1, h2, h3, h5, h6⟩ => ⟨A', c', e1, h6, h2.out, h3.out, h1, h4, hn⟩
theorem np_left {B : Nat} {w : World} {A X : Option Addr} {n c cx : Nat} {xs : List Nat} (h : Tw B w X n cx xs) (h' : Prt w (.slice A n c) xs) :
    Calls Tryd.prog 91 #[.slice X n cx, .slice A n c] w fun e w' => e = .returned (.bool true) ∧ Hid (Below w.heap.size w w') := by
  obtain ⟨A', n', c', e, h1, h2, h3, h4⟩ := h'
  cases e
  exact LeftNat_ok w X A n cx c xs h.rd h3 h.lt
def subD (xs ys : List Nat) : Nat := if chk xs = true ∧ chk ys = true ∧ val ys ≤ val xs then val xs - val ys else 0
def subK (xs ys : List Nat) : Int := if chk xs = true ∧ chk ys = true ∧ val ys ≤ val xs then 0 else 1
theorem natR_len {N B : Nat} {w : World} {A : Option Addr} {n c : Nat} (h : NatR N B w (.slice A n c)) : n = L N := by
  obtain ⟨A', c', e, _⟩ := h
  cases e
  rfl
theorem nq_Add {w : World} {v v' : Value} {xs ys : List Nat} (h : Prt w v xs) (h' : Prt w v' ys) :
    Calls Tryd.prog 223 #[v, v'] w fun e w' => ∃ A n c, e = .returned (.slice A n c) ∧ Hid (Below w.heap.size w w') ∧ NatR (nv xs + nv ys) w.heap.size w' (.slice A n c) := by
  obtain ⟨A, n, c, rfl, h1, h2, h3, h4⟩ := h
  obtain ⟨A', n', c', rfl, h1', h2', h3', h4'⟩ := h'
  exact (rAdd_ok w A A' n n' c c' xs ys h3 h3' h4 h4' (by omega) (by omega) h1 h1').mono fun e w' ⟨u, q1, q2, q3⟩ => by
    obtain ⟨A2, c2, rfl, q4⟩ := q2
    exact ⟨A2, _, c2, q1, q3, A2, c2, rfl, q4⟩
theorem nq_Mul {w : World} {v v' : Value} {xs ys : List Nat} (h : Prt w v xs) (h' : Prt w v' ys) :
    Calls Tryd.prog 212 #[v, v'] w fun e w' => ∃ A n c, e = .returned (.slice A n c) ∧ Hid (Below w.heap.size w w') ∧ NatR (nv xs * nv ys) w.heap.size w' (.slice A n c) := by
  obtain ⟨A, n, c, rfl, h1, h2, h3, h4⟩ := h
  obtain ⟨A', n', c', rfl, h1', h2', h3', h4'⟩ := h'
  exact (rMul_ok w A A' n n' c c' xs ys h3 h3' h4 h4' (by omega) (by omega) h1 h1').mono fun e w' ⟨u, q1, q2, q3⟩ => by
    obtain ⟨A2, c2, rfl, q4⟩ := q2
    exact ⟨A2, _, c2, q1, q3, A2, c2, rfl, q4⟩
theorem nq_Sub {w : World} {v v' : Value} {xs ys : List Nat} (h : Prt w v xs) (h' : Prt w v' ys) :
    Calls Tryd.prog 225 #[v, v'] w fun e w' => ∃ A n c, e = .returned (.tuple #[.slice A n c, .int .i64 (subK xs ys)]) ∧ Hid (Below w.heap.size w w') ∧ NatR (subD xs ys) w.heap.size w' (.slice A n c) := by
  obtain ⟨A, n, c, rfl, h1, h2, h3, h4⟩ := h
  obtain ⟨A', n', c', rfl, h1', h2', h3', h4'⟩ := h'
  exact (rSub_ok w A A' n n' c c' xs ys h3 h3' h4 h4' (by omega) (by omega) h1 h1').mono fun e w' ⟨q1, q2⟩ => by
    unfold subD subK
    split at q1
    · rename_i hc
      obtain ⟨u, q3, q4⟩ := q1
      obtain ⟨A2, c2, rfl, q5⟩ := q4
      rw [if_pos hc, if_pos hc]
      exact ⟨A2, _, c2, q3, q2, A2, c2, rfl, q5⟩
    · rename_i hc
      rw [if_neg hc, if_neg hc]
      exact ⟨none, 0, 0, q1, q2, NatR.zero _ _⟩
theorem nq_Cmp {w : World} {v v' : Value} {xs ys : List Nat} (h : Prt w v xs) (h' : Prt w v' ys) :
    Calls Tryd.prog 224 #[v, v'] w fun e w' => e = .returned (.int .i64 (cmpN (nv xs) (nv ys))) ∧ Hid (Below w.heap.size w w') := by
  obtain ⟨A, n, c, rfl, h1, h2, h3, h4⟩ := h
  obtain ⟨A', n', c', rfl, h1', h2', h3', h4'⟩ := h'
  exact (rCmp_ok w A A' n n' c c' xs ys h3 h3' h4 h4' h1 h1').mono fun e w' ⟨q1, q2⟩ => ⟨q1, q2⟩
/-- A Book of which nothing is held. -/
theorem BookAt.new {B : Nat} {w : World} (hB : B ≤ w.heap.size) : BookAt B (w.alloc (.cells #[.int .i64 0, .slice none 0 0, .slice none 0 0, .slice none 0 0, .slice none 0 0, .slice none 0 0, .slice none 0 0, .slice none 0 0, .slice none 0 0, .slice none 0 0, .slice none 0 0, .slice none 0 0, .slice none 0 0] TBK)) w.heap.size 0 (.slice none 0 0) [] :=
  ⟨Blk.new w TBK _, hB, rfl, .inl ⟨rfl, rfl⟩⟩
end Go.Proofs.YtkefmeddnncacaaDoor
