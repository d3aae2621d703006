/- laws of nats that compare with the document's answer: words. -/
import Derived.Test.YtkefmeddnncacaaDoorBK
import Derived.Test.YtkefmeddnncacaaDoorRN
import Derived.Test.YtkefmeddnncacaaDoorND
set_option linter.unusedVariables false
set_option linter.unusedSimpArgs false
set_option maxRecDepth 100000
namespace Go.Proofs.YtkefmeddnncacaaDoor
open Go.RowKit


/-- Lists that are held, the last of them newest. -/
def HW (B : Nat) (w : World) (es : List Ent) : Prop := HB B w.heap.size w es
theorem HW.nil (B : Nat) (w : World) : HW B w [] := HB.nil _ _ _
theorem HB.up {B hi hi' : Nat} {w : World} {es : List Ent} (h : HB B hi w es) (hh : hi ≤ hi') : HB B hi' w es := by
  obtain ⟨X, Y, h1, h2, h3⟩ := h
  exact ⟨X, Y, h1, fun i e g he hg => Nat.lt_of_lt_of_le (h2 i e g he hg) hh, h3⟩
theorem HW.below {B : Nat} {w w' : World} {es : List Ent} (h : HW B w es) (k : Below w.heap.size w w') : HW B w' es := (HB.bel h k).up k.size
theorem HW.snoc {B B' : Nat} {w : World} {es : List Ent} (h : HB B B' w es) {A : Option Addr} {n c : Nat} {xs : List Value} (l : LRow B' w A n c xs) (hB : B ≤ B') (hw : B' ≤ w.heap.size) (hn : n ≤ 500000) {k : Nat} (hk : k ≤ 100000) : HW B w (es ++ [⟨A, n, c, none, 0, 0, k⟩]) :=
  HB.snoc h l rfl hB hw hn hk
theorem HW.next {B : Nat} {w w' : World} {es : List Ent} (h : HW B w es) (k : Below w.heap.size w w') {A : Option Addr} {n c : Nat} {xs : List Value} (l : LRow w.heap.size w' A n c xs) (hB : B ≤ w.heap.size) (hn : n ≤ 500000) {i : Nat} (hk : i ≤ 100000) : HW B w' (es ++ [⟨A, n, c, none, 0, 0, i⟩]) :=
  HW.snoc (HB.bel h k) l hB k.size hn hk
/-- A twin: a list of the law's own with a mark behind it. -/
structure Tw (B : Nat) (w : World) (A : Option Addr) (n c : Nat) (xs : List Nat) : Prop where
  rd : Rd w A (n + 1) (xs ++ [77])
  fr : Fr T32 B w A c
  lt : n < c
  is : Is32 xs
  len : n ≤ 1000
theorem Tw.below {B : Nat} {w w' : World} {A : Option Addr} {n c : Nat} {xs : List Nat} (h : Tw B w A n c xs) (k : Below w.heap.size w w') : Tw B w' A n c xs := ⟨h.rd.below k, h.fr.below k, h.lt, h.is, h.len⟩
theorem Tw.prt {B : Nat} {w : World} {A : Option Addr} {n c : Nat} {xs : List Nat} (h : Tw B w A n c xs) : Prt w (.slice A n c) xs := by
  have h1 := h.rd.take n (by omega)
  have hl : xs.length = n := by have := h.rd.1; simp at this; omega
  rw [List.take_append_of_le_length (by omega), List.take_of_length_le (by omega)] at h1
  exact ⟨A, n, c, rfl, Nat.le_of_lt h.lt, by have := h.len; omega, h1, h.is⟩
theorem Tw.lrow {B : Nat} {w : World} {A : Option Addr} {n c : Nat} {xs : List Nat} (h : Tw B w A n c xs) : ∃ ys, LRow B w A n c ys := h.fr.lrow (Nat.le_of_lt h.lt)
def subD (xs ys : List Nat) : Nat := if chk xs = true ∧ chk ys = true ∧ val ys ≤ val xs then val xs - val ys else 0
def subK (xs ys : List Nat) : Int := if chk xs = true ∧ chk ys = true ∧ val ys ≤ val xs then 0 else 1
theorem natR_len {N B : Nat} {w : World} {A : Option Addr} {n c : Nat} (h : NatR N B w (.slice A n c)) : n = L N := by
  obtain ⟨A', c', e, _⟩ := h
  cases e
  rfl
/-- A Book of which nothing is held. -/
theorem BookAt.new {B : Nat} {w : World} (hB : B ≤ w.heap.size) : BookAt B (w.alloc (.cells #[.int .i64 0, .slice none 0 0, .slice none 0 0, .slice none 0 0, .slice none 0 0, .slice none 0 0, .slice none 0 0, .slice none 0 0, .slice none 0 0, .slice none 0 0, .slice none 0 0, .slice none 0 0, .slice none 0 0] TBK)) w.heap.size 0 (.slice none 0 0) [] :=
  ⟨Blk.new w TBK _, hB, rfl, .inl ⟨rfl, rfl⟩⟩
end Go.Proofs.YtkefmeddnncacaaDoor
