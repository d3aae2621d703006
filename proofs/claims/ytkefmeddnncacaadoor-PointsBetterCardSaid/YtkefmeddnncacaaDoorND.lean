/- nats: Text, Parse, all contracts at numbers; some answers that the document fixes. -/
import Derived.Test.YtkefmeddnncacaaDoorNC
import Derived.Test.YtkefmeddnncacaaDoorLa
import Derived.Laws.IdiomStrings
import Derived.Test.YtkefmeddnncacaaDoorCa
import Derived.Test.YtkefmeddnncacaaDoorShelf
import Derived.Sort.Row
import Derived.Lib.SlTrimSet
import Derived.Test.YtkefmeddnncacaaDoorNB
import Derived.Test.YtkefmeddnncacaaDoorNA
import Derived.Laws.Closers25
import Derived.WideShapes
import Derived.OwnWalk
/- nats: nine digits. -/
set_option linter.unusedVariables false
set_option linter.unusedSimpArgs false
set_option maxRecDepth 100000
namespace Go.Proofs.YtkefmeddnncacaaDoor
open Go.RowKit

end Go.Proofs.YtkefmeddnncacaaDoor

/- nats: Text. -/
set_option linter.unusedVariables false
set_option linter.unusedSimpArgs false
set_option maxRecDepth 100000
namespace Go.Proofs.YtkefmeddnncacaaDoor
open Go.RowKit

abbrev vstr (l : List UInt8) : Value := .string ⟨l.toArray⟩
/-- A number in memory of its own stays, while a row elsewhere grows. -/
theorem NatR.grown {N B : Nat} {w w' : World} {v : Value} {row : Option Nat} (h : NatR N B w v) (hg : w.grownBy w' row) (hr : ∀ k, row = some k → k < B) : NatR N B w' v := by
  obtain ⟨A, c, rfl, r, f, l⟩ := h
  rcases f with h0 | ⟨g, cs, e, hB, hk, hc⟩
  · have hl : (limbs N).length = 0 := by omega
    refine ⟨A, c, rfl, ⟨rfl, by omega, fun q => by omega⟩, .inl h0, l⟩
  · have hblk : w'.heap[g]? = w.heap[g]? := hg.block g hk.lt (fun q => by have := hr g q.symm; omega)
    refine ⟨A, c, rfl, ⟨r.1, r.2.1, fun q => ?_⟩, .inr ⟨g, cs, e, hB, hk.keep hblk, hc⟩, l⟩
    obtain ⟨ad, e1, hb, hcl⟩ := r.2.2 q
    rw [e] at e1
    cases e1
    refine ⟨_, e, (hk.keep hblk).lt, fun j hj => ?_⟩
    rw [← hcl j hj, add0]
    exact World.cell?_of_block (w := w) hblk
end Go.Proofs.YtkefmeddnncacaaDoor

/- nats: Parse. -/
set_option linter.unusedVariables false
set_option linter.unusedSimpArgs false
set_option maxRecDepth 100000
namespace Go.Proofs.YtkefmeddnncacaaDoor
open Go.RowKit

def byt (s : ByteArray) : List Nat := s.data.toList.map UInt8.toNat
def digits : ByteArray := ⟨#[48, 49, 50, 51, 52, 53, 54, 55, 56, 57]⟩
end Go.Proofs.YtkefmeddnncacaaDoor

/- nats: Parse. -/
set_option linter.unusedVariables false
set_option linter.unusedSimpArgs false
set_option maxRecDepth 100000
namespace Go.Proofs.YtkefmeddnncacaaDoor
open Go.RowKit Go.WideShapes

end Go.Proofs.YtkefmeddnncacaaDoor

/- law helpers: SameNat. -/
set_option linter.unusedVariables false
set_option linter.unusedSimpArgs false
set_option maxRecDepth 100000
namespace Go.Proofs.YtkefmeddnncacaaDoor
open Go.RowKit

theorem bel_drewN {B : Nat} {w W : World} (h : Below B w W) (n : Nat) : Below B w (W.drewN n) := ⟨h.os, h.tape, h.output, h.size, h.block⟩
end Go.Proofs.YtkefmeddnncacaaDoor

/- nats: contracts at arguments of whatever kind, and what they answer. -/
set_option linter.unusedVariables false
set_option linter.unusedSimpArgs false
set_option maxRecDepth 100000
namespace Go.Proofs.YtkefmeddnncacaaDoor
open Go.RowKit

/-- A list of parts of whatever kind, not too long, that counts as N. -/
def Arg (w : World) (v : Value) (N : Nat) : Prop := ∃ A n c xs, v = .slice A n c ∧ n ≤ c ∧ n ≤ 4398046511104 ∧ Rd w A n xs ∧ Is32 xs ∧ nv xs = N
theorem Can.arg {w : World} {v : Value} {N : Nat} (h : Can w v N) (hl : L N ≤ 4398046511104) : Arg w v N := by
  obtain ⟨A, c, rfl, l, r⟩ := h
  exact ⟨A, _, c, _, rfl, l, hl, r, is32_limbs N, nv_limbs N⟩
theorem Arg.below {w w' : World} {v : Value} {N : Nat} (h : Arg w v N) (hb : Below w.heap.size w w') : Arg w' v N := by
  obtain ⟨A, n, c, xs, e, h1, h2, h3, h4, h5⟩ := h
  exact ⟨A, n, c, xs, e, h1, h2, h3.below hb, h4, h5⟩
theorem can_nil (w : World) : Can w (.slice none 0 0) 0 := (NatR.zero 0 w).can

theorem Mul_arg {w : World} {v v' : Value} {M N : Nat} (h : Arg w v M) (h' : Arg w v' N) :
    Calls Tryd.prog 186 #[v, v'] w fun e w' => ∃ u, e = .returned u ∧ Hid (NatR (M * N) w.heap.size w' u) ∧ Hid (Below w.heap.size w w') := by
  obtain ⟨A, n, c, xs, rfl, h1, h2, h3, h4, rfl⟩ := h
  obtain ⟨A', n', c', xs', rfl, h1', h2', h3', h4', rfl⟩ := h'
  exact Mul_ok w A A' n n' c c' xs xs' h3 h3' h4 h4' (by omega) (by omega) h1 h1'
theorem Cmp_arg {w : World} {v v' : Value} {M N : Nat} (h : Arg w v M) (h' : Arg w v' N) :
    Calls Tryd.prog 175 #[v, v'] w fun e w' => e = .returned (.int .i64 (cmpN M N)) ∧ Hid (Below w.heap.size w w') := by
  obtain ⟨A, n, c, xs, rfl, h1, h2, h3, h4, rfl⟩ := h
  obtain ⟨A', n', c', xs', rfl, h1', h2', h3', h4', rfl⟩ := h'
  exact Cmp_ok w A A' n n' c c' xs xs' h3 h3' h4 h4' (by omega) (by omega) h1 h1'
theorem Gcd_arg {w : World} {v v' : Value} {M N : Nat} (h : Arg w v M) (h' : Arg w v' N) (hT : Tab w) :
    Calls Tryd.prog 116 #[v, v'] w fun e w' => ∃ u, e = .returned u ∧ Hid (NatR (Nat.gcd M N) w.heap.size w' u) ∧ Hid (Below w.heap.size w w') := by
  obtain ⟨A, n, c, xs, rfl, h1, h2, h3, h4, rfl⟩ := h
  obtain ⟨A', n', c', xs', rfl, h1', h2', h3', h4', rfl⟩ := h'
  exact Gcd_ok w A A' n n' c c' xs xs' h3 h3' h4 h4' (by omega) (by omega) h1 h1' hT
/-- Parts that are written out. -/
theorem can_lit (w : World) (xs : List Nat) (h : Is32 xs) (hc : chk xs = true) (hl : xs.length ≤ 1000) : Can (w.alloc (.cells (cellsOf .u32 xs) T32)) (.slice (some ⟨w.heap.size, 0, none⟩) xs.length xs.length) (val xs) := by
  have e := limbs_val_chk h hc
  refine ⟨_, xs.length, by rw [e], by rw [e]; exact Nat.le_refl _, ?_⟩
  rw [e]
  have := (Blk.new w T32 (cellsOf .u32 xs)).rd xs.length (Nat.le_refl _) (by omega)
  rwa [List.take_length] at this
theorem lit (w : World) (xs : List Nat) (N : Nat) (hN : val xs = N) (h : Is32 xs) (hc : chk xs = true) (hl : xs.length ≤ 1000) : Can (w.alloc (.cells (cellsOf .u32 xs) T32)) (.slice (some ⟨w.heap.size, 0, none⟩) xs.length xs.length) N := hN ▸ can_lit w xs h hc hl
/-- Parts of whatever kind, not too many. -/
def Prt (w : World) (v : Value) (xs : List Nat) : Prop := ∃ A n c, v = .slice A n c ∧ n ≤ c ∧ n ≤ 4398046511104 ∧ Rd w A n xs ∧ Is32 xs
theorem Prt.below {w w' : World} {v : Value} {xs : List Nat} (h : Prt w v xs) (hb : Below w.heap.size w w') : Prt w' v xs := by
  obtain ⟨A, n, c, e, h1, h2, h3, h4⟩ := h
  exact ⟨A, n, c, e, h1, h2, h3.below hb, h4⟩
theorem Prt.arg {w : World} {v : Value} {xs : List Nat} (h : Prt w v xs) : Arg w v (nv xs) := by
  obtain ⟨A, n, c, e, h1, h2, h3, h4⟩ := h
  exact ⟨A, n, c, xs, e, h1, h2, h3, h4, rfl⟩
theorem Prt.can {w : World} {v : Value} {xs : List Nat} (h : Prt w v xs) (hc : chk xs = true) : Can w v (val xs) := by
  obtain ⟨A, n, c, rfl, h1, h2, h3, h4⟩ := h
  exact can_of h3 h4 hc h1
theorem Prt.is32 {w : World} {v : Value} {xs : List Nat} (h : Prt w v xs) : Is32 xs := by
  obtain ⟨A, n, c, e, h1, h2, h3, h4⟩ := h
  exact h4
theorem Prt.len {w : World} {v : Value} {xs : List Nat} (h : Prt w v xs) : xs.length ≤ 4398046511104 := by
  obtain ⟨A, n, c, e, h1, h2, h3, h4⟩ := h
  rw [h3.1]; exact h2
theorem Can.prt {w : World} {v : Value} {N : Nat} (h : Can w v N) (hl : L N ≤ 4398046511104) : Prt w v (limbs N) := by
  obtain ⟨A, c, rfl, l, r⟩ := h
  exact ⟨A, _, c, rfl, l, hl, r, is32_limbs N⟩
theorem Check_prt {w : World} {v : Value} {xs : List Nat} (h : Prt w v xs) :
    Calls Tryd.prog 114 #[v] w fun e w' => e = .returned (.bool (chk xs)) ∧ w = w' := by
  obtain ⟨A, n, c, rfl, h1, h2, h3, h4⟩ := h
  exact Check_ok w A n c xs h3
end Go.Proofs.YtkefmeddnncacaaDoor

/- nats: what literals and texts come to. -/
set_option linter.unusedVariables false
set_option linter.unusedSimpArgs false
set_option maxRecDepth 100000
namespace Go.Proofs.YtkefmeddnncacaaDoor
open Go.RowKit

theorem is32d {xs : List Nat} (h : xs.all (fun x => decide (x < 4294967296)) = true) : Is32 xs := by
  intro x hx
  have := List.all_eq_true.1 h x hx
  simpa using this
/-- 2 to the power of 64, as it is written. -/
def two64 : ByteArray := ⟨#[49, 56, 52, 52, 54, 55, 52, 52, 48, 55, 51, 55, 48, 57, 53, 53, 49, 54, 49, 54]⟩
end Go.Proofs.YtkefmeddnncacaaDoor
