/- nats: Text, Parse, all contracts at numbers; some answers that the document fixes. -/
import Derived.Test.YtfpnhggbfakdkaaDoorNC
import Derived.Test.YtfpnhggbfakdkaaDoorLa
import Derived.Laws.IdiomStrings
import Derived.Test.YtfpnhggbfakdkaaDoorCa
import Derived.Test.YtfpnhggbfakdkaaDoorShelf
import Derived.Sort.Row
import Derived.Lib.SlTrimSet
import Derived.Test.YtfpnhggbfakdkaaDoorNB
import Derived.Test.YtfpnhggbfakdkaaDoorNA
import Derived.Laws.Closers25
import Derived.WideShapes
import Derived.OwnWalk
/- nats: nine digits. -/
set_option linter.unusedVariables false
set_option linter.unusedSimpArgs false
set_option maxRecDepth 100000
namespace Go.Proofs.YtfpnhggbfakdkaaDoor
open Go.RowKit

end Go.Proofs.YtfpnhggbfakdkaaDoor

/- nats: Text. -/
set_option linter.unusedVariables false
set_option linter.unusedSimpArgs false
set_option maxRecDepth 100000
namespace Go.Proofs.YtfpnhggbfakdkaaDoor
open Go.RowKit

abbrev vstr (l : List UInt8) : Value := .string ⟨l.toArray⟩
/-- A number in memory of its own stays, while a row elsewhere grows. -/
theorem NatR.grown {N B : Nat} {w w' : World} {v : Value} {row : Option Nat} (h : NatR N B w v) (hg : w.grownBy w' row) (hr : ∀ k, row = some k → k < B) : NatR N B w' v := by
  obtain ⟨A, c, rfl, r, f, l⟩ := h
  rcases f with h0 | ⟨g, cs, e, hB, hk, hc⟩
  · have hl : (limbs N).length = 0 := by omega
    refine ⟨A, c, rfl, ⟨rfl, by omega, fun q => by omega⟩, .inl h0, l⟩
  · have hblk : w'.heap[g]? = w.heap[g]? := hg.block g hk.lt (fun q => by have := hr g q.symm; omega)
    refine ⟨A, c, rfl, ⟨r.1, r.2.1, fun q => ?_⟩, .inr ⟨g, cs, e, hB, hk.keep hblk, hc⟩, l⟩
    obtain ⟨ad, e1, hb, hcl⟩ := r.2.2 q
    rw [e] at e1
    cases e1
    refine ⟨_, e, (hk.keep hblk).lt, fun j hj => ?_⟩
    rw [← hcl j hj, add0]
    exact World.cell?_of_block (w := w) hblk
end Go.Proofs.YtfpnhggbfakdkaaDoor

/- nats: Parse. -/
set_option linter.unusedVariables false
set_option linter.unusedSimpArgs false
set_option maxRecDepth 100000
namespace Go.Proofs.YtfpnhggbfakdkaaDoor
open Go.RowKit

def byt (s : ByteArray) : List Nat := s.data.toList.map UInt8.toNat
def digits : ByteArray := ⟨#[48, 49, 50, 51, 52, 53, 54, 55, 56, 57]⟩
end Go.Proofs.YtfpnhggbfakdkaaDoor

/- nats: Parse. -/
set_option linter.unusedVariables false
set_option linter.unusedSimpArgs false
set_option maxRecDepth 100000
namespace Go.Proofs.YtfpnhggbfakdkaaDoor
open Go.RowKit Go.WideShapes

end Go.Proofs.YtfpnhggbfakdkaaDoor

/- law helpers: SameNat. -/
set_option linter.unusedVariables false
set_option linter.unusedSimpArgs false
set_option maxRecDepth 100000
namespace Go.Proofs.YtfpnhggbfakdkaaDoor
open Go.RowKit

end Go.Proofs.YtfpnhggbfakdkaaDoor

/- nats: contracts at arguments of whatever kind, and what they answer. -/
set_option linter.unusedVariables false
set_option linter.unusedSimpArgs false
set_option maxRecDepth 100000
namespace Go.Proofs.YtfpnhggbfakdkaaDoor
open Go.RowKit

/-- A list of parts of whatever kind, not too long, that counts as N. -/
def Arg (w : World) (v : Value) (N : Nat) : Prop := ∃ A n c xs, v = .slice A n c ∧ n ≤ c ∧ n ≤ 4398046511104 ∧ Rd w A n xs ∧ Is32 xs ∧ nv xs = N
theorem Can.arg {w : World} {v : Value} {N : Nat} (h : Can w v N) (hl : L N ≤ 4398046511104) : Arg w v N := by
  obtain ⟨A, c, rfl, l, r⟩ := h
  exact ⟨A, _, c, _, rfl, l, hl, r, is32_limbs N, nv_limbs N⟩
theorem Arg.below {w w' : World} {v : Value} {N : Nat} (h : Arg w v N) (hb : Below w.heap.size w w') : Arg w' v N := by
  obtain ⟨A, n, c, xs, e, h1, h2, h3, h4, h5⟩ := h
  exact ⟨A, n, c, xs, e, h1, h2, h3.below hb, h4, h5⟩
theorem can_nil (w : World) : Can w (.slice none 0 0) 0 := (NatR.zero 0 w).can

theorem Add_arg {w : World} {v v' : Value} {M N : Nat} (h : Arg w v M) (h' : Arg w v' N) :
    Calls Tryd.prog 97 #[v, v'] w fun e w' => ∃ u, e = .returned u ∧ Hid (NatR (M + N) w.heap.size w' u) ∧ Hid (Below w.heap.size w w') := by
  obtain ⟨A, n, c, xs, rfl, h1, h2, h3, h4, rfl⟩ := h
  obtain ⟨A', n', c', xs', rfl, h1', h2', h3', h4', rfl⟩ := h'
  exact Add_ok w A A' n n' c c' xs xs' h3 h3' h4 h4' (by omega) (by omega) h1 h1'
theorem Mul_arg {w : World} {v v' : Value} {M N : Nat} (h : Arg w v M) (h' : Arg w v' N) :
    Calls Tryd.prog 84 #[v, v'] w fun e w' => ∃ u, e = .returned u ∧ Hid (NatR (M * N) w.heap.size w' u) ∧ Hid (Below w.heap.size w w') := by
  obtain ⟨A, n, c, xs, rfl, h1, h2, h3, h4, rfl⟩ := h
  obtain ⟨A', n', c', xs', rfl, h1', h2', h3', h4', rfl⟩ := h'
  exact Mul_ok w A A' n n' c c' xs xs' h3 h3' h4 h4' (by omega) (by omega) h1 h1'
theorem Cmp_arg {w : World} {v v' : Value} {M N : Nat} (h : Arg w v M) (h' : Arg w v' N) :
    Calls Tryd.prog 76 #[v, v'] w fun e w' => e = .returned (.int .i64 (cmpN M N)) ∧ Hid (Below w.heap.size w w') := by
  obtain ⟨A, n, c, xs, rfl, h1, h2, h3, h4, rfl⟩ := h
  obtain ⟨A', n', c', xs', rfl, h1', h2', h3', h4', rfl⟩ := h'
  exact Cmp_ok w A A' n n' c c' xs xs' h3 h3' h4 h4' (by omega) (by omega) h1 h1'
theorem Gcd_arg {w : World} {v v' : Value} {M N : Nat} (h : Arg w v M) (h' : Arg w v' N) (hT : Tab w) :
    Calls Tryd.prog 53 #[v, v'] w fun e w' => ∃ u, e = .returned u ∧ Hid (NatR (Nat.gcd M N) w.heap.size w' u) ∧ Hid (Below w.heap.size w w') := by
  obtain ⟨A, n, c, xs, rfl, h1, h2, h3, h4, rfl⟩ := h
  obtain ⟨A', n', c', xs', rfl, h1', h2', h3', h4', rfl⟩ := h'
  exact Gcd_ok w A A' n n' c c' xs xs' h3 h3' h4 h4' (by omega) (by omega) h1 h1' hT
theorem Sub_can {w : World} {v v' : Value} {M N : Nat} (h : Can w v M) (h' : Can w v' N) (s : L M ≤ 4398046511104) (s' : L N ≤ 4398046511104) :
    Calls Tryd.prog 98 #[v, v'] w fun e w' => (if N ≤ M then ∃ u, e = .returned (.tuple #[u, .int .i64 0]) ∧ NatR (M - N) w.heap.size w' u else e = .returned (.tuple #[.slice none 0 0, .int .i64 1])) ∧ Hid (Below w.heap.size w w') := by
  obtain ⟨A, c, rfl, l, r⟩ := h
  obtain ⟨A', c', rfl, l', r'⟩ := h'
  unfold L at s s'
  have := Sub_ok w A A' _ _ c c' _ _ r r' (is32_limbs M) (is32_limbs N) (by omega) (by omega) l l'
  rw [val_limbs, val_limbs, chk_limbs, chk_limbs] at this
  refine this.mono ?_
  rintro e w' ⟨h1, h2⟩
  refine ⟨?_, h2⟩
  by_cases q : N ≤ M
  · rw [if_pos ⟨rfl, rfl, q⟩] at h1
    rw [if_pos q]
    exact h1
  · rw [if_neg (fun z => q z.2.2)] at h1
    rw [if_neg q]
    exact h1
theorem Div_can {w : World} {v v' : Value} {M N : Nat} (h : Can w v M) (h' : Can w v' N) (s : L M ≤ 4398046511104) (s' : L N ≤ 4398046511104) :
    Calls Tryd.prog 96 #[v, v'] w fun e w' => (if N = 0 then e = .returned (.tuple #[.slice none 0 0, .slice none 0 0, .int .i64 10])
      else ∃ q t, e = .returned (.tuple #[q, t, .int .i64 0]) ∧ NatR (M / N) w.heap.size w' q ∧ NatR (M % N) w.heap.size w' t ∧ Sep q t) ∧ Hid (Below w.heap.size w w') := by
  obtain ⟨A, c, rfl, l, r⟩ := h
  obtain ⟨A', c', rfl, l', r'⟩ := h'
  unfold L at s s'
  have := Div_ok w A A' _ _ c c' _ _ r r' (is32_limbs M) (is32_limbs N) (by omega) (by omega) l l'
  rw [val_limbs, val_limbs, chk_limbs, chk_limbs] at this
  refine this.mono ?_
  rintro e w' ⟨h1, h2⟩
  refine ⟨?_, h2⟩
  rw [if_pos ⟨rfl, rfl⟩] at h1
  by_cases q : N = 0
  · rw [if_pos (limbs_eq_nil.2 q)] at h1
    rw [if_pos q]
    exact h1
  · rw [if_neg (fun z => q (limbs_eq_nil.1 z))] at h1
    rw [if_neg q]
    exact h1
/-- Parts that are written out. -/
theorem can_lit (w : World) (xs : List Nat) (h : Is32 xs) (hc : chk xs = true) (hl : xs.length ≤ 1000) : Can (w.alloc (.cells (cellsOf .u32 xs) T32)) (.slice (some ⟨w.heap.size, 0, none⟩) xs.length xs.length) (val xs) := by
  have e := limbs_val_chk h hc
  refine ⟨_, xs.length, by rw [e], by rw [e]; exact Nat.le_refl _, ?_⟩
  rw [e]
  have := (Blk.new w T32 (cellsOf .u32 xs)).rd xs.length (Nat.le_refl _) (by omega)
  rwa [List.take_length] at this
theorem lit (w : World) (xs : List Nat) (N : Nat) (hN : val xs = N) (h : Is32 xs) (hc : chk xs = true) (hl : xs.length ≤ 1000) : Can (w.alloc (.cells (cellsOf .u32 xs) T32)) (.slice (some ⟨w.heap.size, 0, none⟩) xs.length xs.length) N := hN ▸ can_lit w xs h hc hl
theorem Sub_ge {w : World} {v v' : Value} {M N : Nat} (h : Can w v M) (h' : Can w v' N) (s : L M ≤ 4398046511104) (s' : L N ≤ 4398046511104) (hl : N ≤ M) :
    Calls Tryd.prog 98 #[v, v'] w fun e w' => ∃ u, e = .returned (.tuple #[u, .int .i64 0]) ∧ Hid (NatR (M - N) w.heap.size w' u) ∧ Hid (Below w.heap.size w w') :=
  (Sub_can h h' s s').mono fun e w' ⟨h1, h2⟩ => by
    rw [if_pos hl] at h1
    obtain ⟨u, e1, h3⟩ := h1
    exact ⟨u, e1, h3, h2⟩
theorem Div_pos {w : World} {v v' : Value} {M N : Nat} (h : Can w v M) (h' : Can w v' N) (s : L M ≤ 4398046511104) (s' : L N ≤ 4398046511104) (hl : N ≠ 0) :
    Calls Tryd.prog 96 #[v, v'] w fun e w' => ∃ q t, e = .returned (.tuple #[q, t, .int .i64 0]) ∧ Hid (NatR (M / N) w.heap.size w' q) ∧ Hid (NatR (M % N) w.heap.size w' t) ∧ Sep q t ∧ Hid (Below w.heap.size w w') :=
  (Div_can h h' s s').mono fun e w' ⟨h1, h2⟩ => by
    rw [if_neg hl] at h1
    obtain ⟨q, t, e1, h3, h4, h5⟩ := h1
    exact ⟨q, t, e1, h3, h4, h5, h2⟩
/-- Parts of whatever kind, not too many. -/
def Prt (w : World) (v : Value) (xs : List Nat) : Prop := ∃ A n c, v = .slice A n c ∧ n ≤ c ∧ n ≤ 4398046511104 ∧ Rd w A n xs ∧ Is32 xs
theorem Prt.below {w w' : World} {v : Value} {xs : List Nat} (h : Prt w v xs) (hb : Below w.heap.size w w') : Prt w' v xs := by
  obtain ⟨A, n, c, e, h1, h2, h3, h4⟩ := h
  exact ⟨A, n, c, e, h1, h2, h3.below hb, h4⟩
theorem Prt.arg {w : World} {v : Value} {xs : List Nat} (h : Prt w v xs) : Arg w v (nv xs) := by
  obtain ⟨A, n, c, e, h1, h2, h3, h4⟩ := h
  exact ⟨A, n, c, xs, e, h1, h2, h3, h4, rfl⟩
theorem Prt.can {w : World} {v : Value} {xs : List Nat} (h : Prt w v xs) (hc : chk xs = true) : Can w v (val xs) := by
  obtain ⟨A, n, c, rfl, h1, h2, h3, h4⟩ := h
  exact can_of h3 h4 hc h1
theorem Prt.is32 {w : World} {v : Value} {xs : List Nat} (h : Prt w v xs) : Is32 xs := by
  obtain ⟨A, n, c, e, h1, h2, h3, h4⟩ := h
  exact h4
theorem Prt.len {w : World} {v : Value} {xs : List Nat} (h : Prt w v xs) : xs.length ≤ 4398046511104 := by
  obtain ⟨A, n, c, e, h1, h2, h3, h4⟩ := h
  rw [h3.1]; exact h2
theorem Can.prt {w : World} {v : Value} {N : Nat} (h : Can w v N) (hl : L N ≤ 4398046511104) : Prt w v (limbs N) := by
  obtain ⟨A, c, rfl, l, r⟩ := h
  exact ⟨A, _, c, rfl, l, hl, r, is32_limbs N⟩
theorem Check_prt {w : World} {v : Value} {xs : List Nat} (h : Prt w v xs) :
    Calls Tryd.prog 51 #[v] w fun e w' => e = .returned (.bool (chk xs)) ∧ w = w' := by
  obtain ⟨A, n, c, rfl, h1, h2, h3, h4⟩ := h
  exact Check_ok w A n c xs h3
end Go.Proofs.YtfpnhggbfakdkaaDoor

/- nats: what literals and texts come to. -/
set_option linter.unusedVariables false
set_option linter.unusedSimpArgs false
set_option maxRecDepth 100000
namespace Go.Proofs.YtfpnhggbfakdkaaDoor
open Go.RowKit

theorem is32d {xs : List Nat} (h : xs.all (fun x => decide (x < 4294967296)) = true) : Is32 xs := by
  intro x hx
  have := List.all_eq_true.1 h x hx
  simpa using this
/-- 2 to the power of 64, as it is written. -/
def two64 : ByteArray := ⟨#[49, 56, 52, 52, 54, 55, 52, 52, 48, 55, 51, 55, 48, 57, 53, 53, 49, 54, 49, 54]⟩
end Go.Proofs.YtfpnhggbfakdkaaDoor
