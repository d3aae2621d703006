/- Words on memory: a row of the call's own of which the beginning is known. -/
import Derived.Test.YtcdejccbamjdoaaDoorCore
set_option linter.unusedVariables false
set_option linter.unusedSimpArgs false
namespace Go.Proofs.YtcdejccbamjdoaaDoor
open Go.RowKit

/-- Block g begins with the numbers xs. -/
structure PB (k : IntKind) (w : World) (g : Nat) (t : TypeId) (xs : List Nat) : Prop where
  ex : ∃ tail : List Value, Blk w g t ((xs.map fun x => Value.int k (x : Nat)) ++ tail).toArray
section
variable {k : IntKind} {w w' : World} {g : Nat} {t : TypeId} {xs : List Nat}
theorem PB.lt (h : PB k w g t xs) : g < w.heap.size := by obtain ⟨tl, h⟩ := h; exact h.lt
theorem PB.keep (h : PB k w g t xs) (e : w'.heap[g]? = w.heap[g]?) : PB k w' g t xs := by obtain ⟨tl, h⟩ := h; exact ⟨tl, h.keep e⟩
theorem PB.below' (h : PB k w g t xs) (hb : Below w.heap.size w w') : PB k w' g t xs := h.keep (hb.block g h.lt)
theorem PB.drew (h : PB k w g t xs) : PB k w.drew g t xs := h.keep rfl
theorem PB.drewN (h : PB k w g t xs) (n : Nat) : PB k (w.drewN n) g t xs := h.keep rfl
theorem PB.alloc (h : PB k w g t xs) (o : Obj) : PB k (w.alloc o) g t xs := h.keep (Below.heap_alloc w o g h.lt)
theorem PB.far (h : PB k w g t xs) {p : Addr} (hp : g ≠ p.block) (u : Value) : PB k (w.setCell p u) g t xs := h.keep (Below.heap_setCell w p u g hp)
theorem PB.cell (h : PB k w g t xs) (i : Nat) (hi : i < xs.length) : w.cell? ⟨g, i, none⟩ = some (.int k (xs.getD i 0 : Nat)) := by
  obtain ⟨tl, h⟩ := h
  rw [h.cell]
  simp only [List.getElem?_toArray]
  rw [List.getElem?_append_left (by simpa using hi), List.getElem?_map, List.getElem?_eq_getElem hi, getD_lt hi]
  rfl
theorem PB.frozen (h : PB k w g t xs) (i : Nat) : w.frozen? ⟨g, i, none⟩ = false := by obtain ⟨tl, h⟩ := h; exact h.frozen i
theorem PB.set_ (h : PB k w g t xs) (i v : Nat) (hi : i < xs.length) : PB k (w.setCell ⟨g, i, none⟩ (.int k (v : Nat))) g t (xs.set i v) := by
  obtain ⟨tl, h⟩ := h
  have := h.set_ i (.int k (v : Nat))
  refine ⟨tl, ?_⟩
  have e : (((xs.map fun x => Value.int k (x : Nat)) ++ tl).toArray).setIfInBounds i (.int k (v : Nat)) = (((xs.set i v).map fun x => Value.int k (x : Nat)) ++ tl).toArray := by
    apply Array.ext'
    simp only [Array.toList_setIfInBounds]
    rw [List.set_append_left _ _ (by simpa using hi), List.map_set]
  rwa [e] at this
theorem PB.rd (h : PB k w g t xs) (n : Nat) (hn : n ≤ xs.length) (hm : n ≤ 9223372036854775807) : Rdk k w (some ⟨g, 0, none⟩) n (xs.take n) := by
  refine ⟨by rw [List.length_take]; omega, hm, fun h0 => ⟨_, rfl, h.lt, fun j hj => ?_⟩⟩
  rw [add0, h.cell j (by omega)]
  simp [List.getD_eq_getElem?_getD, List.getElem?_take, hj]
theorem Blk.pb (h : Blk w g t (cellsOf k xs)) : PB k w g t xs := ⟨[], by rw [List.append_nil]; exact h⟩
end
theorem natR_of_pb {w : World} {g B : Nat} {zs : List Nat} (h : PB .u32 w g T32 zs) (h32 : Is32 zs) (hB : B ≤ g) (hm : zs.length ≤ 9223372036854775807) :
    NatR (val zs) B w (.slice (some ⟨g, 0, none⟩) (strip zs).length (strip zs).length) := by
  have hl := strip_length_le zs
  obtain ⟨tl, hb⟩ := h.ex
  refine ⟨_, (strip zs).length, by rw [limbs_val h32], ?_, .inr ⟨g, _, rfl, hB, hb, by simp; omega⟩, by rw [limbs_val h32]; exact Nat.le_refl _⟩
  rw [limbs_val h32]
  have := h.rd (strip zs).length hl (by omega)
  rw [← strip_eq_take] at this
  exact this
theorem own_from {w : World} {base n : Nat} {e : TypeId} {v : Value} {xs : List Value} (h : w.ownsRow base e 1 v n xs) {b : Nat} (hb : v.ownBlock = some b) : base ≤ b := by
  rcases h.2 with ⟨rfl, _⟩ | ⟨g, cap, cur, rfl, hB, _⟩
  · cases hb
  · cases hb; exact hB
theorem own_pb {w : World} {base n : Nat} {e : TypeId} {k : IntKind} {v : Value} {xs : List Nat} (h : w.ownsRow base e 1 v n (xs.map fun x => Value.int k (x : Nat))) (hn : 0 < n) : ∃ g c, v = .slice (some ⟨g, 0, none⟩) n c ∧ n ≤ c ∧ c ≤ 9223372036854775807 ∧ base ≤ g ∧ PB k w g e xs := by
  rcases h.2 with ⟨rfl, rfl⟩ | ⟨g, cap, cur, rfl, hB, hh, hnc, hcm, hcs, htk⟩
  · omega
  · refine ⟨g, cap, rfl, hnc, by simpa [maxLen] using hcm, hB, ⟨cur.toList.drop n, ?_⟩⟩
    rw [Nat.mul_one] at htk
    rw [← htk, List.take_append_drop]
    exact ⟨by simpa using hh⟩
end Go.Proofs.YtcdejccbamjdoaaDoor
