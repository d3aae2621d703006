/- nats: Parse. -/
import Derived.Test.YtcdejccbamjdoaaDoorNs
import Derived.Test.YtcdejccbamjdoaaDoorNl
import Derived.Test.YtcdejccbamjdoaaDoorNg
import Derived.Test.YtcdejccbamjdoaaDoorNb
import Derived.Test.YtcdejccbamjdoaaDoorLf
set_option linter.unusedVariables false
set_option linter.unusedSimpArgs false
set_option maxRecDepth 100000
namespace Go.Proofs.YtcdejccbamjdoaaDoor
open Go.RowKit

theorem Add_can {w : World} {v v' : Value} {M N : Nat} (h : Can w v M) (h' : Can w v' N) (s : Sm M) (s' : Sm N) :
    Calls Tryd.prog 34 #[v, v'] w fun e w' => ∃ u, e = .returned u ∧ Hid (NatR (M + N) w.heap.size w' u) ∧ Hid (Below w.heap.size w w') := by
  obtain ⟨A, c, rfl, l, r⟩ := h
  obtain ⟨A', c', rfl, l', r'⟩ := h'
  have s0 : (limbs M).length ≤ 17592186044416 := s
  have s1 : (limbs N).length ≤ 17592186044416 := s'
  have := Add_ok w A A' _ _ c c' _ _ r r' (is32_limbs M) (is32_limbs N) (by omega) (by omega) l l'
  rw [nv_limbs, nv_limbs] at this
  exact this
theorem Mul_can {w : World} {v v' : Value} {M N : Nat} (h : Can w v M) (h' : Can w v' N) (s : Sm M) (s' : Sm N) :
    Calls Tryd.prog 35 #[v, v'] w fun e w' => ∃ u, e = .returned u ∧ Hid (NatR (M * N) w.heap.size w' u) ∧ Hid (Below w.heap.size w w') := by
  obtain ⟨A, c, rfl, l, r⟩ := h
  obtain ⟨A', c', rfl, l', r'⟩ := h'
  have := Mul_ok w A A' _ _ c c' _ _ r r' (is32_limbs M) (is32_limbs N) s s' l l'
  rw [nv_limbs, nv_limbs] at this
  exact this
/-- A number of one part that is written out. -/
theorem can_one (w : World) (x : Nat) (h0 : 0 < x) (h : x < 4294967296) : Can (w.alloc (.cells (cellsOf .u32 [x]) T32)) (.slice (some ⟨w.heap.size, 0, none⟩) 1 1) x := by
  have e := limbs_small h0 h
  refine ⟨_, 1, by rw [e]; rfl, by rw [e]; exact Nat.le_refl _, ?_⟩
  rw [e]
  exact (Blk.new w T32 (cellsOf .u32 [x])).rd 1 (Nat.le_refl _) (by omega)
def byt (s : ByteArray) : List Nat := s.data.toList.map UInt8.toNat
theorem byt_length (s : ByteArray) : (byt s).length = s.size := by rw [byt, List.length_map]; exact Array.length_toList
theorem byt_lt (s : ByteArray) : ∀ x ∈ byt s, x < 256 := by
  intro x hx
  obtain ⟨b, _, rfl⟩ := List.mem_map.1 hx
  exact b.toNat_lt
def digits : ByteArray := ⟨#[48, 49, 50, 51, 52, 53, 54, 55, 56, 57]⟩
theorem trim_digits (s : ByteArray) : Lib.trimS s.data.toList digits.data.toList = [] ↔ ∀ x ∈ byt s, isDig x = true := by
  have hd0 : ∀ k : Fin 256, digits.data.toList.contains (UInt8.ofNat k.val) = isDig (UInt8.ofNat k.val).toNat := by decide
  have hd : ∀ b : UInt8, digits.data.toList.contains b = isDig b.toNat := fun b => by
    have := hd0 ⟨b.toNat, b.toNat_lt⟩
    simpa using this
  have hm : (∀ x ∈ byt s, isDig x = true) ↔ ∀ b ∈ s.data.toList, digits.data.toList.contains b = true := by
    constructor
    · intro h b hb
      rw [hd]
      exact h _ (List.mem_map_of_mem hb)
    · intro h x hx
      obtain ⟨b, hb, rfl⟩ := List.mem_map.1 hx
      rw [← hd]
      exact h b hb
  rw [hm]
  have dw : ∀ (l : List UInt8) (p : UInt8 → Bool), l.dropWhile p = [] ↔ ∀ b ∈ l, p b = true := by
    intro l p
    induction l with
    | nil => simp
    | cons a l ih =>
      rw [List.dropWhile_cons]
      by_cases h : p a = true
      · rw [if_pos h, ih]; simp [h]
      · rw [if_neg h]; simp [h]
  generalize s.data.toList = l
  unfold Lib.trimS
  simp only [Lib.trimLeftS, Lib.trimRightS]
  constructor
  · intro h b hb
    rw [dw] at h
    by_cases hq : ∀ c ∈ l, digits.data.toList.contains c = true
    · exact hq b hb
    · exfalso
      apply hq
      have h2 : (l.reverse.dropWhile (digits.data.toList.contains ·)) = [] := by
        cases hr : l.reverse.dropWhile (digits.data.toList.contains ·) with
        | nil => rfl
        | cons x r =>
          have hx := List.head_dropWhile_not (p := (digits.data.toList.contains ·)) (l := l.reverse) (by rw [hr]; simp)
          simp only [hr, List.head_cons] at hx
          have := h x (by rw [hr]; simp)
          rw [this] at hx
          cases hx
      rw [dw] at h2
      intro c hc
      exact h2 c (List.mem_reverse.2 hc)
  · intro h
    have : l.reverse.dropWhile (digits.data.toList.contains ·) = [] := by
      rw [dw]
      intro b hb
      exact h b (List.mem_reverse.1 hb)
    rw [this]
    rfl
end Go.Proofs.YtcdejccbamjdoaaDoor
