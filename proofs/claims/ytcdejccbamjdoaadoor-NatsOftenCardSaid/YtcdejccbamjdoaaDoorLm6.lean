/- Plain lemmas: by one part; by more parts. No program in sight. -/
import Derived.Test.YtcdejccbamjdoaaDoorLm5
set_option linter.unusedVariables false
set_option linter.unusedSimpArgs false
namespace Go.Proofs.YtcdejccbamjdoaaDoor

theorem drop_set_far (zs : List Nat) (i v j : Nat) (h : i < j) : (zs.set i v).drop j = zs.drop j := List.drop_set_of_lt h
/-- By one part: the parts from i on are done. -/
structure ShortInv (i r by_ : Nat) (xs zs : List Nat) : Prop where
  len : zs.length = xs.length
  is32 : Is32 zs
  lt : r < by_
  eq : val (xs.drop i) = by_ * val (zs.drop i) + r
theorem ShortInv.start {by_ : Nat} (xs : List Nat) (hb : 0 < by_) : ShortInv xs.length 0 by_ xs (List.replicate xs.length 0) :=
  ⟨by simp, is32_replicate _, hb, by rw [List.drop_length]; simp [val]⟩
theorem short_room {r x b : Nat} (hr : r < b) (hx : x < 4294967296) : (r * 4294967296 + x) / b < 4294967296 := by
  apply Nat.div_lt_of_lt_mul
  calc r * 4294967296 + x < r * 4294967296 + 4294967296 := by omega
    _ = (r + 1) * 4294967296 := by omega
    _ ≤ b * 4294967296 := Nat.mul_le_mul_right _ hr
theorem short_join {x V b Z r q r' : Nat} (h : V = b * Z + r) (h1 : b * q + r' = r * 4294967296 + x) : x + 4294967296 * V = b * (q + 4294967296 * Z) + r' := by
  rw [h, Nat.mul_add, Nat.mul_add, Nat.mul_left_comm b 4294967296]
  omega
theorem ShortInv.step {i r b : Nat} {xs zs : List Nat} (H : ShortInv (i + 1) r b xs zs) (hi : i < xs.length) (hx : Is32 xs) :
    ShortInv i ((r * 4294967296 + xs.getD i 0) % b) b xs (zs.set i ((r * 4294967296 + xs.getD i 0) / b)) := by
  have hb : 0 < b := Nat.lt_of_le_of_lt (Nat.zero_le _) H.lt
  have hq := short_room H.lt (is32_get hx i)
  refine ⟨by rw [List.length_set, H.len], is32_set H.is32 _ _ hq, Nat.mod_lt _ hb, ?_⟩
  rw [drop_val xs, drop_val (zs.set i _), getD_set, if_pos ⟨rfl, by rw [H.len]; exact hi⟩, drop_set_far _ _ _ _ (Nat.lt_succ_self i)]
  exact short_join H.eq (Nat.div_add_mod _ _)
theorem ShortInv.fin {r b : Nat} {xs zs : List Nat} (H : ShortInv 0 r b xs zs) : val zs = val xs / b ∧ r = val xs % b := by
  have e := H.eq
  rw [List.drop_zero, List.drop_zero] at e
  have h := H.lt
  constructor
  · rw [e, Nat.mul_add_div (by omega), Nat.div_eq_of_lt h, Nat.add_zero]
  · rw [e, Nat.mul_add_mod, Nat.mod_eq_of_lt h]
end Go.Proofs.YtcdejccbamjdoaaDoor
