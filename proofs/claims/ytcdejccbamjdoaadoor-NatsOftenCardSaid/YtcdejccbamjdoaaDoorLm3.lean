/- Plain lemmas: products, shifts. No program in sight. -/
import Derived.Test.YtcdejccbamjdoaaDoorLm2
set_option linter.unusedVariables false
set_option linter.unusedSimpArgs false
namespace Go.Proofs.YtcdejccbamjdoaaDoor

theorem getD_set (zs : List Nat) (p v j : Nat) : (zs.set p v).getD j 0 = if j = p ∧ p < zs.length then v else zs.getD j 0 := by
  simp only [List.getD_eq_getElem?_getD, List.getElem?_set]
  by_cases h : p = j
  · subst h
    by_cases h2 : p < zs.length
    · simp [h2]
    · simp [h2]
  · have : ¬ (j = p ∧ p < zs.length) := fun e => h e.1.symm
    rw [if_neg h, if_neg this]

/-- Behind k rounds of the inner loop of a product. -/
structure MulIn (i k h x : Nat) (ys zs0 zs : List Nat) : Prop where
  len : zs.length = zs0.length
  is32 : Is32 zs
  hi : h < 4294967296
  far : ∀ j, i + k ≤ j → zs.getD j 0 = zs0.getD j 0
  eq : val zs + 4294967296 ^ (i + k) * h = val zs0 + 4294967296 ^ i * (x * val (ys.take k))
theorem MulIn.start {i x : Nat} {ys zs0 : List Nat} (h : Is32 zs0) : MulIn i 0 0 x ys zs0 zs0 := ⟨rfl, h, by omega, fun _ _ => rfl, by simp [val]⟩
theorem mul_room {x y h o : Nat} (hx : x < 4294967296) (hy : y < 4294967296) (hh : h < 4294967296) (ho : o < 4294967296) : h + (x * y + o) < 18446744073709551616 := by
  have : x * y ≤ 4294967295 * 4294967295 := Nat.mul_le_mul (by omega) (by omega)
  omega
theorem mul_join {v v' P o h q r T U X : Nat} (h1 : v' + P * o = v + P * r) (h2 : r + 4294967296 * q = h + (X + o)) (h3 : v + P * h = T + U) : v' + P * 4294967296 * q = T + (U + P * X) := by
  have a : P * r + P * 4294967296 * q = P * h + (P * X + P * o) := by
    rw [Nat.mul_assoc, ← Nat.mul_add, h2, Nat.mul_add, Nat.mul_add]
  omega
theorem MulIn.step {i k h x : Nat} {ys zs0 zs : List Nat} (H : MulIn i k h x ys zs0 zs) (hx : x < 4294967296) (hy : Is32 ys) (hl : i + k < zs0.length) :
    MulIn i (k + 1) ((h + (x * ys.getD k 0 + zs.getD (i + k) 0)) / 4294967296) x ys zs0 (zs.set (i + k) ((h + (x * ys.getD k 0 + zs.getD (i + k) 0)) % 4294967296)) := by
  have b := mul_room hx (is32_get hy k) H.hi (is32_get H.is32 (i + k))
  have e := Nat.mod_add_div (h + (x * ys.getD k 0 + zs.getD (i + k) 0)) 4294967296
  have vs := val_set zs (i + k) ((h + (x * ys.getD k 0 + zs.getD (i + k) 0)) % 4294967296) (by rw [H.len]; exact hl)
  refine ⟨by rw [List.length_set, H.len], is32_set H.is32 _ _ (Nat.mod_lt _ (by omega)), ?_, ?_, ?_⟩
  · exact Nat.div_lt_of_lt_mul (by omega)
  · intro j hj
    rw [getD_set, if_neg (by omega)]
    exact H.far j (by omega)
  · rw [val_take_succ, show i + (k + 1) = i + k + 1 from rfl, Nat.pow_succ]
    have h3 := H.eq
    rw [Nat.mul_add x, Nat.mul_add (4294967296 ^ i)]
    have : 4294967296 ^ i * (x * (4294967296 ^ k * ys.getD k 0)) = 4294967296 ^ (i + k) * (x * ys.getD k 0) := by
      rw [Nat.pow_add, Nat.mul_left_comm x, Nat.mul_assoc]
    rw [this]
    exact mul_join vs e h3
/-- Behind i rounds of the outer loop of a product. -/
structure MulOut (i : Nat) (xs ys zs : List Nat) : Prop where
  len : zs.length = xs.length + ys.length
  is32 : Is32 zs
  far : ∀ j, i + ys.length ≤ j → zs.getD j 0 = 0
  eq : val zs = val (xs.take i) * val ys
theorem MulOut.start (xs ys : List Nat) : MulOut 0 xs ys (List.replicate (xs.length + ys.length) 0) :=
  ⟨by simp, is32_replicate _, fun j _ => by
    by_cases h : j < xs.length + ys.length
    · rw [getD_lt (by simpa using h)]; simp
    · exact getD_ge (by simpa using h), by rw [val_replicate]; simp [val]⟩
theorem MulOut.step {i h : Nat} {xs ys zs0 zs : List Nat} (H : MulOut i xs ys zs0) (hi : i < xs.length) (K : MulIn i ys.length h (xs.getD i 0) ys zs0 zs) : MulOut (i + 1) xs ys (zs.set (i + ys.length) h) := by
  have hl : i + ys.length < zs.length := by rw [K.len, H.len]; omega
  refine ⟨by rw [List.length_set, K.len, H.len], is32_set K.is32 _ _ K.hi, ?_, ?_⟩
  · intro j hj
    rw [getD_set, if_neg (by omega), K.far j (by omega)]
    exact H.far j (by omega)
  · have vs := val_set zs (i + ys.length) h hl
    have z : zs.getD (i + ys.length) 0 = 0 := by rw [K.far _ (Nat.le_refl _)]; exact H.far _ (Nat.le_refl _)
    rw [z, Nat.mul_zero, Nat.add_zero] at vs
    rw [vs, K.eq, List.take_of_length_le (Nat.le_refl _), H.eq, val_take_succ, Nat.add_mul, Nat.mul_assoc]
theorem MulOut.fin {xs ys zs : List Nat} (H : MulOut xs.length xs ys zs) : val zs = val xs * val ys := by
  rw [H.eq, List.take_of_length_le (Nat.le_refl _)]
end Go.Proofs.YtcdejccbamjdoaaDoor
