/- The references of nats: Check fit trim Cmp Add Mul Twin less Sub; law helpers TwinNat LeftNat greatNat. -/
import Derived.Test.YtfpnhggbfakdkaaDoorLa
import Derived.Test.YtfpnhggbfakdkaaDoorND
import Derived.Test.YtfpnhggbfakdkaaDoorNA
import Derived.Test.YtfpnhggbfakdkaaDoorCa
/- Plain lemmas: the document's sums. No program in sight. -/
set_option linter.unusedVariables false
set_option linter.unusedSimpArgs false
namespace Go.Proofs.YtfpnhggbfakdkaaDoor

/-- Behind i parts of a sum: zs: the parts; n: what is carried. -/
structure RAdd (i n : Nat) (xs ys zs : List Nat) : Prop where
  len : zs.length = i
  is32 : Is32 zs
  cy : n < 2
  eq : val zs + 4294967296 ^ i * n = val (xs.take i) + val (ys.take i)
theorem RAdd.start (xs ys : List Nat) : RAdd 0 0 xs ys [] := ⟨rfl, is32_nil, by omega, by simp [val]⟩
theorem RAdd.step {i n : Nat} {xs ys zs : List Nat} (H : RAdd i n xs ys zs) (hx : Is32 xs) (hy : Is32 ys) :
    RAdd (i + 1) ((n + xs.getD i 0 + ys.getD i 0) / 4294967296) xs ys (zs ++ [(n + xs.getD i 0 + ys.getD i 0) % 4294967296]) := by
  have e := Nat.mod_add_div (n + xs.getD i 0 + ys.getD i 0) 4294967296
  have b1 := is32_get hx i
  have b2 := is32_get hy i
  have b3 := H.cy
  refine ⟨by simp [H.len], is32_append.2 ⟨H.is32, is32_cons.2 ⟨Nat.mod_lt _ (by omega), is32_nil⟩⟩, by omega, ?_⟩
  rw [val_append, H.len, val_cons, val_nil, val_take_succ, val_take_succ, Nat.pow_succ]
  have h := H.eq
  generalize xs.getD i 0 = x at *
  generalize ys.getD i 0 = y at *
  generalize (n + x + y) % 4294967296 = r at *
  generalize (n + x + y) / 4294967296 = q at *
  generalize 4294967296 ^ i = p at *
  have a : p * (r + 4294967296 * q) = p * n + (p * x + p * y) := by rw [e, Nat.mul_add, Nat.mul_add]; omega
  rw [Nat.mul_add, ← Nat.mul_assoc] at a
  rw [Nat.mul_zero, Nat.add_zero]
  omega
theorem RAdd.fin {i : Nat} {xs ys zs : List Nat} (H : RAdd i 0 xs ys zs) (h1 : xs.length ≤ i) (h2 : ys.length ≤ i) : val zs = val xs + val ys := by
  have h := H.eq
  rw [List.take_of_length_le h1, List.take_of_length_le h2, Nat.mul_zero, Nat.add_zero] at h
  exact h
theorem RAdd.over {i n m : Nat} {xs ys zs : List Nat} (H : RAdd i n xs ys zs) (hx : Is32 xs) (hy : Is32 ys) (h1 : xs.length ≤ m) (h2 : ys.length ≤ m) (hi : m < i) : n = 0 := by
  have h := H.eq
  rw [List.take_of_length_le (by omega), List.take_of_length_le (by omega)] at h
  have a := Nat.lt_of_lt_of_le (val_lt hx) (Nat.pow_le_pow_right (show 0 < 4294967296 by omega) h1)
  have b := Nat.lt_of_lt_of_le (val_lt hy) (Nat.pow_le_pow_right (show 0 < 4294967296 by omega) h2)
  obtain ⟨d, rfl⟩ : ∃ d, i = m + 1 + d := ⟨i - (m + 1), by omega⟩
  rcases Nat.eq_zero_or_pos n with h0 | h0
  · exact h0
  · exfalso
    have c : 4294967296 ^ (m + 1 + d) * 1 ≤ 4294967296 ^ (m + 1 + d) * n := Nat.mul_le_mul_left _ h0
    have f : 4294967296 ^ (m + 1) ≤ 4294967296 ^ (m + 1 + d) := Nat.pow_le_pow_right (by omega) (by omega)
    rw [Nat.pow_succ] at f
    generalize 4294967296 ^ m = p at *
    generalize 4294967296 ^ (m + 1 + d) = r at *
    omega
end Go.Proofs.YtfpnhggbfakdkaaDoor

/- Plain lemmas: the document's differences. No program in sight. -/
set_option linter.unusedVariables false
set_option linter.unusedSimpArgs false
namespace Go.Proofs.YtfpnhggbfakdkaaDoor

theorem bel_getD_set (xs : List Nat) (i j v : Nat) (h : j ≠ i) : (xs.set i v).getD j 0 = xs.getD j 0 := by
  rw [getD_set, if_neg (by omega)]
/-- Behind k parts of a difference in place: zs: what is there; o: what is owed. -/
structure RSub (k o : Nat) (xs ys zs : List Nat) : Prop where
  len : zs.length = xs.length
  is32 : Is32 zs
  cy : o < 2
  far : ∀ j, k ≤ j → zs.getD j 0 = xs.getD j 0
  eq : val (zs.take k) + val (ys.take k) = val (xs.take k) + 4294967296 ^ k * o
theorem RSub.start {xs ys : List Nat} (h : Is32 xs) : RSub 0 0 xs ys xs := ⟨rfl, h, by omega, fun _ _ => rfl, by simp [val]⟩
theorem RSub.step {k o d o' : Nat} {xs ys zs : List Nat} (H : RSub k o xs ys zs) (hk : k < xs.length) (hd : d < 4294967296) (ho : o' < 2) (h : d + ys.getD k 0 + o = xs.getD k 0 + 4294967296 * o') : RSub (k + 1) o' xs ys (zs.set k d) := by
  refine ⟨by rw [List.length_set, H.len], is32_set H.is32 _ _ hd, ho, fun j hj => ?_, ?_⟩
  · rw [getD_set, if_neg (by omega)]
    exact H.far j (by omega)
  · rw [val_take_succ, val_take_succ, val_take_succ, List.take_set_of_le (Nat.le_refl _), getD_set, if_pos ⟨rfl, by rw [H.len]; exact hk⟩, Nat.pow_succ]
    have e := H.eq
    generalize ys.getD k 0 = y at *
    generalize xs.getD k 0 = x at *
    generalize 4294967296 ^ k = p at *
    have a : p * d + p * y + p * o = p * x + p * 4294967296 * o' := by
      rw [← Nat.mul_add, ← Nat.mul_add, h, Nat.mul_add, Nat.mul_assoc]
    omega
theorem RSub.fin {o : Nat} {xs ys zs : List Nat} (H : RSub xs.length o xs ys zs) (hy : ys.length ≤ xs.length) (hl : val ys ≤ val xs) : val zs = val xs - val ys := by
  have e := H.eq
  rw [List.take_of_length_le (by rw [H.len]; exact Nat.le_refl _), List.take_of_length_le hy, List.take_of_length_le (Nat.le_refl _)] at e
  have b := val_lt H.is32
  rw [H.len] at b
  rcases Nat.eq_zero_or_pos o with h0 | h0
  · subst h0
    rw [Nat.mul_zero] at e
    omega
  · exfalso
    have : 4294967296 ^ xs.length * 1 ≤ 4294967296 ^ xs.length * o := Nat.mul_le_mul_left _ h0
    omega
end Go.Proofs.YtfpnhggbfakdkaaDoor

/- law helpers: TwinNat, LeftNat. -/
set_option linter.unusedVariables false
set_option linter.unusedSimpArgs false
set_option maxRecDepth 100000
namespace Go.Proofs.YtfpnhggbfakdkaaDoor
open Go.RowKit

end Go.Proofs.YtfpnhggbfakdkaaDoor

/- law helpers: LeftNat. -/
set_option linter.unusedVariables false
set_option linter.unusedSimpArgs false
set_option maxRecDepth 100000
namespace Go.Proofs.YtfpnhggbfakdkaaDoor
open Go.RowKit

end Go.Proofs.YtfpnhggbfakdkaaDoor

/- law helpers: greatNat. -/
set_option linter.unusedVariables false
set_option linter.unusedSimpArgs false
set_option maxRecDepth 100000
namespace Go.Proofs.YtfpnhggbfakdkaaDoor
open Go.RowKit

end Go.Proofs.YtfpnhggbfakdkaaDoor

/- the document's answer for nats: Check, fit, trim, Cmp. -/
set_option linter.unusedVariables false
set_option linter.unusedSimpArgs false
set_option maxRecDepth 100000
namespace Go.Proofs.YtfpnhggbfakdkaaDoor
open Go.RowKit

def lenOf' : Value → Nat
  | .slice _ n _ => n
  | _ => 0
end Go.Proofs.YtfpnhggbfakdkaaDoor

/- the document's answer for nats: Add. -/
set_option linter.unusedVariables false
set_option linter.unusedSimpArgs false
set_option maxRecDepth 100000
namespace Go.Proofs.YtfpnhggbfakdkaaDoor
open Go.RowKit

end Go.Proofs.YtfpnhggbfakdkaaDoor

/- the document's answer for nats: Mul. -/
set_option linter.unusedVariables false
set_option linter.unusedSimpArgs false
set_option maxRecDepth 100000
namespace Go.Proofs.YtfpnhggbfakdkaaDoor
open Go.RowKit

end Go.Proofs.YtfpnhggbfakdkaaDoor

/- the document's answer for nats: Twin, less, Sub. -/
set_option linter.unusedVariables false
set_option linter.unusedSimpArgs false
set_option maxRecDepth 100000
namespace Go.Proofs.YtfpnhggbfakdkaaDoor
open Go.RowKit

end Go.Proofs.YtfpnhggbfakdkaaDoor

/- the document's answer for nats: Sub. -/
set_option linter.unusedVariables false
set_option linter.unusedSimpArgs false
set_option maxRecDepth 100000
namespace Go.Proofs.YtfpnhggbfakdkaaDoor
open Go.RowKit

end Go.Proofs.YtfpnhggbfakdkaaDoor
