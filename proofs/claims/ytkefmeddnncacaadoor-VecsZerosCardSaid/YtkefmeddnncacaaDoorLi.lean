/- Plain lemmas: division by more parts, as the document's answer does it. No program in sight. -/
import Derived.Test.YtkefmeddnncacaaDoorLa
import Derived.Test.YtkefmeddnncacaaDoorRN
set_option linter.unusedVariables false
set_option linter.unusedSimpArgs false
namespace Go.Proofs.YtkefmeddnncacaaDoor

section
variable {i g o : Nat} {xs bs rs zs rs2 : List Nat}
end
theorem GSet.E0 {U V E top u0 h l : Nat} (S : GSet U V E top u0 h l) : 0 < E := by
  have a := S.u1
  have b := S.u2
  omega
/-- The top is less than what the uppermost part could make, and one part more. -/
theorem GSet.top {U V E top u0 h l : Nat} (S : GSet U V E top u0 h l) : top < h * 4294967296 + 4294967296 := by
  have e0 := S.E0
  have a := S.u1
  have b := S.v2
  have c := S.lt
  have l32 := S.l32
  have d : V + E * 0 ≤ E * (4294967296 * h + 4294967296) := by
    have : E * (l + 4294967296 * h) + E = E * (l + 4294967296 * h + 1) := (Nat.mul_add_one _ _).symm
    have : E * (l + 4294967296 * h + 1) ≤ E * (4294967296 * h + 4294967296) := Nat.mul_le_mul_left _ (by omega)
    omega
  have f : E * (4294967296 * top) < E * (4294967296 * (4294967296 * h + 4294967296)) := by
    have h1 : E * (4294967296 * top) ≤ E * (u0 + 4294967296 * top) := Nat.mul_le_mul_left _ (by omega)
    have h2 : 4294967296 * V ≤ E * (4294967296 * (4294967296 * h + 4294967296)) := by
      rw [Nat.mul_left_comm E]
      exact Nat.mul_le_mul_left _ (by omega)
    omega
  have := Nat.lt_of_mul_lt_mul_left f
  omega
/-- A guess that is too great for a part leaves little. -/
theorem GSet.over {U V E top u0 h l : Nat} (S : GSet U V E top u0 h l) {g over : Nat} (ho : top = over + g * h) (hg : 4294967296 ≤ g) : over < 4294967296 := by
  have a := S.top
  have : 4294967296 * h ≤ g * h := Nat.mul_le_mul_right _ hg
  omega
end Go.Proofs.YtkefmeddnncacaaDoor
