/- Plain lemmas: division by more parts, as the document's answer does it. No program in sight. -/
import Derived.Test.YtkefmeddnncacaaDoorLa
import Derived.Test.YtkefmeddnncacaaDoorRN
set_option linter.unusedVariables false
set_option linter.unusedSimpArgs false
namespace Go.Proofs.YtkefmeddnncacaaDoor

theorem snoc0_val (ys : List Nat) : val (ys ++ [0]) = val ys := by rw [val_append]; simp [val]
theorem snoc0_is32 {ys : List Nat} (h : Is32 ys) : Is32 (ys ++ [0]) := is32_append.2 ⟨h, is32_cons.2 ⟨by omega, is32_nil⟩⟩
theorem snoc0_get (ys : List Nat) (k : Nat) : (ys ++ [0]).getD k 0 = ys.getD k 0 := by
  simp only [List.getD_eq_getElem?_getD]
  by_cases h : k < ys.length
  · rw [List.getElem?_append_left h]
  · rw [List.getElem?_append_right (by omega), List.getElem?_eq_none (l := ys) (by omega)]
    rcases Nat.eq_zero_or_pos (k - ys.length) with e | e
    · rw [e]; rfl
    · rw [List.getElem?_eq_none (by simp; omega)]
theorem rlg_end {i g' : Nat} {xs bs rs zs rs' : List Nat} (H : LgInv (i + 1) xs bs rs zs) (hi : i < zs.length) (hg : g' < 4294967296) (hl : rs'.length = rs.length) (h32 : Is32 rs') (hlow : ∀ j, j < i → rs'.getD j 0 = rs.getD j 0)
    (hU : val (rs.drop i) = g' * val bs + val (rs'.drop i)) (hR : val (rs'.drop i) < val bs) : LgInv i xs bs rs' (zs.set i g') := by
  refine ⟨by rw [hl, H.len], by rw [List.length_set]; exact H.zlen, h32, is32_set H.z32 _ _ hg, hR, ?_⟩
  rw [H.eq, val_cut rs i, val_cut rs' i, take_far hl hlow, hU, drop_val (zs.set i g'), getD_set, if_pos ⟨rfl, hi⟩, drop_set_far _ _ _ _ (Nat.lt_succ_self i), Nat.pow_succ]
  generalize 4294967296 ^ i = p
  generalize val bs = V
  generalize val (rs'.drop i) = R
  generalize val (zs.drop (i + 1)) = Z
  have a1 : p * (g' * V + R) = V * (p * g') + p * R := by rw [Nat.mul_add, Nat.mul_left_comm V p g', Nat.mul_comm V g']
  have a2 : V * (p * (g' + 4294967296 * Z)) = V * (p * g') + V * (p * 4294967296 * Z) := by rw [Nat.mul_add, Nat.mul_add, Nat.mul_assoc]
  rw [a1, a2]
  omega
section
variable {i g o : Nat} {xs bs rs zs rs2 : List Nat}
theorem rlg_setup (H : LgInv (i + 1) xs bs rs zs) (hb : Is32 bs) (M : MsInv i (bs.length + 1) o g (bs ++ [0]) rs rs2) :
    val (rs2.drop i) + g * val bs = val (rs.drop i) + 4294967296 ^ (bs.length + 1) * o ∧ val (rs2.drop (i + bs.length + 1)) = 0 := by
  have z1 : val (rs.drop (i + bs.length + 1)) = 0 := by
    have := drop_zero_of_lt (rs := rs) (i := i + 1) (n := bs.length) (Nat.lt_trans H.lt (val_lt hb))
    rw [show i + bs.length + 1 = i + 1 + bs.length from by omega]
    exact this
  have z2 := drop_far z1 (rs' := rs2) (fun j hj => M.far j (by omega))
  refine ⟨?_, z2⟩
  have e := M.eq
  rw [List.take_of_length_le (by simp), snoc0_val, val_cut rs2 i, val_cut rs i, take_far M.len M.low, Nat.pow_add, Nat.mul_assoc (4294967296 ^ i)] at e
  have e2 : 4294967296 ^ i * (val (rs2.drop i) + g * val bs) = 4294967296 ^ i * (val (rs.drop i) + 4294967296 ^ (bs.length + 1) * o) := by
    rw [Nat.mul_add, Nat.mul_add]
    omega
  exact Nat.eq_of_mul_eq_mul_left (Nat.pow_pos (by omega)) e2
theorem drop_lt {rs : List Nat} (h : Is32 rs) (i n : Nat) (hz : val (rs.drop (i + n)) = 0) : val (rs.drop i) < 4294967296 ^ n := by
  rw [val_win rs i n, hz, Nat.mul_zero, Nat.add_zero]
  exact win_lt h i n
/-- It was not too often. -/
theorem LgInv.ryes (H : LgInv (i + 1) xs bs rs zs) (hb : Is32 bs) (hi : i < zs.length) (M : MsInv i (bs.length + 1) o g (bs ++ [0]) rs rs2) (hg : g < 4294967296) (h1 : val (rs.drop i) < (g + 1) * val bs) (ho : o = 0) :
    LgInv i xs bs rs2 (zs.set i g) := by
  obtain ⟨e, z⟩ := rlg_setup H hb M
  subst ho
  rw [Nat.mul_zero, Nat.add_zero] at e
  rw [Nat.add_mul, Nat.one_mul] at h1
  exact rlg_end H hi hg M.len M.is32 M.low (by omega) (by omega)
theorem rlg_two {U U2 U3 V gV P o cy : Nat} (h : U2 + gV = U + P * o) (h2 : gV < U + V) (hV : V ≤ P) (h3 : U2 < P) (h4 : U3 < P) (ho : 0 < o) (hb : U3 + P * cy = U2 + V) : U3 + gV = U + V ∧ U < gV := by
  have hP : P ≤ P * o := Nat.le_mul_of_pos_right _ ho
  have hlt : U < gV := by omega
  refine ⟨?_, hlt⟩
  have e : U3 + gV + P * cy = U + V + P * o := by omega
  rcases Nat.lt_trichotomy cy o with q | q | q
  · obtain ⟨d, rfl⟩ : ∃ d, o = cy + 1 + d := ⟨o - cy - 1, by omega⟩
    have : P * (cy + 1 + d) = P * cy + P + P * d := by rw [Nat.mul_add, Nat.mul_add, Nat.mul_one]
    omega
  · subst q; omega
  · obtain ⟨d, rfl⟩ : ∃ d, cy = o + 1 + d := ⟨cy - o - 1, by omega⟩
    have : P * (o + 1 + d) = P * o + P + P * d := by rw [Nat.mul_add, Nat.mul_add, Nat.mul_one]
    omega
/-- It was, once. -/
theorem LgInv.rno {cy : Nat} {rs3 : List Nat} (H : LgInv (i + 1) xs bs rs zs) (hb : Is32 bs) (hi : i < zs.length) (M : MsInv i (bs.length + 1) o g (bs ++ [0]) rs rs2) (hg : g < 4294967296) (h2 : g * val bs < val (rs.drop i) + val bs) (ho : 0 < o) (A : AbInv i (bs.length + 1) cy (bs ++ [0]) rs2 rs3) :
    LgInv i xs bs rs3 (zs.set i (g - 1)) ∧ 0 < g := by
  obtain ⟨e, z⟩ := rlg_setup H hb M
  have z3 := drop_far z (rs' := rs3) (fun j hj => A.far j (by omega))
  have ea := A.eq
  rw [List.take_of_length_le (by simp), snoc0_val, val_cut rs3 i, val_cut rs2 i, take_far A.len A.low, Nat.pow_add, Nat.mul_assoc (4294967296 ^ i)] at ea
  have ea2 : 4294967296 ^ i * (val (rs3.drop i) + 4294967296 ^ (bs.length + 1) * cy) = 4294967296 ^ i * (val (rs2.drop i) + val bs) := by
    rw [Nat.mul_add, Nat.mul_add]
    omega
  have ea3 := Nat.eq_of_mul_eq_mul_left (Nat.pow_pos (by omega)) ea2
  have hV : val bs ≤ 4294967296 ^ (bs.length + 1) := Nat.le_trans (Nat.le_of_lt (val_lt hb)) (Nat.pow_le_pow_right (by omega) (by omega))
  obtain ⟨hU, hlt⟩ := rlg_two e h2 hV (drop_lt M.is32 i (bs.length + 1) z) (drop_lt A.is32 i (bs.length + 1) z3) ho ea3
  have g0 : 0 < g := by
    rcases Nat.eq_zero_or_pos g with h0 | h0
    · subst h0; omega
    · exact h0
  obtain ⟨k, rfl⟩ : ∃ k, g = k + 1 := ⟨g - 1, by omega⟩
  rw [Nat.add_mul, Nat.one_mul] at hU h2 hlt
  refine ⟨rlg_end H hi (by omega) (A.len.trans M.len) A.is32 (fun j hj => (A.low j hj).trans (M.low j hj)) ?_ (by omega), g0⟩
  rw [Nat.add_sub_cancel]
  omega
end
/-- The guess from above: where it may be more than a part can hold. -/
theorem GSet.rstart {U V E top u0 h l : Nat} (S : GSet U V E top u0 h l) : U < (top / h + 1) * V := by
  have a : top + 1 ≤ (top / h + 1) * h := by
    have := Nat.div_add_mod top h
    have := Nat.mod_lt top S.h0
    have e : (top / h + 1) * h = h * (top / h) + h := by rw [Nat.add_mul, Nat.mul_comm, Nat.one_mul]
    omega
  have b : E * (4294967296 * (top + 1)) ≤ E * (4294967296 * ((top / h + 1) * h)) := Nat.mul_le_mul_left _ (Nat.mul_le_mul_left _ a)
  have d : E * (u0 + 4294967296 * top) + E ≤ E * (4294967296 * (top + 1)) := by
    have : u0 + 4294967296 * top + 1 ≤ 4294967296 * (top + 1) := by have := S.u32; omega
    calc E * (u0 + 4294967296 * top) + E = E * (u0 + 4294967296 * top + 1) := (Nat.mul_add_one _ _).symm
      _ ≤ _ := Nat.mul_le_mul_left _ this
  have f : E * (4294967296 * ((top / h + 1) * h)) ≤ (top / h + 1) * V := by
    have : E * (4294967296 * h) ≤ V := Nat.le_trans (Nat.mul_le_mul_left _ (by omega)) S.v1
    calc E * (4294967296 * ((top / h + 1) * h)) = (top / h + 1) * (E * (4294967296 * h)) := by
          rw [Nat.mul_left_comm 4294967296, Nat.mul_left_comm E]
      _ ≤ _ := Nat.mul_le_mul_left _ this
  have := S.u2
  omega
theorem GSet.E0 {U V E top u0 h l : Nat} (S : GSet U V E top u0 h l) : 0 < E := by
  have a := S.u1
  have b := S.u2
  omega
/-- The top is less than what the uppermost part could make, and one part more. -/
theorem GSet.top {U V E top u0 h l : Nat} (S : GSet U V E top u0 h l) : top < h * 4294967296 + 4294967296 := by
  have e0 := S.E0
  have a := S.u1
  have b := S.v2
  have c := S.lt
  have l32 := S.l32
  have d : V + E * 0 ≤ E * (4294967296 * h + 4294967296) := by
    have : E * (l + 4294967296 * h) + E = E * (l + 4294967296 * h + 1) := (Nat.mul_add_one _ _).symm
    have : E * (l + 4294967296 * h + 1) ≤ E * (4294967296 * h + 4294967296) := Nat.mul_le_mul_left _ (by omega)
    omega
  have f : E * (4294967296 * top) < E * (4294967296 * (4294967296 * h + 4294967296)) := by
    have h1 : E * (4294967296 * top) ≤ E * (u0 + 4294967296 * top) := Nat.mul_le_mul_left _ (by omega)
    have h2 : 4294967296 * V ≤ E * (4294967296 * (4294967296 * h + 4294967296)) := by
      rw [Nat.mul_left_comm E]
      exact Nat.mul_le_mul_left _ (by omega)
    omega
  have := Nat.lt_of_mul_lt_mul_left f
  omega
/-- A guess that is too great for a part leaves little. -/
theorem GSet.over {U V E top u0 h l : Nat} (S : GSet U V E top u0 h l) {g over : Nat} (ho : top = over + g * h) (hg : 4294967296 ≤ g) : over < 4294967296 := by
  have a := S.top
  have : 4294967296 * h ≤ g * h := Nat.mul_le_mul_right _ hg
  omega
theorem GSet.less' {U V E top u0 h l : Nat} (S : GSet U V E top u0 h l) {g : Nat} (hg : 4294967296 ≤ g) : U < g * V := Nat.lt_of_lt_of_le S.lt (Nat.mul_le_mul_right _ hg)
/-- The beginning, the parts of the dividend being shifted. -/
theorem LgInv.rstart {xs bs us : List Nat} {s : Nat} (ha : Is32 xs) (hu : Is32 us) (hl : us.length = xs.length + 1) (hv : val us = val xs * s) {ys : List Nat} (hb : val bs = val ys * s) (hs : 0 < s) (hbl : bs.length = ys.length) (hn : 1 ≤ ys.length) (hle : ys.length ≤ xs.length) (hy : Is32 ys) (hc : chk ys = true) :
    LgInv (us.length - bs.length) us bs us (List.replicate (us.length - bs.length) 0) := by
  have hi : us.length - bs.length = xs.length + 1 - ys.length := by rw [hl, hbl]
  refine ⟨rfl, by rw [List.length_replicate]; omega, hu, is32_replicate _, ?_, ?_⟩
  · rw [val_drop us hu, hv, hb, hi]
    apply Nat.div_lt_of_lt_mul
    have ly : 4294967296 ^ (ys.length - 1) ≤ val ys := by
      refine Nat.le_of_not_lt fun h => ?_
      have := limbs_length_le.2 h
      rw [limbs_val_chk hy hc] at this
      omega
    have lx := val_lt ha
    have e : (4294967296 : Nat) ^ (xs.length + 1 - ys.length) * 4294967296 ^ (ys.length - 1) = 4294967296 ^ xs.length := by
      rw [← Nat.pow_add]; congr 1; omega
    calc val xs * s < 4294967296 ^ xs.length * s := Nat.mul_lt_mul_of_pos_right lx hs
      _ = 4294967296 ^ (xs.length + 1 - ys.length) * (4294967296 ^ (ys.length - 1) * s) := by rw [← e, Nat.mul_assoc]
      _ ≤ _ := Nat.mul_le_mul_left _ (Nat.mul_le_mul_right _ ly)
  · have : (List.replicate (us.length - bs.length) 0).drop (us.length - bs.length) = [] := by simp
    rw [this, val_nil, Nat.mul_zero, Nat.mul_zero, Nat.add_zero]
/-- A number that is shifted until its highest bit is set has as many parts as before. -/
theorem shifted_len {ys zs : List Nat} (hy : Is32 ys) (hz : Is32 zs) {s c : Nat} (hsc : s * c = 4294967296) (hv : val zs = val ys * s) (hl : zs.length = ys.length + 1) (ht : (ys.getD (ys.length - 1) 0) * s < 4294967296) (hn : 1 ≤ ys.length) : val zs < 4294967296 ^ ys.length := by
  obtain ⟨m, hm⟩ : ∃ m, ys.length = m + 1 := ⟨ys.length - 1, by omega⟩
  rw [hv, hm]
  have e := val_cut ys m
  rw [drop_val ys m, List.drop_of_length_le (l := ys) (by omega), val_nil, Nat.mul_zero, Nat.add_zero] at e
  rw [hm, Nat.add_sub_cancel] at ht
  have l := val_lt (is32_take hy m)
  rw [List.length_take, Nat.min_eq_left (by omega)] at l
  generalize ys.getD m 0 = t at *
  generalize val (ys.take m) = q at *
  rw [e, Nat.add_mul, Nat.mul_assoc, Nat.pow_succ]
  generalize 4294967296 ^ m = P at *
  rcases Nat.eq_zero_or_pos s with h0 | h0
  · subst h0
    simp
    exact Nat.lt_of_le_of_lt (Nat.zero_le _) l
  · have a : q * s < P * s := Nat.mul_lt_mul_of_pos_right l h0
    have b : P * (t * s + s) ≤ P * 4294967296 := by
      apply Nat.mul_le_mul_left
      have t1 : t < c := by
        rw [← hsc, Nat.mul_comm s c] at ht
        exact Nat.lt_of_mul_lt_mul_right ht
      have t2 : (t + 1) * s ≤ c * s := Nat.mul_le_mul_right _ t1
      rw [Nat.add_mul, Nat.one_mul, Nat.mul_comm c s, hsc] at t2
      exact t2
    rw [Nat.mul_add] at b
    omega
end Go.Proofs.YtkefmeddnncacaaDoor
