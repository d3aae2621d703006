/- Plain lemmas: a step of the division by more parts. No program in sight. -/
import Derived.Test.YtcdejccbamjdoaaDoorLm7
set_option linter.unusedVariables false
set_option linter.unusedSimpArgs false
namespace Go.Proofs.YtcdejccbamjdoaaDoor

theorem getD_of_val_zero {xs : List Nat} (h : val xs = 0) : ∀ j, xs.getD j 0 = 0 := by
  induction xs with
  | nil => intro j; rfl
  | cons x xs ih =>
    rw [val_cons] at h
    intro j
    cases j with
    | zero => show x = 0; omega
    | succ j => exact ih (by omega) j
theorem getD_drop' (xs : List Nat) (k j : Nat) : (xs.drop k).getD j 0 = xs.getD (k + j) 0 := by
  simp [List.getD_eq_getElem?_getD, List.getElem?_drop]
theorem drop_far {rs rs' : List Nat} {p : Nat} (h : val (rs.drop p) = 0) (hf : ∀ j, p ≤ j → rs'.getD j 0 = rs.getD j 0) : val (rs'.drop p) = 0 := by
  apply val_zero_of_lt
  intro j hj
  rw [hf j hj]
  have := getD_of_val_zero h (j - p)
  rw [getD_drop', show p + (j - p) = j from by omega] at this
  exact this
theorem val_win (rs : List Nat) (i n : Nat) : val (rs.drop i) = val ((rs.drop i).take n) + 4294967296 ^ n * val (rs.drop (i + n)) := by
  have := val_cut (rs.drop i) n
  rw [List.drop_drop] at this
  exact this
theorem win_lt {rs : List Nat} (h : Is32 rs) (i n : Nat) : val ((rs.drop i).take n) < 4294967296 ^ n := by
  refine Nat.lt_of_lt_of_le (val_lt (is32_take (is32_drop h i) n)) (Nat.pow_le_pow_right (by omega) ?_)
  rw [List.length_take]; omega
theorem set_win (rs : List Nat) (i n v : Nat) : ((rs.set (i + n) v).drop i).take n = (rs.drop i).take n := by
  apply List.ext_getElem
  · simp
  · intro j h1 h2
    simp only [List.length_take, List.length_drop, List.length_set] at h1 h2
    simp only [List.getElem_take, List.getElem_drop, List.getElem_set]
    rw [if_neg (by omega)]
theorem set_zero_win {rs : List Nat} {i n : Nat} (hl : i + n < rs.length) (h0 : val (rs.drop (i + n + 1)) = 0) : val ((rs.set (i + n) 0).drop i) = val ((rs.drop i).take n) := by
  rw [val_win _ i n, set_win, drop_val, getD_set, if_pos ⟨rfl, hl⟩, drop_set_far _ _ _ _ (Nat.lt_succ_self _), h0]
  simp
theorem top_of {rs : List Nat} {p : Nat} (h0 : val (rs.drop (p + 1)) = 0) : val (rs.drop p) = rs.getD p 0 := by
  rw [drop_val, h0]; simp
theorem take_set_far (rs : List Nat) (i p v : Nat) (h : i ≤ p) : (rs.set p v).take i = rs.take i := List.take_set_of_le h

section
variable {i g o : Nat} {as bs rs zs rs2 : List Nat}
theorem lg_setup (H : LgInv (i + 1) as bs rs zs) (hb : Is32 bs) (M : MsInv i bs.length o g bs rs rs2) :
    val ((rs2.drop i).take bs.length) + 4294967296 ^ bs.length * rs2.getD (i + bs.length) 0 + g * val bs = val (rs.drop i) + 4294967296 ^ bs.length * o ∧ val (rs2.drop (i + bs.length + 1)) = 0 := by
  have z1 : val (rs.drop (i + bs.length + 1)) = 0 := by
    have := drop_zero_of_lt (rs := rs) (i := i + 1) (n := bs.length) (Nat.lt_trans H.lt (val_lt hb))
    rw [show i + bs.length + 1 = i + 1 + bs.length from by omega]
    exact this
  have z2 := drop_far z1 (rs' := rs2) (fun j hj => M.far j (by omega))
  refine ⟨?_, z2⟩
  have e := M.eq
  rw [List.take_of_length_le (Nat.le_refl _), val_cut rs2 i, val_cut rs i, take_far M.len M.low, Nat.pow_add, Nat.mul_assoc (4294967296 ^ i)] at e
  have e2 : 4294967296 ^ i * (val (rs2.drop i) + g * val bs) = 4294967296 ^ i * (val (rs.drop i) + 4294967296 ^ bs.length * o) := by
    rw [Nat.mul_add, Nat.mul_add]
    omega
  have e3 := Nat.eq_of_mul_eq_mul_left (Nat.pow_pos (by omega)) e2
  rw [val_win rs2 i bs.length, top_of z2] at e3
  exact e3
theorem lg_end {g' : Nat} {rs' : List Nat} (H : LgInv (i + 1) as bs rs zs) (hb : Is32 bs) (hi : i < zs.length) (hg : g' < 4294967296) (hl : rs'.length = rs.length) (h32 : Is32 rs') (hlow : ∀ j, j < i → rs'.getD j 0 = rs.getD j 0)
    (hz : val (rs'.drop (i + bs.length + 1)) = 0) (hU : val (rs.drop i) = g' * val bs + val ((rs'.drop i).take bs.length)) (hR : val ((rs'.drop i).take bs.length) < val bs) : LgInv i as bs (rs'.set (i + bs.length) 0) (zs.set i g') := by
  have ln : i + bs.length < rs'.length := by rw [hl, H.len, ← H.zlen]; omega
  have w := set_zero_win ln hz
  refine ⟨by rw [List.length_set, hl, H.len], by rw [List.length_set]; exact H.zlen, is32_set h32 _ _ (by omega), is32_set H.z32 _ _ hg, by rw [w]; exact hR, ?_⟩
  rw [H.eq, val_cut rs i, val_cut (rs'.set (i + bs.length) 0) i, take_set_far _ _ _ _ (by omega), take_far hl hlow, w, hU, drop_val (zs.set i g'), getD_set, if_pos ⟨rfl, hi⟩, drop_set_far _ _ _ _ (Nat.lt_succ_self i), Nat.pow_succ]
  generalize 4294967296 ^ i = p
  generalize val bs = V
  generalize val ((rs'.drop i).take bs.length) = R
  generalize val (zs.drop (i + 1)) = Z
  have a1 : p * (g' * V + R) = V * (p * g') + p * R := by rw [Nat.mul_add, Nat.mul_left_comm V p g', Nat.mul_comm V g']
  have a2 : V * (p * (g' + 4294967296 * Z)) = V * (p * g') + V * (p * 4294967296 * Z) := by rw [Nat.mul_add, Nat.mul_add, Nat.mul_assoc]
  rw [a1, a2]
  omega
/-- It was not too often. -/
theorem LgInv.yes (H : LgInv (i + 1) as bs rs zs) (hb : Is32 bs) (hi : i < zs.length) (M : MsInv i bs.length o g bs rs rs2) (hg : g < 4294967296) (h1 : val (rs.drop i) < (g + 1) * val bs) (ht : o ≤ rs2.getD (i + bs.length) 0) :
    LgInv i as bs (rs2.set (i + bs.length) 0) (zs.set i g) := by
  obtain ⟨e, z⟩ := lg_setup H hb M
  obtain ⟨_, hU, hR⟩ := lg_one e (by rw [Nat.add_mul, Nat.one_mul] at h1; exact h1) (Nat.le_of_lt (val_lt hb)) ht
  exact lg_end H hb hi hg M.len M.is32 M.low z hU hR
/-- It was, once. -/
theorem LgInv.no {cy : Nat} {rs3 : List Nat} (H : LgInv (i + 1) as bs rs zs) (hb : Is32 bs) (hi : i < zs.length) (M : MsInv i bs.length o g bs rs rs2) (hg : g < 4294967296) (h2 : g * val bs < val (rs.drop i) + val bs) (ht : rs2.getD (i + bs.length) 0 < o) (A : AbInv i bs.length cy bs rs2 rs3) :
    LgInv i as bs (rs3.set (i + bs.length) 0) (zs.set i (g - 1)) ∧ 0 < g := by
  obtain ⟨e, z⟩ := lg_setup H hb M
  have z3 := drop_far z (rs' := rs3) (fun j hj => A.far j (by omega))
  have ea := A.eq
  rw [List.take_of_length_le (Nat.le_refl _), val_cut rs3 i, val_cut rs2 i, take_far A.len A.low, Nat.pow_add, Nat.mul_assoc (4294967296 ^ i)] at ea
  have ea2 : 4294967296 ^ i * (val (rs3.drop i) + 4294967296 ^ bs.length * cy) = 4294967296 ^ i * (val (rs2.drop i) + val bs) := by
    rw [Nat.mul_add, Nat.mul_add]
    omega
  have ea3 := Nat.eq_of_mul_eq_mul_left (Nat.pow_pos (by omega)) ea2
  rw [val_win rs3 i bs.length, val_win rs2 i bs.length, top_of z3, top_of z, A.far _ (Nat.le_refl _)] at ea3
  have ea4 : val ((rs3.drop i).take bs.length) + 4294967296 ^ bs.length * cy = val ((rs2.drop i).take bs.length) + val bs := by omega
  obtain ⟨hU, hR⟩ := lg_two e h2 (Nat.le_of_lt (val_lt hb)) (win_lt M.is32 _ _) (win_lt A.is32 _ _) ht ea4
  have g0 : 0 < g := by
    rcases Nat.eq_zero_or_pos g with h0 | h0
    · subst h0; omega
    · exact h0
  refine ⟨lg_end H hb hi (by omega) (A.len.trans M.len) A.is32 (fun j hj => (A.low j hj).trans (M.low j hj)) z3 ?_ hR, g0⟩
  obtain ⟨k, rfl⟩ : ∃ k, g = k + 1 := ⟨g - 1, by omega⟩
  rw [Nat.add_sub_cancel]
  rw [Nat.add_mul, Nat.one_mul] at hU
  omega
end
theorem LgInv.fin {as bs rs zs : List Nat} (H : LgInv 0 as bs rs zs) : val zs = val as / val bs ∧ val rs = val as % val bs := by
  have e := H.eq
  have h := H.lt
  rw [List.drop_zero] at h
  rw [Nat.pow_zero, Nat.one_mul, List.drop_zero, Nat.add_comm] at e
  constructor
  · rw [e, Nat.mul_add_div (by omega), Nat.div_eq_of_lt h, Nat.add_zero]
  · rw [e, Nat.mul_add_mod, Nat.mod_eq_of_lt h]
/-- The numbers of a step, from the parts. -/
theorem gset_of {i : Nat} {as bs rs zs : List Nat} (H : LgInv (i + 1) as bs rs zs) (hb : Is32 bs) (hn : 2 ≤ bs.length) (hc : chk bs = true) (hi : i < zs.length) :
    GSet (val (rs.drop i)) (val bs) (4294967296 ^ (bs.length - 2)) (rs.getD (i + bs.length) 0 * 4294967296 + rs.getD (i + (bs.length - 1)) 0) (rs.getD (i + (bs.length - 2)) 0) (bs.getD (bs.length - 1) 0) (bs.getD (bs.length - 2) 0) := by
  obtain ⟨m, hm⟩ : ∃ m, bs.length = m + 2 := ⟨bs.length - 2, by omega⟩
  rw [hm, show m + 2 - 2 = m from by omega, show m + 2 - 1 = m + 1 from by omega]
  have z1 : val (rs.drop (i + m + 2 + 1)) = 0 := by
    have := drop_zero_of_lt (rs := rs) (i := i + 1) (n := bs.length) (Nat.lt_trans H.lt (val_lt hb))
    rw [hm] at this
    rw [show i + m + 2 + 1 = i + 1 + (m + 2) from by omega]
    exact this
  have vV := val_cut bs m
  rw [drop_val bs m, top_of (rs := bs) (p := m + 1) (by rw [List.drop_of_length_le (by omega)]; rfl)] at vV
  have vU := val_win rs i m
  rw [drop_val rs (i + m), drop_val rs (i + m + 1), top_of (rs := rs) (p := i + m + 1 + 1) z1] at vU
  have lV : val (bs.take m) < 4294967296 ^ m := Nat.lt_of_lt_of_le (val_lt (is32_take hb m)) (Nat.pow_le_pow_right (by omega) (by rw [List.length_take]; omega))
  have lU := win_lt H.r32 i m
  have hh : bs.getD (m + 1) 0 ≠ 0 := by
    rcases snoc_cases bs with rfl | ⟨ys, y, rfl⟩
    · simp at hm
    · rw [chk_snoc] at hc
      have : ys.length = m + 1 := by simp at hm; omega
      rw [List.getD_eq_getElem?_getD, List.getElem?_append_right (by omega), this]
      simpa using hc
  have tV : val (rs.drop i) < 4294967296 * val bs := by
    rw [drop_val]
    have a := is32_get H.r32 i
    have b := H.lt
    have : 4294967296 * (val (rs.drop (i + 1)) + 1) ≤ 4294967296 * val bs := Nat.mul_le_mul_left _ b
    omega
  refine ⟨by omega, is32_get hb _, is32_get H.r32 _, ?_, ?_, ?_, ?_, tV⟩
  · rw [vV]; exact Nat.le_add_left _ _
  · rw [vV]; omega
  · rw [vU, show i + (m + 1) = i + m + 1 from by omega, show i + (m + 2) = i + m + 1 + 1 from by omega, Nat.add_comm (rs.getD (i + m + 1 + 1) 0 * 4294967296), Nat.mul_comm (rs.getD (i + m + 1 + 1) 0)]
    exact Nat.le_add_left _ _
  · rw [vU, show i + (m + 1) = i + m + 1 from by omega, show i + (m + 2) = i + m + 1 + 1 from by omega, Nat.add_comm (rs.getD (i + m + 1 + 1) 0 * 4294967296), Nat.mul_comm (rs.getD (i + m + 1 + 1) 0)]
    omega
theorem LgInv.start {as bs : List Nat} (ha : Is32 as) (hb : Is32 bs) (hc : chk bs = true) (hn : 1 ≤ bs.length) (hl : bs.length ≤ as.length) : LgInv (as.length + 1 - bs.length) (as ++ [0]) bs (as ++ [0]) (List.replicate (as.length + 1 - bs.length) 0) := by
  have hi : as.length + 1 - bs.length ≤ as.length := by omega
  refine ⟨rfl, by simp; omega, is32_append.2 ⟨ha, is32_cons.2 ⟨by omega, is32_nil⟩⟩, is32_replicate _, ?_, ?_⟩
  · rw [List.drop_append_of_le_length hi, val_append]
    have l := val_lt (is32_drop ha (as.length + 1 - bs.length))
    rw [List.length_drop] at l
    have hv : 4294967296 ^ (bs.length - 1) ≤ val bs := by
      refine Nat.le_of_not_lt fun h => ?_
      have := limbs_length_le.2 h
      rw [limbs_val_chk hb hc] at this
      omega
    rw [show as.length - (as.length + 1 - bs.length) = bs.length - 1 from by omega] at l
    rw [val_cons, val_nil, Nat.mul_zero, Nat.add_zero]
    omega
  · have : (List.replicate (as.length + 1 - bs.length) 0).drop (as.length + 1 - bs.length) = [] := by simp
    rw [this, val_nil, Nat.mul_zero, Nat.mul_zero, Nat.add_zero]
end Go.Proofs.YtcdejccbamjdoaaDoor
