/- Plain lemmas: division by more parts. No program in sight. -/
import Derived.Test.YtcdejccbamjdoaaDoorLm6
set_option linter.unusedVariables false
set_option linter.unusedSimpArgs false
namespace Go.Proofs.YtcdejccbamjdoaaDoor

/-! ### how often, by the uppermost parts -/
/-- Numbers of a step: U by V; top, h: their uppermost parts; u0, l: the next ones; E: the weight of what is left. -/
structure GSet (U V E top u0 h l : Nat) : Prop where
  h0 : 0 < h
  l32 : l < 4294967296
  u32 : u0 < 4294967296
  v1 : E * (l + 4294967296 * h) ≤ V
  v2 : V < E * (l + 4294967296 * h) + E
  u1 : E * (u0 + 4294967296 * top) ≤ U
  u2 : U < E * (u0 + 4294967296 * top) + E
  lt : U < 4294967296 * V
theorem GSet.start {U V E top u0 h l : Nat} (S : GSet U V E top u0 h l) : U < (min (top / h) 4294967295 + 1) * V := by
  rcases Nat.le_total (top / h) 4294967295 with c | c
  · rw [Nat.min_eq_left c]
    have a : top + 1 ≤ (top / h + 1) * h := by
      have := Nat.div_add_mod top h
      have := Nat.mod_lt top S.h0
      have e : (top / h + 1) * h = h * (top / h) + h := by rw [Nat.add_mul, Nat.mul_comm, Nat.one_mul]
      omega
    have b : E * (4294967296 * (top + 1)) ≤ E * (4294967296 * ((top / h + 1) * h)) := Nat.mul_le_mul_left _ (Nat.mul_le_mul_left _ a)
    have d : E * (u0 + 4294967296 * top) + E ≤ E * (4294967296 * (top + 1)) := by
      have : u0 + 4294967296 * top + 1 ≤ 4294967296 * (top + 1) := by have := S.u32; omega
      calc E * (u0 + 4294967296 * top) + E = E * (u0 + 4294967296 * top + 1) := (Nat.mul_add_one _ _).symm
        _ ≤ _ := Nat.mul_le_mul_left _ this
    have f : E * (4294967296 * ((top / h + 1) * h)) ≤ (top / h + 1) * V := by
      have : E * (4294967296 * h) ≤ V := Nat.le_trans (Nat.mul_le_mul_left _ (by omega)) S.v1
      calc E * (4294967296 * ((top / h + 1) * h)) = (top / h + 1) * (E * (4294967296 * h)) := by
            rw [Nat.mul_left_comm 4294967296, Nat.mul_left_comm E]
        _ ≤ _ := Nat.mul_le_mul_left _ this
    have := S.u2
    omega
  · rw [Nat.min_eq_right c]
    exact S.lt
/-- The test says that it is too often. -/
theorem GSet.less {U V E top u0 h l g over : Nat} (S : GSet U V E top u0 h l) (ho : top = over + g * h) (hc : over * 4294967296 + u0 < g * l) : U < g * V := by
  have a : u0 + 4294967296 * top + 1 ≤ g * (l + 4294967296 * h) := by
    rw [Nat.mul_add, Nat.mul_left_comm g, ho, Nat.mul_add]
    omega
  have b : E * (u0 + 4294967296 * top) + E ≤ E * (g * (l + 4294967296 * h)) := by
    calc E * (u0 + 4294967296 * top) + E = E * (u0 + 4294967296 * top + 1) := (Nat.mul_add_one _ _).symm
      _ ≤ _ := Nat.mul_le_mul_left _ a
  have d : E * (g * (l + 4294967296 * h)) ≤ g * V := by
    rw [Nat.mul_left_comm]
    exact Nat.mul_le_mul_left _ S.v1
  have := S.u2
  omega
/-- The test says no. -/
theorem GSet.enough {U V E top u0 h l g over : Nat} (S : GSet U V E top u0 h l) (hg : g < 4294967296) (ho : top = over + g * h) (hc : 4294967296 ≤ over ∨ g * l ≤ over * 4294967296 + u0) : g * V < U + V := by
  have hc' : g * l ≤ over * 4294967296 + u0 := by
    rcases hc with h1 | h1
    · have : g * l ≤ 4294967295 * 4294967295 := Nat.mul_le_mul (by omega) (by have := S.l32; omega)
      have : 4294967296 * 4294967296 ≤ over * 4294967296 := Nat.mul_le_mul_right _ h1
      omega
    · exact h1
  have a : g * (l + 4294967296 * h) ≤ u0 + 4294967296 * top := by
    rw [Nat.mul_add, Nat.mul_left_comm g, ho, Nat.mul_add]
    omega
  have b : E * (g * (l + 4294967296 * h)) ≤ U := Nat.le_trans (Nat.mul_le_mul_left _ a) S.u1
  obtain ⟨v', hv⟩ : ∃ v', V = E * (l + 4294967296 * h) + v' := ⟨V - E * (l + 4294967296 * h), by have := S.v1; omega⟩
  have hv2 : v' < E := by have := S.v2; omega
  have d : g * v' ≤ 4294967295 * E := Nat.mul_le_mul (by omega) (by omega)
  have e : E * 4294967296 ≤ V := by
    refine Nat.le_trans (Nat.mul_le_mul_left _ ?_) S.v1
    have := S.h0
    omega
  have f : g * V = E * (g * (l + 4294967296 * h)) + g * v' := by rw [hv, Nat.mul_add, Nat.mul_left_comm]
  omega

/-! ### the parts -/
theorem take_far {rs rs' : List Nat} {i : Nat} (hl : rs'.length = rs.length) (h : ∀ j, j < i → rs'.getD j 0 = rs.getD j 0) : rs'.take i = rs.take i := by
  apply List.ext_getElem
  · simp [hl]
  · intro j h1 h2
    simp only [List.length_take] at h1 h2
    have := h j (by omega)
    rw [getD_lt (by omega), getD_lt (by omega)] at this
    simpa using this
/-- Behind k rounds of taking so often off. -/
structure MsInv (i k o g : Nat) (bs rs0 rs : List Nat) : Prop where
  len : rs.length = rs0.length
  is32 : Is32 rs
  le : o ≤ g
  low : ∀ j, j < i → rs.getD j 0 = rs0.getD j 0
  far : ∀ j, i + k ≤ j → rs.getD j 0 = rs0.getD j 0
  eq : val rs + 4294967296 ^ i * (g * val (bs.take k)) = val rs0 + 4294967296 ^ (i + k) * o
theorem MsInv.start {i g : Nat} {bs rs0 : List Nat} (h : Is32 rs0) : MsInv i 0 0 g bs rs0 rs0 := ⟨rfl, h, Nat.zero_le _, fun _ _ => rfl, fun _ _ => rfl, by simp [val]⟩
/-- What is owed behind a part; the part. -/
def msb (p d : Nat) : Nat := p / 4294967296 + (if d < p % 4294967296 then 1 else 0)
def msd (p d : Nat) : Nat := (d + 4294967296 - p % 4294967296) % 4294967296
theorem ms_digit {p d : Nat} (hd : d < 4294967296) : msd p d + p = d + 4294967296 * msb p d ∧ msd p d < 4294967296 := by
  unfold msd msb
  have := Nat.mod_add_div p 4294967296
  split <;> omega
theorem ms_owed {g y o d : Nat} (hy : y < 4294967296) (ho : o ≤ g) : msb (g * y + o) d ≤ g := by
  have a : g * y + o ≤ g * 4294967296 := by
    have : g * y + g ≤ g * 4294967296 := by rw [← Nat.mul_succ]; exact Nat.mul_le_mul_left _ hy
    omega
  generalize g * y + o = p at *
  unfold msb
  have := Nat.mod_add_div p 4294967296
  split <;> omega
theorem ms_join {v v' P d d' o o' T T' X B : Nat} (h1 : v' + P * d = v + P * d') (h2 : d' + (X + o) = d + B * o') (h3 : v + T = T' + P * o) : v' + (T + P * X) = T' + P * B * o' := by
  have a : P * d' + (P * X + P * o) = P * d + P * B * o' := by rw [Nat.mul_assoc, ← Nat.mul_add, ← Nat.mul_add, h2, Nat.mul_add]
  omega
theorem MsInv.step {i k o g : Nat} {bs rs0 rs : List Nat} (H : MsInv i k o g bs rs0 rs) (hb : Is32 bs) (hl : i + k < rs0.length) :
    MsInv i (k + 1) (msb (g * bs.getD k 0 + o) (rs.getD (i + k) 0)) g bs rs0 (rs.set (i + k) (msd (g * bs.getD k 0 + o) (rs.getD (i + k) 0))) := by
  obtain ⟨e1, e2⟩ := ms_digit (p := g * bs.getD k 0 + o) (is32_get H.is32 (i + k))
  have vs := val_set rs (i + k) (msd (g * bs.getD k 0 + o) (rs.getD (i + k) 0)) (by rw [H.len]; exact hl)
  refine ⟨by rw [List.length_set, H.len], is32_set H.is32 _ _ e2, ms_owed (is32_get hb k) H.le, ?_, ?_, ?_⟩
  · intro j hj
    rw [getD_set, if_neg (by omega)]
    exact H.low j hj
  · intro j hj
    rw [getD_set, if_neg (by omega)]
    exact H.far j (by omega)
  · rw [val_take_succ, show i + (k + 1) = i + k + 1 from rfl, Nat.pow_succ, Nat.mul_add g, Nat.mul_add (4294967296 ^ i)]
    have : 4294967296 ^ i * (g * (4294967296 ^ k * bs.getD k 0)) = 4294967296 ^ (i + k) * (g * bs.getD k 0) := by
      rw [Nat.pow_add, Nat.mul_left_comm g, Nat.mul_assoc]
    rw [this]
    exact ms_join vs e1 H.eq
/-- Behind k rounds of giving back. -/
structure AbInv (i k cy : Nat) (bs rs0 rs : List Nat) : Prop where
  len : rs.length = rs0.length
  is32 : Is32 rs
  lt : cy < 2
  low : ∀ j, j < i → rs.getD j 0 = rs0.getD j 0
  far : ∀ j, i + k ≤ j → rs.getD j 0 = rs0.getD j 0
  eq : val rs + 4294967296 ^ (i + k) * cy = val rs0 + 4294967296 ^ i * val (bs.take k)
theorem AbInv.start {i : Nat} {bs rs0 : List Nat} (h : Is32 rs0) : AbInv i 0 0 bs rs0 rs0 := ⟨rfl, h, by omega, fun _ _ => rfl, fun _ _ => rfl, by simp [val]⟩
theorem ab_join {v v' P d d' y c c' T T' B : Nat} (h1 : v' + P * d = v + P * d') (h2 : d' + B * c' = d + y + c) (h3 : v + P * c = T + T') : v' + P * B * c' = T + (T' + P * y) := by
  have a : P * d' + P * B * c' = P * d + P * y + P * c := by rw [Nat.mul_assoc, ← Nat.mul_add, h2, Nat.mul_add, Nat.mul_add]
  omega
theorem AbInv.step {i k cy : Nat} {bs rs0 rs : List Nat} (H : AbInv i k cy bs rs0 rs) (hb : Is32 bs) (hl : i + k < rs0.length) :
    AbInv i (k + 1) ((rs.getD (i + k) 0 + bs.getD k 0 + cy) / 4294967296) bs rs0 (rs.set (i + k) ((rs.getD (i + k) 0 + bs.getD k 0 + cy) % 4294967296)) := by
  have e1 := Nat.mod_add_div (rs.getD (i + k) 0 + bs.getD k 0 + cy) 4294967296
  have b1 := is32_get H.is32 (i + k)
  have b2 := is32_get hb k
  have b3 := H.lt
  have vs := val_set rs (i + k) ((rs.getD (i + k) 0 + bs.getD k 0 + cy) % 4294967296) (by rw [H.len]; exact hl)
  refine ⟨by rw [List.length_set, H.len], is32_set H.is32 _ _ (Nat.mod_lt _ (by omega)), by omega, ?_, ?_, ?_⟩
  · intro j hj
    rw [getD_set, if_neg (by omega)]
    exact H.low j hj
  · intro j hj
    rw [getD_set, if_neg (by omega)]
    exact H.far j (by omega)
  · rw [val_take_succ, show i + (k + 1) = i + k + 1 from rfl, Nat.pow_succ, Nat.mul_add (4294967296 ^ i)]
    have : 4294967296 ^ i * (4294967296 ^ k * bs.getD k 0) = 4294967296 ^ (i + k) * bs.getD k 0 := by rw [Nat.pow_add, Nat.mul_assoc]
    rw [this]
    exact ab_join vs e1 H.eq

/-- Behind the steps from i on: rs: what is left; zs: how often. -/
structure LgInv (i : Nat) (as bs rs zs : List Nat) : Prop where
  len : rs.length = as.length
  zlen : zs.length + bs.length = as.length
  r32 : Is32 rs
  z32 : Is32 zs
  lt : val (rs.drop i) < val bs
  eq : val as = val rs + val bs * (4294967296 ^ i * val (zs.drop i))
theorem val_cut (rs : List Nat) (i : Nat) : val rs = val (rs.take i) + 4294967296 ^ i * val (rs.drop i) := by
  by_cases h : i ≤ rs.length
  · exact val_take_drop rs i h
  · rw [List.drop_of_length_le (by omega), List.take_of_length_le (by omega)]; simp [val]
theorem drop_zero_of_lt {rs : List Nat} {i n : Nat} (h : val (rs.drop i) < 4294967296 ^ n) : val (rs.drop (i + n)) = 0 := by
  have e := val_cut (rs.drop i) n
  rw [List.drop_drop] at e
  rcases Nat.eq_zero_or_pos (val (rs.drop (i + n))) with h0 | h0
  · exact h0
  · exfalso
    have : 4294967296 ^ n * 1 ≤ 4294967296 ^ n * val (rs.drop (i + n)) := Nat.mul_le_mul_left _ h0
    omega
/-- What is left, and how often, of one step, from what the rounds leave. -/
theorem lg_one {Lw t o P gV U V : Nat} (h : Lw + P * t + gV = U + P * o) (h1 : U < gV + V) (hV : V ≤ P) (ht : o ≤ t) : t = o ∧ U = gV + Lw ∧ Lw < V := by
  obtain ⟨d, rfl⟩ : ∃ d, t = o + d := ⟨t - o, by omega⟩
  rw [Nat.mul_add] at h
  rcases Nat.eq_zero_or_pos d with h0 | h0
  · subst h0
    simp only [Nat.mul_zero, Nat.add_zero] at h
    exact ⟨rfl, by omega, by omega⟩
  · have : P * 1 ≤ P * d := Nat.mul_le_mul_left _ h0
    omega
theorem lg_two {Lw Lw' t o P gV U V cy : Nat} (h : Lw + P * t + gV = U + P * o) (h2 : gV < U + V) (hV : V ≤ P) (hL : Lw < P) (hL' : Lw' < P) (ht : t < o) (hb : Lw' + P * cy = Lw + V) : U + V = gV + Lw' ∧ Lw' < V := by
  obtain ⟨d, rfl⟩ : ∃ d, o = t + (d + 1) := ⟨o - t - 1, by omega⟩
  rw [Nat.mul_add, Nat.mul_add, Nat.mul_one] at h
  have e : Lw' + P * cy = U + V - gV + P * (d + 1) := by rw [Nat.mul_add, Nat.mul_one]; omega
  have hU : U < gV := by omega
  have hlt : U + V - gV < P := by omega
  have m1 : (Lw' + P * cy) % P = Lw' := by rw [Nat.add_mul_mod_self_left, Nat.mod_eq_of_lt hL']
  have m2 : (U + V - gV + P * (d + 1)) % P = U + V - gV := by rw [Nat.add_mul_mod_self_left, Nat.mod_eq_of_lt hlt]
  rw [e, m2] at m1
  omega
end Go.Proofs.YtcdejccbamjdoaaDoor
