/- Plain lemmas: shifts. No program in sight. -/
import Derived.Test.YtcdejccbamjdoaaDoorLm3
set_option linter.unusedVariables false
set_option linter.unusedSimpArgs false
namespace Go.Proofs.YtcdejccbamjdoaaDoor

theorem val_zero_of_lt {zs : List Nat} {p : Nat} (h : ∀ j, p ≤ j → zs.getD j 0 = 0) : val (zs.drop p) = 0 := by
  suffices H : ∀ d p, zs.length ≤ p + d → (∀ j, p ≤ j → zs.getD j 0 = 0) → val (zs.drop p) = 0 from H zs.length p (by omega) h
  intro d
  induction d with
  | zero => intro p hp _; rw [List.drop_of_length_le (by omega)]; rfl
  | succ d ih =>
    intro p hp hz
    rw [drop_val, ih (p + 1) (by omega) (fun j hj => hz j (by omega)), hz p (Nat.le_refl _)]

/-- Behind k rounds of a shift to the left, by 32 times skip bits and a power s = 2^S, S < 32. -/
structure ShInv (k skip s : Nat) (xs zs : List Nat) : Prop where
  len : zs.length = xs.length + skip + 1
  is32 : Is32 zs
  low : zs.getD (k + skip) 0 < s
  far : ∀ j, k + skip < j → zs.getD j 0 = 0
  eq : val zs = 4294967296 ^ skip * s * val (xs.take k)
theorem ShInv.start {skip s : Nat} (xs : List Nat) (hs : 0 < s) : ShInv 0 skip s xs (List.replicate (xs.length + skip + 1) 0) := by
  have z : ∀ j, (List.replicate (xs.length + skip + 1) 0).getD j 0 = 0 := fun j => by
    by_cases h : j < xs.length + skip + 1
    · rw [getD_lt (by simpa using h)]; simp
    · exact getD_ge (by simpa using h)
  exact ⟨by simp, is32_replicate _, by rw [z]; exact hs, fun j _ => z j, by rw [val_replicate]; simp [val]⟩
theorem sh_join {v v1 v2 P o lo hi x s T : Nat} (h1 : v1 + P * o = v + P * (lo + o)) (h2 : v2 = v1 + P * 4294967296 * hi) (h3 : lo + 4294967296 * hi = x * s) : v2 = v + P * (x * s) := by
  rw [← h3, Nat.mul_add, ← Nat.mul_assoc]
  rw [Nat.mul_add] at h1
  omega
theorem lo_mod {x s c : Nat} (hsc : s * c = 4294967296) : (x * s) % 4294967296 % s = 0 := by
  rw [← hsc, Nat.mul_comm x s, Nat.mul_mod_mul_left, Nat.mul_mod_right]
theorem hi_lt {x s c : Nat} (hx : x < 4294967296) (hs : 0 < s) : (x * s) / 4294967296 < s := by
  exact Nat.div_lt_of_lt_mul (by rw [Nat.mul_comm x s, Nat.mul_comm 4294967296 s]; exact Nat.mul_lt_mul_of_pos_left hx hs)
theorem ShInv.step {k skip s c : Nat} {xs zs : List Nat} (H : ShInv k skip s xs zs) (hk : k < xs.length) (hx : Is32 xs) (hs : 0 < s) (hsc : s * c = 4294967296) :
    ShInv (k + 1) skip s xs ((zs.set (k + skip) ((xs.getD k 0 * s) % 4294967296 + zs.getD (k + skip) 0)).set (k + skip + 1) ((xs.getD k 0 * s) / 4294967296)) := by
  have bx := is32_get hx k
  have a1 := lo_mod (x := xs.getD k 0) hsc
  have a2 := hi_lt (c := c) bx hs
  have a3 := Nat.mod_add_div (xs.getD k 0 * s) 4294967296
  have low := H.low
  have hsB : s ≤ 4294967296 := by rw [← hsc]; exact Nat.le_mul_of_pos_right _ (by rcases Nat.eq_zero_or_pos c with h | h; · subst h; omega
                                                                                  · exact h)
  have lo32 : (xs.getD k 0 * s) % 4294967296 + zs.getD (k + skip) 0 < 4294967296 := by
    have hc : 0 < c := by rcases Nat.eq_zero_or_pos c with h | h; · subst h; omega
                          · exact h
    obtain ⟨q, hq⟩ := Nat.dvd_of_mod_eq_zero a1
    have hm := Nat.mod_lt (xs.getD k 0 * s) (show 0 < 4294967296 by omega)
    rw [hq] at hm ⊢
    have : q < c := by
      rw [← hsc] at hm
      exact Nat.lt_of_mul_lt_mul_left hm
    calc s * q + zs.getD (k + skip) 0 < s * q + s := by omega
      _ = s * (q + 1) := by rw [Nat.mul_add, Nat.mul_one]
      _ ≤ s * c := Nat.mul_le_mul_left _ this
      _ = 4294967296 := hsc
  generalize (xs.getD k 0 * s) % 4294967296 = lo at *
  generalize hhi : (xs.getD k 0 * s) / 4294967296 = hi at *
  have l1 : (zs.set (k + skip) (lo + zs.getD (k + skip) 0)).length = xs.length + skip + 1 := by rw [List.length_set, H.len]
  have v1 := val_set zs (k + skip) (lo + zs.getD (k + skip) 0) (by rw [H.len]; omega)
  have v2 := val_set (zs.set (k + skip) (lo + zs.getD (k + skip) 0)) (k + skip + 1) hi (by rw [l1]; omega)
  have z : (zs.set (k + skip) (lo + zs.getD (k + skip) 0)).getD (k + skip + 1) 0 = 0 := by
    rw [getD_set, if_neg (by omega)]; exact H.far _ (by omega)
  rw [z, Nat.mul_zero, Nat.add_zero, Nat.pow_succ] at v2
  refine ⟨by rw [List.length_set, l1], is32_set (is32_set H.is32 _ _ lo32) _ _ (by omega), ?_, ?_, ?_⟩
  · rw [show k + 1 + skip = k + skip + 1 from by omega, getD_set, if_pos ⟨rfl, by rw [l1]; omega⟩]
    exact a2
  · intro j hj
    rw [getD_set, if_neg (by omega), getD_set, if_neg (by omega)]
    exact H.far j (by omega)
  · rw [sh_join (T := 0) v1 v2 a3, H.eq, val_take_succ, Nat.mul_add]
    congr 1
    rw [Nat.pow_add, Nat.mul_comm (4294967296 ^ k), Nat.mul_assoc, Nat.mul_assoc, Nat.mul_comm (xs.getD k 0) s, Nat.mul_left_comm (4294967296 ^ k)]
theorem ShInv.fin {skip s : Nat} {xs zs : List Nat} (H : ShInv xs.length skip s xs zs) : val zs = val xs * (4294967296 ^ skip * s) := by
  rw [H.eq, List.take_of_length_le (Nat.le_refl _), Nat.mul_comm]
theorem pow_split (by_ : Nat) : 4294967296 ^ (by_ / 32) * 2 ^ (by_ % 32) = 2 ^ by_ := by
  rw [show (4294967296 : Nat) = 2 ^ 32 from rfl, ← Nat.pow_mul, ← Nat.pow_add, Nat.div_add_mod]
theorem pow_comp (S : Nat) (h : S < 32) : 2 ^ S * 2 ^ (32 - S) = 4294967296 := by
  rw [← Nat.pow_add, show S + (32 - S) = 32 from by omega]

/-- A digit of a number that is shifted to the right. -/
def bkd (x d1 s : Nat) : Nat := ((d1 * 4294967296 + x) / s) % 4294967296
theorem bk_digit {x v s c : Nat} (hx : x < 4294967296) (hs : 0 < s) (hsc : s * c = 4294967296) : (x + 4294967296 * v) / s = bkd x (v % 4294967296) s + 4294967296 * (v / s) := by
  have e1 : (x + 4294967296 * v) / s = x / s + c * v := by
    rw [← hsc, Nat.mul_assoc, Nat.add_mul_div_left _ _ hs]
  have e2 : (v % 4294967296 * 4294967296 + x) / s = x / s + c * (v % 4294967296) := by
    rw [Nat.add_comm, Nat.mul_comm (v % 4294967296)]
    conv => lhs; rw [show 4294967296 * (v % 4294967296) = s * (c * (v % 4294967296)) from by rw [← Nat.mul_assoc, hsc]]
    rw [Nat.add_mul_div_left _ _ hs]
  have xc : x / s < c := Nat.div_lt_of_lt_mul (by rw [hsc]; exact hx)
  unfold bkd
  rw [e1, e2]
  have hd : v % 4294967296 % s = v % s := by rw [← hsc, Nat.mod_mul_right_mod]
  have q1 := Nat.div_add_mod v s
  have q2 := Nat.div_add_mod (v % 4294967296) s
  rw [hd] at q2
  have rl := Nat.mod_lt v hs
  generalize v % s = r at *
  generalize v % 4294967296 = d1 at *
  have e3 : c * v = 4294967296 * (v / s) + c * r := by rw [← q1, Nat.mul_add, ← Nat.mul_assoc, Nat.mul_comm c s, hsc, q1]
  have e4 : c * d1 = 4294967296 * (d1 / s) + c * r := by rw [← q2, Nat.mul_add, ← Nat.mul_assoc, Nat.mul_comm c s, hsc, q2]
  have sm : x / s + c * r < 4294967296 := by
    have : c * r ≤ c * (s - 1) := Nat.mul_le_mul_left _ (by omega)
    have t : c * (s - 1) + c = 4294967296 := by rw [← hsc, Nat.mul_comm s c, ← Nat.mul_succ]; congr 1; omega
    omega
  rw [e3, e4]
  rw [show x / s + (4294967296 * (d1 / s) + c * r) = (x / s + c * r) + 4294967296 * (d1 / s) from by omega, Nat.add_mul_mod_self_left, Nat.mod_eq_of_lt sm]
  omega
/-- Behind k rounds of a shift to the right; ds: what is left behind the parts that go. -/
structure BkInv (m k s : Nat) (ds zs : List Nat) : Prop where
  out : ∃ outs, zs = outs ++ List.replicate (m - k) 0 ∧ outs.length = k ∧ Is32 outs ∧ val outs + 4294967296 ^ k * (val (ds.drop k) / s) = val ds / s
theorem BkInv.start (m s : Nat) (ds : List Nat) : BkInv m 0 s ds (List.replicate m 0) := ⟨[], by simp, rfl, is32_nil, by simp [val]⟩
theorem BkInv.len {m k s : Nat} {ds zs : List Nat} (h : BkInv m k s ds zs) (hk : k ≤ m) : zs.length = m := by
  obtain ⟨outs, rfl, h1, _⟩ := h.out
  simp; omega
theorem val_mod (ds : List Nat) (h : Is32 ds) : val ds % 4294967296 = ds.getD 0 0 := by
  cases ds with
  | nil => rfl
  | cons x xs =>
    rw [val_cons]
    have := (is32_cons.1 h).1
    show _ = x
    omega
theorem bk_join {o p q b T : Nat} (h : o + p * (b + 4294967296 * q) = T) : o + p * b + p * 4294967296 * q = T := by
  rw [Nat.mul_add, ← Nat.mul_assoc] at h
  omega
theorem BkInv.step {m k s c : Nat} {ds zs : List Nat} (H : BkInv m k s ds zs) (hk : k < m) (hx : Is32 ds) (hs : 0 < s) (hsc : s * c = 4294967296) :
    BkInv m (k + 1) s ds (zs.set k (bkd (ds.getD k 0) (ds.getD (k + 1) 0) s)) := by
  obtain ⟨outs, rfl, h1, h2, h3⟩ := H.out
  refine ⟨outs ++ [bkd (ds.getD k 0) (ds.getD (k + 1) 0) s], ?_, by simp [h1], is32_append.2 ⟨h2, is32_cons.2 ⟨Nat.mod_lt _ (by omega), is32_nil⟩⟩, ?_⟩
  · rw [show m - k = m - (k + 1) + 1 from by omega]
    exact set_at _ _ _ _ h1
  · rw [drop_val, bk_digit (is32_get hx k) hs hsc, val_mod _ (is32_drop hx _)] at h3
    have e : (ds.drop (k + 1)).getD 0 0 = ds.getD (k + 1) 0 := by simp [List.getD_eq_getElem?_getD, List.getElem?_drop]
    rw [e] at h3
    rw [val_append, h1, Nat.pow_succ, val_cons, val_nil, Nat.mul_zero, Nat.add_zero]
    exact bk_join h3
theorem BkInv.fin {s : Nat} {ds zs : List Nat} (H : BkInv ds.length ds.length s ds zs) : Is32 zs ∧ val zs = val ds / s := by
  obtain ⟨outs, rfl, h1, h2, h3⟩ := H.out
  rw [List.drop_length, val_nil, Nat.zero_div, Nat.mul_zero, Nat.add_zero] at h3
  rw [Nat.sub_self, List.replicate_zero, List.append_nil]
  exact ⟨h2, h3⟩
theorem val_drop (xs : List Nat) (h : Is32 xs) (k : Nat) : val (xs.drop k) = val xs / 4294967296 ^ k := by
  by_cases hk : k ≤ xs.length
  · have e := val_take_drop xs k hk
    have l := val_lt (is32_take h k)
    rw [List.length_take, Nat.min_eq_left hk] at l
    rw [e, Nat.add_mul_div_left _ _ (Nat.pow_pos (by omega)), Nat.div_eq_of_lt l, Nat.zero_add]
  · rw [List.drop_of_length_le (by omega), Nat.div_eq_of_lt]
    · rfl
    · exact Nat.lt_of_lt_of_le (val_lt h) (Nat.pow_le_pow_right (by omega) (by omega))
theorem back_val (xs : List Nat) (h : Is32 xs) (n : Nat) : val (xs.drop (n / 32)) / 2 ^ (n % 32) = val xs / 2 ^ n := by
  rw [val_drop xs h, Nat.div_div_eq_div_mul, pow_split]
end Go.Proofs.YtcdejccbamjdoaaDoor
