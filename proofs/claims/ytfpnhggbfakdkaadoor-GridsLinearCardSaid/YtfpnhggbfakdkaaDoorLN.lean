/- Plain lemmas: grids as functions, rows in steps, what counts, what is solved. -/
import Derived.Test.YtfpnhggbfakdkaaDoorLa
/- Plain lemmas: grids of fractions as functions; which columns count. No program in sight. -/
set_option linter.unusedVariables false
set_option linter.unusedSimpArgs false
namespace Go.Proofs.YtfpnhggbfakdkaaDoor

/-! ### sums -/
def Sgm : Nat → (Nat → Rat) → Rat
  | 0, _ => 0
  | n + 1, f => Sgm n f + f n
theorem Sgm_zero (f : Nat → Rat) : Sgm 0 f = 0 := rfl
theorem Sgm_succ (n : Nat) (f : Nat → Rat) : Sgm (n + 1) f = Sgm n f + f n := rfl
theorem Sgm_congr {n : Nat} {f g : Nat → Rat} (h : ∀ j, j < n → f j = g j) : Sgm n f = Sgm n g := by
  induction n with
  | zero => rfl
  | succ n ih => rw [Sgm_succ, Sgm_succ, ih fun j hj => h j (by omega), h n (by omega)]
theorem Sgm_nought {n : Nat} {f : Nat → Rat} (h : ∀ j, j < n → f j = 0) : Sgm n f = 0 := by
  induction n with
  | zero => rfl
  | succ n ih => rw [Sgm_succ, ih fun j hj => h j (by omega), h n (by omega)]; exact Rat.add_zero 0
theorem Sgm_add (n : Nat) (f g : Nat → Rat) : Sgm n (fun j => f j + g j) = Sgm n f + Sgm n g := by
  induction n with
  | zero => exact (Rat.add_zero 0).symm
  | succ n ih => rw [Sgm_succ, Sgm_succ, Sgm_succ, ih]; grind
theorem Sgm_mul (n : Nat) (c : Rat) (f : Nat → Rat) : Sgm n (fun j => c * f j) = c * Sgm n f := by
  induction n with
  | zero => rw [Sgm_zero, Sgm_zero, Rat.mul_zero]
  | succ n ih => rw [Sgm_succ, Sgm_succ, ih]; grind
theorem Sgm_one {n k : Nat} {f : Nat → Rat} (hk : k < n) (h : ∀ j, j < n → j ≠ k → f j = 0) : Sgm n f = f k := by
  induction n with
  | zero => omega
  | succ n ih =>
    rw [Sgm_succ]
    by_cases e : k = n
    · subst e
      rw [Sgm_nought fun j hj => h j (by omega) (by omega), Rat.zero_add]
    · rw [ih (by omega) fun j hj => h j (by omega), h n (by omega) (by omega), Rat.add_zero]
theorem Sgm_two {n k l : Nat} {f : Nat → Rat} (hk : k < n) (hl : l < n) (hkl : k ≠ l) (h : ∀ j, j < n → j ≠ k → j ≠ l → f j = 0) : Sgm n f = f k + f l := by
  have e : Sgm n f = Sgm n (fun j => (if j = k then f k else 0) + (if j = l then f l else 0)) := Sgm_congr fun j hj => by
    by_cases e1 : j = k
    · subst e1; rw [if_pos rfl, if_neg hkl]; grind
    · by_cases e2 : j = l
      · subst e2; rw [if_pos rfl, if_neg e1]; grind
      · rw [if_neg e1, if_neg e2, h j hj e1 e2]; grind
  rw [e, Sgm_add, Sgm_one hk (f := fun j => if j = k then f k else 0) (fun j _ q => if_neg q), Sgm_one hl (f := fun j => if j = l then f l else 0) (fun j _ q => if_neg q), if_pos rfl, if_pos rfl]
/-! ### what a grid makes nothing of -/
/-- The grid of m rows and n columns makes 0 of x. -/
def Nul (m n : Nat) (A : Nat → Nat → Rat) (x : Nat → Rat) : Prop := ∀ i, i < m → Sgm n (fun j => A i j * x j) = 0
/-- Column k counts: no combination of it and columns ahead of it is nothing. -/
def Piv (m n : Nat) (A : Nat → Nat → Rat) (k : Nat) : Prop := ¬∃ x, Nul m n A x ∧ x k = 1 ∧ ∀ j, k < j → j < n → x j = 0
open Classical in
noncomputable def rnk (m n : Nat) (A : Nat → Nat → Rat) : Nat := ((List.range n).filter fun k => decide (Piv m n A k)).length
theorem rnk_le (m n : Nat) (A : Nat → Nat → Rat) : rnk m n A ≤ n := by
  unfold rnk
  exact Nat.le_trans (List.length_filter_le _ _) (by rw [List.length_range]; exact Nat.le_refl n)
theorem rnk_congr {m m' n : Nat} {A B : Nat → Nat → Rat} (h : ∀ x, Nul m n A x ↔ Nul m' n B x) : rnk m n A = rnk m' n B := by
  unfold rnk
  congr 1
  apply List.filter_congr
  intro k _
  rw [decide_eq_decide]
  unfold Piv
  rw [not_congr]
  exact exists_congr fun x => and_congr_left fun _ => h x
theorem Nul.congr {m n : Nat} {A B : Nat → Nat → Rat} {x : Nat → Rat} (h : Nul m n A x) (e : ∀ i j, i < m → j < n → A i j = B i j) : Nul m n B x := fun i hi => by
  rw [← h i hi]
  exact Sgm_congr fun j hj => by rw [e i j hi hj]

/-! ### rows in steps -/
/-- After the first k columns: hs, growing, are those that count; row i has its first number at hs[i], alone in its column; the rows behind these have none. -/
structure Ech (m k : Nat) (R : Nat → Nat → Rat) (hs : List Nat) : Prop where
  len : hs.length ≤ m
  lt : ∀ h ∈ hs, h < k
  inc : hs.Pairwise (· < ·)
  piv : ∀ (i : Nat) h, hs[i]? = some h → R i h ≠ 0
  alone : ∀ (i : Nat) h i', hs[i]? = some h → i' < m → i' ≠ i → R i' h = 0
  low : ∀ (i : Nat) h j, hs[i]? = some h → j < h → R i j = 0
  rest : ∀ i j, hs.length ≤ i → i < m → j < k → R i j = 0
theorem Ech.start (m : Nat) (R : Nat → Nat → Rat) : Ech m 0 R [] := by
  refine ⟨by simp, by simp, .nil, by simp, by simp, by simp, fun i j _ _ h => by omega⟩
theorem Ech.skip {m k : Nat} {R : Nat → Nat → Rat} {hs : List Nat} (h : Ech m k R hs) (h0 : ∀ i, hs.length ≤ i → i < m → R i k = 0) : Ech m (k + 1) R hs :=
  ⟨h.len, fun x hx => Nat.lt_succ_of_lt (h.lt x hx), h.inc, h.piv, h.alone, h.low, fun i j hi hm hj => by
    rcases Nat.lt_or_ge j k with q | q
    · exact h.rest i j hi hm q
    · obtain rfl : j = k := by omega
      exact h0 i hi hm⟩
theorem Ech.congr {m k n : Nat} {R R' : Nat → Nat → Rat} {hs : List Nat} (h : Ech m k R hs) (hk : k ≤ n) (e : ∀ i j, i < m → j < n → R i j = R' i j) : Ech m k R' hs := by
  have hi : ∀ (i : Nat) x, hs[i]? = some x → i < m ∧ x < n := fun i x hx => by
    obtain ⟨h1, h2⟩ := List.getElem?_eq_some_iff.1 hx
    have := h.lt x (List.mem_of_getElem? hx)
    have := h.len
    exact ⟨by omega, by omega⟩
  refine ⟨h.len, h.lt, h.inc, fun i x hx => ?_, fun i x i' hx h1 h2 => ?_, fun i x j hx hj => ?_, fun i j h1 h2 h3 => ?_⟩
  · rw [← e i x (hi i x hx).1 (hi i x hx).2]; exact h.piv i x hx
  · rw [← e i' x h1 (hi i x hx).2]; exact h.alone i x i' hx h1 h2
  · rw [← e i j (hi i x hx).1 (by have := (hi i x hx).2; omega)]; exact h.low i x j hx hj
  · rw [← e i j h2 (by omega)]; exact h.rest i j h1 h2 h3
/-- One more column counts: the row 'at' comes to place n = hs.length, so many times, and the others lose theirs by it. -/
theorem Ech.turn {m k at_ : Nat} {R R' : Nat → Nat → Rat} {hs : List Nat} {c : Rat} {d : Nat → Rat} (h : Ech m k R hs) (hat : hs.length ≤ at_) (hm : at_ < m) (hc : c ≠ 0) (h0 : R at_ k ≠ 0)
    (hn : ∀ j, R' hs.length j = c * R at_ j)
    (ho : ∀ i j, i < m → i ≠ hs.length → R' i j = R (if i = at_ then hs.length else i) j + d i * R' hs.length j)
    (hz : ∀ i, i < m → i ≠ hs.length → R' i k = 0) : Ech m (k + 1) R' (hs ++ [k]) := by
  have hnk : ∀ j, j < k → R' hs.length j = 0 := fun j hj => by rw [hn, h.rest at_ j hat hm hj, Rat.mul_zero]
  have hrow : ∀ i j, i < m → i ≠ hs.length → j < k → R' i j = R (if i = at_ then hs.length else i) j := fun i j hi hne hj => by
    rw [ho i j hi hne, hnk j hj, Rat.mul_zero, Rat.add_zero]
  have hold : ∀ (i : Nat) x, hs[i]? = some x → i < hs.length ∧ x < k := fun i x hx => ⟨(List.getElem?_eq_some_iff.1 hx).1, h.lt x (List.mem_of_getElem? hx)⟩
  have hsplit : ∀ (i : Nat) x, (hs ++ [k])[i]? = some x → (hs[i]? = some x) ∨ (i = hs.length ∧ x = k) := fun i x hx => by
    rw [List.getElem?_append] at hx
    split at hx
    · exact .inl hx
    · next q =>
      have : i - hs.length = 0 := by
        have := (List.getElem?_eq_some_iff.1 hx).1
        simp at this; omega
      rw [this] at hx
      exact .inr ⟨by omega, by simpa using hx.symm⟩
  have hlen : hs.length < m := by omega
  refine ⟨by simp; omega, fun x hx => ?_, ?_, fun i x hx => ?_, fun i x i' hx h1 h2 => ?_, fun i x j hx hj => ?_, fun i j h1 h2 h3 => ?_⟩
  · rcases List.mem_append.1 hx with q | q
    · exact Nat.lt_succ_of_lt (h.lt x q)
    · simp at q; omega
  · rw [List.pairwise_append]
    exact ⟨h.inc, by simp, fun a ha b hb => by simp at hb; subst hb; exact h.lt a ha⟩
  · rcases hsplit i x hx with q | ⟨rfl, rfl⟩
    · obtain ⟨h3, h4⟩ := hold i x q
      rw [hrow i x (by omega) (by omega) h4, if_neg (by omega)]
      exact h.piv i x q
    · rw [hn]
      intro e
      rcases Rat.mul_eq_zero.1 e with e | e
      · exact hc e
      · exact h0 e
  · rcases hsplit i x hx with q | ⟨rfl, rfl⟩
    · obtain ⟨h3, h4⟩ := hold i x q
      by_cases e : i' = hs.length
      · subst e; exact hnk x h4
      · rw [hrow i' x h1 e h4]
        split
        · exact h.alone i x hs.length q hlen (by omega)
        · exact h.alone i x i' q h1 h2
    · exact hz i' h1 h2
  · rcases hsplit i x hx with q | ⟨rfl, rfl⟩
    · obtain ⟨h3, h4⟩ := hold i x q
      rw [hrow i j (by omega) (by omega) (by omega), if_neg (by omega)]
      exact h.low i x j q hj
    · exact hnk j hj
  · simp only [List.length_append, List.length_singleton] at h1
    rcases Nat.lt_or_ge j k with q | q
    · rw [hrow i j h2 (by omega) q]
      split
      · exact h.rest _ j (Nat.le_refl _) hlen q
      · exact h.rest i j (by omega) h2 q
    · obtain rfl : j = k := by omega
      exact hz i h2 (by omega)
/-- Rows turned so make 0 of just the same columns. -/
theorem nul_turn {m n at_ p : Nat} {R R' : Nat → Nat → Rat} {c : Rat} {d : Nat → Rat} (hat : p ≤ at_) (hm : at_ < m) (hc : c ≠ 0)
    (hn : ∀ j, j < n → R' p j = c * R at_ j)
    (ho : ∀ i j, i < m → i ≠ p → j < n → R' i j = R (if i = at_ then p else i) j + d i * R' p j) (x : Nat → Rat) : Nul m n R x ↔ Nul m n R' x := by
  have e1 : Sgm n (fun j => R' p j * x j) = c * Sgm n (fun j => R at_ j * x j) := by
    rw [← Sgm_mul]
    exact Sgm_congr fun j hj => by rw [hn j hj]; grind
  have e2 : ∀ i, i < m → i ≠ p → Sgm n (fun j => R' i j * x j) = Sgm n (fun j => R (if i = at_ then p else i) j * x j) + d i * Sgm n (fun j => R' p j * x j) := fun i hi hne => by
    rw [← Sgm_mul, ← Sgm_add]
    exact Sgm_congr fun j hj => by rw [ho i j hi hne hj]; grind
  constructor
  · intro h i hi
    by_cases e : i = p
    · subst e; rw [e1, h at_ hm, Rat.mul_zero]
    · rw [e2 i hi e, e1, h at_ hm]
      split
      · rw [h p (by omega)]; grind
      · rw [h i hi]; grind
  · intro h
    have h0 : Sgm n (fun j => R at_ j * x j) = 0 := by
      have := h p (by omega)
      rw [e1] at this
      rcases Rat.mul_eq_zero.1 this with q | q
      · exact absurd q hc
      · exact q
    intro i hi
    by_cases e : i = at_
    · subst e; exact h0
    · by_cases e' : i = p
      · subst e'
        have := e2 at_ hm (by omega)
        rw [if_pos rfl, h at_ hm, e1, h0] at this
        grind
      · have := e2 i hi e'
        rw [if_neg e, h i hi, e1, h0] at this
        grind
/-- In rows that stand in steps just those columns count. -/
theorem Ech.piv_iff {m n : Nat} {R : Nat → Nat → Rat} {hs : List Nat} (h : Ech m n R hs) {k : Nat} (hk : k < n) : Piv m n R k ↔ k ∈ hs := by
  constructor
  · intro hp
    refine Decidable.byContradiction fun hne => hp ?_
    -- the others ahead of it make it
    let x : Nat → Rat := fun j => if j = k then 1 else if j < k then (match hs.idxOf? j with | some i => -(R i k / R i j) | none => 0) else 0
    have hx : ∀ (i : Nat) p, hs[i]? = some p → hs.idxOf? p = some i := fun i p hp => by
      obtain ⟨h1, h2⟩ := List.getElem?_eq_some_iff.1 hp
      have hd : hs.Nodup := h.inc.imp (fun q => Nat.ne_of_lt q)
      rw [List.idxOf?_eq_some_iff]
      refine ⟨h1, h2 ▸ rfl, fun j hj => ?_⟩
      have := List.pairwise_iff_getElem.1 h.inc j i (by omega) h1 hj
      rw [h2] at this
      simp; omega
    refine ⟨x, fun i hi => ?_, if_pos rfl, fun j h1 h2 => by show (if j = k then _ else _) = _; rw [if_neg (by omega), if_neg (by omega)]⟩
    by_cases hl : i < hs.length
    · obtain ⟨p, hpi⟩ : ∃ p, hs[i]? = some p := ⟨_, List.getElem?_eq_getElem hl⟩
      have hpk : p ≠ k := fun e => hne (by rw [← e]; exact List.mem_of_getElem? hpi)
      have hpn := h.lt p (List.mem_of_getElem? hpi)
      rcases Nat.lt_or_gt_of_ne hpk with q | q
      · rw [Sgm_two (k := p) (l := k) hpn hk hpk]
        · show R i p * (if p = k then _ else _) + R i k * (if k = k then _ else _) = 0
          rw [if_neg hpk, if_pos q, hx i p hpi, if_pos rfl]
          have := h.piv i p hpi
          grind
        · intro j hj h1 h2
          show R i j * (if j = k then _ else _) = 0
          rw [if_neg h2]
          split
          · split
            · next i' e =>
              have e2 : hs[i']? = some j := by
                have := List.of_findIdx?_eq_some (show hs.findIdx? (· == j) = some i' from e)
                revert this
                cases hq : hs[i']? with
                | none => simp
                | some y => simp
              have hii : i ≠ i' := fun q => h1 (by rw [← q, hpi] at e2; exact (Option.some.inj e2).symm)
              rw [h.alone i' j i e2 hi hii, Rat.zero_mul]
            · rw [Rat.mul_zero]
          · rw [Rat.mul_zero]
      · apply Sgm_nought
        intro j hj
        by_cases h1 : j ≤ k
        · rw [h.low i p j hpi (by omega), Rat.zero_mul]
        · show R i j * (if j = k then _ else _) = 0
          rw [if_neg (by omega), if_neg (by omega), Rat.mul_zero]
    · exact Sgm_nought fun j hj => by rw [h.rest i j (by omega) hi hj, Rat.zero_mul]
  · intro hmem hex
    obtain ⟨x, hx, h1, h2⟩ := hex
    obtain ⟨i, hil, hik⟩ := List.getElem_of_mem hmem
    have hi : hs[i]? = some k := by rw [List.getElem?_eq_getElem hil, hik]
    have := hx i (Nat.lt_of_lt_of_le hil h.len)
    rw [Sgm_one (k := k) hk] at this
    · rw [h1, Rat.mul_one] at this
      exact h.piv i k hi this
    · intro j hj hne
      rcases Nat.lt_or_gt_of_ne hne with q | q
      · rw [h.low i k j hi q, Rat.zero_mul]
      · rw [h2 j q hj, Rat.mul_zero]
theorem filter_mem_length {n : Nat} {hs : List Nat} (hi : hs.Pairwise (· < ·)) (hl : ∀ h ∈ hs, h < n) : ((List.range n).filter fun k => decide (k ∈ hs)).length = hs.length := by
  have hd : hs.Nodup := hi.imp (fun q => Nat.ne_of_lt q)
  have hd2 : ((List.range n).filter fun k => decide (k ∈ hs)).Nodup := List.Pairwise.filter _ List.nodup_range
  apply List.Perm.length_eq
  rw [List.perm_ext_iff_of_nodup hd2 hd]
  intro a
  simp only [List.mem_filter, List.mem_range, decide_eq_true_eq]
  exact ⟨fun q => q.2, fun q => ⟨hl a q, q⟩⟩
theorem Ech.count {m n : Nat} {R : Nat → Nat → Rat} {hs : List Nat} (h : Ech m n R hs) : rnk m n R = hs.length := by
  rw [← filter_mem_length h.inc h.lt]
  unfold rnk
  congr 1
  apply List.filter_congr
  intro k hk
  rw [decide_eq_decide]
  exact h.piv_iff (List.mem_range.1 hk)
end Go.Proofs.YtfpnhggbfakdkaaDoor

/- Plain lemmas: grids of fractions as functions; as many columns count as rows. No program in sight. -/
set_option linter.unusedVariables false
set_option linter.unusedSimpArgs false
namespace Go.Proofs.YtfpnhggbfakdkaaDoor

/-- A row is a sum of those of a grid, so many times each. -/
def Span (m n : Nat) (R : Nat → Nat → Rat) (v : Nat → Rat) : Prop := ∃ C : Nat → Rat, ∀ j, j < n → v j = Sgm m (fun p => C p * R p j)
theorem Span.row {m n p : Nat} (R : Nat → Nat → Rat) (h : p < m) : Span m n R (R p) :=
  ⟨fun q => if q = p then 1 else 0, fun j _ => by
    rw [Sgm_one (k := p) h (fun q _ hq => by show (if q = p then _ else _) * _ = _; rw [if_neg hq, Rat.zero_mul])]
    show _ = (if p = p then _ else _) * _
    rw [if_pos rfl, Rat.one_mul]⟩
theorem Span.add {m n : Nat} {R : Nat → Nat → Rat} {u v : Nat → Rat} (h : Span m n R u) (k : Span m n R v) : Span m n R (fun j => u j + v j) := by
  obtain ⟨C, hC⟩ := h
  obtain ⟨D, hD⟩ := k
  refine ⟨fun p => C p + D p, fun j hj => ?_⟩
  show u j + v j = _
  rw [hC j hj, hD j hj, ← Sgm_add]
  exact Sgm_congr fun p _ => by grind
theorem Span.mul {m n : Nat} {R : Nat → Nat → Rat} {u : Nat → Rat} (c : Rat) (h : Span m n R u) : Span m n R (fun j => c * u j) := by
  obtain ⟨C, hC⟩ := h
  refine ⟨fun p => c * C p, fun j hj => ?_⟩
  show c * u j = _
  rw [hC j hj, ← Sgm_mul]
  exact Sgm_congr fun p _ => by grind
theorem Span.congr {m n : Nat} {R : Nat → Nat → Rat} {u v : Nat → Rat} (h : Span m n R u) (e : ∀ j, j < n → u j = v j) : Span m n R v := by
  obtain ⟨C, hC⟩ := h
  exact ⟨C, fun j hj => by rw [← e j hj, hC j hj]⟩
theorem Span.nought (m n : Nat) (R : Nat → Nat → Rat) : Span m n R (fun _ => 0) := ⟨fun _ => 0, fun j _ => (Sgm_nought fun p _ => Rat.zero_mul _).symm⟩
theorem Span.trans {m m' n : Nat} {R R' : Nat → Nat → Rat} {v : Nat → Rat} (h : ∀ p, p < m → Span m' n R' (R p)) (k : Span m n R v) : Span m' n R' v := by
  obtain ⟨C, hC⟩ := k
  have key : ∀ q, q ≤ m → Span m' n R' (fun j => Sgm q (fun p => C p * R p j)) := by
    intro q
    induction q with
    | zero => intro _; exact Span.nought _ _ _
    | succ q ih => intro hq; exact (ih (by omega)).add ((h q (by omega)).mul (C q))
  exact (key m (Nat.le_refl m)).congr fun j hj => (hC j hj).symm
/-- Rows that stand in steps, of any grid. -/
theorem ech_exists (m n : Nat) (A : Nat → Nat → Rat) : ∀ k, k ≤ n → ∃ R hs, Ech m k R hs ∧ (∀ x, Nul m n A x ↔ Nul m n R x) ∧ ∀ i, i < m → Span m n R (A i) := by
  intro k
  induction k with
  | zero => intro _; exact ⟨A, [], Ech.start m A, fun _ => Iff.rfl, fun i hi => Span.row A hi⟩
  | succ k ih =>
    intro hk
    obtain ⟨R, hs, hE, hN, hA⟩ := ih (by omega)
    by_cases h0 : ∃ i, hs.length ≤ i ∧ i < m ∧ R i k ≠ 0
    · obtain ⟨at_, h1, h2, h3⟩ := h0
      let R' : Nat → Nat → Rat := fun i j => if i = hs.length then R at_ j else R (if i = at_ then hs.length else i) j + (-(R (if i = at_ then hs.length else i) k / R at_ k)) * R at_ j
      have hn : ∀ j, R' hs.length j = 1 * R at_ j := fun j => by show (if _ then _ else _) = _; rw [if_pos rfl, Rat.one_mul]
      have hn' : ∀ j, R' hs.length j = R at_ j := fun j => by rw [hn, Rat.one_mul]
      have ho : ∀ i j, i < m → i ≠ hs.length → R' i j = R (if i = at_ then hs.length else i) j + (fun i => -(R (if i = at_ then hs.length else i) k / R at_ k)) i * R' hs.length j := fun i j hi hne => by
        rw [hn']; show (if _ then _ else _) = _; rw [if_neg hne]
      have hz : ∀ i, i < m → i ≠ hs.length → R' i k = 0 := fun i hi hne => by
        rw [ho i k hi hne, hn']
        show R (if i = at_ then hs.length else i) k + -(R (if i = at_ then hs.length else i) k / R at_ k) * R at_ k = 0
        generalize R (if i = at_ then hs.length else i) k = t
        grind
      refine ⟨R', hs ++ [k], hE.turn h1 h2 (by grind) h3 hn ho hz, fun x => (hN x).trans (nul_turn h1 h2 (by grind) (fun j _ => hn j) (fun i j hi hne _ => ho i j hi hne) x), fun i hi => Span.trans (fun p hp => ?_) (hA i hi)⟩
      have hl : hs.length < m := by omega
      have srow : Span m n R' (R at_) := (Span.row R' hl).congr fun j _ => hn' j
      by_cases e : p = at_
      · subst e; exact srow
      · -- p stands at place q
        obtain ⟨q, hq, hqn, hqp⟩ : ∃ q, q < m ∧ q ≠ hs.length ∧ (if q = at_ then hs.length else q) = p := by
          by_cases e' : p = hs.length
          · exact ⟨at_, h2, fun z => e (by rw [e', ← z]), by rw [if_pos rfl, e']⟩
          · exact ⟨p, hp, e', if_neg e⟩
        have := ((Span.row R' hq).add (srow.mul (R p k / R at_ k)) : Span m n R' _)
        refine this.congr fun j hj => ?_
        rw [ho q j hq hqn, hn', hqp]
        grind
    · refine ⟨R, hs, hE.skip fun i h1 h2 => Decidable.byContradiction fun q => h0 ⟨i, h1, h2, q⟩, hN, hA⟩
theorem rnk_rows (m n : Nat) (A : Nat → Nat → Rat) : rnk m n A ≤ m := by
  obtain ⟨R, hs, hE, hN, _⟩ := ech_exists m n A n (Nat.le_refl n)
  rw [rnk_congr hN, hE.count]
  exact hE.len
theorem top_nonzero {n : Nat} {x : Nat → Rat} : ∀ n, (∃ j, j < n ∧ x j ≠ 0) → ∃ k, k < n ∧ x k ≠ 0 ∧ ∀ j, k < j → j < n → x j = 0 := by
  intro n
  induction n with
  | zero => intro ⟨j, h, _⟩; omega
  | succ n ih =>
    intro h
    by_cases h0 : x n = 0
    · obtain ⟨j, h1, h2⟩ := h
      have : j ≠ n := fun e => h2 (by rw [e]; exact h0)
      obtain ⟨k, h3, h4, h5⟩ := ih ⟨j, by omega, h2⟩
      refine ⟨k, by omega, h4, fun i h6 h7 => ?_⟩
      by_cases e : i = n
      · subst e; exact h0
      · exact h5 i h6 (by omega)
    · exact ⟨n, by omega, h0, fun j h1 h2 => by omega⟩
theorem Nul.mul {m n : Nat} {A : Nat → Nat → Rat} {x : Nat → Rat} (c : Rat) (h : Nul m n A x) : Nul m n A (fun j => c * x j) := fun i hi => by
  rw [Sgm_congr (g := fun j => c * (A i j * x j)) fun j _ => by grind, Sgm_mul, h i hi, Rat.mul_zero]
open Classical in
/-- All columns count just if nothing but 0 is made 0. -/
theorem rnk_full {m n : Nat} {A : Nat → Nat → Rat} : rnk m n A = n ↔ ∀ x, Nul m n A x → ∀ j, j < n → x j = 0 := by
  constructor
  · intro h x hx j hj
    refine Decidable.byContradiction fun hne => ?_
    obtain ⟨k, h1, h2, h3⟩ := top_nonzero (n := n) (x := x) n ⟨j, hj, hne⟩
    have hp : ¬Piv m n A k := fun q => q ⟨fun j => (x k)⁻¹ * x j, hx.mul _, Rat.inv_mul_cancel _ h2, fun j h4 h5 => by show _ * _ = _; rw [h3 j h4 h5, Rat.mul_zero]⟩
    have hlt : rnk m n A < n := by
      unfold rnk
      have h6 : ((List.range n).filter fun k => decide (Piv m n A k)).length ≤ (List.range n).length := List.length_filter_le _ _
      rw [List.length_range] at h6
      rcases Nat.lt_or_eq_of_le h6 with q | q
      · exact q
      · exfalso
        have := List.length_filter_eq_length_iff.1 (by rw [q, List.length_range]) k (List.mem_range.2 h1)
        simp at this
        exact hp this
    omega
  · intro h
    unfold rnk
    have := List.length_filter_eq_length_iff (p := fun k => decide (Piv m n A k)) (l := List.range n)
    rw [List.length_range] at this
    apply this.2
    intro k hk
    simp only [decide_eq_true_eq]
    intro ⟨x, h1, h2, _⟩
    have := h x h1 k (List.mem_range.1 hk)
    rw [h2] at this
    exact absurd this (by decide)
end Go.Proofs.YtfpnhggbfakdkaaDoor

/- grids: the column of which a grid makes another one, in plain words. -/
set_option linter.unusedVariables false
set_option linter.unusedSimpArgs false
namespace Go.Proofs.YtfpnhggbfakdkaaDoor

/-- The grid makes b of x. -/
def Sol (m n : Nat) (A : Nat → Nat → Rat) (b : Nat → Rat) (x : Nat → Rat) : Prop := ∀ i, i < m → Sgm n (fun j => A i j * x j) = b i
/-- A grid with one more column. -/
def augm (n : Nat) (A : Nat → Nat → Rat) (b : Nat → Rat) : Nat → Nat → Rat := fun i j => if j = n then b i else A i j
def ext1 (n : Nat) (x : Nat → Rat) (t : Rat) : Nat → Rat := fun j => if j = n then t else x j
theorem Sgm_ext1 (n : Nat) (r x : Nat → Rat) (t : Rat) : Sgm (n + 1) (fun j => r j * ext1 n x t j) = Sgm n (fun j => r j * x j) + r n * t := by
  rw [Sgm_succ]
  congr 1
  · exact Sgm_congr fun j hj => by unfold ext1; rw [if_neg (by omega)]
  · unfold ext1; rw [if_pos rfl]
section
variable {m n : Nat} {A R : Nat → Nat → Rat} {b : Nat → Rat} {hs : List Nat}
theorem sol_iff {x : Nat → Rat} : Sol m n A b x ↔ Nul m (n + 1) (augm n A b) (ext1 n x (-1)) := by
  have key : ∀ i, Sgm (n + 1) (fun j => augm n A b i j * ext1 n x (-1) j) = Sgm n (fun j => A i j * x j) + b i * -1 := fun i => by
    rw [Sgm_ext1, Sgm_congr (g := fun j => A i j * x j) fun j hj => by unfold augm; rw [if_neg (by omega)]]
    unfold augm
    rw [if_pos rfl]
  constructor
  · intro h i hi
    rw [key, h i hi]
    grind
  · intro h i hi
    have := h i hi
    rw [key] at this
    grind
theorem sol_rows {x : Nat → Rat} (hN : ∀ x, Nul m (n + 1) (augm n A b) x ↔ Nul m (n + 1) R x) : Sol m n A b x ↔ ∀ i, i < m → Sgm n (fun j => R i j * x j) = R i n := by
  rw [sol_iff, hN]
  constructor
  · intro h i hi
    have := h i hi
    rw [Sgm_ext1] at this
    grind
  · intro h i hi
    rw [Sgm_ext1, h i hi]
    grind
theorem nul_rows (hN : ∀ x, Nul m (n + 1) (augm n A b) x ↔ Nul m (n + 1) R x) (x : Nat → Rat) : Nul m n A x ↔ Nul m n R x := by
  have key : ∀ B : Nat → Nat → Rat, Nul m (n + 1) B (ext1 n x 0) ↔ Nul m n B x := fun B => by
    constructor
    · intro h i hi
      have := h i hi
      rw [Sgm_ext1] at this
      grind
    · intro h i hi
      rw [Sgm_ext1, h i hi]
      grind
  have h := hN (ext1 n x 0)
  rw [key, key] at h
  rw [← h]
  constructor
  · exact fun q => q.congr fun i j _ hj => by unfold augm; rw [if_neg (by omega)]
  · exact fun q => q.congr fun i j _ hj => by unfold augm; rw [if_neg (by omega)]
/-- What is told of the column that is asked for. -/
def SolR (m n : Nat) (A : Nat → Nat → Rat) (b : Nat → Rat) (e : Nat) (xs : List Rat) : Prop :=
  (e = 0 ∧ xs.length = n ∧ ∀ x, Sol m n A b x ↔ ∀ j, j < n → x j = xs.getD j 0) ∨ (e = 6 ∧ xs = [] ∧ ∀ x, ¬Sol m n A b x) ∨ (e = 8 ∧ xs = [] ∧ (∃ x, Sol m n A b x) ∧ rnk m n A < n)
theorem none_ech (hN : ∀ x, Nul m (n + 1) (augm n A b) x ↔ Nul m (n + 1) R x) (hE : Ech m n R hs) {i : Nat} (h1 : hs.length ≤ i) (h2 : i < m) (h3 : R i n ≠ 0) : SolR m n A b 6 [] :=
  .inr (.inl ⟨rfl, rfl, fun x h => h3 (by
    rw [← (sol_rows hN).1 h i h2]
    exact Sgm_nought fun j hj => by rw [hE.rest i j h1 h2 hj, Rat.zero_mul])⟩)
theorem ech_idx {m n : Nat} {R : Nat → Nat → Rat} {hs : List Nat} (hE : Ech m n R hs) {i p : Nat} (hp : hs[i]? = some p) : hs.idxOf? p = some i := by
  obtain ⟨h1, h2⟩ := List.getElem?_eq_some_iff.1 hp
  rw [List.idxOf?_eq_some_iff]
  refine ⟨h1, h2 ▸ rfl, fun j hj => ?_⟩
  have := List.pairwise_iff_getElem.1 hE.inc j i (by omega) h1 hj
  rw [h2] at this
  simp; omega
theorem idx_at {hs : List Nat} {i j : Nat} (e : hs.idxOf? j = some i) : hs[i]? = some j := by
  have := List.of_findIdx?_eq_some (show hs.findIdx? (· == j) = some i from e)
  revert this
  cases hq : hs[i]? with
  | none => simp
  | some y => simp
theorem some_ech (hN : ∀ x, Nul m (n + 1) (augm n A b) x ↔ Nul m (n + 1) R x) (hE : Ech m n R hs) (h0 : ∀ i, hs.length ≤ i → i < m → R i n = 0) : ∃ x, Sol m n A b x := by
  refine ⟨fun j => match hs.idxOf? j with | some i => R i n / R i j | none => 0, (sol_rows hN).2 fun i hi => ?_⟩
  by_cases hl : i < hs.length
  · obtain ⟨p, hp⟩ : ∃ p, hs[i]? = some p := ⟨_, List.getElem?_eq_getElem hl⟩
    rw [Sgm_one (k := p) (hE.lt p (List.mem_of_getElem? hp))]
    · show R i p * (match hs.idxOf? p with | some i => R i n / R i p | none => 0) = _
      rw [ech_idx hE hp]
      have := hE.piv i p hp
      show R i p * (R i n / R i p) = _
      rw [Rat.mul_comm]
      exact Rat.div_mul_cancel this
    · intro j hj hne
      show R i j * (match hs.idxOf? j with | some i => R i n / R i j | none => 0) = 0
      cases e : hs.idxOf? j with
      | none => exact Rat.mul_zero _
      | some i' =>
        have e2 := idx_at e
        have hii : i ≠ i' := fun q => hne (by rw [← q, hp] at e2; exact (Option.some.inj e2).symm)
        show R i j * (R i' n / R i' j) = 0
        rw [hE.alone i' j i e2 hi hii, Rat.zero_mul]
  · rw [h0 i (by omega) hi]
    exact Sgm_nought fun j hj => by rw [hE.rest i j (by omega) hi hj, Rat.zero_mul]
theorem many_ech (hN : ∀ x, Nul m (n + 1) (augm n A b) x ↔ Nul m (n + 1) R x) (hE : Ech m n R hs) (h0 : ∀ i, hs.length ≤ i → i < m → R i n = 0) (hl : hs.length < n) : SolR m n A b 8 [] :=
  .inr (.inr ⟨rfl, rfl, some_ech hN hE h0, by rw [rnk_congr (nul_rows hN), hE.count]; exact hl⟩)
theorem inc_ge {hs : List Nat} (h : hs.Pairwise (· < ·)) : ∀ (i p : Nat), hs[i]? = some p → i ≤ p := by
  intro i
  induction i with
  | zero => intro p _; omega
  | succ i ih =>
    intro p hp
    obtain ⟨h1, h2⟩ := List.getElem?_eq_some_iff.1 hp
    have := ih (hs[i]'(by omega)) (List.getElem?_eq_getElem _)
    have := List.pairwise_iff_getElem.1 h i (i + 1) (by omega) h1 (by omega)
    omega
theorem inc_le {hs : List Nat} {n : Nat} (h : hs.Pairwise (· < ·)) (hn : ∀ x ∈ hs, x < n) : ∀ (d i p : Nat), hs.length = i + 1 + d → hs[i]? = some p → p + d < n := by
  intro d
  induction d with
  | zero =>
    intro i p _ hp
    exact hn p (List.mem_of_getElem? hp)
  | succ d ih =>
    intro i p hl hp
    obtain ⟨h1, h2⟩ := List.getElem?_eq_some_iff.1 hp
    have := ih (i + 1) (hs[i + 1]'(by omega)) (by omega) (List.getElem?_eq_getElem _)
    have := List.pairwise_iff_getElem.1 h i (i + 1) h1 (by omega) (by omega)
    omega
theorem ech_all (hE : Ech m n R hs) (hl : ¬ hs.length < n) : hs.length = n ∧ n ≤ m ∧ ∀ k, k < n → hs[k]? = some k := by
  have h1 : hs.length ≤ n := by
    rw [← filter_mem_length hE.inc hE.lt]
    exact Nat.le_trans (List.length_filter_le _ _) (by rw [List.length_range]; exact Nat.le_refl n)
  have h2 := hE.len
  refine ⟨by omega, by omega, fun k hk => ?_⟩
  have h3 : hs[k]? = some (hs[k]'(by omega)) := List.getElem?_eq_getElem _
  have h4 := inc_ge hE.inc k _ h3
  have h5 := inc_le hE.inc hE.lt (hs.length - 1 - k) k _ (by omega) h3
  rw [h3]
  congr 1
  omega
theorem one_ech (hN : ∀ x, Nul m (n + 1) (augm n A b) x ↔ Nul m (n + 1) R x) (hE : Ech m n R hs) (h0 : ∀ i, hs.length ≤ i → i < m → R i n = 0) (hl : ¬ hs.length < n) : SolR m n A b 0 ((List.range n).map fun k => R k n / R k k) := by
  obtain ⟨h1, h2, h3⟩ := ech_all hE hl
  refine .inl ⟨rfl, by simp, fun x => ?_⟩
  rw [sol_rows hN]
  have key : ∀ i, i < n → Sgm n (fun j => R i j * x j) = R i i * x i := fun i hi => Sgm_one hi fun j hj hne => by
    rw [hE.alone j j i (h3 j hj) (by omega) (fun q => hne q.symm), Rat.zero_mul]
  have key2 : ∀ i, i < n → ((List.range n).map fun k => R k n / R k k).getD i 0 = R i n / R i i := fun i hi => by
    rw [List.getD_eq_getElem?_getD, List.getElem?_map, List.getElem?_range hi]
    rfl
  constructor
  · intro h j hj
    have h4 := h j (by omega)
    have h5 := hE.piv j j (h3 j hj)
    rw [key j hj] at h4
    rw [key2 j hj, ← h4, Rat.mul_comm]
    exact (Rat.mul_div_cancel h5).symm
  · intro h i hi
    by_cases hin : i < n
    · rw [key i hin, h i hin, key2 i hin, Rat.mul_comm]
      exact Rat.div_mul_cancel (hE.piv i i (h3 i hin))
    · rw [h0 i (by omega) hi]
      exact Sgm_nought fun j hj => by rw [hE.rest i j (by omega) hi hj, Rat.zero_mul]
end
theorem SolR.unique {m n : Nat} {A : Nat → Nat → Rat} {b : Nat → Rat} {e e' : Nat} {xs xs' : List Rat} (h : SolR m n A b e xs) (h' : SolR m n A b e' xs') : e = e' ∧ xs = xs' := by
  have full : ∀ ys : List Rat, ys.length = n → (∀ x, Sol m n A b x ↔ ∀ j, j < n → x j = ys.getD j 0) → ¬ rnk m n A < n := fun ys hl hy hlt => by
    have h1 : rnk m n A = n := rnk_full.2 fun x hx j hj => by
      have h2 : Sol m n A b (fun j => ys.getD j 0) := (hy _).2 fun _ _ => rfl
      have h3 : Sol m n A b (fun j => ys.getD j 0 + x j) := fun i hi => by
        rw [Sgm_congr (g := fun j => A i j * ys.getD j 0 + A i j * x j) fun j _ => by grind, Sgm_add, h2 i hi, hx i hi]
        grind
      have := (hy _).1 h3 j hj
      grind
    omega
  rcases h with ⟨rfl, hl, h⟩ | ⟨rfl, rfl, h⟩ | ⟨rfl, rfl, h, hr⟩ <;> rcases h' with ⟨rfl, hl', h'⟩ | ⟨rfl, rfl, h'⟩ | ⟨rfl, rfl, h', hr'⟩
  · refine ⟨rfl, List.ext_getElem (by omega) fun j h1 h2 => ?_⟩
    have h3 := (h' _).1 ((h (fun j => xs.getD j 0)).2 fun _ _ => rfl) j (by omega)
    simp only [List.getD_eq_getElem?_getD, List.getElem?_eq_getElem h1, List.getElem?_eq_getElem h2] at h3
    exact h3
  · exact absurd ((h (fun j => xs.getD j 0)).2 fun _ _ => rfl) (h' _)
  · exact absurd hr' (full xs hl h)
  · exact absurd ((h' (fun j => xs'.getD j 0)).2 fun _ _ => rfl) (h _)
  · exact ⟨rfl, rfl⟩
  · obtain ⟨x, hx⟩ := h'
    exact absurd hx (h x)
  · exact absurd hr (full xs' hl' h')
  · obtain ⟨x, hx⟩ := h
    exact absurd hx (h' x)
  · exact ⟨rfl, rfl⟩
end Go.Proofs.YtfpnhggbfakdkaaDoor
