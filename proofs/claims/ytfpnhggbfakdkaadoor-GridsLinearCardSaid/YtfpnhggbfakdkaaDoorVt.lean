/- lists of fractions that are cut. -/
import Derived.Test.YtfpnhggbfakdkaaDoorVo
set_option linter.unusedVariables false
set_option linter.unusedSimpArgs false
set_option maxRecDepth 100000
namespace Go.Proofs.YtfpnhggbfakdkaaDoor
open Go.RowKit

theorem flat_take_drop {us : List Value} (h3 : ∀ u ∈ us, u.cells.size = 3) (l k j : Nat) (u : Value) (h : (flat ((us.take k).drop l))[j]? = some u) : (flat us)[3 * l + j]? = some u := by
  have e : us = us.take l ++ us.drop l := (List.take_append_drop l us).symm
  have e2 : (us.take k).drop l = (us.drop l).take (k - l) := List.drop_take
  rw [e2] at h
  by_cases hl : l ≤ us.length
  · have hlen : (flat (us.take l)).length = 3 * l := by
      rw [flat_len (fun u hu => h3 u (List.mem_of_mem_take hu)), List.length_take, Nat.min_eq_left hl]
    rw [e]
    show (flat (us.take l ++ us.drop l))[3 * l + j]? = _
    unfold flat at *
    rw [List.flatMap_append, List.getElem?_append_right (by rw [hlen]; omega), hlen, Nat.add_sub_cancel_left]
    have e3 : us.drop l = (us.drop l).take (k - l) ++ (us.drop l).drop (k - l) := (List.take_append_drop _ _).symm
    rw [e3, List.flatMap_append]
    rw [List.getElem?_append_left (List.getElem?_eq_some_iff.1 h).1]
    exact h
  · rw [List.drop_eq_nil_of_le (by omega)] at h
    simp [flat] at h
theorem Lst.tri3 {α : Type} {E : World → Value → α → Prop} (hT : Tri E) {w : World} {us : List Value} {qs : List α} (hl : us.length = qs.length) (h6 : ∀ (j : Nat) q, qs[j]? = some q → ∃ u, us[j]? = some u ∧ E w u q) : ∀ u ∈ us, u.cells.size = 3 := fun u hu => by
  obtain ⟨i, hi, rfl⟩ := List.getElem_of_mem hu
  obtain ⟨u', hu', he'⟩ := h6 i (qs[i]'(by omega)) (List.getElem?_eq_getElem _)
  rw [List.getElem?_eq_getElem hi] at hu'
  cases hu'
  obtain ⟨_, _, _, _, _, _, _, e⟩ := hT _ _ _ he'
  rw [e]; rfl
theorem Lst.cut {α : Type} {E : World → Value → α → Prop} (hT : Tri E) {w : World} {A : Option Addr} {n c : Nat} {qs : List α} (h : Lst E w (.slice A n c) qs) (l k : Nat) (hl : l ≤ k) (hk : k ≤ n) :
    Lst E w (.slice (if c = l then A else A.map (·.add (l * 3))) (k - l) (c - l)) ((qs.take k).drop l) := by
  obtain ⟨A', n', c', us, e, h1, h2, h3, h4, h5, h6⟩ := h
  cases e
  have h33 := Lst.tri3 hT (by omega) h6
  refine ⟨_, _, _, (us.take k).drop l, rfl, by omega, by rw [List.length_drop, List.length_take]; omega, by rw [List.length_drop, List.length_take]; omega, by omega, fun h0 => ?_, fun j q hq => ?_⟩
  · obtain ⟨ad, rfl, hb, hc⟩ := h5 (by omega)
    rw [if_neg (by omega)]
    refine ⟨ad.add (l * 3), rfl, ?_, fun j u hj => ?_⟩
    · unfold Addr.add; split <;> exact hb
    · rw [add_add, Nat.mul_comm]
      exact hc _ _ (flat_take_drop h33 l k j u hj)
  · rw [List.getElem?_drop] at hq
    have hlt : l + j < k := by
      have := (List.getElem?_eq_some_iff.1 hq).1
      rw [List.length_take] at this
      omega
    rw [List.getElem?_take_of_lt hlt] at hq
    obtain ⟨u, hu, hE⟩ := h6 _ _ hq
    exact ⟨u, by rw [List.getElem?_drop, List.getElem?_take_of_lt hlt]; exact hu, hE⟩
theorem Lst.cap {α : Type} {E : World → Value → α → Prop} {w : World} {A : Option Addr} {n c : Nat} {qs : List α} (h : Lst E w (.slice A n c) qs) : n ≤ c := by
  obtain ⟨_, _, _, _, e, h1, _⟩ := h
  cases e
  exact h1
theorem take1_drop {ps : List Rat} {i : Nat} {x : Rat} (h : ps[i]? = some x) : (ps.take (i + 1)).drop i = [x] := by
  apply List.ext_getElem?
  intro j
  rw [List.getElem?_drop]
  cases j with
  | zero => rw [List.getElem?_take_of_lt (by omega), Nat.add_zero, h]; rfl
  | succ j => rw [List.getElem?_eq_none (by rw [List.length_take]; omega)]; simp
theorem run_cut {w : World} {A : Option Addr} {n c l h : Nat} (lo hi : Option Value) (hlo : lo = some (.int .i64 (l : Nat)) ∨ (lo = none ∧ l = 0)) (hhi : hi = some (.int .i64 (h : Nat)) ∨ (hi = none ∧ h = n)) (h1 : l ≤ h) (h2 : h ≤ c) :
    (Instr.sliceAt 30 (.slice A n c) lo hi none).run Tryd.prog w = .ok (.slice (if c = l then A else A.map (·.add (l * 3))) (h - l) (c - l)) w := by
  have a1 : ((h : Int) ≤ (c : Int)) := by omega
  have a2 : ((l : Int) ≤ (h : Int)) := by omega
  rcases hlo with rfl | ⟨rfl, rfl⟩ <;> rcases hhi with rfl | ⟨rfl, rfl⟩ <;> simp [Instr.sliceAt, Instr.slice, Instr.sliceBounds, Instr.sliceBound, go_sem, h1, h2, a1, a2]
end Go.Proofs.YtfpnhggbfakdkaaDoor
