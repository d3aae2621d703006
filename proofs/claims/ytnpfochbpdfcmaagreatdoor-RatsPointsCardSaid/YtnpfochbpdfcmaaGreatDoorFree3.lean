/- The region by a list of facts, where it comes up as it stands. -/
import Derived.Test.YtnpfochbpdfcmaaGreatDoorFree2
set_option linter.unusedVariables false
set_option linter.unusedSimpArgs false
namespace Go.Proofs.YtnpfochbpdfcmaaGreatDoor
open Go.RowKit
section
variable {P : Program} {ops : Array Oper} {k : Nat} {C : World → Prop} {l : List (Tmp × Fact)} {Q : Exit → Act → World → Prop}

/-- What serves every order serves the order in which the operations stand. -/
theorem list_of_any (hB : freeB ops k = true) : ∀ (fuel m : Nat) (listed : Array Bool) (a : Act) (w : World), m + fuel = ops.size → listed.size = ops.size → (∀ j, j < m → listed.getD j false = true) → (∀ j, m ≤ j → listed.getD j false = false) →
    wpAny P .any ops Q fuel listed a w → wpList P ops Q (ops.toList.drop m) a w := by
  intro fuel
  induction fuel with
  | zero =>
    intro m listed a w hf hl hall hun h
    rw [List.drop_eq_nil_of_le (by rw [Array.length_toList]; omega)]
    exact h.2
  | succ fuel ih =>
    intro m listed a w hf hl hall hun h
    have hm : m < ops.size := by omega
    have ho : ops[m]? = some ops[m] := Array.getElem?_eq_getElem hm
    have hmr : m ∈ Region.ready .any ops listed := by
      refine mem_ready.2 ⟨?_, _, ho, fun e he hb => ?_⟩
      · have := hun m (Nat.le_refl _)
        have h4 : m < listed.size := by omega
        simp only [Array.getD_eq_getD_getElem?, Array.getElem?_eq_getElem h4, Option.getD_some] at *
        exact this
      · exact hall e.on (freeB_back hB ho he hb)
    have h1 := h.2 m hmr
    rw [List.drop_eq_getElem_cons (by rw [Array.length_toList]; exact hm)]
    have hlast : ∀ a' w', wpAny P .any ops Q fuel (listed.setIfInBounds m true) a' w' → wpList P ops Q (ops.toList.drop (m + 1)) a' w' := fun a' w' hh => by
      refine ih (m + 1) _ a' w' (by omega) (by rw [Array.size_setIfInBounds]; exact hl) (fun j hj => ?_) (fun j hj => ?_) hh
      · by_cases e : j = m
        · subst e
          have h4 : j < listed.size := by omega
          simp [h4]
        · rw [getD_set_ne false (Ne.symm e)]; exact hall j (by omega)
      · rw [getD_set_ne false (by omega)]; exact hun j (by omega)
    rw [Array.getElem_toList]
    unfold wpOp at h1
    simp only [ho] at h1
    unfold wpList
    split at h1
    · next hw =>
      rw [if_pos hw]
      exact h1.imp (Oper.wp_mono hlast) id
    · next hw =>
      rw [if_neg hw]
      exact hlast _ _ h1

/-- **The region by a list of facts**, in its order. -/
theorem wp_region_seq {id : Nat} {w : World} {l0 : List Value} {d0 : List Deferred} (k : Nat) (C : World → Prop) (l : List (Tmp × Fact)) (ms : List Bool) (hB : freeB ops k = true) (hms : maskOf ops k l0.length = ms)
    (hin : (dstsOf (preOf ops k)).all (fun t => Nat.blt t l0.length) = true)
    (hC : ∀ w w', C w → Below w.heap.size w w' → C w') (h0 : C w)
    (hstep : StepsOk P ops k C l ⟨l0.toArray, d0⟩ (ops.toList.take k))
    (hQ : ∀ (f : Tmp → Value) w, C w → (∀ t, (dstsOf (preOf ops k)).elem t = true → (lookF l t).holds (f t) w) → NewA ops k f → wpList P ops Q (ops.toList.drop k) ⟨(patch ms f 0 l0).toArray, d0⟩ w) :
    (Code.region id ops false).wp P Q ⟨l0.toArray, d0⟩ w := by
  have hf : ∀ j, (Array.replicate ops.size false).getD j false = false := fun j => by
    simp only [Array.getD_eq_getD_getElem?, Array.getElem?_replicate]
    split <;> rfl
  refine wp_region_list (list_of_any hB ops.size 0 (Array.replicate ops.size false) _ _ (Nat.zero_add _) (by simp) (fun j hj => absurd hj (Nat.not_lt_zero j)) (fun j _ => hf j)
    (wpAny_free (C := C) (G := fun t => (lookF l t).holds) hB (fun t ht => ?_) hC (fun t _ v w w' h hb => (lookF l t).stable v w w' h hb)
    (fun i o hik hi => hstep.get o (List.mem_iff_getElem?.2 ⟨i, by rw [List.getElem?_take, if_pos hik, Array.getElem?_toList]; exact hi⟩)) (fun a w hc hs hz hd hf hnew => ?_) ops.size _ _ _ ?_ ⟨h0, fun _ _ => rfl, rfl, rfl, fun j o t _ hj hl _ => ?_, by simp, fun j o hj hl => ?_, fun j _ => hf j, fun j o t T _ _ hl => ?_, fun j j' o o' t t' T T' _ _ _ _ _ hl => ?_⟩))
  · have := List.all_eq_true.1 hin t ht
    simpa [Nat.blt_eq] using this
  · have e : a = ⟨(patch ms (slot a) 0 l0).toArray, d0⟩ := by
      obtain ⟨tm, df⟩ := a
      simp only at hd hz
      subst hd
      have hlen : ms.length = l0.length := by rw [← hms, maskOf, List.length_map, List.length_range]
      congr 1
      apply Array.ext'
      apply List.ext_getElem?
      intro j
      show _ = (patch ms (slot ⟨tm, _⟩) 0 l0)[j]?
      rw [patch_get ms _ 0 l0 hlen j, Nat.zero_add, Array.getElem?_toList]
      have hsz : tm.size = l0.length := by simpa using hz
      by_cases hj : j < l0.length
      · have hmj : ms[j]? = some ((dstsOf (preOf ops k)).elem j) := by
          rw [← hms, maskOf, List.getElem?_map, List.getElem?_range hj]; rfl
        rw [hmj]
        have hjt : j < tm.size := by omega
        cases hdj : (dstsOf (preOf ops k)).elem j
        · rw [if_neg (by simp)]
          have := hs j (fun q => by rw [List.elem_eq_mem] at hdj; simp at hdj; exact hdj q)
          simp only [slot, Array.getD_eq_getD_getElem?, Array.getElem?_eq_getElem hjt, Option.getD_some, List.getElem?_toArray, List.getElem?_eq_getElem hj] at this
          rw [Array.getElem?_eq_getElem hjt, List.getElem?_eq_getElem hj, this]
        · rw [if_pos rfl]
          simp [slot, hjt]
      · have hmj : ms[j]? = none := List.getElem?_eq_none (by omega)
        rw [hmj, if_neg (by simp), Array.getElem?_eq_none (by omega), List.getElem?_eq_none (by omega)]
    rw [e]
    exact hQ (slot a) w hc (fun t ht => hf t (by rw [List.elem_eq_mem] at ht; simpa using ht)) hnew
  · refine Nat.le_trans Array.count_le_size (by simp)
  · rw [hf] at hl; cases hl
  · rw [hf] at hl; cases hl
  · rw [hf] at hl; cases hl
  · rw [hf] at hl; cases hl
end
end Go.Proofs.YtnpfochbpdfcmaaGreatDoor
