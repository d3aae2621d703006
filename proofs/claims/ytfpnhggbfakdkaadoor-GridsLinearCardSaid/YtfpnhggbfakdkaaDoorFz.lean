/- Regions that draw their order, by facts. -/
import Derived.Test.YtfpnhggbfakdkaaDoorCa
import Derived.Orders
import Derived.Still
/- A region that draws its order and whose operations only make memory: a fact for each slot serves every order. -/
set_option linter.unusedVariables false
set_option linter.unusedSimpArgs false
namespace Go.Proofs.YtfpnhggbfakdkaaDoor
open Go.RowKit

/-- What an operation yields, and the world behind it. -/
def Does (P : Program) (o : Oper) (a : Act) (w : World) (R : Value → World → Prop) : Prop :=
  match (execOp a.eval o).run P w with
  | .ok (.value v) w' => R v w'
  | .ok .skip w' => R undef w'
  | .ok (.enter f args) w' => Calls P f args w' (fun e w'' => ∃ v, e = .returned v ∧ R v w'')
  | _ => False
theorem wp_of_does {P : Program} {o : Oper} {a : Act} {w : World} {R : Value → World → Prop} {K : Act → World → Prop} {Q : Exit → Act → World → Prop} (h : Does P o a w R) (hk : ∀ v w', R v w' → K (a.put o.dst v) w') : o.wp P a w K Q := by
  unfold Does at h
  unfold Oper.wp
  generalize (execOp a.eval o).run P w = r at *
  cases r with
  | ok n w' =>
    cases n <;> simp only [Oper.upon] at h ⊢
    case value v => exact hk _ _ h
    case skip => exact hk _ _ h
    case enter f args => exact h.mono fun e w'' ⟨v, he, hr⟩ => by subst he; exact hk _ _ hr
  | halt x w' => simp at h
/-- The value in a slot. -/
def slot (a : Act) (t : Tmp) : Value := a.tmps.getD t undef
def dstsOf (ops : Array Oper) : List Tmp := ops.toList.filterMap (·.dst)
/-- The first k operations. -/
def preOf (ops : Array Oper) (k : Nat) : Array Oper := (ops.toList.take k).toArray
/-- The operations 0 .. k-1 come first, each slot written once, an operation waiting for those that write what it looks at; those from k on come up one behind the other, as they stand. Edges lead back. -/
def freeB (ops : Array Oper) (k : Nat) : Bool :=
  decide (k ≤ ops.size) &&
  decide (dstsOf (preOf ops k)).Nodup &&
  (ops.toList.zipIdx.all fun (o, i) => o.after.all fun e => !Region.binds .any e || decide (e.on < i)) &&
  (ops.toList.zipIdx.all fun (o, i) => !(decide (i < k)) || (o.looksAt ops).all fun t => ops.toList.zipIdx.all fun (o', j) => !(decide (j < k)) || !(o'.dst == some t) || ((Region.before ops).getD i 0).testBit j) &&
  (ops.toList.zipIdx.all fun (_, i) => decide (i < k) || (List.range i).all fun j => ((Region.before ops).getD i 0).testBit j)

/-! ### what waits for what -/
theorem before_fold (l : List Oper) : ∀ acc : Array Nat, (l.foldl (fun acc o => acc.push (o.after.foldl (fun s e => if Region.binds .any e then s ||| 2 ^ e.on ||| acc.getD e.on 0 else s) 0)) acc).size = acc.size + l.length ∧
    (∀ i, i < acc.size → (l.foldl (fun acc o => acc.push (o.after.foldl (fun s e => if Region.binds .any e then s ||| 2 ^ e.on ||| acc.getD e.on 0 else s) 0)) acc)[i]? = acc[i]?) ∧
    ∀ (i : Nat) o, l[i]? = some o → ∃ acc' : Array Nat, acc'.size = acc.size + i ∧ (∀ j, j < acc'.size → (l.foldl (fun acc o => acc.push (o.after.foldl (fun s e => if Region.binds .any e then s ||| 2 ^ e.on ||| acc.getD e.on 0 else s) 0)) acc)[j]? = acc'[j]?) ∧
      (l.foldl (fun acc o => acc.push (o.after.foldl (fun s e => if Region.binds .any e then s ||| 2 ^ e.on ||| acc.getD e.on 0 else s) 0)) acc)[acc.size + i]? = some (o.after.foldl (fun s e => if Region.binds .any e then s ||| 2 ^ e.on ||| acc'.getD e.on 0 else s) 0) := by
  induction l with
  | nil => intro acc; exact ⟨rfl, fun _ _ => rfl, fun i o h => by simp at h⟩
  | cons x l ih =>
    intro acc
    simp only [List.foldl_cons]
    obtain ⟨h1, h2, h3⟩ := ih (acc.push (x.after.foldl (fun s e => if Region.binds .any e then s ||| 2 ^ e.on ||| acc.getD e.on 0 else s) 0))
    rw [Array.size_push] at h1 h2 h3
    refine ⟨by rw [h1, List.length_cons]; omega, fun i hi => by rw [h2 i (by omega), Array.getElem?_push, if_neg (by omega)], fun i o ho => ?_⟩
    rcases i with _ | i
    · simp only [List.getElem?_cons_zero, Option.some.injEq] at ho
      subst ho
      refine ⟨acc, rfl, fun j hj => by rw [h2 j (by omega), Array.getElem?_push, if_neg (by omega)], ?_⟩
      rw [Nat.add_zero, h2 acc.size (by omega), Array.getElem?_push, if_pos rfl]
    · obtain ⟨acc', e1, e2, e3⟩ := h3 i o (by simpa using ho)
      exact ⟨acc', by rw [e1]; omega, e2, by rw [← e3]; congr 1; omega⟩
theorem fold_bits (l : List Edge) (c : Array Nat) (j : Nat) : ∀ s : Nat, (l.foldl (fun s e => if Region.binds .any e then s ||| 2 ^ e.on ||| c.getD e.on 0 else s) s).testBit j = true →
    s.testBit j = true ∨ ∃ e ∈ l, Region.binds .any e = true ∧ (e.on = j ∨ (c.getD e.on 0).testBit j = true) := by
  induction l with
  | nil => intro s h; exact .inl h
  | cons x l ih =>
    intro s h
    rw [List.foldl_cons] at h
    rcases ih _ h with q | ⟨e, h1, h2⟩
    · split at q
      · next hb =>
        simp only [Nat.testBit_or, Bool.or_eq_true, Nat.testBit_two_pow, decide_eq_true_eq] at q
        rcases q with (q | q) | q
        · exact .inl q
        · exact .inr ⟨x, List.mem_cons_self .., hb, .inl q⟩
        · exact .inr ⟨x, List.mem_cons_self .., hb, .inr q⟩
      · exact .inl q
    · exact .inr ⟨e, List.mem_cons_of_mem _ h1, h2⟩
theorem before_spec {ops : Array Oper} {i j : Nat} {o : Oper} (hi : ops[i]? = some o) (h : ((Region.before ops).getD i 0).testBit j = true) :
    ∃ e ∈ o.after, Region.binds .any e = true ∧ (e.on = j ∨ (e.on < i ∧ ((Region.before ops).getD e.on 0).testBit j = true)) := by
  obtain ⟨_, _, h3⟩ := before_fold ops.toList #[]
  obtain ⟨acc', e1, e2, e3⟩ := h3 i o (by rw [Array.getElem?_toList]; exact hi)
  rw [Array.size_empty, Nat.zero_add] at e1 e3
  have hB : Region.before ops = ops.toList.foldl (fun acc o => acc.push (o.after.foldl (fun s e => if Region.binds .any e then s ||| 2 ^ e.on ||| acc.getD e.on 0 else s) 0)) #[] := by
    unfold Region.before; rw [← Array.foldl_toList]
  rw [← hB] at e2 e3
  rw [Array.getD_eq_getD_getElem?, e3, Option.getD_some, ← Array.foldl_toList] at h
  rcases fold_bits _ _ _ _ h with q | ⟨e, h4, h5, h6⟩
  · simp at q
  · refine ⟨e, Array.mem_toList_iff.1 h4, h5, ?_⟩
    rcases h6 with h6 | h6
    · exact .inl h6
    · by_cases hlt : e.on < acc'.size
      · refine .inr ⟨by omega, ?_⟩
        rw [Array.getD_eq_getD_getElem?, e2 e.on hlt, ← Array.getD_eq_getD_getElem?]
        exact h6
      · rw [Array.getD_eq_getD_getElem?, Array.getElem?_eq_none (by omega)] at h6
        simp at h6

section
variable {P : Program} {ops : Array Oper} {k : Nat} {C : World → Prop} {G : Tmp → Value → World → Prop} {a0 : Act} {Q : Exit → Act → World → Prop}

/-- A variable that is made is a new block. -/
def NewB (o : Oper) (v : Value) (w w' : World) : Prop := ∀ T, o.op = .alloc T → v = .pointer (some ⟨w.heap.size, 0, none⟩) ∧ w.heap.size < w'.heap.size
theorem NewB.no {o : Oper} {v : Value} {w w' : World} (h : ∀ T, o.op ≠ .alloc T) : NewB o v w w' := fun T e => absurd e (h T)
/-- What is asked of one operation: in whatever world of the class, the slots that it looks at being as their facts say, it yields what its own fact says. -/
def StepOk (P : Program) (ops : Array Oper) (k : Nat) (C : World → Prop) (G : Tmp → Value → World → Prop) (a0 : Act) (o : Oper) : Prop :=
  ∀ a w, C w → (∀ t, t ∉ dstsOf (preOf ops k) → slot a t = slot a0 t) → (∀ t ∈ o.looksAt ops, t ∈ dstsOf (preOf ops k) → G t (slot a t) w) →
    if Region.wanted o (yielded ops a.tmps) then Does P o a w (fun v w' => Below w.heap.size w w' ∧ (∀ t, o.dst = some t → G t v w') ∧ NewB o v w w')
    else ∀ t, o.dst = some t → G t undef w

theorem pre_get {i : Nat} (hi : i < k) : (preOf ops k)[i]? = ops[i]? := by
  rw [← Array.getElem?_toList, ← Array.getElem?_toList]
  show (ops.toList.take k)[i]? = _
  rw [List.getElem?_take, if_pos hi]
theorem take_lt {i : Nat} {o : Oper} (h : (preOf ops k)[i]? = some o) : i < k := by
  rw [← Array.getElem?_toList] at h
  have h : (ops.toList.take k)[i]? = some o := h
  rw [List.getElem?_take] at h
  split at h
  · assumption
  · cases h
theorem mem_dstsOf {ops : Array Oper} {t : Tmp} : t ∈ dstsOf ops ↔ ∃ (j : Nat) (o : Oper), ops[j]? = some o ∧ o.dst = some t := by
  unfold dstsOf
  rw [List.mem_filterMap]
  constructor
  · rintro ⟨o, h1, h2⟩
    obtain ⟨j, hj⟩ := List.mem_iff_getElem?.1 h1
    exact ⟨j, o, by rwa [Array.getElem?_toList] at hj, h2⟩
  · rintro ⟨j, o, h1, h2⟩
    exact ⟨o, List.mem_iff_getElem?.2 ⟨j, by rwa [Array.getElem?_toList]⟩, h2⟩
theorem mem_pre {t : Tmp} : t ∈ dstsOf (preOf ops k) ↔ ∃ (j : Nat) (o : Oper), j < k ∧ ops[j]? = some o ∧ o.dst = some t := by
  rw [mem_dstsOf]
  constructor
  · rintro ⟨j, o, h1, h2⟩
    have := take_lt h1
    exact ⟨j, o, this, by rwa [pre_get this] at h1, h2⟩
  · rintro ⟨j, o, h0, h1, h2⟩
    exact ⟨j, o, by rw [pre_get h0]; exact h1, h2⟩
theorem freeB_parts (h : freeB ops k = true) : k ≤ ops.size ∧ (dstsOf (preOf ops k)).Nodup ∧ (ops.toList.zipIdx.all fun (o, i) => o.after.all fun e => !Region.binds .any e || decide (e.on < i)) = true ∧
    (ops.toList.zipIdx.all fun (o, i) => !(decide (i < k)) || (o.looksAt ops).all fun t => ops.toList.zipIdx.all fun (o', j) => !(decide (j < k)) || !(o'.dst == some t) || ((Region.before ops).getD i 0).testBit j) = true ∧
    (ops.toList.zipIdx.all fun (_, i) => decide (i < k) || (List.range i).all fun j => ((Region.before ops).getD i 0).testBit j) = true := by
  simp only [freeB, Bool.and_eq_true] at h
  obtain ⟨⟨⟨⟨h1, h2⟩, h3⟩, h4⟩, h5⟩ := h
  exact ⟨of_decide_eq_true h1, of_decide_eq_true h2, h3, h4, h5⟩
theorem freeB_nodup (h : freeB ops k = true) {i j : Nat} {o o' : Oper} {t : Tmp} (hik : i < k) (hjk : j < k) (hi : ops[i]? = some o) (hj : ops[j]? = some o') (h1 : o.dst = some t) (h2 : o'.dst = some t) : i = j := by
  have hn := (freeB_parts h).2.1
  unfold dstsOf at hn
  rw [List.Nodup, List.pairwise_filterMap] at hn
  rw [← pre_get hik] at hi
  rw [← pre_get hjk] at hj
  rw [← Array.getElem?_toList] at hi hj
  obtain ⟨hi1, hi2⟩ := List.getElem?_eq_some_iff.1 hi
  obtain ⟨hj1, hj2⟩ := List.getElem?_eq_some_iff.1 hj
  have := List.pairwise_iff_getElem.1 hn
  rcases Nat.lt_trichotomy i j with q | q | q
  · exact absurd rfl (this i j hi1 hj1 q t (by rw [hi2]; exact h1) t (by rw [hj2]; exact h2))
  · exact q
  · exact absurd rfl (this j i hj1 hi1 q t (by rw [hj2]; exact h2) t (by rw [hi2]; exact h1))
theorem zip_all {ops : Array Oper} {p : Oper × Nat → Bool} (h : ops.toList.zipIdx.all p = true) {i : Nat} {o : Oper} (hi : ops[i]? = some o) : p (o, i) = true := by
  refine List.all_eq_true.1 h (o, i) ?_
  rw [List.mem_zipIdx_iff_getElem?]
  rw [Array.getElem?_toList]
  exact hi
theorem freeB_back (h : freeB ops k = true) {i : Nat} {o : Oper} (hi : ops[i]? = some o) {e : Edge} (he : e ∈ o.after) (hb : Region.binds .any e = true) : e.on < i := by
  have := zip_all (freeB_parts h).2.2.1 hi
  simp only [Array.all_eq_true_iff_forall_mem, Bool.or_eq_true, Bool.not_eq_true', decide_eq_true_eq] at this
  rcases this e he with q | q
  · rw [hb] at q; cases q
  · exact q
theorem freeB_waits (h : freeB ops k = true) {i j : Nat} {o o' : Oper} {t : Tmp} (hik : i < k) (hjk : j < k) (hi : ops[i]? = some o) (hj : ops[j]? = some o') (ht : t ∈ o.looksAt ops) (hd : o'.dst = some t) : ((Region.before ops).getD i 0).testBit j = true := by
  have := zip_all (freeB_parts h).2.2.2.1 hi
  simp only [hik, decide_true, Bool.not_true, Bool.false_or] at this
  have := zip_all (List.all_eq_true.1 this t ht) hj
  simpa [hjk, hd] using this
theorem freeB_tail (h : freeB ops k = true) {i j : Nat} {o : Oper} (hik : k ≤ i) (hi : ops[i]? = some o) (hj : j < i) : ((Region.before ops).getD i 0).testBit j = true := by
  have := zip_all (freeB_parts h).2.2.2.2 hi
  simp only [Bool.or_eq_true, decide_eq_true_eq] at this
  rcases this with q | q
  · omega
  · exact List.all_eq_true.1 q j (List.mem_range.2 hj)

theorem slot_put (a : Act) (d : Option Tmp) (v : Value) (t : Tmp) (h : d ≠ some t) : slot (a.put d v) t = slot a t := by
  unfold slot Act.put
  cases d with
  | none => rfl
  | some d =>
    have : d ≠ t := fun e => h (by rw [e])
    simp [Array.getElem?_setIfInBounds_ne this]
theorem slot_put_same (a : Act) (v : Value) (t : Tmp) (h : t < a.tmps.size) : slot (a.put (some t) v) t = v := by
  unfold slot Act.put
  simp [h]

/-- What holds on the way: of the operations that have come up each one's fact; all else is as it was. -/
structure FreeInv (ops : Array Oper) (k : Nat) (C : World → Prop) (G : Tmp → Value → World → Prop) (a0 : Act) (listed : Array Bool) (a : Act) (w : World) : Prop where
  cls : C w
  same : ∀ t, t ∉ dstsOf (preOf ops k) → slot a t = slot a0 t
  size : a.tmps.size = a0.tmps.size
  defs : a.defers = a0.defers
  done : ∀ (j : Nat) o t, j < k → ops[j]? = some o → listed.getD j false = true → o.dst = some t → G t (slot a t) w
  len : listed.size = ops.size
  closed : ∀ (j : Nat) o, ops[j]? = some o → listed.getD j false = true → ∀ e ∈ o.after, Region.binds .any e = true → listed.getD e.on false = true
  late : ∀ j, k ≤ j → listed.getD j false = false
  old : ∀ (j : Nat) o t T, j < k → ops[j]? = some o → listed.getD j false = true → o.dst = some t → o.op = .alloc T → o.guard = none → ∃ g, slot a t = .pointer (some ⟨g, 0, none⟩) ∧ g < w.heap.size
  new : ∀ (j j' : Nat) o o' t t' T T', j < k → j' < k → j ≠ j' → ops[j]? = some o → ops[j']? = some o' → listed.getD j false = true → listed.getD j' false = true → o.dst = some t → o'.dst = some t' → o.op = .alloc T → o'.op = .alloc T' → o.guard = none → o'.guard = none → slot a t ≠ slot a t'

/-- Variables that are made are blocks of their own. -/
def NewA (ops : Array Oper) (k : Nat) (f : Tmp → Value) : Prop := ∀ (j j' : Nat) o o' t t' T T', j < k → j' < k → j ≠ j' → ops[j]? = some o → ops[j']? = some o' → o.dst = some t → o'.dst = some t' → o.op = .alloc T → o'.op = .alloc T' → o.guard = none → o'.guard = none → f t ≠ f t'
theorem listed_before (listed : Array Bool) (closed : ∀ (j : Nat) o, ops[j]? = some o → listed.getD j false = true → ∀ e ∈ o.after, Region.binds .any e = true → listed.getD e.on false = true) {j : Nat} :
    ∀ (i : Nat) o, ops[i]? = some o → (∀ e ∈ o.after, Region.binds .any e = true → listed.getD e.on false = true) → ((Region.before ops).getD i 0).testBit j = true → listed.getD j false = true := by
  intro i
  induction i using Nat.strongRecOn with
  | ind i ih =>
    intro o hi hall hb
    obtain ⟨e, h1, h2, h3⟩ := before_spec hi hb
    rcases h3 with h3 | ⟨h3, h4⟩
    · rw [← h3]; exact hall e h1 h2
    · have hl := hall e h1 h2
      have hlt : e.on < ops.size := Nat.lt_trans h3 (Array.getElem?_eq_some_iff.1 hi).1
      have he : ops[e.on]? = some ops[e.on] := Array.getElem?_eq_getElem hlt
      exact ih e.on h3 ops[e.on] he (closed e.on _ he hl) h4

theorem wpAny_tail (hB : freeB ops k = true) : ∀ (fuel m : Nat) (listed : Array Bool) (a : Act) (w : World), k ≤ m → ops.size ≤ m + fuel → listed.size = ops.size → (∀ j, j < m → j < ops.size → listed.getD j false = true) → (∀ j, m ≤ j → listed.getD j false = false) →
    wpList P ops Q (ops.toList.drop m) a w → wpAny P .any ops Q fuel listed a w := by
  have noready : ∀ (m : Nat) (listed : Array Bool), ops.size ≤ m → listed.size = ops.size → (∀ j, j < m → j < ops.size → listed.getD j false = true) → Region.ready .any ops listed = [] := by
    intro m listed hm hl hall
    refine List.eq_nil_iff_forall_not_mem.2 fun j hj => ?_
    obtain ⟨h1, o, h2, _⟩ := mem_ready.1 hj
    have hjl := (Array.getElem?_eq_some_iff.1 h2).1
    have h3 := hall j (by omega) hjl
    have h4 : j < listed.size := by omega
    simp only [Array.getD_eq_getD_getElem?, Array.getElem?_eq_getElem h4, Option.getD_some] at h1 h3
    rw [h1] at h3
    cases h3
  intro fuel
  induction fuel with
  | zero =>
    intro m listed a w hk hf hl hall hun h
    refine ⟨noready m listed (by omega) hl hall, ?_⟩
    rw [List.drop_eq_nil_of_le (by rw [Array.length_toList]; omega)] at h
    exact h
  | succ fuel ih =>
    intro m listed a w hk hf hl hall hun h
    by_cases hm : m < ops.size
    · have ho : ops[m]? = some ops[m] := Array.getElem?_eq_getElem hm
      have hmr : m ∈ Region.ready .any ops listed := by
        refine mem_ready.2 ⟨?_, _, ho, fun e he hb => ?_⟩
        · have := hun m (Nat.le_refl _)
          have h4 : m < listed.size := by omega
          simp only [Array.getD_eq_getD_getElem?, Array.getElem?_eq_getElem h4, Option.getD_some] at *
          exact this
        · have := freeB_back hB ho he hb
          exact hall e.on this (by omega)
      refine ⟨fun q => (by rw [q] at hmr; cases hmr), fun i hi => ?_⟩
      obtain ⟨h1, o, h2, h3⟩ := mem_ready.1 hi
      have hil := (Array.getElem?_eq_some_iff.1 h2).1
      have him : i = m := by
        rcases Nat.lt_trichotomy i m with q | q | q
        · exfalso
          have h5 := hall i q hil
          have h4 : i < listed.size := by omega
          simp only [Array.getD_eq_getD_getElem?, Array.getElem?_eq_getElem h4, Option.getD_some] at h1 h5
          rw [h1] at h5
          cases h5
        · exact q
        · exfalso
          have := listed_before listed (fun j o' hj hlj e he hb => by
            have hjl := (Array.getElem?_eq_some_iff.1 hj).1
            have hjm : j < m := by
              refine Decidable.byContradiction fun z => ?_
              rw [hun j (by omega)] at hlj
              cases hlj
            have := freeB_back hB hj he hb
            exact hall e.on (by omega) (by omega)) i o h2 h3 (freeB_tail hB (by omega) h2 q)
          rw [hun m (Nat.le_refl _)] at this
          cases this
      subst him
      rw [List.drop_eq_getElem_cons (by rw [Array.length_toList]; exact hm)] at h
      have hlast : ∀ a' w', wpList P ops Q (ops.toList.drop (i + 1)) a' w' → wpAny P .any ops Q fuel (listed.setIfInBounds i true) a' w' := fun a' w' hh => by
        refine ih (i + 1) _ a' w' (by omega) (by omega) (by rw [Array.size_setIfInBounds]; exact hl) (fun j hj hjs => ?_) (fun j hj => ?_) hh
        · by_cases e : j = i
          · subst e
            have h4 : j < listed.size := by omega
            simp [h4]
          · rw [getD_set_ne false (Ne.symm e)]; exact hall j (by omega) hjs
        · rw [getD_set_ne false (by omega)]; exact hun j (by omega)
      rw [Array.getElem_toList] at h
      unfold wpOp
      simp only [ho]
      unfold wpList at h
      split at h
      · next hw =>
        rw [if_pos hw]
        exact h.imp (Oper.wp_mono hlast) id
      · next hw =>
        rw [if_neg hw]
        exact hlast _ _ h
    · have hr := noready m listed (by omega) hl hall
      refine ⟨fun _ => ?_, fun i hi => by rw [hr] at hi; cases hi⟩
      rw [List.drop_eq_nil_of_le (by rw [Array.length_toList]; omega)] at h
      exact h

theorem pre_listed (hB : freeB ops k = true) {listed : Array Bool} (hl : listed.size = ops.size) (hr : ∀ j ∈ Region.ready .any ops listed, k ≤ j) : ∀ j, j < k → listed.getD j false = true := by
  intro j
  induction j using Nat.strongRecOn with
  | ind j ih =>
    intro hj
    have hks := (freeB_parts hB).1
    refine Decidable.byContradiction fun hne => ?_
    have hjs : j < ops.size := by omega
    have : j ∈ Region.ready .any ops listed := mem_ready.2 ⟨by
      have h1 : j < listed.size := by omega
      simp only [Array.getD_eq_getD_getElem?, Array.getElem?_eq_getElem h1, Option.getD_some] at *
      simpa using hne, ops[j], Array.getElem?_eq_getElem hjs, fun e he hb => by
      have := freeB_back hB (Array.getElem?_eq_getElem hjs) he hb
      exact ih e.on this (by omega)⟩
    have := hr j this
    omega

theorem wpAny_free (hB : freeB ops k = true) (hin : ∀ t ∈ dstsOf (preOf ops k), t < a0.tmps.size) (hC : ∀ w w', C w → Below w.heap.size w w' → C w') (hG : ∀ t ∈ dstsOf (preOf ops k), ∀ v w w', G t v w → Below w.heap.size w w' → G t v w')
    (hstep : ∀ (i : Nat) o, i < k → ops[i]? = some o → StepOk P ops k C G a0 o)
    (hQ : ∀ a w, C w → (∀ t, t ∉ dstsOf (preOf ops k) → slot a t = slot a0 t) → a.tmps.size = a0.tmps.size → a.defers = a0.defers → (∀ t ∈ dstsOf (preOf ops k), G t (slot a t) w) → NewA ops k (slot a) → wpList P ops Q (ops.toList.drop k) a w) :
    ∀ (fuel : Nat) (listed : Array Bool) (a : Act) (w : World), listed.count false ≤ fuel → FreeInv ops k C G a0 listed a w → wpAny P .any ops Q fuel listed a w := by
  have hks := (freeB_parts hB).1
  have fin : ∀ (fuel : Nat) (listed : Array Bool) (a : Act) (w : World), listed.count false ≤ fuel → (∀ j, j < k → listed.getD j false = true) → FreeInv ops k C G a0 listed a w → wpAny P .any ops Q fuel listed a w := by
    intro fuel listed a w hc hall I
    refine wpAny_tail hB fuel k listed a w (Nat.le_refl _) ?_ I.len (fun j h1 _ => hall j h1) I.late (hQ a w I.cls I.same I.size I.defs (fun t ht => ?_) (fun j j' o o' t t' T T' h1 h2 h3 h4 h5 => I.new j j' o o' t t' T T' h1 h2 h3 h4 h5 (hall j h1) (hall j' h2)))
    · have hcount : ops.size - k ≤ listed.count false := by
        have : (listed.toList.drop k).count false ≤ listed.toList.count false := List.Sublist.count_le _ (List.drop_sublist _ _)
        have e1 : listed.toList.count false = listed.count false := Array.count_toList ..
        rw [e1] at this
        refine Nat.le_trans ?_ this
        have hall2 : ∀ b ∈ listed.toList.drop k, false = b := by
          intro b hb
          obtain ⟨j, hj⟩ := List.mem_iff_getElem?.1 hb
          rw [List.getElem?_drop, Array.getElem?_toList] at hj
          have := I.late (k + j) (by omega)
          rw [Array.getD_eq_getD_getElem?, hj] at this
          simpa using this.symm
        rw [List.count_eq_length.2 hall2, List.length_drop, Array.length_toList, I.len]
        exact Nat.le_refl _
      omega
    · obtain ⟨j, o, h0, h1, h2⟩ := mem_pre.1 ht
      exact I.done j o t h0 h1 (hall j h0) h2
  intro fuel
  induction fuel with
  | zero =>
    intro listed a w hc I
    refine fin 0 listed a w hc (fun j hj => ?_) I
    have h0 : listed.count false = 0 := by omega
    rw [Array.count_eq_zero] at h0
    have h1 : j < listed.size := by have := I.len; omega
    have : listed[j] ≠ false := fun e => h0 (by rw [← e]; exact Array.getElem_mem h1)
    simp only [Array.getD_eq_getD_getElem?, Array.getElem?_eq_getElem h1, Option.getD_some]
    simpa using this
  | succ fuel ih =>
    intro listed a w hc I
    by_cases hpre : ∀ j ∈ Region.ready .any ops listed, k ≤ j
    · exact fin (fuel + 1) listed a w hc (pre_listed hB I.len hpre) I
    -- something of the first part may come up still: then nothing of the rest may
    have hall : ∀ i ∈ Region.ready .any ops listed, i < k := by
      intro i hi
      refine Decidable.byContradiction fun hik => hpre fun j hj => ?_
      refine Decidable.byContradiction fun hjk => ?_
      obtain ⟨_, o, ho, h3⟩ := mem_ready.1 hi
      obtain ⟨h1, o', ho', _⟩ := mem_ready.1 hj
      have hjl := (Array.getElem?_eq_some_iff.1 ho').1
      have := listed_before listed I.closed i o ho h3 (freeB_tail hB (by omega) ho (by omega : j < i))
      have h4 : j < listed.size := by have := I.len; omega
      simp only [Array.getD_eq_getD_getElem?, Array.getElem?_eq_getElem h4, Option.getD_some] at h1 this
      rw [h1] at this
      cases this
    refine ⟨fun hr => absurd (fun j hj => by rw [hr] at hj; cases hj) hpre, fun i hi => ?_⟩
    have hik := hall i hi
    obtain ⟨hun, o, ho, hdeps⟩ := mem_ready.1 hi
    have hil : i < listed.size := by have := (Array.getElem?_eq_some_iff.1 ho).1; have := I.len; omega
    have hcount : (listed.setIfInBounds i true).count false ≤ fuel := by
      have hv : listed[i] = false := by
        simp only [Array.getD_eq_getD_getElem?, Array.getElem?_eq_getElem hil, Option.getD_some] at hun
        exact hun
      rw [Array.setIfInBounds, dif_pos hil, Array.count_set hil, hv]
      have : 0 < listed.count false := Array.count_pos_iff.2 (by rw [← hv]; exact Array.getElem_mem hil)
      simp
      omega
    have hlooks : ∀ t ∈ o.looksAt ops, t ∈ dstsOf (preOf ops k) → G t (slot a t) w := fun t ht hd => by
      obtain ⟨j, o', hj0, hj, hd'⟩ := mem_pre.1 hd
      exact I.done j o' t hj0 hj (listed_before listed I.closed i o ho hdeps (freeB_waits hB hik hj0 ho hj ht hd')) hd'
    have hs := hstep i o hik ho a w I.cls I.same hlooks
    have next : ∀ v w', Below w.heap.size w w' → (∀ t, o.dst = some t → G t v w') → (o.guard = none → NewB o v w w') → FreeInv ops k C G a0 (listed.setIfInBounds i true) (a.put o.dst v) w' := fun v w' hb hg hnew => by
      refine ⟨hC w w' I.cls hb, fun t ht => ?_, ?_, ?_, fun j o' t hj0 hj hlj hd => ?_, by rw [Array.size_setIfInBounds]; exact I.len, fun j o' hj hlj e he hbd => ?_, fun j hj => by rw [getD_set_ne false (by omega)]; exact I.late j hj, fun j o' t T hj0 hj hlj hd hop hgn => ?_, fun j j' o1 o2 t t' T T' h1 h2 h3 h4 h5 h6 h7 h8 h9 h10 h11 h12 h13 => ?_⟩
      · rw [slot_put]
        · exact I.same t ht
        · intro e; exact ht (mem_pre.2 ⟨i, o, hik, ho, e⟩)
      · rw [← I.size]; unfold Act.put; split <;> simp
      · rw [← I.defs]; unfold Act.put; split <;> rfl
      · by_cases hij : j = i
        · subst hij
          rw [ho] at hj
          cases hj
          rw [hd, slot_put_same a v t (by rw [I.size]; exact hin t (mem_pre.2 ⟨j, o, hik, ho, hd⟩))]
          exact hg t hd
        · rw [slot_put _ _ _ _ (fun e => hij (freeB_nodup hB hj0 hik hj ho hd e))]
          refine hG t (mem_pre.2 ⟨j, o', hj0, hj, hd⟩) _ _ _ (I.done j o' t hj0 hj ?_ hd) hb
          rwa [getD_set_ne false (Ne.symm hij)] at hlj
      · by_cases hij : j = i
        · subst hij
          rw [ho] at hj
          cases hj
          exact getD_set_true (hdeps e he hbd)
        · rw [getD_set_ne false (Ne.symm hij)] at hlj
          exact getD_set_true (I.closed j o' hj hlj e he hbd)
      · by_cases hij : j = i
        · subst hij
          rw [ho] at hj
          cases hj
          obtain ⟨e1, e2⟩ := hnew hgn T hop
          refine ⟨_, ?_, e2⟩
          rw [hd, slot_put_same a v t (by rw [I.size]; exact hin t (mem_pre.2 ⟨j, o, hik, ho, hd⟩)), e1]
        · rw [slot_put _ _ _ _ (fun e => hij (freeB_nodup hB hj0 hik hj ho hd e))]
          rw [getD_set_ne false (Ne.symm hij)] at hlj
          obtain ⟨g, e1, e2⟩ := I.old j o' t T hj0 hj hlj hd hop hgn
          exact ⟨g, e1, Nat.lt_of_lt_of_le e2 hb.size⟩
      · have key : ∀ (j j' : Nat) o1 o2 t t' T T', j < k → j' < k → j = i → j' ≠ i → ops[j]? = some o1 → ops[j']? = some o2 → (listed.setIfInBounds i true).getD j' false = true → o1.dst = some t → o2.dst = some t' → o1.op = .alloc T → o2.op = .alloc T' → o1.guard = none → o2.guard = none → slot (a.put o.dst v) t ≠ slot (a.put o.dst v) t' := by
          intro j j' o1 o2 t t' T T' h1 h2 h3 h3' h4 h5 h7 h8 h9 h10 h11 h12 h13
          subst h3
          rw [ho] at h4
          cases h4
          obtain ⟨e1, _⟩ := hnew h12 T h10
          rw [getD_set_ne false (Ne.symm h3')] at h7
          obtain ⟨g, e3, e4⟩ := I.old j' o2 t' T' h2 h5 h7 h9 h11 h13
          rw [slot_put _ _ _ t' (fun e => h3' (freeB_nodup hB h2 hik h5 ho h9 e)), e3, h8, slot_put_same a v t (by rw [I.size]; exact hin t (mem_pre.2 ⟨j, o, hik, ho, h8⟩)), e1]
          intro q
          cases q
          exact Nat.lt_irrefl _ e4
        by_cases hji : j = i
        · exact key j j' o1 o2 t t' T T' h1 h2 hji (fun e => h3 (hji.trans e.symm)) h4 h5 h7 h8 h9 h10 h11 h12 h13
        · by_cases hji' : j' = i
          · exact (key j' j o2 o1 t' t T' T h2 h1 hji' hji h5 h4 h6 h9 h8 h11 h10 h13 h12).symm
          · rw [slot_put _ _ _ t (fun e => hji (freeB_nodup hB h1 hik h4 ho h8 e)), slot_put _ _ _ t' (fun e => hji' (freeB_nodup hB h2 hik h5 ho h9 e))]
            rw [getD_set_ne false (Ne.symm hji)] at h6
            rw [getD_set_ne false (Ne.symm hji')] at h7
            exact I.new j j' o1 o2 t t' T T' h1 h2 h3 h4 h5 h6 h7 h8 h9 h10 h11 h12 h13
    unfold wpOp
    simp only [ho]
    split at hs
    · next hw =>
      rw [if_pos hw]
      exact .inl (wp_of_does hs fun v w' ⟨hb, hg, hn⟩ => ih _ _ _ hcount (next v w' hb hg (fun _ => hn)))
    · next hw =>
      rw [if_neg hw]
      exact ih _ _ _ hcount (next undef w (Below.refl _ _) hs (fun q => by unfold Region.wanted at hw; rw [q] at hw; exact absurd rfl hw))

/-- **A fact for each slot serves every order.** -/
theorem wp_region_free {id : Nat} {w : World} (hm : P.follows .mixedOrders = true) (hB : freeB ops k = true) (hin : ∀ t ∈ dstsOf (preOf ops k), t < a0.tmps.size)
    (hC : ∀ w w', C w → Below w.heap.size w w' → C w') (hG : ∀ t ∈ dstsOf (preOf ops k), ∀ v w w', G t v w → Below w.heap.size w w' → G t v w') (h0 : C w.drew)
    (hstep : ∀ (i : Nat) o, i < k → ops[i]? = some o → StepOk P ops k C G a0 o)
    (hQ : ∀ a w, C w → (∀ t, t ∉ dstsOf (preOf ops k) → slot a t = slot a0 t) → a.tmps.size = a0.tmps.size → a.defers = a0.defers → (∀ t ∈ dstsOf (preOf ops k), G t (slot a t) w) → NewA ops k (slot a) → wpList P ops Q (ops.toList.drop k) a w) :
    (Code.region id ops true).wp P Q a0 w := by
  have hf : ∀ j, (Array.replicate ops.size false).getD j false = false := fun j => by
    simp only [Array.getD_eq_getD_getElem?, Array.getElem?_replicate]
    split <;> rfl
  refine wp_region_any hm (wpAny_free hB hin hC hG hstep hQ ops.size _ a0 _ ?_ ⟨h0, fun _ _ => rfl, rfl, rfl, fun j o t _ hj hl _ => ?_, by simp, fun j o hj hl => ?_, fun j _ => hf j, fun j o t T _ _ hl => ?_, fun j j' o o' t t' T T' _ _ _ _ _ hl => ?_⟩)
  · refine Nat.le_trans Array.count_le_size (by simp)
  · rw [hf] at hl; cases hl
  · rw [hf] at hl; cases hl
  · rw [hf] at hl; cases hl
  · rw [hf] at hl; cases hl
end
end Go.Proofs.YtfpnhggbfakdkaaDoor

/- A region that draws its order: facts in a list, one operation at a time. -/
set_option linter.unusedVariables false
set_option linter.unusedSimpArgs false
namespace Go.Proofs.YtfpnhggbfakdkaaDoor
open Go.RowKit

/-- A fact on a value that stays when memory is made. -/
structure Fact where
  holds : Value → World → Prop
  stable : ∀ v w w', holds v w → Below w.heap.size w w' → holds v w'
def Fact.eq (c : Value) : Fact := ⟨fun v _ => v = c, fun _ _ _ h _ => h⟩
def Fact.any : Fact := ⟨fun _ _ => True, fun _ _ _ h _ => h⟩
def Fact.tup2 (f g : Fact) : Fact := ⟨fun v w => ∃ a b, v = .tuple #[a, b] ∧ f.holds a w ∧ g.holds b w, fun _ w w' ⟨a, b, h1, h2, h3⟩ hb => ⟨a, b, h1, f.stable _ w w' h2 hb, g.stable _ w w' h3 hb⟩⟩
def Fact.tup3 (f g h : Fact) : Fact := ⟨fun v w => ∃ a b c, v = .tuple #[a, b, c] ∧ f.holds a w ∧ g.holds b w ∧ h.holds c w, fun _ w w' ⟨a, b, c, h1, h2, h3, h4⟩ hb => ⟨a, b, c, h1, f.stable _ w w' h2 hb, g.stable _ w w' h3 hb, h.stable _ w w' h4 hb⟩⟩
def lookF : List (Tmp × Fact) → Tmp → Fact
  | [], _ => .any
  | x :: r, t => cond (Nat.beq x.1 t) x.2 (lookF r t)
def patch : List Bool → (Tmp → Value) → Nat → List Value → List Value
  | true :: ms, f, i, _ :: r => f i :: patch ms f (i + 1) r
  | false :: ms, f, i, v :: r => v :: patch ms f (i + 1) r
  | _, _, _, _ => []
theorem patch_get : ∀ (ms : List Bool) (f : Tmp → Value) (i : Nat) (l : List Value), ms.length = l.length → ∀ j, (patch ms f i l)[j]? = if ms[j]? = some true then some (f (i + j)) else l[j]?
  | [], f, i, [], _, j => by simp [patch]
  | true :: ms, f, i, v :: r, h, 0 => by simp [patch]
  | false :: ms, f, i, v :: r, h, 0 => by simp [patch]
  | true :: ms, f, i, v :: r, h, j + 1 => by
    simp only [patch, List.getElem?_cons_succ]
    rw [patch_get ms f (i + 1) r (by simpa using h) j, show i + 1 + j = i + (j + 1) from by omega]
  | false :: ms, f, i, v :: r, h, j + 1 => by
    simp only [patch, List.getElem?_cons_succ]
    rw [patch_get ms f (i + 1) r (by simpa using h) j, show i + 1 + j = i + (j + 1) from by omega]
def maskOf (ops : Array Oper) (k n : Nat) : List Bool := (List.range n).map fun t => (dstsOf (preOf ops k)).elem t

section
variable {P : Program} {ops : Array Oper} {k : Nat} {C : World → Prop} {l : List (Tmp × Fact)} {a0 : Act} {Q : Exit → Act → World → Prop} {o : Oper}

def StepsOk (P : Program) (ops : Array Oper) (k : Nat) (C : World → Prop) (l : List (Tmp × Fact)) (a0 : Act) : List Oper → Prop
  | [] => True
  | o :: r => StepOk P ops k C (fun t => (lookF l t).holds) a0 o ∧ StepsOk P ops k C l a0 r
theorem StepsOk.get {os : List Oper} (h : StepsOk P ops k C l a0 os) : ∀ o ∈ os, StepOk P ops k C (fun t => (lookF l t).holds) a0 o := by
  induction os with
  | nil => intro o hm; cases hm
  | cons x r ih =>
    intro o hm
    have h1 : StepOk P ops k C (fun t => (lookF l t).holds) a0 x ∧ StepsOk P ops k C l a0 r := h
    rcases List.mem_cons.1 hm with e | hm
    · rw [e]; exact h1.1
    · exact ih h1.2 o hm

/-- **The region by a list of facts.** -/
theorem wp_region_facts {id : Nat} {w : World} {l0 : List Value} {d0 : List Deferred} (k : Nat) (C : World → Prop) (l : List (Tmp × Fact)) (ms : List Bool) (hm : P.follows .mixedOrders = true) (hB : freeB ops k = true) (hms : maskOf ops k l0.length = ms)
    (hin : (dstsOf (preOf ops k)).all (fun t => Nat.blt t l0.length) = true)
    (hC : ∀ w w', C w → Below w.heap.size w w' → C w') (h0 : C w.drew)
    (hstep : StepsOk P ops k C l ⟨l0.toArray, d0⟩ (ops.toList.take k))
    (hQ : ∀ (f : Tmp → Value) w, C w → (∀ t, (dstsOf (preOf ops k)).elem t = true → (lookF l t).holds (f t) w) → NewA ops k f → wpList P ops Q (ops.toList.drop k) ⟨(patch ms f 0 l0).toArray, d0⟩ w) :
    (Code.region id ops true).wp P Q ⟨l0.toArray, d0⟩ w := by
  refine wp_region_free (C := C) (G := fun t => (lookF l t).holds) hm hB (fun t ht => ?_) hC (fun t _ v w w' h hb => (lookF l t).stable v w w' h hb) h0
    (fun i o hik hi => hstep.get o (List.mem_iff_getElem?.2 ⟨i, by rw [List.getElem?_take, if_pos hik, Array.getElem?_toList]; exact hi⟩)) fun a w hc hs hz hd hf hnew => ?_
  · have := List.all_eq_true.1 hin t ht
    simpa [Nat.blt_eq] using this
  · have e : a = ⟨(patch ms (slot a) 0 l0).toArray, d0⟩ := by
      obtain ⟨tm, df⟩ := a
      simp only at hd hz
      subst hd
      have hlen : ms.length = l0.length := by rw [← hms, maskOf, List.length_map, List.length_range]
      congr 1
      apply Array.ext'
      apply List.ext_getElem?
      intro j
      show _ = (patch ms (slot ⟨tm, _⟩) 0 l0)[j]?
      rw [patch_get ms _ 0 l0 hlen j, Nat.zero_add, Array.getElem?_toList]
      have hsz : tm.size = l0.length := by simpa using hz
      by_cases hj : j < l0.length
      · have hmj : ms[j]? = some ((dstsOf (preOf ops k)).elem j) := by
          rw [← hms, maskOf, List.getElem?_map, List.getElem?_range hj]; rfl
        rw [hmj]
        have hjt : j < tm.size := by omega
        cases hdj : (dstsOf (preOf ops k)).elem j
        · rw [if_neg (by simp)]
          have := hs j (fun q => by rw [List.elem_eq_mem] at hdj; simp at hdj; exact hdj q)
          simp only [slot, Array.getD_eq_getD_getElem?, Array.getElem?_eq_getElem hjt, Option.getD_some, List.getElem?_toArray, List.getElem?_eq_getElem hj] at this
          rw [Array.getElem?_eq_getElem hjt, List.getElem?_eq_getElem hj, this]
        · rw [if_pos rfl]
          simp [slot, hjt]
      · have hmj : ms[j]? = none := List.getElem?_eq_none (by omega)
        rw [hmj, if_neg (by simp), Array.getElem?_eq_none (by omega), List.getElem?_eq_none (by omega)]
    rw [e]
    exact hQ (slot a) w hc (fun t ht => hf t (by rw [List.elem_eq_mem] at ht; simpa using ht)) hnew

/-- The operation is carried out: it has no guard, or its guard's slot holds what it asks. -/
def Want (ops : Array Oper) (k : Nat) (l : List (Tmp × Fact)) (o : Oper) : Prop := o.guard = none ∨ ∃ g b t, g < k ∧ o.guard = some (g, b) ∧ ((ops[g]?).bind (·.dst)) = some t ∧ lookF l t = .eq (.bool b)
/-- It is passed over. -/
def Skip (ops : Array Oper) (k : Nat) (l : List (Tmp × Fact)) (o : Oper) : Prop := ∃ g b t, g < k ∧ o.guard = some (g, !b) ∧ ((ops[g]?).bind (·.dst)) = some t ∧ lookF l t = .eq (.bool b)
theorem yielded_of {a : Act} {g : Nat} {b : Bool} {t : Tmp} (h : ((ops[g]?).bind (·.dst)) = some t) (hs : slot a t = .bool b) : yielded ops a.tmps g = some b := by
  unfold yielded
  rw [h]
  unfold slot at hs
  rw [Array.getD_eq_getD_getElem?] at hs
  cases q : a.tmps[t]? with
  | none => rw [q] at hs; simp [undef] at hs
  | some v => rw [q] at hs; simp at hs; subst hs; simp [q]
theorem looks_guard {g : Nat} {b : Bool} {t : Tmp} (hgk : g < k) (hg : o.guard = some (g, b)) (h : ((ops[g]?).bind (·.dst)) = some t) : t ∈ o.looksAt ops ∧ t ∈ dstsOf (preOf ops k) := by
  constructor
  · unfold Oper.looksAt
    rw [hg]
    exact List.mem_append_right _ (by simp [h])
  · cases q : ops[g]? with
    | none => rw [q] at h; cases h
    | some o' => rw [q] at h; exact mem_pre.2 ⟨g, o', hgk, q, h⟩
theorem StepOk.want (hw : Want ops k l o) (h : ∀ a w, C w → (∀ t, (dstsOf (preOf ops k)).elem t = false → slot a t = slot a0 t) → (∀ t, (o.looksAt ops).elem t = true → (dstsOf (preOf ops k)).elem t = true → (lookF l t).holds (slot a t) w) →
    Does P o a w (fun v w' => Below w.heap.size w w' ∧ (∀ t, o.dst = some t → (lookF l t).holds v w') ∧ NewB o v w w')) : StepOk P ops k C (fun t => (lookF l t).holds) a0 o := by
  intro a w hc hs hl
  have hwant : Region.wanted o (yielded ops a.tmps) = true := by
    unfold Region.wanted
    rcases hw with hg | ⟨g, b, t, hgk, hg, hd, hf⟩
    · rw [hg]
    · obtain ⟨m1, m2⟩ := looks_guard hgk hg hd
      have hv := hl t m1 m2
      simp only [hf] at hv
      simp only [hg]
      rw [yielded_of hd hv]
      simp
  rw [if_pos hwant]
  exact h a w hc (fun t ht => hs t (fun q => by rw [List.elem_eq_mem] at ht; simp at ht; exact ht q)) (fun t h1 h2 => hl t (by rw [List.elem_eq_mem] at h1; simpa using h1) (by rw [List.elem_eq_mem] at h2; simpa using h2))
theorem StepOk.skip (hw : Skip ops k l o) (h : ∀ t, o.dst = some t → lookF l t = .eq undef ∨ lookF l t = .any) : StepOk P ops k C (fun t => (lookF l t).holds) a0 o := by
  intro a w hc hs hl
  obtain ⟨g, b, t, hgk, hg, hd, hf⟩ := hw
  have hwant : Region.wanted o (yielded ops a.tmps) = false := by
    unfold Region.wanted
    obtain ⟨m1, m2⟩ := looks_guard hgk hg hd
    have hv := hl t m1 m2
    simp only [hf] at hv
    simp only [hg]
    rw [yielded_of hd hv]
    cases b <;> rfl
  rw [if_neg (by rw [hwant]; decide)]
  intro t ht
  rcases h t ht with e | e <;> simp only [e]
  · rfl
  · trivial

/-! ### the operations -/
theorem does_value {a : Act} {w : World} {R : Value → World → Prop} {v : Value} (hr : (execOp a.eval o).run P w = .ok (.value v) w) (h : R v w) : Does P o a w R := by
  unfold Does
  rw [hr]
  exact h
theorem does_move {a : Act} {w : World} {R : Value → World → Prop} {x : Operand} (ho : o.op = .move x) (h : R (a.eval x) w) : Does P o a w R := does_value (by simp [execOp, ho]) h
theorem does_assign {a : Act} {w : World} {R : Value → World → Prop} {x : Operand} (ho : o.op = .assign x) (h : R (a.eval x) w) : Does P o a w R := does_value (by simp [execOp, ho]) h
theorem does_pick {a : Act} {w : World} {R : Value → World → Prop} {c x y : Operand} {b : Bool} (ho : o.op = .pick c x y) (hc : a.eval c = .bool b) (h : R (if b then a.eval x else a.eval y) w) : Does P o a w R :=
  does_value (v := if b then a.eval x else a.eval y) (by simp [execOp, ho, hc, asBool]) h
theorem does_load {a : Act} {w : World} {R : Value → World → Prop} {T : TypeId} {x : Operand} {v : Value} (ho : o.op = .load T x) (hr : (Instr.loadAt T (a.eval x)).run P w = .ok v w) (h : R v w) : Does P o a w R :=
  does_value (v := v) (by simp [execOp, ho, hr]) h
theorem does_call {a : Act} {w : World} {R : Value → World → Prop} {f : FuncId} {xs : List Operand} {ts : Array TypeId} (ho : o.op = .call { callee := .value (.func f), args := xs.toArray, argTypes := ts })
    (hf : ∀ args w, (callFunc f args).run P w = .ok (.enter f args) w) (h : Calls P f (xs.map a.eval).toArray w (fun e w' => ∃ v, e = .returned v ∧ R v w')) : Does P o a w R := by
  unfold Does
  have : (execOp a.eval o).run P w = .ok (.enter f (xs.map a.eval).toArray) w := by
    simp [execOp, ho, resolve, Act.eval, Deferred.ofValue, invoke, hf]
  rw [this]
  exact h
theorem StepOk.call {t : Tmp} {f : FuncId} {xs : List Operand} {ts : Array TypeId} (hw : Want ops k l o) (ho : o.op = .call { callee := .value (.func f), args := xs.toArray, argTypes := ts }) (hd : o.dst = some t)
    (hf : ∀ args w, (callFunc f args).run P w = .ok (.enter f args) w)
    (h : ∀ a w, C w → (∀ t, (dstsOf (preOf ops k)).elem t = false → slot a t = slot a0 t) → (∀ t, (o.looksAt ops).elem t = true → (dstsOf (preOf ops k)).elem t = true → (lookF l t).holds (slot a t) w) →
      Calls P f (xs.map a.eval).toArray w (fun e w' => ∃ v, e = .returned v ∧ Below w.heap.size w w' ∧ (lookF l t).holds v w')) : StepOk P ops k C (fun t => (lookF l t).holds) a0 o :=
  StepOk.want hw fun a w hc hs hl => does_call ho hf ((h a w hc hs hl).mono fun e w' ⟨v, he, hb, hr⟩ => ⟨v, he, hb, fun t' ht => by rw [hd] at ht; cases ht; exact hr, .no fun T e => by rw [ho] at e; cases e⟩)
theorem StepOk.load {t : Tmp} {T : TypeId} {x : Operand} (v : Value) (hw : Want ops k l o) (ho : o.op = .load T x) (hd : o.dst = some t)
    (h : ∀ a w, C w → (∀ t, (dstsOf (preOf ops k)).elem t = false → slot a t = slot a0 t) → (∀ t, (o.looksAt ops).elem t = true → (dstsOf (preOf ops k)).elem t = true → (lookF l t).holds (slot a t) w) →
      (Instr.loadAt T (a.eval x)).run P w = .ok v w ∧ (lookF l t).holds v w) : StepOk P ops k C (fun t => (lookF l t).holds) a0 o :=
  StepOk.want hw fun a w hc hs hl => does_load ho (h a w hc hs hl).1 ⟨Below.refl _ _, fun t' ht => by rw [hd] at ht; cases ht; exact (h a w hc hs hl).2, .no fun T e => by rw [ho] at e; cases e⟩
theorem StepOk.move {t s : Tmp} (hw : Want ops k l o) (ho : o.op = .move (.tmp s) ∨ o.op = .assign (.tmp s)) (hd : o.dst = some t) (h1 : (o.looksAt ops).elem s = true) (h2 : (dstsOf (preOf ops k)).elem s = true) (hf : lookF l t = lookF l s) : StepOk P ops k C (fun t => (lookF l t).holds) a0 o :=
  StepOk.want hw fun a w hc hs hl => by
    have : (fun (v : Value) w' => Below w.heap.size w w' ∧ (∀ t, o.dst = some t → (lookF l t).holds v w') ∧ NewB o v w w') (slot a s) w := ⟨Below.refl _ _, fun t' ht => by rw [hd] at ht; cases ht; rw [hf]; exact hl s h1 h2, .no fun T e => by rcases ho with ho | ho <;> (rw [ho] at e; cases e)⟩
    rcases ho with ho | ho
    · exact does_move ho this
    · exact does_assign ho this
/-- .. of a constant, or of a slot that the region does not write. -/
theorem StepOk.moveC {t : Tmp} {x : Operand} (hw : Want ops k l o) (ho : o.op = .move x ∨ o.op = .assign x) (hd : o.dst = some t)
    (h : ∀ a w, C w → (∀ t, (dstsOf (preOf ops k)).elem t = false → slot a t = slot a0 t) → (lookF l t).holds (a.eval x) w) : StepOk P ops k C (fun t => (lookF l t).holds) a0 o :=
  StepOk.want hw fun a w hc hs hl => by
    have : (fun (v : Value) w' => Below w.heap.size w w' ∧ (∀ t, o.dst = some t → (lookF l t).holds v w') ∧ NewB o v w w') (a.eval x) w := ⟨Below.refl _ _, fun t' ht => by rw [hd] at ht; cases ht; exact h a w hc hs, .no fun T e => by rcases ho with ho | ho <;> (rw [ho] at e; cases e)⟩
    rcases ho with ho | ho
    · exact does_move ho this
    · exact does_assign ho this
theorem StepOk.pick {t : Tmp} {c x y : Operand} {b : Bool} (hw : Want ops k l o) (ho : o.op = .pick c x y) (hd : o.dst = some t)
    (h : ∀ a w, C w → (∀ t, (dstsOf (preOf ops k)).elem t = false → slot a t = slot a0 t) → (∀ t, (o.looksAt ops).elem t = true → (dstsOf (preOf ops k)).elem t = true → (lookF l t).holds (slot a t) w) →
      a.eval c = .bool b ∧ (lookF l t).holds (if b then a.eval x else a.eval y) w) : StepOk P ops k C (fun t => (lookF l t).holds) a0 o :=
  StepOk.want hw fun a w hc hs hl => does_pick ho (h a w hc hs hl).1 ⟨Below.refl _ _, fun t' ht => by rw [hd] at ht; cases ht; exact (h a w hc hs hl).2, .no fun T e => by rw [ho] at e; cases e⟩
theorem StepOk.alloc {t : Tmp} {T : TypeId} (z : Value) (hw : Want ops k l o) (ho : o.op = .alloc T) (hd : o.dst = some t)
    (h : ∀ (a : Act) w, C w → (execOp a.eval o).run P w = .ok (.value (.pointer (some ⟨w.heap.size, 0, none⟩))) (w.alloc (.cells z.cells T)) ∧ (lookF l t).holds (.pointer (some ⟨w.heap.size, 0, none⟩)) (w.alloc (.cells z.cells T))) : StepOk P ops k C (fun t => (lookF l t).holds) a0 o :=
  StepOk.want hw fun a w hc hs hl => by
    unfold Does
    rw [(h a w hc).1]
    exact ⟨(Below.refl _ _).alloc (Nat.le_refl _) _, fun t' ht => by rw [hd] at ht; cases ht; exact (h a w hc).2, fun _ _ => ⟨rfl, by simp⟩⟩
theorem StepOk.fieldAddr {t : Tmp} {T : TypeId} {x : Operand} {i : Nat} {v : Value} (hw : Want ops k l o) (ho : o.op = .fieldAddr T x i) (hd : o.dst = some t) (hf : lookF l t = .eq v)
    (h : ∀ a w, C w → (∀ t, (dstsOf (preOf ops k)).elem t = false → slot a t = slot a0 t) → (∀ t, (o.looksAt ops).elem t = true → (dstsOf (preOf ops k)).elem t = true → (lookF l t).holds (slot a t) w) →
      (Instr.fieldAt T (a.eval x) i).run P w = .ok v w) : StepOk P ops k C (fun t => (lookF l t).holds) a0 o :=
  StepOk.want hw fun a w hc hs hl => does_value (v := v) (by simp [execOp, ho, h a w hc hs hl]) ⟨Below.refl _ _, fun t' ht => by rw [hd] at ht; cases ht; rw [hf]; exact rfl, .no fun T e => by rw [ho] at e; cases e⟩
/-- An operation that reckons a value. -/
theorem StepOk.value {t : Tmp} {v : Value} (hw : Want ops k l o) (hna : ∀ T, o.op ≠ .alloc T) (hd : o.dst = some t) (hf : lookF l t = .eq v)
    (h : ∀ a w, C w → (∀ t, (dstsOf (preOf ops k)).elem t = false → slot a t = slot a0 t) → (∀ t, (o.looksAt ops).elem t = true → (dstsOf (preOf ops k)).elem t = true → (lookF l t).holds (slot a t) w) →
      (execOp a.eval o).run P w = .ok (.value v) w) : StepOk P ops k C (fun t => (lookF l t).holds) a0 o :=
  StepOk.want hw fun a w hc hs hl => does_value (h a w hc hs hl) ⟨Below.refl _ _, fun t' ht => by rw [hd] at ht; cases ht; rw [hf]; exact rfl, .no hna⟩
end
end Go.Proofs.YtfpnhggbfakdkaaDoor

/- The region by a list of facts, where it comes up as it stands. -/
set_option linter.unusedVariables false
set_option linter.unusedSimpArgs false
namespace Go.Proofs.YtfpnhggbfakdkaaDoor
open Go.RowKit
section
variable {P : Program} {ops : Array Oper} {k : Nat} {C : World → Prop} {l : List (Tmp × Fact)} {Q : Exit → Act → World → Prop}

end
end Go.Proofs.YtfpnhggbfakdkaaDoor

/- A region by a list of facts: what hangs on an operation that was passed over. -/
set_option linter.unusedVariables false
set_option linter.unusedSimpArgs false
namespace Go.Proofs.YtfpnhggbfakdkaaDoor
open Go.RowKit
section
variable {P : Program} {ops : Array Oper} {k : Nat} {C : World → Prop} {l : List (Tmp × Fact)} {Q : Exit → Act → World → Prop}

end
end Go.Proofs.YtfpnhggbfakdkaaDoor

/- A region by a list of facts: an operation that makes a value of which a fact is told. -/
set_option linter.unusedVariables false
set_option linter.unusedSimpArgs false
namespace Go.Proofs.YtfpnhggbfakdkaaDoor
open Go.RowKit
section
variable {P : Program} {ops : Array Oper} {k : Nat} {C : World → Prop} {l : List (Tmp × Fact)} {a0 : Act} {o : Oper}
theorem StepOk.make {t : Tmp} (hw : Want ops k l o) (hna : ∀ T, o.op ≠ .alloc T) (hd : o.dst = some t)
    (h : ∀ a w, C w → (∀ t, (dstsOf (preOf ops k)).elem t = false → slot a t = slot a0 t) → (∀ t, (o.looksAt ops).elem t = true → (dstsOf (preOf ops k)).elem t = true → (lookF l t).holds (slot a t) w) →
      ∃ v, (execOp a.eval o).run P w = .ok (.value v) w ∧ (lookF l t).holds v w) : StepOk P ops k C (fun t => (lookF l t).holds) a0 o :=
  StepOk.want hw fun a w hc hs hl => by
    obtain ⟨v, h1, h2⟩ := h a w hc hs hl
    exact does_value h1 ⟨Below.refl _ _, fun t' ht => by rw [hd] at ht; cases ht; exact h2, .no hna⟩
/-- .. and makes memory. -/
theorem StepOk.makeW {t : Tmp} (hw : Want ops k l o) (hna : ∀ T, o.op ≠ .alloc T) (hd : o.dst = some t)
    (h : ∀ a w, C w → (∀ t, (dstsOf (preOf ops k)).elem t = false → slot a t = slot a0 t) → (∀ t, (o.looksAt ops).elem t = true → (dstsOf (preOf ops k)).elem t = true → (lookF l t).holds (slot a t) w) →
      ∃ v w', (execOp a.eval o).run P w = .ok (.value v) w' ∧ Below w.heap.size w w' ∧ (lookF l t).holds v w') : StepOk P ops k C (fun t => (lookF l t).holds) a0 o :=
  StepOk.want hw fun a w hc hs hl => by
    obtain ⟨v, w', h1, hb, h2⟩ := h a w hc hs hl
    unfold Does
    rw [h1]
    exact ⟨hb, fun t' ht => by rw [hd] at ht; cases ht; exact h2, .no hna⟩
end
end Go.Proofs.YtfpnhggbfakdkaaDoor
