/- A region that draws its order: facts in a list, one operation at a time. -/
import Derived.Test.YtnpfochbpdfcmaaGreatDoorFree
set_option linter.unusedVariables false
set_option linter.unusedSimpArgs false
namespace Go.Proofs.YtnpfochbpdfcmaaGreatDoor
open Go.RowKit

/-- A fact on a value that stays when memory is made. -/
structure Fact where
  holds : Value → World → Prop
  stable : ∀ v w w', holds v w → Below w.heap.size w w' → holds v w'
def Fact.eq (c : Value) : Fact := ⟨fun v _ => v = c, fun _ _ _ h _ => h⟩
def Fact.any : Fact := ⟨fun _ _ => True, fun _ _ _ h _ => h⟩
def Fact.tup2 (f g : Fact) : Fact := ⟨fun v w => ∃ a b, v = .tuple #[a, b] ∧ f.holds a w ∧ g.holds b w, fun _ w w' ⟨a, b, h1, h2, h3⟩ hb => ⟨a, b, h1, f.stable _ w w' h2 hb, g.stable _ w w' h3 hb⟩⟩
def Fact.tup3 (f g h : Fact) : Fact := ⟨fun v w => ∃ a b c, v = .tuple #[a, b, c] ∧ f.holds a w ∧ g.holds b w ∧ h.holds c w, fun _ w w' ⟨a, b, c, h1, h2, h3, h4⟩ hb => ⟨a, b, c, h1, f.stable _ w w' h2 hb, g.stable _ w w' h3 hb, h.stable _ w w' h4 hb⟩⟩
def lookF : List (Tmp × Fact) → Tmp → Fact
  | [], _ => .any
  | x :: r, t => cond (Nat.beq x.1 t) x.2 (lookF r t)
def patch : List Bool → (Tmp → Value) → Nat → List Value → List Value
  | true :: ms, f, i, _ :: r => f i :: patch ms f (i + 1) r
  | false :: ms, f, i, v :: r => v :: patch ms f (i + 1) r
  | _, _, _, _ => []
theorem patch_get : ∀ (ms : List Bool) (f : Tmp → Value) (i : Nat) (l : List Value), ms.length = l.length → ∀ j, (patch ms f i l)[j]? = if ms[j]? = some true then some (f (i + j)) else l[j]?
  | [], f, i, [], _, j => by simp [patch]
  | true :: ms, f, i, v :: r, h, 0 => by simp [patch]
  | false :: ms, f, i, v :: r, h, 0 => by simp [patch]
  | true :: ms, f, i, v :: r, h, j + 1 => by
    simp only [patch, List.getElem?_cons_succ]
    rw [patch_get ms f (i + 1) r (by simpa using h) j, show i + 1 + j = i + (j + 1) from by omega]
  | false :: ms, f, i, v :: r, h, j + 1 => by
    simp only [patch, List.getElem?_cons_succ]
    rw [patch_get ms f (i + 1) r (by simpa using h) j, show i + 1 + j = i + (j + 1) from by omega]
def maskOf (ops : Array Oper) (k n : Nat) : List Bool := (List.range n).map fun t => (dstsOf (preOf ops k)).elem t

section
variable {P : Program} {ops : Array Oper} {k : Nat} {C : World → Prop} {l : List (Tmp × Fact)} {a0 : Act} {Q : Exit → Act → World → Prop} {o : Oper}

def StepsOk (P : Program) (ops : Array Oper) (k : Nat) (C : World → Prop) (l : List (Tmp × Fact)) (a0 : Act) : List Oper → Prop
  | [] => True
  | o :: r => StepOk P ops k C (fun t => (lookF l t).holds) a0 o ∧ StepsOk P ops k C l a0 r
theorem StepsOk.get {os : List Oper} (h : StepsOk P ops k C l a0 os) : ∀ o ∈ os, StepOk P ops k C (fun t => (lookF l t).holds) a0 o := by
  induction os with
  | nil => intro o hm; cases hm
  | cons x r ih =>
    intro o hm
    have h1 : StepOk P ops k C (fun t => (lookF l t).holds) a0 x ∧ StepsOk P ops k C l a0 r := h
    rcases List.mem_cons.1 hm with e | hm
    · rw [e]; exact h1.1
    · exact ih h1.2 o hm

/-- **The region by a list of facts.** -/
theorem wp_region_facts {id : Nat} {w : World} {l0 : List Value} {d0 : List Deferred} (k : Nat) (C : World → Prop) (l : List (Tmp × Fact)) (ms : List Bool) (hm : P.follows .mixedOrders = true) (hB : freeB ops k = true) (hms : maskOf ops k l0.length = ms)
    (hin : (dstsOf (preOf ops k)).all (fun t => Nat.blt t l0.length) = true)
    (hC : ∀ w w', C w → Below w.heap.size w w' → C w') (h0 : C w.drew)
    (hstep : StepsOk P ops k C l ⟨l0.toArray, d0⟩ (ops.toList.take k))
    (hQ : ∀ (f : Tmp → Value) w, C w → (∀ t, (dstsOf (preOf ops k)).elem t = true → (lookF l t).holds (f t) w) → NewA ops k f → wpList P ops Q (ops.toList.drop k) ⟨(patch ms f 0 l0).toArray, d0⟩ w) :
    (Code.region id ops true).wp P Q ⟨l0.toArray, d0⟩ w := by
  refine wp_region_free (C := C) (G := fun t => (lookF l t).holds) hm hB (fun t ht => ?_) hC (fun t _ v w w' h hb => (lookF l t).stable v w w' h hb) h0
    (fun i o hik hi => hstep.get o (List.mem_iff_getElem?.2 ⟨i, by rw [List.getElem?_take, if_pos hik, Array.getElem?_toList]; exact hi⟩)) fun a w hc hs hz hd hf hnew => ?_
  · have := List.all_eq_true.1 hin t ht
    simpa [Nat.blt_eq] using this
  · have e : a = ⟨(patch ms (slot a) 0 l0).toArray, d0⟩ := by
      obtain ⟨tm, df⟩ := a
      simp only at hd hz
      subst hd
      have hlen : ms.length = l0.length := by rw [← hms, maskOf, List.length_map, List.length_range]
      congr 1
      apply Array.ext'
      apply List.ext_getElem?
      intro j
      show _ = (patch ms (slot ⟨tm, _⟩) 0 l0)[j]?
      rw [patch_get ms _ 0 l0 hlen j, Nat.zero_add, Array.getElem?_toList]
      have hsz : tm.size = l0.length := by simpa using hz
      by_cases hj : j < l0.length
      · have hmj : ms[j]? = some ((dstsOf (preOf ops k)).elem j) := by
          rw [← hms, maskOf, List.getElem?_map, List.getElem?_range hj]; rfl
        rw [hmj]
        have hjt : j < tm.size := by omega
        cases hdj : (dstsOf (preOf ops k)).elem j
        · rw [if_neg (by simp)]
          have := hs j (fun q => by rw [List.elem_eq_mem] at hdj; simp at hdj; exact hdj q)
          simp only [slot, Array.getD_eq_getD_getElem?, Array.getElem?_eq_getElem hjt, Option.getD_some, List.getElem?_toArray, List.getElem?_eq_getElem hj] at this
          rw [Array.getElem?_eq_getElem hjt, List.getElem?_eq_getElem hj, this]
        · rw [if_pos rfl]
          simp [slot, hjt]
      · have hmj : ms[j]? = none := List.getElem?_eq_none (by omega)
        rw [hmj, if_neg (by simp), Array.getElem?_eq_none (by omega), List.getElem?_eq_none (by omega)]
    rw [e]
    exact hQ (slot a) w hc (fun t ht => hf t (by rw [List.elem_eq_mem] at ht; simpa using ht)) hnew

/-- The operation is carried out: it has no guard, or its guard's slot holds what it asks. -/
def Want (ops : Array Oper) (k : Nat) (l : List (Tmp × Fact)) (o : Oper) : Prop := o.guard = none ∨ ∃ g b t, g < k ∧ o.guard = some (g, b) ∧ ((ops[g]?).bind (·.dst)) = some t ∧ lookF l t = .eq (.bool b)
/-- It is passed over. -/
def Skip (ops : Array Oper) (k : Nat) (l : List (Tmp × Fact)) (o : Oper) : Prop := ∃ g b t, g < k ∧ o.guard = some (g, !b) ∧ ((ops[g]?).bind (·.dst)) = some t ∧ lookF l t = .eq (.bool b)
theorem yielded_of {a : Act} {g : Nat} {b : Bool} {t : Tmp} (h : ((ops[g]?).bind (·.dst)) = some t) (hs : slot a t = .bool b) : yielded ops a.tmps g = some b := by
  unfold yielded
  rw [h]
  unfold slot at hs
  rw [Array.getD_eq_getD_getElem?] at hs
  cases q : a.tmps[t]? with
  | none => rw [q] at hs; simp [undef] at hs
  | some v => rw [q] at hs; simp at hs; subst hs; simp [q]
theorem looks_guard {g : Nat} {b : Bool} {t : Tmp} (hgk : g < k) (hg : o.guard = some (g, b)) (h : ((ops[g]?).bind (·.dst)) = some t) : t ∈ o.looksAt ops ∧ t ∈ dstsOf (preOf ops k) := by
  constructor
  · unfold Oper.looksAt
    rw [hg]
    exact List.mem_append_right _ (by simp [h])
  · cases q : ops[g]? with
    | none => rw [q] at h; cases h
    | some o' => rw [q] at h; exact mem_pre.2 ⟨g, o', hgk, q, h⟩
theorem StepOk.want (hw : Want ops k l o) (h : ∀ a w, C w → (∀ t, (dstsOf (preOf ops k)).elem t = false → slot a t = slot a0 t) → (∀ t, (o.looksAt ops).elem t = true → (dstsOf (preOf ops k)).elem t = true → (lookF l t).holds (slot a t) w) →
    Does P o a w (fun v w' => Below w.heap.size w w' ∧ (∀ t, o.dst = some t → (lookF l t).holds v w') ∧ NewB o v w w')) : StepOk P ops k C (fun t => (lookF l t).holds) a0 o := by
  intro a w hc hs hl
  have hwant : Region.wanted o (yielded ops a.tmps) = true := by
    unfold Region.wanted
    rcases hw with hg | ⟨g, b, t, hgk, hg, hd, hf⟩
    · rw [hg]
    · obtain ⟨m1, m2⟩ := looks_guard hgk hg hd
      have hv := hl t m1 m2
      simp only [hf] at hv
      simp only [hg]
      rw [yielded_of hd hv]
      simp
  rw [if_pos hwant]
  exact h a w hc (fun t ht => hs t (fun q => by rw [List.elem_eq_mem] at ht; simp at ht; exact ht q)) (fun t h1 h2 => hl t (by rw [List.elem_eq_mem] at h1; simpa using h1) (by rw [List.elem_eq_mem] at h2; simpa using h2))
theorem StepOk.skip (hw : Skip ops k l o) (h : ∀ t, o.dst = some t → lookF l t = .eq undef ∨ lookF l t = .any) : StepOk P ops k C (fun t => (lookF l t).holds) a0 o := by
  intro a w hc hs hl
  obtain ⟨g, b, t, hgk, hg, hd, hf⟩ := hw
  have hwant : Region.wanted o (yielded ops a.tmps) = false := by
    unfold Region.wanted
    obtain ⟨m1, m2⟩ := looks_guard hgk hg hd
    have hv := hl t m1 m2
    simp only [hf] at hv
    simp only [hg]
    rw [yielded_of hd hv]
    cases b <;> rfl
  rw [if_neg (by rw [hwant]; decide)]
  intro t ht
  rcases h t ht with e | e <;> simp only [e]
  · rfl
  · trivial

/-! ### the operations -/
theorem does_value {a : Act} {w : World} {R : Value → World → Prop} {v : Value} (hr : (execOp a.eval o).run P w = .ok (.value v) w) (h : R v w) : Does P o a w R := by
  unfold Does
  rw [hr]
  exact h
theorem does_move {a : Act} {w : World} {R : Value → World → Prop} {x : Operand} (ho : o.op = .move x) (h : R (a.eval x) w) : Does P o a w R := does_value (by simp [execOp, ho]) h
theorem does_assign {a : Act} {w : World} {R : Value → World → Prop} {x : Operand} (ho : o.op = .assign x) (h : R (a.eval x) w) : Does P o a w R := does_value (by simp [execOp, ho]) h
theorem does_pick {a : Act} {w : World} {R : Value → World → Prop} {c x y : Operand} {b : Bool} (ho : o.op = .pick c x y) (hc : a.eval c = .bool b) (h : R (if b then a.eval x else a.eval y) w) : Does P o a w R :=
  does_value (v := if b then a.eval x else a.eval y) (by simp [execOp, ho, hc, asBool]) h
theorem does_load {a : Act} {w : World} {R : Value → World → Prop} {T : TypeId} {x : Operand} {v : Value} (ho : o.op = .load T x) (hr : (Instr.loadAt T (a.eval x)).run P w = .ok v w) (h : R v w) : Does P o a w R :=
  does_value (v := v) (by simp [execOp, ho, hr]) h
theorem does_call {a : Act} {w : World} {R : Value → World → Prop} {f : FuncId} {xs : List Operand} {ts : Array TypeId} (ho : o.op = .call { callee := .value (.func f), args := xs.toArray, argTypes := ts })
    (hf : ∀ args w, (callFunc f args).run P w = .ok (.enter f args) w) (h : Calls P f (xs.map a.eval).toArray w (fun e w' => ∃ v, e = .returned v ∧ R v w')) : Does P o a w R := by
  unfold Does
  have : (execOp a.eval o).run P w = .ok (.enter f (xs.map a.eval).toArray) w := by
    simp [execOp, ho, resolve, Act.eval, Deferred.ofValue, invoke, hf]
  rw [this]
  exact h
theorem StepOk.call {t : Tmp} {f : FuncId} {xs : List Operand} {ts : Array TypeId} (hw : Want ops k l o) (ho : o.op = .call { callee := .value (.func f), args := xs.toArray, argTypes := ts }) (hd : o.dst = some t)
    (hf : ∀ args w, (callFunc f args).run P w = .ok (.enter f args) w)
    (h : ∀ a w, C w → (∀ t, (dstsOf (preOf ops k)).elem t = false → slot a t = slot a0 t) → (∀ t, (o.looksAt ops).elem t = true → (dstsOf (preOf ops k)).elem t = true → (lookF l t).holds (slot a t) w) →
      Calls P f (xs.map a.eval).toArray w (fun e w' => ∃ v, e = .returned v ∧ Below w.heap.size w w' ∧ (lookF l t).holds v w')) : StepOk P ops k C (fun t => (lookF l t).holds) a0 o :=
  StepOk.want hw fun a w hc hs hl => does_call ho hf ((h a w hc hs hl).mono fun e w' ⟨v, he, hb, hr⟩ => ⟨v, he, hb, fun t' ht => by rw [hd] at ht; cases ht; exact hr, .no fun T e => by rw [ho] at e; cases e⟩)
theorem StepOk.load {t : Tmp} {T : TypeId} {x : Operand} (v : Value) (hw : Want ops k l o) (ho : o.op = .load T x) (hd : o.dst = some t)
    (h : ∀ a w, C w → (∀ t, (dstsOf (preOf ops k)).elem t = false → slot a t = slot a0 t) → (∀ t, (o.looksAt ops).elem t = true → (dstsOf (preOf ops k)).elem t = true → (lookF l t).holds (slot a t) w) →
      (Instr.loadAt T (a.eval x)).run P w = .ok v w ∧ (lookF l t).holds v w) : StepOk P ops k C (fun t => (lookF l t).holds) a0 o :=
  StepOk.want hw fun a w hc hs hl => does_load ho (h a w hc hs hl).1 ⟨Below.refl _ _, fun t' ht => by rw [hd] at ht; cases ht; exact (h a w hc hs hl).2, .no fun T e => by rw [ho] at e; cases e⟩
theorem StepOk.move {t s : Tmp} (hw : Want ops k l o) (ho : o.op = .move (.tmp s) ∨ o.op = .assign (.tmp s)) (hd : o.dst = some t) (h1 : (o.looksAt ops).elem s = true) (h2 : (dstsOf (preOf ops k)).elem s = true) (hf : lookF l t = lookF l s) : StepOk P ops k C (fun t => (lookF l t).holds) a0 o :=
  StepOk.want hw fun a w hc hs hl => by
    have : (fun (v : Value) w' => Below w.heap.size w w' ∧ (∀ t, o.dst = some t → (lookF l t).holds v w') ∧ NewB o v w w') (slot a s) w := ⟨Below.refl _ _, fun t' ht => by rw [hd] at ht; cases ht; rw [hf]; exact hl s h1 h2, .no fun T e => by rcases ho with ho | ho <;> (rw [ho] at e; cases e)⟩
    rcases ho with ho | ho
    · exact does_move ho this
    · exact does_assign ho this
/-- .. of a constant, or of a slot that the region does not write. -/
theorem StepOk.moveC {t : Tmp} {x : Operand} (hw : Want ops k l o) (ho : o.op = .move x ∨ o.op = .assign x) (hd : o.dst = some t)
    (h : ∀ a w, C w → (∀ t, (dstsOf (preOf ops k)).elem t = false → slot a t = slot a0 t) → (lookF l t).holds (a.eval x) w) : StepOk P ops k C (fun t => (lookF l t).holds) a0 o :=
  StepOk.want hw fun a w hc hs hl => by
    have : (fun (v : Value) w' => Below w.heap.size w w' ∧ (∀ t, o.dst = some t → (lookF l t).holds v w') ∧ NewB o v w w') (a.eval x) w := ⟨Below.refl _ _, fun t' ht => by rw [hd] at ht; cases ht; exact h a w hc hs, .no fun T e => by rcases ho with ho | ho <;> (rw [ho] at e; cases e)⟩
    rcases ho with ho | ho
    · exact does_move ho this
    · exact does_assign ho this
theorem StepOk.pick {t : Tmp} {c x y : Operand} {b : Bool} (hw : Want ops k l o) (ho : o.op = .pick c x y) (hd : o.dst = some t)
    (h : ∀ a w, C w → (∀ t, (dstsOf (preOf ops k)).elem t = false → slot a t = slot a0 t) → (∀ t, (o.looksAt ops).elem t = true → (dstsOf (preOf ops k)).elem t = true → (lookF l t).holds (slot a t) w) →
      a.eval c = .bool b ∧ (lookF l t).holds (if b then a.eval x else a.eval y) w) : StepOk P ops k C (fun t => (lookF l t).holds) a0 o :=
  StepOk.want hw fun a w hc hs hl => does_pick ho (h a w hc hs hl).1 ⟨Below.refl _ _, fun t' ht => by rw [hd] at ht; cases ht; exact (h a w hc hs hl).2, .no fun T e => by rw [ho] at e; cases e⟩
theorem StepOk.alloc {t : Tmp} {T : TypeId} (z : Value) (hw : Want ops k l o) (ho : o.op = .alloc T) (hd : o.dst = some t)
    (h : ∀ (a : Act) w, C w → (execOp a.eval o).run P w = .ok (.value (.pointer (some ⟨w.heap.size, 0, none⟩))) (w.alloc (.cells z.cells T)) ∧ (lookF l t).holds (.pointer (some ⟨w.heap.size, 0, none⟩)) (w.alloc (.cells z.cells T))) : StepOk P ops k C (fun t => (lookF l t).holds) a0 o :=
  StepOk.want hw fun a w hc hs hl => by
    unfold Does
    rw [(h a w hc).1]
    exact ⟨(Below.refl _ _).alloc (Nat.le_refl _) _, fun t' ht => by rw [hd] at ht; cases ht; exact (h a w hc).2, fun _ _ => ⟨rfl, by simp⟩⟩
theorem StepOk.fieldAddr {t : Tmp} {T : TypeId} {x : Operand} {i : Nat} {v : Value} (hw : Want ops k l o) (ho : o.op = .fieldAddr T x i) (hd : o.dst = some t) (hf : lookF l t = .eq v)
    (h : ∀ a w, C w → (∀ t, (dstsOf (preOf ops k)).elem t = false → slot a t = slot a0 t) → (∀ t, (o.looksAt ops).elem t = true → (dstsOf (preOf ops k)).elem t = true → (lookF l t).holds (slot a t) w) →
      (Instr.fieldAt T (a.eval x) i).run P w = .ok v w) : StepOk P ops k C (fun t => (lookF l t).holds) a0 o :=
  StepOk.want hw fun a w hc hs hl => does_value (v := v) (by simp [execOp, ho, h a w hc hs hl]) ⟨Below.refl _ _, fun t' ht => by rw [hd] at ht; cases ht; rw [hf]; exact rfl, .no fun T e => by rw [ho] at e; cases e⟩
/-- An operation that reckons a value. -/
theorem StepOk.value {t : Tmp} {v : Value} (hw : Want ops k l o) (hna : ∀ T, o.op ≠ .alloc T) (hd : o.dst = some t) (hf : lookF l t = .eq v)
    (h : ∀ a w, C w → (∀ t, (dstsOf (preOf ops k)).elem t = false → slot a t = slot a0 t) → (∀ t, (o.looksAt ops).elem t = true → (dstsOf (preOf ops k)).elem t = true → (lookF l t).holds (slot a t) w) →
      (execOp a.eval o).run P w = .ok (.value v) w) : StepOk P ops k C (fun t => (lookF l t).holds) a0 o :=
  StepOk.want hw fun a w hc hs hl => does_value (h a w hc hs hl) ⟨Below.refl _ _, fun t' ht => by rw [hd] at ht; cases ht; rw [hf]; exact rfl, .no hna⟩
end
end Go.Proofs.YtnpfochbpdfcmaaGreatDoor
