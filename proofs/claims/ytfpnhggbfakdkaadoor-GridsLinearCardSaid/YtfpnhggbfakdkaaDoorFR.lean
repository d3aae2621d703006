/- Regions that draw, and write; inside rounds of a range over a function. -/
import Derived.Test.YtfpnhggbfakdkaaDoorKB
import Derived.RangeFuncKeeps
import Derived.RangeFuncCalls
import Derived.OrdersIn
import Derived.TacticsIn
/- A region that draws its order and writes into one variable that it makes: facts that outlive the write. -/
set_option linter.unusedVariables false
set_option linter.unusedSimpArgs false
set_option maxRecDepth 100000
namespace Go.Proofs.YtfpnhggbfakdkaaDoor.RR
open Go.RowKit

/-- Memory below B stays, numbers stay, and each block keeps its kind. -/
structure Keep (B : Nat) (w w' : World) : Prop where
  base : Below B w w'
  size : w.heap.size ≤ w'.heap.size
  nums : ∀ b cs, Blk w b T32 cs → Blk w' b T32 cs
  kind : ∀ b t cs, Blk w b t cs → ∃ cs', Blk w' b t cs' ∧ cs'.size = cs.size
theorem Keep.of_below {B : Nat} {w w' : World} (h : Below w.heap.size w w') (hB : B ≤ w.heap.size) : Keep B w w' :=
  ⟨h.mono hB, h.size, fun _ _ k => k.below' h, fun _ _ cs k => ⟨cs, k.below' h, rfl⟩⟩
theorem NatR.keep {N B' B : Nat} {w w' : World} {v : Value} (h : NatR N B' w v) (k : Keep B w w') : NatR N B' w' v := by
  obtain ⟨A, c, e, r, f, l⟩ := h
  rcases f with f | ⟨g', cs', e1, hB, hk, hc⟩
  · have h0 : (limbs N).length = 0 := by omega
    have hN : limbs N = [] := List.eq_nil_of_length_eq_zero h0
    exact ⟨A, c, e, by rw [hN]; exact Rdk.nil _ _ _, .inl f, l⟩
  · subst e1
    have hk' := k.nums _ _ hk
    refine ⟨_, c, e, ⟨r.1, r.2.1, fun hn => ?_⟩, .inr ⟨g', cs', rfl, hB, hk', hc⟩, l⟩
    obtain ⟨ad, e2, hl, hcl⟩ := r.2.2 hn
    cases e2
    refine ⟨_, rfl, hk'.lt, fun j hj => ?_⟩
    have := hcl j hj
    rw [add0, hk.cell] at this
    rw [add0, hk'.cell]
    exact this
theorem IntR.keep {z : Int} {B' B : Nat} {w w' : World} {v : Value} (h : IntR z B' w v) (k : Keep B w w') : IntR z B' w' v := by
  obtain ⟨u, e, h1⟩ := h
  exact ⟨u, e, NatR.keep h1 k⟩
theorem RatR.keep {q : Rat} {B' B : Nat} {w w' : World} {v : Value} (h : RatR q B' w v) (k : Keep B w w') : RatR q B' w' v := by
  obtain ⟨u, d, e, h1, h2, h3⟩ := h
  exact ⟨u, d, e, NatR.keep h1 k, NatR.keep h2 k, h3⟩
/-- A fact on a value that stays. -/
structure Fact (B : Nat) where
  holds : Value → World → Prop
  stable : ∀ v w w', holds v w → Keep B w w' → holds v w'
section
variable {B : Nat}
def Fact.eq (c : Value) : Fact B := ⟨fun v _ => v = c, fun _ _ _ h _ => h⟩
def Fact.any : Fact B := ⟨fun _ _ => True, fun _ _ _ h _ => h⟩
def Fact.rat0 (w : World) (q : Rat) : Fact B := ⟨fun v _ => RCan w v q, fun _ _ _ h _ => h⟩
def Fact.rarg0 (w : World) (q : Rat) : Fact B := ⟨fun v _ => RArg w v q, fun _ _ _ h _ => h⟩
def Fact.int0 (w : World) (z : Int) : Fact B := ⟨fun v _ => ICan w v z, fun _ _ _ h _ => h⟩
def Fact.ratR (q : Rat) (B' : Nat) : Fact B := ⟨fun v w => RatR q B' w v, fun _ _ _ h k => RatR.keep h k⟩
def Fact.intR (z : Int) (B' : Nat) : Fact B := ⟨fun v w => IntR z B' w v, fun _ _ _ h k => IntR.keep h k⟩
def Fact.var (t : TypeId) (n : Nat) : Fact B := ⟨fun v w => ∃ g cs, v = .pointer (some ⟨g, 0, none⟩) ∧ B ≤ g ∧ Blk w g t cs ∧ cs.size = n, fun _ w w' ⟨g, cs, e, hg, hb, hs⟩ k => by
  obtain ⟨cs', h1, h2⟩ := k.kind _ _ _ hb
  exact ⟨g, cs', e, hg, h1, h2.trans hs⟩⟩
def Fact.tupE (f : Fact B) (c : Value) : Fact B := ⟨fun v w => ∃ u, v = .tuple #[u, c] ∧ f.holds u w, fun _ w w' ⟨u, h1, h2⟩ hb => ⟨u, h1, f.stable _ w w' h2 hb⟩⟩
def lookF : List (Tmp × Fact B) → Tmp → Fact B
  | [], _ => .any
  | x :: r, t => cond (Nat.beq x.1 t) x.2 (lookF r t)
end
section
variable {P : Program} {ops : Array Oper} {k : Nat} {V : World} {G : Tmp → Value → World → Prop} {E : (Tmp → Value) → World → Prop} {a0 : Act} {Q : Exit → Act → World → Prop}
/-- What is asked of an operation that yields a value. -/
def StepS (P : Program) (ops : Array Oper) (k : Nat) (V : World) (G : Tmp → Value → World → Prop) (a0 : Act) (o : Oper) : Prop :=
  ∀ a w, Below V.heap.size V w → (∀ t, t ∉ dstsOf (preOf ops k) → slot a t = slot a0 t) → (∀ t ∈ o.looksAt ops, t ∈ dstsOf (preOf ops k) → G t (slot a t) w) →
    if Region.wanted o (yielded ops a.tmps) then Does P o a w (fun v w' => Below w.heap.size w w' ∧ (∀ t, o.dst = some t → G t v w') ∧ NewB o v w w')
    else ∀ t, o.dst = some t → G t undef w
/-- .. of the one that writes. -/
def StepN (P : Program) (ops : Array Oper) (k : Nat) (V : World) (G : Tmp → Value → World → Prop) (E : (Tmp → Value) → World → Prop) (a0 : Act) (o : Oper) : Prop :=
  o.guard = none ∧ (∀ T, o.op ≠ .alloc T) ∧ ∀ a w, Below V.heap.size V w → (∀ t, t ∉ dstsOf (preOf ops k) → slot a t = slot a0 t) → (∀ t ∈ o.looksAt ops, t ∈ dstsOf (preOf ops k) → G t (slot a t) w) →
    Does P o a w (fun v w' => Keep V.heap.size w w' ∧ E (slot a) w')
def StepOk (P : Program) (ops : Array Oper) (k : Nat) (V : World) (G : Tmp → Value → World → Prop) (E : (Tmp → Value) → World → Prop) (a0 : Act) (o : Oper) : Prop :=
  (o.dst.isSome = true ∧ StepS P ops k V G a0 o) ∨ (o.dst = none ∧ StepN P ops k V G E a0 o)
/-- What holds on the way: of the operations that have come up each one's fact; all else is as it was. -/
structure FreeInv (ops : Array Oper) (k : Nat) (V : World) (G : Tmp → Value → World → Prop) (E : (Tmp → Value) → World → Prop) (a0 : Act) (listed : Array Bool) (a : Act) (w : World) : Prop where
  cls : Below V.heap.size V w
  same : ∀ t, t ∉ dstsOf (preOf ops k) → slot a t = slot a0 t
  size : a.tmps.size = a0.tmps.size
  defs : a.defers = a0.defers
  done : ∀ (j : Nat) o t, j < k → ops[j]? = some o → listed.getD j false = true → o.dst = some t → G t (slot a t) w
  len : listed.size = ops.size
  closed : ∀ (j : Nat) o, ops[j]? = some o → listed.getD j false = true → ∀ e ∈ o.after, Region.binds .any e = true → listed.getD e.on false = true
  late : ∀ j, k ≤ j → listed.getD j false = false
  old : ∀ (j : Nat) o t T, j < k → ops[j]? = some o → listed.getD j false = true → o.dst = some t → o.op = .alloc T → o.guard = none → ∃ g, slot a t = .pointer (some ⟨g, 0, none⟩) ∧ g < w.heap.size
  new : ∀ (j j' : Nat) o o' t t' T T', j < k → j' < k → j ≠ j' → ops[j]? = some o → ops[j']? = some o' → listed.getD j false = true → listed.getD j' false = true → o.dst = some t → o'.dst = some t' → o.op = .alloc T → o'.op = .alloc T' → o.guard = none → o'.guard = none → slot a t ≠ slot a t'
  did : ∀ (j : Nat) o, j < k → ops[j]? = some o → listed.getD j false = true → o.dst = none → E (slot a) w
theorem wpAny_free (hB : freeB ops k = true) (hin : ∀ t ∈ dstsOf (preOf ops k), t < a0.tmps.size) (hG : ∀ t ∈ dstsOf (preOf ops k), ∀ v w w', G t v w → Keep V.heap.size w w' → G t v w')
    (hstep : ∀ (i : Nat) o, i < k → ops[i]? = some o → StepOk P ops k V G E a0 o)
    (hone : ∀ (j j' : Nat) o o', j < k → j' < k → ops[j]? = some o → ops[j']? = some o' → o.dst = none → o'.dst = none → j = j')
    (hE : ∀ (j : Nat) o, j < k → ops[j]? = some o → o.dst = none → ∀ s s' w w', E s w → (∀ t, t ∈ o.looksAt ops → t ∈ dstsOf (preOf ops k) → s t = s' t) → Below w.heap.size w w' → E s' w')
    (hQ : ∀ a w, Below V.heap.size V w → (∀ t, t ∉ dstsOf (preOf ops k) → slot a t = slot a0 t) → a.tmps.size = a0.tmps.size → a.defers = a0.defers → (∀ t ∈ dstsOf (preOf ops k), G t (slot a t) w) → NewA ops k (slot a) → (∀ (j : Nat) o, j < k → ops[j]? = some o → o.dst = none → E (slot a) w) → wpList P ops Q (ops.toList.drop k) a w) :
    ∀ (fuel : Nat) (listed : Array Bool) (a : Act) (w : World), listed.count false ≤ fuel → FreeInv ops k V G E a0 listed a w → wpAny P .any ops Q fuel listed a w := by
  have hks := (freeB_parts hB).1
  have fin : ∀ (fuel : Nat) (listed : Array Bool) (a : Act) (w : World), listed.count false ≤ fuel → (∀ j, j < k → listed.getD j false = true) → FreeInv ops k V G E a0 listed a w → wpAny P .any ops Q fuel listed a w := by
    intro fuel listed a w hc hall I
    refine wpAny_tail hB fuel k listed a w (Nat.le_refl _) ?_ I.len (fun j h1 _ => hall j h1) I.late (hQ a w I.cls I.same I.size I.defs (fun t ht => ?_) (fun j j' o o' t t' T T' h1 h2 h3 h4 h5 => I.new j j' o o' t t' T T' h1 h2 h3 h4 h5 (hall j h1) (hall j' h2)) (fun j o h1 h2 h3 => I.did j o h1 h2 (hall j h1) h3))
    · have hcount : ops.size - k ≤ listed.count false := by
        have : (listed.toList.drop k).count false ≤ listed.toList.count false := List.Sublist.count_le _ (List.drop_sublist _ _)
        have e1 : listed.toList.count false = listed.count false := Array.count_toList ..
        rw [e1] at this
        refine Nat.le_trans ?_ this
        have hall2 : ∀ b ∈ listed.toList.drop k, false = b := by
          intro b hb
          obtain ⟨j, hj⟩ := List.mem_iff_getElem?.1 hb
          rw [List.getElem?_drop, Array.getElem?_toList] at hj
          have := I.late (k + j) (by omega)
          rw [Array.getD_eq_getD_getElem?, hj] at this
          simpa using this.symm
        rw [List.count_eq_length.2 hall2, List.length_drop, Array.length_toList, I.len]
        exact Nat.le_refl _
      omega
    · obtain ⟨j, o, h0, h1, h2⟩ := mem_pre.1 ht
      exact I.done j o t h0 h1 (hall j h0) h2
  intro fuel
  induction fuel with
  | zero =>
    intro listed a w hc I
    refine fin 0 listed a w hc (fun j hj => ?_) I
    have h0 : listed.count false = 0 := by omega
    rw [Array.count_eq_zero] at h0
    have h1 : j < listed.size := by have := I.len; omega
    have : listed[j] ≠ false := fun e => h0 (by rw [← e]; exact Array.getElem_mem h1)
    simp only [Array.getD_eq_getD_getElem?, Array.getElem?_eq_getElem h1, Option.getD_some]
    simpa using this
  | succ fuel ih =>
    intro listed a w hc I
    by_cases hpre : ∀ j ∈ Region.ready .any ops listed, k ≤ j
    · exact fin (fuel + 1) listed a w hc (pre_listed hB I.len hpre) I
    -- something of the first part may come up still: then nothing of the rest may
    have hall : ∀ i ∈ Region.ready .any ops listed, i < k := by
      intro i hi
      refine Decidable.byContradiction fun hik => hpre fun j hj => ?_
      refine Decidable.byContradiction fun hjk => ?_
      obtain ⟨_, o, ho, h3⟩ := mem_ready.1 hi
      obtain ⟨h1, o', ho', _⟩ := mem_ready.1 hj
      have hjl := (Array.getElem?_eq_some_iff.1 ho').1
      have := listed_before listed I.closed i o ho h3 (freeB_tail hB (by omega) ho (by omega : j < i))
      have h4 : j < listed.size := by have := I.len; omega
      simp only [Array.getD_eq_getD_getElem?, Array.getElem?_eq_getElem h4, Option.getD_some] at h1 this
      rw [h1] at this
      cases this
    refine ⟨fun hr => absurd (fun j hj => by rw [hr] at hj; cases hj) hpre, fun i hi => ?_⟩
    have hik := hall i hi
    obtain ⟨hun, o, ho, hdeps⟩ := mem_ready.1 hi
    have hil : i < listed.size := by have := (Array.getElem?_eq_some_iff.1 ho).1; have := I.len; omega
    have hcount : (listed.setIfInBounds i true).count false ≤ fuel := by
      have hv : listed[i] = false := by
        simp only [Array.getD_eq_getD_getElem?, Array.getElem?_eq_getElem hil, Option.getD_some] at hun
        exact hun
      rw [Array.setIfInBounds, dif_pos hil, Array.count_set hil, hv]
      have : 0 < listed.count false := Array.count_pos_iff.2 (by rw [← hv]; exact Array.getElem_mem hil)
      simp
      omega
    have hlooks : ∀ t ∈ o.looksAt ops, t ∈ dstsOf (preOf ops k) → G t (slot a t) w := fun t ht hd => by
      obtain ⟨j, o', hj0, hj, hd'⟩ := mem_pre.1 hd
      exact I.done j o' t hj0 hj (listed_before listed I.closed i o ho hdeps (freeB_waits hB hik hj0 ho hj ht hd')) hd'
    have hs := hstep i o hik ho
    have next : ∀ v w', Keep V.heap.size w w' → (o.dst.isSome = true → Below w.heap.size w w') → (o.dst = none → E (slot a) w') → (∀ t, o.dst = some t → G t v w') → (o.guard = none → NewB o v w w') → FreeInv ops k V G E a0 (listed.setIfInBounds i true) (a.put o.dst v) w' := fun v w' hb hbl hEn hg hnew => by
      refine ⟨I.cls.trans hb.base, fun t ht => ?_, ?_, ?_, fun j o' t hj0 hj hlj hd => ?_, by rw [Array.size_setIfInBounds]; exact I.len, fun j o' hj hlj e he hbd => ?_, fun j hj => by rw [getD_set_ne false (by omega)]; exact I.late j hj, fun j o' t T hj0 hj hlj hd hop hgn => ?_, fun j j' o1 o2 t t' T T' h1 h2 h3 h4 h5 h6 h7 h8 h9 h10 h11 h12 h13 => ?_, fun j o' h1 h2 h3 h4 => ?_⟩
      · rw [slot_put]
        · exact I.same t ht
        · intro e; exact ht (mem_pre.2 ⟨i, o, hik, ho, e⟩)
      · rw [← I.size]; unfold Act.put; split <;> simp
      · rw [← I.defs]; unfold Act.put; split <;> rfl
      · by_cases hij : j = i
        · subst hij
          rw [ho] at hj
          cases hj
          rw [hd, slot_put_same a v t (by rw [I.size]; exact hin t (mem_pre.2 ⟨j, o, hik, ho, hd⟩))]
          exact hg t hd
        · rw [slot_put _ _ _ _ (fun e => hij (freeB_nodup hB hj0 hik hj ho hd e))]
          refine hG t (mem_pre.2 ⟨j, o', hj0, hj, hd⟩) _ _ _ (I.done j o' t hj0 hj ?_ hd) hb
          rwa [getD_set_ne false (Ne.symm hij)] at hlj
      · by_cases hij : j = i
        · subst hij
          rw [ho] at hj
          cases hj
          exact getD_set_true (hdeps e he hbd)
        · rw [getD_set_ne false (Ne.symm hij)] at hlj
          exact getD_set_true (I.closed j o' hj hlj e he hbd)
      · by_cases hij : j = i
        · subst hij
          rw [ho] at hj
          cases hj
          obtain ⟨e1, e2⟩ := hnew hgn T hop
          refine ⟨_, ?_, e2⟩
          rw [hd, slot_put_same a v t (by rw [I.size]; exact hin t (mem_pre.2 ⟨j, o, hik, ho, hd⟩)), e1]
        · rw [slot_put _ _ _ _ (fun e => hij (freeB_nodup hB hj0 hik hj ho hd e))]
          rw [getD_set_ne false (Ne.symm hij)] at hlj
          obtain ⟨g, e1, e2⟩ := I.old j o' t T hj0 hj hlj hd hop hgn
          exact ⟨g, e1, Nat.lt_of_lt_of_le e2 hb.size⟩
      · have key : ∀ (j j' : Nat) o1 o2 t t' T T', j < k → j' < k → j = i → j' ≠ i → ops[j]? = some o1 → ops[j']? = some o2 → (listed.setIfInBounds i true).getD j' false = true → o1.dst = some t → o2.dst = some t' → o1.op = .alloc T → o2.op = .alloc T' → o1.guard = none → o2.guard = none → slot (a.put o.dst v) t ≠ slot (a.put o.dst v) t' := by
          intro j j' o1 o2 t t' T T' h1 h2 h3 h3' h4 h5 h7 h8 h9 h10 h11 h12 h13
          subst h3
          rw [ho] at h4
          cases h4
          obtain ⟨e1, _⟩ := hnew h12 T h10
          rw [getD_set_ne false (Ne.symm h3')] at h7
          obtain ⟨g, e3, e4⟩ := I.old j' o2 t' T' h2 h5 h7 h9 h11 h13
          rw [slot_put _ _ _ t' (fun e => h3' (freeB_nodup hB h2 hik h5 ho h9 e)), e3, h8, slot_put_same a v t (by rw [I.size]; exact hin t (mem_pre.2 ⟨j, o, hik, ho, h8⟩)), e1]
          intro q
          cases q
          exact Nat.lt_irrefl _ e4
        by_cases hji : j = i
        · exact key j j' o1 o2 t t' T T' h1 h2 hji (fun e => h3 (hji.trans e.symm)) h4 h5 h7 h8 h9 h10 h11 h12 h13
        · by_cases hji' : j' = i
          · exact (key j' j o2 o1 t' t T' T h2 h1 hji' hji h5 h4 h6 h9 h8 h11 h10 h13 h12).symm
          · rw [slot_put _ _ _ t (fun e => hji (freeB_nodup hB h1 hik h4 ho h8 e)), slot_put _ _ _ t' (fun e => hji' (freeB_nodup hB h2 hik h5 ho h9 e))]
            rw [getD_set_ne false (Ne.symm hji)] at h6
            rw [getD_set_ne false (Ne.symm hji')] at h7
            exact I.new j j' o1 o2 t t' T T' h1 h2 h3 h4 h5 h6 h7 h8 h9 h10 h11 h12 h13
      · by_cases hij : j = i
        · subst hij
          rw [ho] at h2
          cases h2
          have e : ∀ t, slot (a.put o.dst v) t = slot a t := fun t => slot_put _ _ _ _ (by rw [h4]; intro q; cases q)
          have : slot (a.put o.dst v) = slot a := funext e
          rw [this]
          exact hEn h4
        · rw [getD_set_ne false (Ne.symm hij)] at h3
          have hs : o.dst.isSome = true := by
            cases hd : o.dst with
            | none => exact absurd (hone j i o' o h1 hik h2 ho h4 hd) hij
            | some t => rfl
          refine hE j o' h1 h2 h4 _ _ _ _ (I.did j o' h1 h2 h3 h4) (fun t ht hdt => ?_) (hbl hs)
          rw [slot_put]
          intro e
          have hbf := freeB_waits hB h1 hik h2 ho ht e
          have hcl := I.closed j o' h2 h3
          have := listed_before listed I.closed j o' h2 hcl hbf
          simp only [Array.getD_eq_getD_getElem?, Array.getElem?_eq_getElem hil, Option.getD_some] at hun this
          rw [this] at hun
          cases hun
    unfold wpOp
    simp only [ho]
    have hsz := I.cls.size
    rcases hs with ⟨hsome, hs⟩ | ⟨hnone, hgn, hna, hs⟩
    · have hs := hs a w I.cls I.same hlooks
      have hno : o.dst = none → False := fun e => by rw [e] at hsome; cases hsome
      split at hs
      · next hw =>
        rw [if_pos hw]
        exact .inl (wp_of_does hs fun v w' ⟨hb, hg, hn⟩ => ih _ _ _ hcount (next v w' (.of_below hb hsz) (fun _ => hb) (fun e => (hno e).elim) hg (fun _ => hn)))
      · next hw =>
        rw [if_neg hw]
        exact ih _ _ _ hcount (next undef w (.of_below (Below.refl _ _) hsz) (fun _ => Below.refl _ _) (fun e => (hno e).elim) hs (fun q => by unfold Region.wanted at hw; rw [q] at hw; exact absurd rfl hw))
    · have hs := hs a w I.cls I.same hlooks
      have hw : Region.wanted o (yielded ops a.tmps) = true := by unfold Region.wanted; rw [hgn]
      rw [if_pos hw]
      exact .inl (wp_of_does hs fun v w' ⟨hb, he⟩ => ih _ _ _ hcount (next v w' hb (fun e => by rw [hnone] at e; cases e) (fun _ => he) (fun t e => by rw [hnone] at e; cases e) (fun _ => .no hna)))

/-- **A fact for each slot serves every order.** -/
theorem wp_region_free {id : Nat} {w : World} (hm : P.follows .mixedOrders = true) (hB : freeB ops k = true) (hin : ∀ t ∈ dstsOf (preOf ops k), t < a0.tmps.size)
    (hG : ∀ t ∈ dstsOf (preOf ops k), ∀ v w w', G t v w → Keep V.heap.size w w' → G t v w') (h0 : Below V.heap.size V w.drew)
    (hstep : ∀ (i : Nat) o, i < k → ops[i]? = some o → StepOk P ops k V G E a0 o)
    (hone : ∀ (j j' : Nat) o o', j < k → j' < k → ops[j]? = some o → ops[j']? = some o' → o.dst = none → o'.dst = none → j = j')
    (hE : ∀ (j : Nat) o, j < k → ops[j]? = some o → o.dst = none → ∀ s s' w w', E s w → (∀ t, t ∈ o.looksAt ops → t ∈ dstsOf (preOf ops k) → s t = s' t) → Below w.heap.size w w' → E s' w')
    (hQ : ∀ a w, Below V.heap.size V w → (∀ t, t ∉ dstsOf (preOf ops k) → slot a t = slot a0 t) → a.tmps.size = a0.tmps.size → a.defers = a0.defers → (∀ t ∈ dstsOf (preOf ops k), G t (slot a t) w) → NewA ops k (slot a) → (∀ (j : Nat) o, j < k → ops[j]? = some o → o.dst = none → E (slot a) w) → wpList P ops Q (ops.toList.drop k) a w) :
    (Code.region id ops true).wp P Q a0 w := by
  have hf : ∀ j, (Array.replicate ops.size false).getD j false = false := fun j => by
    simp only [Array.getD_eq_getD_getElem?, Array.getElem?_replicate]
    split <;> rfl
  refine wp_region_any hm (wpAny_free hB hin hG hstep hone hE hQ ops.size _ a0 _ ?_ ⟨h0, fun _ _ => rfl, rfl, rfl, fun j o t _ hj hl _ => ?_, by simp, fun j o hj hl => ?_, fun j _ => hf j, fun j o t T _ _ hl => ?_, fun j j' o o' t t' T T' _ _ _ _ _ hl => ?_, fun j o _ _ hl _ => ?_⟩)
  · refine Nat.le_trans Array.count_le_size (by simp)
  · rw [hf] at hl; cases hl
  · rw [hf] at hl; cases hl
  · rw [hf] at hl; cases hl
  · rw [hf] at hl; cases hl
  · rw [hf] at hl; cases hl
end
section
variable {P : Program} {ops : Array Oper} {k : Nat} {V : World} {l : List (Tmp × Fact V.heap.size)} {E : (Tmp → Value) → World → Prop} {a0 : Act} {Q : Exit → Act → World → Prop} {o : Oper}
def StepsOk (P : Program) (ops : Array Oper) (k : Nat) (V : World) (l : List (Tmp × Fact V.heap.size)) (E : (Tmp → Value) → World → Prop) (a0 : Act) : List Oper → Prop
  | [] => True
  | o :: r => StepOk P ops k V (fun t => (lookF l t).holds) E a0 o ∧ StepsOk P ops k V l E a0 r
theorem StepsOk.get {os : List Oper} (h : StepsOk P ops k V l E a0 os) : ∀ o ∈ os, StepOk P ops k V (fun t => (lookF l t).holds) E a0 o := by
  induction os with
  | nil => intro o hm; cases hm
  | cons x r ih =>
    intro o hm
    have h1 : StepOk P ops k V (fun t => (lookF l t).holds) E a0 x ∧ StepsOk P ops k V l E a0 r := h
    rcases List.mem_cons.1 hm with e | hm
    · rw [e]; exact h1.1
    · exact ih h1.2 o hm

/-- **The region by a list of facts.** -/
theorem wp_region_facts {id : Nat} {w : World} {l0 : List Value} {d0 : List Deferred} (k : Nat) (V : World) (l : List (Tmp × Fact V.heap.size)) (E : (Tmp → Value) → World → Prop) (ms : List Bool) (hm : P.follows .mixedOrders = true) (hB : freeB ops k = true) (hms : maskOf ops k l0.length = ms)
    (hin : (dstsOf (preOf ops k)).all (fun t => Nat.blt t l0.length) = true)
    (h0 : Below V.heap.size V w.drew)
    (hone : ∀ (j j' : Nat) o o', j < k → j' < k → ops[j]? = some o → ops[j']? = some o' → o.dst = none → o'.dst = none → j = j')
    (hE : ∀ (j : Nat) o, j < k → ops[j]? = some o → o.dst = none → ∀ s s' w w', E s w → (∀ t, t ∈ o.looksAt ops → t ∈ dstsOf (preOf ops k) → s t = s' t) → Below w.heap.size w w' → E s' w')
    (hstep : StepsOk P ops k V l E ⟨l0.toArray, d0⟩ (ops.toList.take k))
    (hQ : ∀ (f : Tmp → Value) w, Below V.heap.size V w → (∀ t, (dstsOf (preOf ops k)).elem t = true → (lookF l t).holds (f t) w) → NewA ops k f → (∀ (j : Nat) o, j < k → ops[j]? = some o → o.dst = none → E f w) → wpList P ops Q (ops.toList.drop k) ⟨(patch ms f 0 l0).toArray, d0⟩ w) :
    (Code.region id ops true).wp P Q ⟨l0.toArray, d0⟩ w := by
  refine wp_region_free (V := V) (E := E) (G := fun t => (lookF l t).holds) hm hB (fun t ht => ?_) (fun t _ v w w' h hb => (lookF l t).stable v w w' h hb) h0
    (fun i o hik hi => hstep.get o (List.mem_iff_getElem?.2 ⟨i, by rw [List.getElem?_take, if_pos hik, Array.getElem?_toList]; exact hi⟩)) hone hE fun a w hc hs hz hd hf hnew hdid => ?_
  · have := List.all_eq_true.1 hin t ht
    simpa [Nat.blt_eq] using this
  · have e : a = ⟨(patch ms (slot a) 0 l0).toArray, d0⟩ := by
      obtain ⟨tm, df⟩ := a
      simp only at hd hz
      subst hd
      have hlen : ms.length = l0.length := by rw [← hms, maskOf, List.length_map, List.length_range]
      congr 1
      apply Array.ext'
      apply List.ext_getElem?
      intro j
      show _ = (patch ms (slot ⟨tm, _⟩) 0 l0)[j]?
      rw [patch_get ms _ 0 l0 hlen j, Nat.zero_add, Array.getElem?_toList]
      have hsz : tm.size = l0.length := by simpa using hz
      by_cases hj : j < l0.length
      · have hmj : ms[j]? = some ((dstsOf (preOf ops k)).elem j) := by
          rw [← hms, maskOf, List.getElem?_map, List.getElem?_range hj]; rfl
        rw [hmj]
        have hjt : j < tm.size := by omega
        cases hdj : (dstsOf (preOf ops k)).elem j
        · rw [if_neg (by simp)]
          have := hs j (fun q => by rw [List.elem_eq_mem] at hdj; simp at hdj; exact hdj q)
          simp only [slot, Array.getD_eq_getD_getElem?, Array.getElem?_eq_getElem hjt, Option.getD_some, List.getElem?_toArray, List.getElem?_eq_getElem hj] at this
          rw [Array.getElem?_eq_getElem hjt, List.getElem?_eq_getElem hj, this]
        · rw [if_pos rfl]
          simp [slot, hjt]
      · have hmj : ms[j]? = none := List.getElem?_eq_none (by omega)
        rw [hmj, if_neg (by simp), Array.getElem?_eq_none (by omega), List.getElem?_eq_none (by omega)]
    rw [e]
    exact hQ (slot a) w hc (fun t ht => hf t (by rw [List.elem_eq_mem] at ht; simpa using ht)) hnew hdid

/-- The operation is carried out: it has no guard, or its guard's slot holds what it asks. -/
def Want (ops : Array Oper) (k : Nat) {V : World} (l : List (Tmp × Fact V.heap.size)) (o : Oper) : Prop := o.guard = none ∨ ∃ g b t, g < k ∧ o.guard = some (g, b) ∧ ((ops[g]?).bind (·.dst)) = some t ∧ lookF l t = .eq (.bool b)
/-- It is passed over. -/
def Skip (ops : Array Oper) (k : Nat) {V : World} (l : List (Tmp × Fact V.heap.size)) (o : Oper) : Prop := ∃ g b t, g < k ∧ o.guard = some (g, !b) ∧ ((ops[g]?).bind (·.dst)) = some t ∧ lookF l t = .eq (.bool b)
theorem StepS.want (hw : Want ops k l o) (h : ∀ a w, Below V.heap.size V w → (∀ t, (dstsOf (preOf ops k)).elem t = false → slot a t = slot a0 t) → (∀ t, (o.looksAt ops).elem t = true → (dstsOf (preOf ops k)).elem t = true → (lookF l t).holds (slot a t) w) →
    Does P o a w (fun v w' => Below w.heap.size w w' ∧ (∀ t, o.dst = some t → (lookF l t).holds v w') ∧ NewB o v w w')) : StepS P ops k V (fun t => (lookF l t).holds) a0 o := by
  intro a w hc hs hl
  have hwant : Region.wanted o (yielded ops a.tmps) = true := by
    unfold Region.wanted
    rcases hw with hg | ⟨g, b, t, hgk, hg, hd, hf⟩
    · rw [hg]
    · obtain ⟨m1, m2⟩ := looks_guard hgk hg hd
      have hv := hl t m1 m2
      simp only [hf] at hv
      simp only [hg]
      rw [yielded_of hd hv]
      simp
  rw [if_pos hwant]
  exact h a w hc (fun t ht => hs t (fun q => by rw [List.elem_eq_mem] at ht; simp at ht; exact ht q)) (fun t h1 h2 => hl t (by rw [List.elem_eq_mem] at h1; simpa using h1) (by rw [List.elem_eq_mem] at h2; simpa using h2))
theorem StepS.skip (hw : Skip ops k l o) (h : ∀ t, o.dst = some t → lookF l t = .eq undef ∨ lookF l t = .any) : StepS P ops k V (fun t => (lookF l t).holds) a0 o := by
  intro a w hc hs hl
  obtain ⟨g, b, t, hgk, hg, hd, hf⟩ := hw
  have hwant : Region.wanted o (yielded ops a.tmps) = false := by
    unfold Region.wanted
    obtain ⟨m1, m2⟩ := looks_guard hgk hg hd
    have hv := hl t m1 m2
    simp only [hf] at hv
    simp only [hg]
    rw [yielded_of hd hv]
    cases b <;> rfl
  rw [if_neg (by rw [hwant]; decide)]
  intro t ht
  rcases h t ht with e | e <;> simp only [e]
  · rfl
  · trivial

/-! ### the operations -/
theorem StepS.call {t : Tmp} {f : FuncId} {xs : List Operand} {ts : Array TypeId} (hw : Want ops k l o) (ho : o.op = .call { callee := .value (.func f), args := xs.toArray, argTypes := ts }) (hd : o.dst = some t)
    (hf : ∀ args w, (callFunc f args).run P w = .ok (.enter f args) w)
    (h : ∀ a w, Below V.heap.size V w → (∀ t, (dstsOf (preOf ops k)).elem t = false → slot a t = slot a0 t) → (∀ t, (o.looksAt ops).elem t = true → (dstsOf (preOf ops k)).elem t = true → (lookF l t).holds (slot a t) w) →
      Calls P f (xs.map a.eval).toArray w (fun e w' => ∃ v, e = .returned v ∧ Below w.heap.size w w' ∧ (lookF l t).holds v w')) : StepS P ops k V (fun t => (lookF l t).holds) a0 o :=
  StepS.want hw fun a w hc hs hl => does_call ho hf ((h a w hc hs hl).mono fun e w' ⟨v, he, hb, hr⟩ => ⟨v, he, hb, fun t' ht => by rw [hd] at ht; cases ht; exact hr, .no fun T e => by rw [ho] at e; cases e⟩)
theorem StepS.load {t : Tmp} {T : TypeId} {x : Operand} (v : Value) (hw : Want ops k l o) (ho : o.op = .load T x) (hd : o.dst = some t)
    (h : ∀ a w, Below V.heap.size V w → (∀ t, (dstsOf (preOf ops k)).elem t = false → slot a t = slot a0 t) → (∀ t, (o.looksAt ops).elem t = true → (dstsOf (preOf ops k)).elem t = true → (lookF l t).holds (slot a t) w) →
      (Instr.loadAt T (a.eval x)).run P w = .ok v w ∧ (lookF l t).holds v w) : StepS P ops k V (fun t => (lookF l t).holds) a0 o :=
  StepS.want hw fun a w hc hs hl => does_load ho (h a w hc hs hl).1 ⟨Below.refl _ _, fun t' ht => by rw [hd] at ht; cases ht; exact (h a w hc hs hl).2, .no fun T e => by rw [ho] at e; cases e⟩
theorem StepS.move {t s : Tmp} (hw : Want ops k l o) (ho : o.op = .move (.tmp s) ∨ o.op = .assign (.tmp s)) (hd : o.dst = some t) (h1 : (o.looksAt ops).elem s = true) (h2 : (dstsOf (preOf ops k)).elem s = true) (hf : lookF l t = lookF l s) : StepS P ops k V (fun t => (lookF l t).holds) a0 o :=
  StepS.want hw fun a w hc hs hl => by
    have : (fun (v : Value) w' => Below w.heap.size w w' ∧ (∀ t, o.dst = some t → (lookF l t).holds v w') ∧ NewB o v w w') (slot a s) w := ⟨Below.refl _ _, fun t' ht => by rw [hd] at ht; cases ht; rw [hf]; exact hl s h1 h2, .no fun T e => by rcases ho with ho | ho <;> (rw [ho] at e; cases e)⟩
    rcases ho with ho | ho
    · exact does_move ho this
    · exact does_assign ho this
/-- .. of a constant, or of a slot that the region does not write. -/
theorem StepS.moveC {t : Tmp} {x : Operand} (hw : Want ops k l o) (ho : o.op = .move x ∨ o.op = .assign x) (hd : o.dst = some t)
    (h : ∀ a w, Below V.heap.size V w → (∀ t, (dstsOf (preOf ops k)).elem t = false → slot a t = slot a0 t) → (lookF l t).holds (a.eval x) w) : StepS P ops k V (fun t => (lookF l t).holds) a0 o :=
  StepS.want hw fun a w hc hs hl => by
    have : (fun (v : Value) w' => Below w.heap.size w w' ∧ (∀ t, o.dst = some t → (lookF l t).holds v w') ∧ NewB o v w w') (a.eval x) w := ⟨Below.refl _ _, fun t' ht => by rw [hd] at ht; cases ht; exact h a w hc hs, .no fun T e => by rcases ho with ho | ho <;> (rw [ho] at e; cases e)⟩
    rcases ho with ho | ho
    · exact does_move ho this
    · exact does_assign ho this
theorem StepS.pick {t : Tmp} {c x y : Operand} {b : Bool} (hw : Want ops k l o) (ho : o.op = .pick c x y) (hd : o.dst = some t)
    (h : ∀ a w, Below V.heap.size V w → (∀ t, (dstsOf (preOf ops k)).elem t = false → slot a t = slot a0 t) → (∀ t, (o.looksAt ops).elem t = true → (dstsOf (preOf ops k)).elem t = true → (lookF l t).holds (slot a t) w) →
      a.eval c = .bool b ∧ (lookF l t).holds (if b then a.eval x else a.eval y) w) : StepS P ops k V (fun t => (lookF l t).holds) a0 o :=
  StepS.want hw fun a w hc hs hl => does_pick ho (h a w hc hs hl).1 ⟨Below.refl _ _, fun t' ht => by rw [hd] at ht; cases ht; exact (h a w hc hs hl).2, .no fun T e => by rw [ho] at e; cases e⟩
theorem StepS.alloc {t : Tmp} {T : TypeId} (z : Value) (hw : Want ops k l o) (ho : o.op = .alloc T) (hd : o.dst = some t)
    (h : ∀ (a : Act) w, Below V.heap.size V w → (execOp a.eval o).run P w = .ok (.value (.pointer (some ⟨w.heap.size, 0, none⟩))) (w.alloc (.cells z.cells T)) ∧ (lookF l t).holds (.pointer (some ⟨w.heap.size, 0, none⟩)) (w.alloc (.cells z.cells T))) : StepS P ops k V (fun t => (lookF l t).holds) a0 o :=
  StepS.want hw fun a w hc hs hl => by
    unfold Does
    rw [(h a w hc).1]
    exact ⟨(Below.refl _ _).alloc (Nat.le_refl _) _, fun t' ht => by rw [hd] at ht; cases ht; exact (h a w hc).2, fun _ _ => ⟨rfl, by simp⟩⟩
theorem StepS.fieldAddr {t : Tmp} {T : TypeId} {x : Operand} {i : Nat} {v : Value} (hw : Want ops k l o) (ho : o.op = .fieldAddr T x i) (hd : o.dst = some t) (hf : lookF l t = .eq v)
    (h : ∀ a w, Below V.heap.size V w → (∀ t, (dstsOf (preOf ops k)).elem t = false → slot a t = slot a0 t) → (∀ t, (o.looksAt ops).elem t = true → (dstsOf (preOf ops k)).elem t = true → (lookF l t).holds (slot a t) w) →
      (Instr.fieldAt T (a.eval x) i).run P w = .ok v w) : StepS P ops k V (fun t => (lookF l t).holds) a0 o :=
  StepS.want hw fun a w hc hs hl => does_value (v := v) (by simp [execOp, ho, h a w hc hs hl]) ⟨Below.refl _ _, fun t' ht => by rw [hd] at ht; cases ht; rw [hf]; exact rfl, .no fun T e => by rw [ho] at e; cases e⟩
/-- An operation that reckons a value. -/
theorem StepS.value {t : Tmp} {v : Value} (hw : Want ops k l o) (hna : ∀ T, o.op ≠ .alloc T) (hd : o.dst = some t) (hf : lookF l t = .eq v)
    (h : ∀ a w, Below V.heap.size V w → (∀ t, (dstsOf (preOf ops k)).elem t = false → slot a t = slot a0 t) → (∀ t, (o.looksAt ops).elem t = true → (dstsOf (preOf ops k)).elem t = true → (lookF l t).holds (slot a t) w) →
      (execOp a.eval o).run P w = .ok (.value v) w) : StepS P ops k V (fun t => (lookF l t).holds) a0 o :=
  StepS.want hw fun a w hc hs hl => does_value (h a w hc hs hl) ⟨Below.refl _ _, fun t' ht => by rw [hd] at ht; cases ht; rw [hf]; exact rfl, .no hna⟩
theorem StepS.make {t : Tmp} (hw : Want ops k l o) (hna : ∀ T, o.op ≠ .alloc T) (hd : o.dst = some t)
    (h : ∀ a w, Below V.heap.size V w → (∀ t, (dstsOf (preOf ops k)).elem t = false → slot a t = slot a0 t) → (∀ t, (o.looksAt ops).elem t = true → (dstsOf (preOf ops k)).elem t = true → (lookF l t).holds (slot a t) w) →
      ∃ v, (execOp a.eval o).run P w = .ok (.value v) w ∧ (lookF l t).holds v w) : StepS P ops k V (fun t => (lookF l t).holds) a0 o :=
  StepS.want hw fun a w hc hs hl => by
    obtain ⟨v, h1, h2⟩ := h a w hc hs hl
    exact does_value h1 ⟨Below.refl _ _, fun t' ht => by rw [hd] at ht; cases ht; exact h2, .no hna⟩
/-- .. and makes memory. -/
theorem StepS.makeW {t : Tmp} (hw : Want ops k l o) (hna : ∀ T, o.op ≠ .alloc T) (hd : o.dst = some t)
    (h : ∀ a w, Below V.heap.size V w → (∀ t, (dstsOf (preOf ops k)).elem t = false → slot a t = slot a0 t) → (∀ t, (o.looksAt ops).elem t = true → (dstsOf (preOf ops k)).elem t = true → (lookF l t).holds (slot a t) w) →
      ∃ v w', (execOp a.eval o).run P w = .ok (.value v) w' ∧ Below w.heap.size w w' ∧ (lookF l t).holds v w') : StepS P ops k V (fun t => (lookF l t).holds) a0 o :=
  StepS.want hw fun a w hc hs hl => by
    obtain ⟨v, w', h1, hb, h2⟩ := h a w hc hs hl
    unfold Does
    rw [h1]
    exact ⟨hb, fun t' ht => by rw [hd] at ht; cases ht; exact h2, .no hna⟩
end
end Go.Proofs.YtfpnhggbfakdkaaDoor.RR

/- A region that draws its order and writes an answer into a variable that it makes. -/
set_option linter.unusedVariables false
set_option linter.unusedSimpArgs false
set_option maxRecDepth 100000
namespace Go.Proofs.YtfpnhggbfakdkaaDoor.RR
open Go.RowKit

/-- The operation writes: it yields nothing. -/
def ndB (ops : Array Oper) (j : Nat) : Bool := match ops[j]? with | some o => o.dst.isNone | none => false
def oneB (ops : Array Oper) (k : Nat) : Bool := (List.range k).all fun j => (List.range k).all fun j' => !(ndB ops j) || !(ndB ops j') || j == j'
def someB (ops : Array Oper) (k : Nat) : Bool := (List.range k).any fun j => ndB ops j
def storesB (ops : Array Oper) (k : Nat) (p x : Tmp) : Bool := (List.range k).all fun j => match ops[j]? with
  | some o => o.dst.isSome || ((o.looksAt ops).elem p && (o.looksAt ops).elem x && (dstsOf (preOf ops k)).elem p && (dstsOf (preOf ops k)).elem x)
  | none => true
theorem ndB_of {ops : Array Oper} {j : Nat} {o : Oper} (h : ops[j]? = some o) (hd : o.dst = none) : ndB ops j = true := by simp [ndB, h, hd]
theorem oneB_spec {ops : Array Oper} {k : Nat} (h : oneB ops k = true) : ∀ (j j' : Nat) o o', j < k → j' < k → ops[j]? = some o → ops[j']? = some o' → o.dst = none → o'.dst = none → j = j' := by
  intro j j' o o' h1 h2 h3 h4 h5 h6
  have := List.all_eq_true.1 (List.all_eq_true.1 h j (List.mem_range.2 h1)) j' (List.mem_range.2 h2)
  rw [ndB_of h3 h5, ndB_of h4 h6] at this
  simpa using this
theorem storesB_spec {ops : Array Oper} {k : Nat} {p x : Tmp} (h : storesB ops k p x = true) {j : Nat} {o : Oper} (h1 : j < k) (h2 : ops[j]? = some o) (h3 : o.dst = none) :
    (p ∈ o.looksAt ops ∧ p ∈ dstsOf (preOf ops k)) ∧ (x ∈ o.looksAt ops ∧ x ∈ dstsOf (preOf ops k)) := by
  have := List.all_eq_true.1 h j (List.mem_range.2 h1)
  simp only [h2, h3, Option.isSome_none, Bool.false_or, Bool.and_eq_true, List.elem_eq_mem, decide_eq_true_eq] at this
  exact ⟨⟨this.1.1.1, this.1.2⟩, ⟨this.1.1.2, this.2⟩⟩
/-- What the write has brought about. -/
def ER (V : World) (p x : Tmp) : (Tmp → Value) → World → Prop := fun s w => ∃ g b A n c D m k, s p = .pointer (some ⟨g, 0, none⟩) ∧ V.heap.size ≤ g ∧ s x = .agg #[.bool b, .slice A n c, .slice D m k] ∧ Blk w g TR #[.bool b, .slice A n c, .slice D m k]
def EI (V : World) (p x : Tmp) : (Tmp → Value) → World → Prop := fun s w => ∃ g b A n c, s p = .pointer (some ⟨g, 0, none⟩) ∧ V.heap.size ≤ g ∧ s x = .agg #[.bool b, .slice A n c] ∧ Blk w g 42 #[.bool b, .slice A n c]
theorem ER.stays {V : World} {p x : Tmp} {s s' : Tmp → Value} {w w' : World} (h : ER V p x s w) (h1 : s p = s' p) (h2 : s x = s' x) (hb : Below w.heap.size w w') : ER V p x s' w' := by
  obtain ⟨g, b, A, n, c, D, m, k, e1, e2, e3, e4⟩ := h
  exact ⟨g, b, A, n, c, D, m, k, h1 ▸ e1, e2, h2 ▸ e3, e4.below' hb⟩
theorem EI.stays {V : World} {p x : Tmp} {s s' : Tmp → Value} {w w' : World} (h : EI V p x s w) (h1 : s p = s' p) (h2 : s x = s' x) (hb : Below w.heap.size w w') : EI V p x s' w' := by
  obtain ⟨g, b, A, n, c, e1, e2, e3, e4⟩ := h
  exact ⟨g, b, A, n, c, h1 ▸ e1, e2, h2 ▸ e3, e4.below' hb⟩
section
variable {P : Program} {ops : Array Oper} {Q : Exit → Act → World → Prop}
theorem wp_region_R {id : Nat} {w : World} {l0 : List Value} {d0 : List Deferred} (k : Nat) (V : World) (p x : Tmp) (l : List (Tmp × Fact V.heap.size)) (ms : List Bool) (hm : P.follows .mixedOrders = true) (hB : freeB ops k = true) (hms : maskOf ops k l0.length = ms)
    (hin : (dstsOf (preOf ops k)).all (fun t => Nat.blt t l0.length) = true) (h0 : Below V.heap.size V w.drew) (h1 : oneB ops k = true) (h2 : someB ops k = true) (h3 : storesB ops k p x = true)
    (hstep : StepsOk P ops k V l (ER V p x) ⟨l0.toArray, d0⟩ (ops.toList.take k))
    (hQ : ∀ (f : Tmp → Value) w, Below V.heap.size V w → (∀ t, (dstsOf (preOf ops k)).elem t = true → (lookF l t).holds (f t) w) → NewA ops k f → ER V p x f w → wpList P ops Q (ops.toList.drop k) ⟨(patch ms f 0 l0).toArray, d0⟩ w) :
    (Code.region id ops true).wp P Q ⟨l0.toArray, d0⟩ w := by
  refine wp_region_facts k V l (ER V p x) ms hm hB hms hin h0 (oneB_spec h1) (fun j o hj ho hd s s' w w' hs ht hb => ?_) hstep fun f w hc hf hn hd => ?_
  · obtain ⟨⟨a1, a2⟩, ⟨a3, a4⟩⟩ := storesB_spec h3 hj ho hd
    exact hs.stays (ht p a1 a2) (ht x a3 a4) hb
  · obtain ⟨j, hj, hnd⟩ := List.any_eq_true.1 h2
    unfold ndB at hnd
    split at hnd
    · next o ho => exact hQ f w hc hf hn (hd j o (List.mem_range.1 hj) ho (by simpa using hnd))
    · cases hnd
end
/-- Writes into one block of another kind than the numbers' keep what is asked. -/
theorem Keep.write {B g : Nat} {w W : World} {t : TypeId} {cs cs' : Array Value} (hk : Blk w g t cs) (hk' : Blk W g t cs') (hs : cs'.size = cs.size) (ht : T32 ≠ t) (hb : Below B w W) (F : Only g w W) : Keep B w W := by
  refine ⟨hb, Nat.le_of_eq F.size.symm, fun b ds h => ?_, fun b u ds h => ?_⟩
  · exact h.keep (F.block b (h.type_ne hk ht))
  · by_cases e : b = g
    · subst e
      have := h.eq.symm.trans hk.eq
      cases this
      exact ⟨cs', hk', hs⟩
    · exact ⟨ds, h.keep (F.block b e), rfl⟩
theorem size3 {cs : Array Value} (h : cs.size = 3) : ∃ a b c, cs = #[a, b, c] := by
  obtain ⟨l⟩ := cs
  match l, h with
  | [a, b, c], _ => exact ⟨a, b, c, rfl⟩
section
variable {ops : Array Oper} {k : Nat} {V : World} {l : List (Tmp × Fact V.heap.size)} {a0 : Act} {o : Oper} {p x : Tmp}
theorem storeR_ {B : Nat} {w : World} {a : Act} {g : Nat} {c0 c1 c2 : Value} {b : Bool} {A D : Option Addr} {n c m k : Nat} (hk : Blk w g TR #[c0, c1, c2]) (hg : B ≤ g) (hw : B ≤ w.heap.size) (ho : o.op = .store TR (.tmp p) (.tmp x)) (hp : a.eval (.tmp p) = .pointer (some ⟨g, 0, none⟩)) (hx : a.eval (.tmp x) = .agg #[.bool b, .slice A n c, .slice D m k]) :
    Does Tryd.prog o a w fun _ w' => Keep B w w' ∧ Blk w' g TR #[.bool b, .slice A n c, .slice D m k] := by
  have q0 : w.cell? ⟨g, 0, none⟩ = some c0 := hk.at_ 0 rfl
  have p0 : w.frozen? ⟨g, 0, none⟩ = false := hk.frozen 0
  have q1 : w.cell? ⟨g, 1, none⟩ = some c1 := hk.at_ 1 rfl
  have p1 : w.frozen? ⟨g, 1, none⟩ = false := hk.frozen 1
  have q2 : w.cell? ⟨g, 2, none⟩ = some c2 := hk.at_ 2 rfl
  have p2 : w.frozen? ⟨g, 2, none⟩ = false := hk.frozen 2
  have e : (execOp a.eval o).run Tryd.prog w = .ok .skip (((w.setCell ⟨g, 0, none⟩ (.bool b)).setCell ⟨g, 1, none⟩ (.slice A n c)).setCell ⟨g, 2, none⟩ (.slice D m k)) := by
    simp only [execOp, ho, hp, hx]
    simp [go_sem, q0, p0, q1, p1, q2, p2]
  unfold Does
  rw [e]
  have hk' : Blk (((w.setCell ⟨g, 0, none⟩ (.bool b)).setCell ⟨g, 1, none⟩ (.slice A n c)).setCell ⟨g, 2, none⟩ (.slice D m k)) g TR #[.bool b, .slice A n c, .slice D m k] := ((hk.set_ 0 (.bool b)).set_ 1 (.slice A n c)).set_ 2 (.slice D m k)
  exact ⟨.write hk hk' rfl (by decide) ((((Below.refl B w).setCell (p := ⟨g, 0, none⟩) hg (.bool b)).setCell (p := ⟨g, 1, none⟩) hg (.slice A n c)).setCell (p := ⟨g, 2, none⟩) hg (.slice D m k)) ((((Only.refl _ _).set _ _).set _ _).set _ _), hk'⟩
theorem elem_mem {l : List Tmp} {t : Tmp} (h : l.elem t = true) : t ∈ l := by rw [List.elem_eq_mem] at h; simpa using h
theorem Does.imp {P : Program} {o : Oper} {a : Act} {w : World} {R R' : Value → World → Prop} (h : Does P o a w R) (hi : ∀ v w', R v w' → R' v w') : Does P o a w R' := by
  unfold Does at h ⊢
  split at h
  · exact hi _ _ h
  · exact hi _ _ h
  · exact h.mono fun e w'' ⟨v, he, hr⟩ => ⟨v, he, hi _ _ hr⟩
  · exact h
theorem StepOk.storeR (hx : ∀ v w, (lookF l x).holds v w → ∃ b A n c D m k, v = .agg #[.bool b, .slice A n c, .slice D m k]) (hd : o.dst = none) (hgd : o.guard = none) (ho : o.op = .store TR (.tmp p) (.tmp x)) (hp1 : (o.looksAt ops).elem p = true) (hp2 : (dstsOf (preOf ops k)).elem p = true) (hx1 : (o.looksAt ops).elem x = true) (hx2 : (dstsOf (preOf ops k)).elem x = true) (fp : lookF l p = .var TR 3) :
    StepOk Tryd.prog ops k V (fun t => (lookF l t).holds) (ER V p x) a0 o := by
  refine .inr ⟨hd, hgd, (fun T e => by rw [ho] at e; cases e), fun a w hc hs hl => ?_⟩
  have h1 := hl p (elem_mem hp1) (elem_mem hp2)
  have h2 := hl x (elem_mem hx1) (elem_mem hx2)
  simp only [fp] at h1
  obtain ⟨g, cs, e1, hg, hk, hz⟩ := h1
  obtain ⟨c0, c1, c2, rfl⟩ := size3 hz
  obtain ⟨b, A, n, c, D, m, k', e2⟩ := hx _ _ h2
  exact Does.imp (storeR_ (o := o) hk hg hc.size ho e1 e2) fun _ w' ⟨h3, h4⟩ => ⟨h3, g, b, A, n, c, D, m, k', e1, hg, e2, h4⟩
end
theorem rSub_R {w : World} {v v' : Value} {p q : Rat} (B : Nat) (hB : B ≤ w.heap.size) (h : RArg w v p) (h' : RArg w v' q) (hT : Tab w) :
    Calls Tryd.prog 57 #[v, v'] w fun e w' => ∃ u, e = .returned u ∧ Below w.heap.size w w' ∧ RatR (p - q) B w' u :=
  (rSub_P h h' hT).mono fun e w' ⟨u, h1, h2, h3⟩ => ⟨u, h1, h2, h3.mono hB⟩
theorem rDiv_T {w : World} {v1 v2 : Value} {p q : Rat} {B' : Nat} (B : Nat) (hB : B ≤ w.heap.size) (h1 : RCan w v1 p) (s1 : H p 100000000000) (h2 : RCan w v2 q) (s2 : H q 100000000000) (hT : Tab w) (hq : q ≠ 0) :
    Calls Tryd.prog 40 #[v1, v2] w fun e w' => ∃ u, e = .returned u ∧ Below w.heap.size w w' ∧ (Fact.tupE (B := B') (.ratR (p / q) B) (.int .i64 0)).holds u w' :=
  (rDiv_ok h1 s1 h2 s2 hT hq).mono fun e w' ⟨u, h1, h2, h3⟩ => ⟨_, h1, h2, u, rfl, h3.mono hB⟩
end Go.Proofs.YtfpnhggbfakdkaaDoor.RR

/- the laws of rats: more contracts, and plain lemmas. -/
set_option linter.unusedVariables false
set_option linter.unusedSimpArgs false
set_option maxRecDepth 100000
namespace Go.Proofs.YtfpnhggbfakdkaaDoor
open Go.RowKit

end Go.Proofs.YtfpnhggbfakdkaaDoor

/- A region that is walked plainly is a region inside a round of a range over a function. -/
set_option linter.unusedVariables false
set_option linter.unusedSimpArgs false
set_option maxRecDepth 100000
namespace Go.Proofs.YtfpnhggbfakdkaaDoor
open Go.RowKit

section
variable {P : Program} {l n : Nat}
theorem rowsIn_of_rows {m : Nat} {row : String} {args : Array Value} {w : World} {R : Value → World → Prop} (h : Rows P row args w R) : RowsIn (Fence.wide.inRound l) m P row args w R := fun c cs _ => by
  obtain ⟨v, w', r, s⟩ := h c cs
  exact ⟨v, w', r, stepsIn_wide.2 s⟩
theorem wpIn_of_wp_op {o : Oper} {a : Act} {w : World} {next : Act → World → Prop} {Q : Exit → Act → World → Prop} (hd : ∀ c, o.op ≠ .defer c) (h : o.wp P a w next Q) : o.wpIn (Fence.wide.inRound l) n P a w next Q := by
  refine ⟨fun f _ => trivial, ?_⟩
  rw [Oper.semAt_eq _ _ _ hd]
  unfold Oper.wp at h
  generalize (execOp a.eval o).run P w = r at *
  cases r with
  | ok x w' =>
    cases x with
    | value v => exact h
    | skip => exact h
    | defer d => exact h
    | enter f args => exact ⟨(fun e => absurd e (by simp [Fence.wide])), (callsIn_wide.2 h).inRound l⟩
    | row row args => exact ⟨(fun e => absurd e (by simp [Fence.wide])), rowsIn_of_rows h⟩
    | _ => exact h.elim
  | halt x w' => cases x <;> exact h
/-- No operation of the region is put off. -/
def nodefer (ops : Array Oper) : Bool := ops.toList.all fun o => match o.op with | .defer _ => false | _ => true
theorem wpAnyIn_of {ops : Array Oper} {Q : Exit → Act → World → Prop} (hd : nodefer ops = true) (hQ : ¬ LetsOut Q) {md : Region.Mode} : ∀ (fuel : Nat) (listed : Array Bool) (a : Act) (w : World), wpAny P md ops Q fuel listed a w → wpAnyIn (Fence.wide.inRound l) n P md ops Q fuel listed a w := by
  intro fuel
  induction fuel with
  | zero => intro listed a w h; exact h
  | succ fuel ih =>
    intro listed a w h
    refine ⟨h.1, fun i hi => ?_⟩
    have hop := h.2 i hi
    unfold wpOp at hop
    unfold wpOpIn
    cases ho : ops[i]? with
    | none => rw [ho] at hop; exact ih _ _ _ hop
    | some o =>
      rw [ho] at hop
      simp only at hop ⊢
      have hnd : ∀ c, o.op ≠ .defer c := fun c e => by
        have := List.all_eq_true.1 hd o (by simpa using Array.mem_of_getElem? ho)
        rw [e] at this
        cases this
      by_cases hw : Region.wanted o (yielded ops a.tmps) = true
      · rw [if_pos hw] at hop ⊢
        rcases hop with hop | ⟨_, hop⟩
        · exact wpIn_of_wp_op hnd (Oper.wp_mono (fun a' w' h' => ih _ a' w' h') hop)
        · exact absurd hop hQ
      · rw [if_neg hw] at hop ⊢
        exact ⟨fun f _ => trivial, ih _ _ _ hop⟩
end
section
variable {P : Program} {ops : Array Oper} {k : Nat} {C : World → Prop} {G : Tmp → Value → World → Prop} {a0 : Act} {Q : Exit → Act → World → Prop}
theorem wpIn_region_free {l n id : Nat} {w : World} (hm : P.follows .mixedOrders = true) (hB : freeB ops k = true) (hin : ∀ t ∈ dstsOf (preOf ops k), t < a0.tmps.size)
    (hC : ∀ w w', C w → Below w.heap.size w w' → C w') (hG : ∀ t ∈ dstsOf (preOf ops k), ∀ v w w', G t v w → Below w.heap.size w w' → G t v w') (h0 : C w.drew)
    (hstep : ∀ (i : Nat) o, i < k → ops[i]? = some o → StepOk P ops k C G a0 o)
    (hQ : ∀ a w, C w → (∀ t, t ∉ dstsOf (preOf ops k) → slot a t = slot a0 t) → a.tmps.size = a0.tmps.size → a.defers = a0.defers → (∀ t ∈ dstsOf (preOf ops k), G t (slot a t) w) → NewA ops k (slot a) → wpList P ops Q (ops.toList.drop k) a w)
    (hnd : nodefer ops = true) (hnQ : ¬ LetsOut Q) : (Code.region id ops true).wpIn (Fence.wide.inRound l) n P Q a0 w := by
  have hf : ∀ j, (Array.replicate ops.size false).getD j false = false := fun j => by
    simp only [Array.getD_eq_getD_getElem?, Array.getElem?_replicate]
    split <;> rfl
  refine wpIn_region_any hm (wpAnyIn_of hnd hnQ _ _ _ _ (wpAny_free hB hin hC hG hstep hQ ops.size _ a0 _ ?_ ⟨h0, fun _ _ => rfl, rfl, rfl, fun j o t _ hj hl _ => ?_, by simp, fun j o hj hl => ?_, fun j _ => hf j, fun j o t T _ _ hl => ?_, fun j j' o o' t t' T T' _ _ _ _ _ hl => ?_⟩))
  · refine Nat.le_trans Array.count_le_size (by simp)
  · rw [hf] at hl; cases hl
  · rw [hf] at hl; cases hl
  · rw [hf] at hl; cases hl
  · rw [hf] at hl; cases hl
end
section
variable {P : Program} {ops : Array Oper} {k : Nat} {C : World → Prop} {l : List (Tmp × Fact)} {a0 : Act} {Q : Exit → Act → World → Prop} {o : Oper}
theorem wpIn_region_facts {n r id : Nat} {w : World} {l0 : List Value} {d0 : List Deferred} (k : Nat) (C : World → Prop) (l : List (Tmp × Fact)) (ms : List Bool) (hm : P.follows .mixedOrders = true) (hB : freeB ops k = true) (hms : maskOf ops k l0.length = ms)
    (hin : (dstsOf (preOf ops k)).all (fun t => Nat.blt t l0.length) = true)
    (hC : ∀ w w', C w → Below w.heap.size w w' → C w') (h0 : C w.drew)
    (hstep : StepsOk P ops k C l ⟨l0.toArray, d0⟩ (ops.toList.take k))
    (hQ : ∀ (f : Tmp → Value) w, C w → (∀ t, (dstsOf (preOf ops k)).elem t = true → (lookF l t).holds (f t) w) → NewA ops k f → wpList P ops Q (ops.toList.drop k) ⟨(patch ms f 0 l0).toArray, d0⟩ w)
    (hnd : nodefer ops = true) (hnQ : ¬ LetsOut Q) : (Code.region id ops true).wpIn (Fence.wide.inRound r) n P Q ⟨l0.toArray, d0⟩ w := by
  refine wpIn_region_free (C := C) (G := fun t => (lookF l t).holds) hm hB (fun t ht => ?_) hC (fun t _ v w w' h hb => (lookF l t).stable v w w' h hb) h0
    (fun i o hik hi => hstep.get o (List.mem_iff_getElem?.2 ⟨i, by rw [List.getElem?_take, if_pos hik, Array.getElem?_toList]; exact hi⟩)) (fun a w hc hs hz hd hf hnew => ?_) hnd hnQ
  · have := List.all_eq_true.1 hin t ht
    simpa [Nat.blt_eq] using this
  · have e : a = ⟨(patch ms (slot a) 0 l0).toArray, d0⟩ := by
      obtain ⟨tm, df⟩ := a
      simp only at hd hz
      subst hd
      have hlen : ms.length = l0.length := by rw [← hms, maskOf, List.length_map, List.length_range]
      congr 1
      apply Array.ext'
      apply List.ext_getElem?
      intro j
      show _ = (patch ms (slot ⟨tm, _⟩) 0 l0)[j]?
      rw [patch_get ms _ 0 l0 hlen j, Nat.zero_add, Array.getElem?_toList]
      have hsz : tm.size = l0.length := by simpa using hz
      by_cases hj : j < l0.length
      · have hmj : ms[j]? = some ((dstsOf (preOf ops k)).elem j) := by
          rw [← hms, maskOf, List.getElem?_map, List.getElem?_range hj]; rfl
        rw [hmj]
        have hjt : j < tm.size := by omega
        cases hdj : (dstsOf (preOf ops k)).elem j
        · rw [if_neg (by simp)]
          have := hs j (fun q => by rw [List.elem_eq_mem] at hdj; simp at hdj; exact hdj q)
          simp only [slot, Array.getD_eq_getD_getElem?, Array.getElem?_eq_getElem hjt, Option.getD_some, List.getElem?_toArray, List.getElem?_eq_getElem hj] at this
          rw [Array.getElem?_eq_getElem hjt, List.getElem?_eq_getElem hj, this]
        · rw [if_pos rfl]
          simp [slot, hjt]
      · have hmj : ms[j]? = none := List.getElem?_eq_none (by omega)
        rw [hmj, if_neg (by simp), Array.getElem?_eq_none (by omega), List.getElem?_eq_none (by omega)]
    rw [e]
    exact hQ (slot a) w hc (fun t ht => hf t (by rw [List.elem_eq_mem] at ht; simpa using ht)) hnew

end
end Go.Proofs.YtfpnhggbfakdkaaDoor

/- A region by facts, at the wide fence: what stands behind the free operations may be a call of yield. -/
set_option linter.unusedVariables false
set_option linter.unusedSimpArgs false
set_option maxRecDepth 100000
namespace Go.Proofs.YtfpnhggbfakdkaaDoor
open Go.RowKit

theorem nodefer_get {ops : Array Oper} (hd : nodefer ops = true) {i : Nat} {o : Oper} (ho : ops[i]? = some o) : ∀ c, o.op ≠ .defer c := fun c e => by
  have := List.all_eq_true.1 hd o (by simpa using Array.mem_of_getElem? ho)
  rw [e] at this
  cases this
theorem wpIn_wide_op {P : Program} {n : Nat} {o : Oper} {a : Act} {w : World} {next : Act → World → Prop} {Q : Exit → Act → World → Prop} (hd : ∀ c, o.op ≠ .defer c) (h : o.wp P a w next Q) : o.wpIn Fence.wide n P a w next Q :=
  wpIn_of_wp_op (l := 0) hd h |> fun h => ⟨h.1, by
    have h2 := h.2
    rw [Oper.semAt_eq _ _ _ hd] at h2
    rw [Oper.semAt_eq _ _ _ hd]
    exact h2⟩
section
variable {P : Program} {ops : Array Oper} {k n : Nat} {C : World → Prop} {G : Tmp → Value → World → Prop} {a0 : Act} {Q : Exit → Act → World → Prop}
theorem wpAnyW_tail (hB : freeB ops k = true) : ∀ (fuel m : Nat) (listed : Array Bool) (a : Act) (w : World), k ≤ m → ops.size ≤ m + fuel → listed.size = ops.size → (∀ j, j < m → j < ops.size → listed.getD j false = true) → (∀ j, m ≤ j → listed.getD j false = false) →
    wpListIn Fence.wide n P ops Q (ops.toList.drop m) a w → wpAnyIn Fence.wide n P .any ops Q fuel listed a w := by
  have noready : ∀ (m : Nat) (listed : Array Bool), ops.size ≤ m → listed.size = ops.size → (∀ j, j < m → j < ops.size → listed.getD j false = true) → Region.ready .any ops listed = [] := by
    intro m listed hm hl hall
    refine List.eq_nil_iff_forall_not_mem.2 fun j hj => ?_
    obtain ⟨h1, o, h2, _⟩ := mem_ready.1 hj
    have hjl := (Array.getElem?_eq_some_iff.1 h2).1
    have h3 := hall j (by omega) hjl
    have h4 : j < listed.size := by omega
    simp only [Array.getD_eq_getD_getElem?, Array.getElem?_eq_getElem h4, Option.getD_some] at h1 h3
    rw [h1] at h3
    cases h3
  intro fuel
  induction fuel with
  | zero =>
    intro m listed a w hk hf hl hall hun h
    refine ⟨noready m listed (by omega) hl hall, ?_⟩
    rw [List.drop_eq_nil_of_le (by rw [Array.length_toList]; omega)] at h
    exact h
  | succ fuel ih =>
    intro m listed a w hk hf hl hall hun h
    by_cases hm : m < ops.size
    · have ho : ops[m]? = some ops[m] := Array.getElem?_eq_getElem hm
      have hmr : m ∈ Region.ready .any ops listed := by
        refine mem_ready.2 ⟨?_, _, ho, fun e he hb => ?_⟩
        · have := hun m (Nat.le_refl _)
          have h4 : m < listed.size := by omega
          simp only [Array.getD_eq_getD_getElem?, Array.getElem?_eq_getElem h4, Option.getD_some] at *
          exact this
        · have := freeB_back hB ho he hb
          exact hall e.on this (by omega)
      refine ⟨fun q => (by rw [q] at hmr; cases hmr), fun i hi => ?_⟩
      obtain ⟨h1, o, h2, h3⟩ := mem_ready.1 hi
      have hil := (Array.getElem?_eq_some_iff.1 h2).1
      have him : i = m := by
        rcases Nat.lt_trichotomy i m with q | q | q
        · exfalso
          have h5 := hall i q hil
          have h4 : i < listed.size := by omega
          simp only [Array.getD_eq_getD_getElem?, Array.getElem?_eq_getElem h4, Option.getD_some] at h1 h5
          rw [h1] at h5
          cases h5
        · exact q
        · exfalso
          have := listed_before listed (fun j o' hj hlj e he hb => by
            have hjl := (Array.getElem?_eq_some_iff.1 hj).1
            have hjm : j < m := by
              refine Decidable.byContradiction fun z => ?_
              rw [hun j (by omega)] at hlj
              cases hlj
            have := freeB_back hB hj he hb
            exact hall e.on (by omega) (by omega)) i o h2 h3 (freeB_tail hB (by omega) h2 q)
          rw [hun m (Nat.le_refl _)] at this
          cases this
      subst him
      rw [List.drop_eq_getElem_cons (by rw [Array.length_toList]; exact hm)] at h
      have hlast : ∀ a' w', wpListIn Fence.wide n P ops Q (ops.toList.drop (i + 1)) a' w' → wpAnyIn Fence.wide n P .any ops Q fuel (listed.setIfInBounds i true) a' w' := fun a' w' hh => by
        refine ih (i + 1) _ a' w' (by omega) (by omega) (by rw [Array.size_setIfInBounds]; exact hl) (fun j hj hjs => ?_) (fun j hj => ?_) hh
        · by_cases e : j = i
          · subst e
            have h4 : j < listed.size := by omega
            simp [h4]
          · rw [getD_set_ne false (Ne.symm e)]; exact hall j (by omega) hjs
        · rw [getD_set_ne false (by omega)]; exact hun j (by omega)
      rw [Array.getElem_toList] at h
      unfold wpOpIn
      simp only [ho]
      unfold wpListIn at h
      split at h
      · next hw =>
        rw [if_pos hw]
        exact Oper.wpIn_mono hlast h
      · next hw =>
        rw [if_neg hw]
        exact ⟨h.1, hlast _ _ h.2⟩
    · have hr := noready m listed (by omega) hl hall
      refine ⟨fun _ => ?_, fun i hi => by rw [hr] at hi; cases hi⟩
      rw [List.drop_eq_nil_of_le (by rw [Array.length_toList]; omega)] at h
      exact h

theorem wpAnyW_free (hnd : nodefer ops = true) (hB : freeB ops k = true) (hin : ∀ t ∈ dstsOf (preOf ops k), t < a0.tmps.size) (hC : ∀ w w', C w → Below w.heap.size w w' → C w') (hG : ∀ t ∈ dstsOf (preOf ops k), ∀ v w w', G t v w → Below w.heap.size w w' → G t v w')
    (hstep : ∀ (i : Nat) o, i < k → ops[i]? = some o → StepOk P ops k C G a0 o)
    (hQ : ∀ a w, C w → (∀ t, t ∉ dstsOf (preOf ops k) → slot a t = slot a0 t) → a.tmps.size = a0.tmps.size → a.defers = a0.defers → (∀ t ∈ dstsOf (preOf ops k), G t (slot a t) w) → NewA ops k (slot a) → wpListIn Fence.wide n P ops Q (ops.toList.drop k) a w) :
    ∀ (fuel : Nat) (listed : Array Bool) (a : Act) (w : World), listed.count false ≤ fuel → FreeInv ops k C G a0 listed a w → wpAnyIn Fence.wide n P .any ops Q fuel listed a w := by
  have hks := (freeB_parts hB).1
  have fin : ∀ (fuel : Nat) (listed : Array Bool) (a : Act) (w : World), listed.count false ≤ fuel → (∀ j, j < k → listed.getD j false = true) → FreeInv ops k C G a0 listed a w → wpAnyIn Fence.wide n P .any ops Q fuel listed a w := by
    intro fuel listed a w hc hall I
    refine wpAnyW_tail hB fuel k listed a w (Nat.le_refl _) ?_ I.len (fun j h1 _ => hall j h1) I.late (hQ a w I.cls I.same I.size I.defs (fun t ht => ?_) (fun j j' o o' t t' T T' h1 h2 h3 h4 h5 => I.new j j' o o' t t' T T' h1 h2 h3 h4 h5 (hall j h1) (hall j' h2)))
    · have hcount : ops.size - k ≤ listed.count false := by
        have : (listed.toList.drop k).count false ≤ listed.toList.count false := List.Sublist.count_le _ (List.drop_sublist _ _)
        have e1 : listed.toList.count false = listed.count false := Array.count_toList ..
        rw [e1] at this
        refine Nat.le_trans ?_ this
        have hall2 : ∀ b ∈ listed.toList.drop k, false = b := by
          intro b hb
          obtain ⟨j, hj⟩ := List.mem_iff_getElem?.1 hb
          rw [List.getElem?_drop, Array.getElem?_toList] at hj
          have := I.late (k + j) (by omega)
          rw [Array.getD_eq_getD_getElem?, hj] at this
          simpa using this.symm
        rw [List.count_eq_length.2 hall2, List.length_drop, Array.length_toList, I.len]
        exact Nat.le_refl _
      omega
    · obtain ⟨j, o, h0, h1, h2⟩ := mem_pre.1 ht
      exact I.done j o t h0 h1 (hall j h0) h2
  intro fuel
  induction fuel with
  | zero =>
    intro listed a w hc I
    refine fin 0 listed a w hc (fun j hj => ?_) I
    have h0 : listed.count false = 0 := by omega
    rw [Array.count_eq_zero] at h0
    have h1 : j < listed.size := by have := I.len; omega
    have : listed[j] ≠ false := fun e => h0 (by rw [← e]; exact Array.getElem_mem h1)
    simp only [Array.getD_eq_getD_getElem?, Array.getElem?_eq_getElem h1, Option.getD_some]
    simpa using this
  | succ fuel ih =>
    intro listed a w hc I
    by_cases hpre : ∀ j ∈ Region.ready .any ops listed, k ≤ j
    · exact fin (fuel + 1) listed a w hc (pre_listed hB I.len hpre) I
    -- something of the first part may come up still: then nothing of the rest may
    have hall : ∀ i ∈ Region.ready .any ops listed, i < k := by
      intro i hi
      refine Decidable.byContradiction fun hik => hpre fun j hj => ?_
      refine Decidable.byContradiction fun hjk => ?_
      obtain ⟨_, o, ho, h3⟩ := mem_ready.1 hi
      obtain ⟨h1, o', ho', _⟩ := mem_ready.1 hj
      have hjl := (Array.getElem?_eq_some_iff.1 ho').1
      have := listed_before listed I.closed i o ho h3 (freeB_tail hB (by omega) ho (by omega : j < i))
      have h4 : j < listed.size := by have := I.len; omega
      simp only [Array.getD_eq_getD_getElem?, Array.getElem?_eq_getElem h4, Option.getD_some] at h1 this
      rw [h1] at this
      cases this
    refine ⟨fun hr => absurd (fun j hj => by rw [hr] at hj; cases hj) hpre, fun i hi => ?_⟩
    have hik := hall i hi
    obtain ⟨hun, o, ho, hdeps⟩ := mem_ready.1 hi
    have hil : i < listed.size := by have := (Array.getElem?_eq_some_iff.1 ho).1; have := I.len; omega
    have hcount : (listed.setIfInBounds i true).count false ≤ fuel := by
      have hv : listed[i] = false := by
        simp only [Array.getD_eq_getD_getElem?, Array.getElem?_eq_getElem hil, Option.getD_some] at hun
        exact hun
      rw [Array.setIfInBounds, dif_pos hil, Array.count_set hil, hv]
      have : 0 < listed.count false := Array.count_pos_iff.2 (by rw [← hv]; exact Array.getElem_mem hil)
      simp
      omega
    have hlooks : ∀ t ∈ o.looksAt ops, t ∈ dstsOf (preOf ops k) → G t (slot a t) w := fun t ht hd => by
      obtain ⟨j, o', hj0, hj, hd'⟩ := mem_pre.1 hd
      exact I.done j o' t hj0 hj (listed_before listed I.closed i o ho hdeps (freeB_waits hB hik hj0 ho hj ht hd')) hd'
    have hs := hstep i o hik ho a w I.cls I.same hlooks
    have next : ∀ v w', Below w.heap.size w w' → (∀ t, o.dst = some t → G t v w') → (o.guard = none → NewB o v w w') → FreeInv ops k C G a0 (listed.setIfInBounds i true) (a.put o.dst v) w' := fun v w' hb hg hnew => by
      refine ⟨hC w w' I.cls hb, fun t ht => ?_, ?_, ?_, fun j o' t hj0 hj hlj hd => ?_, by rw [Array.size_setIfInBounds]; exact I.len, fun j o' hj hlj e he hbd => ?_, fun j hj => by rw [getD_set_ne false (by omega)]; exact I.late j hj, fun j o' t T hj0 hj hlj hd hop hgn => ?_, fun j j' o1 o2 t t' T T' h1 h2 h3 h4 h5 h6 h7 h8 h9 h10 h11 h12 h13 => ?_⟩
      · rw [slot_put]
        · exact I.same t ht
        · intro e; exact ht (mem_pre.2 ⟨i, o, hik, ho, e⟩)
      · rw [← I.size]; unfold Act.put; split <;> simp
      · rw [← I.defs]; unfold Act.put; split <;> rfl
      · by_cases hij : j = i
        · subst hij
          rw [ho] at hj
          cases hj
          rw [hd, slot_put_same a v t (by rw [I.size]; exact hin t (mem_pre.2 ⟨j, o, hik, ho, hd⟩))]
          exact hg t hd
        · rw [slot_put _ _ _ _ (fun e => hij (freeB_nodup hB hj0 hik hj ho hd e))]
          refine hG t (mem_pre.2 ⟨j, o', hj0, hj, hd⟩) _ _ _ (I.done j o' t hj0 hj ?_ hd) hb
          rwa [getD_set_ne false (Ne.symm hij)] at hlj
      · by_cases hij : j = i
        · subst hij
          rw [ho] at hj
          cases hj
          exact getD_set_true (hdeps e he hbd)
        · rw [getD_set_ne false (Ne.symm hij)] at hlj
          exact getD_set_true (I.closed j o' hj hlj e he hbd)
      · by_cases hij : j = i
        · subst hij
          rw [ho] at hj
          cases hj
          obtain ⟨e1, e2⟩ := hnew hgn T hop
          refine ⟨_, ?_, e2⟩
          rw [hd, slot_put_same a v t (by rw [I.size]; exact hin t (mem_pre.2 ⟨j, o, hik, ho, hd⟩)), e1]
        · rw [slot_put _ _ _ _ (fun e => hij (freeB_nodup hB hj0 hik hj ho hd e))]
          rw [getD_set_ne false (Ne.symm hij)] at hlj
          obtain ⟨g, e1, e2⟩ := I.old j o' t T hj0 hj hlj hd hop hgn
          exact ⟨g, e1, Nat.lt_of_lt_of_le e2 hb.size⟩
      · have key : ∀ (j j' : Nat) o1 o2 t t' T T', j < k → j' < k → j = i → j' ≠ i → ops[j]? = some o1 → ops[j']? = some o2 → (listed.setIfInBounds i true).getD j' false = true → o1.dst = some t → o2.dst = some t' → o1.op = .alloc T → o2.op = .alloc T' → o1.guard = none → o2.guard = none → slot (a.put o.dst v) t ≠ slot (a.put o.dst v) t' := by
          intro j j' o1 o2 t t' T T' h1 h2 h3 h3' h4 h5 h7 h8 h9 h10 h11 h12 h13
          subst h3
          rw [ho] at h4
          cases h4
          obtain ⟨e1, _⟩ := hnew h12 T h10
          rw [getD_set_ne false (Ne.symm h3')] at h7
          obtain ⟨g, e3, e4⟩ := I.old j' o2 t' T' h2 h5 h7 h9 h11 h13
          rw [slot_put _ _ _ t' (fun e => h3' (freeB_nodup hB h2 hik h5 ho h9 e)), e3, h8, slot_put_same a v t (by rw [I.size]; exact hin t (mem_pre.2 ⟨j, o, hik, ho, h8⟩)), e1]
          intro q
          cases q
          exact Nat.lt_irrefl _ e4
        by_cases hji : j = i
        · exact key j j' o1 o2 t t' T T' h1 h2 hji (fun e => h3 (hji.trans e.symm)) h4 h5 h7 h8 h9 h10 h11 h12 h13
        · by_cases hji' : j' = i
          · exact (key j' j o2 o1 t' t T' T h2 h1 hji' hji h5 h4 h6 h9 h8 h11 h10 h13 h12).symm
          · rw [slot_put _ _ _ t (fun e => hji (freeB_nodup hB h1 hik h4 ho h8 e)), slot_put _ _ _ t' (fun e => hji' (freeB_nodup hB h2 hik h5 ho h9 e))]
            rw [getD_set_ne false (Ne.symm hji)] at h6
            rw [getD_set_ne false (Ne.symm hji')] at h7
            exact I.new j j' o1 o2 t t' T T' h1 h2 h3 h4 h5 h6 h7 h8 h9 h10 h11 h12 h13
    unfold wpOpIn
    simp only [ho]
    split at hs
    · next hw =>
      rw [if_pos hw]
      exact wpIn_wide_op (nodefer_get hnd ho) (wp_of_does hs fun v w' ⟨hb, hg, hn⟩ => ih _ _ _ hcount (next v w' hb hg (fun _ => hn)))
    · next hw =>
      rw [if_neg hw]
      exact ⟨fun f _ => trivial, ih _ _ _ hcount (next undef w (Below.refl _ _) hs (fun q => by unfold Region.wanted at hw; rw [q] at hw; exact absurd rfl hw))⟩

end
section
variable {P : Program} {ops : Array Oper} {k : Nat} {C : World → Prop} {G : Tmp → Value → World → Prop} {a0 : Act} {Q : Exit → Act → World → Prop}
theorem wpW_region_free {n id : Nat} (hnd : nodefer ops = true) {w : World} (hm : P.follows .mixedOrders = true) (hB : freeB ops k = true) (hin : ∀ t ∈ dstsOf (preOf ops k), t < a0.tmps.size)
    (hC : ∀ w w', C w → Below w.heap.size w w' → C w') (hG : ∀ t ∈ dstsOf (preOf ops k), ∀ v w w', G t v w → Below w.heap.size w w' → G t v w') (h0 : C w.drew)
    (hstep : ∀ (i : Nat) o, i < k → ops[i]? = some o → StepOk P ops k C G a0 o)
    (hQ : ∀ a w, C w → (∀ t, t ∉ dstsOf (preOf ops k) → slot a t = slot a0 t) → a.tmps.size = a0.tmps.size → a.defers = a0.defers → (∀ t ∈ dstsOf (preOf ops k), G t (slot a t) w) → NewA ops k (slot a) → wpListIn Fence.wide n P ops Q (ops.toList.drop k) a w) :
    (Code.region id ops true).wpIn Fence.wide n P Q a0 w := by
  have hf : ∀ j, (Array.replicate ops.size false).getD j false = false := fun j => by
    simp only [Array.getD_eq_getD_getElem?, Array.getElem?_replicate]
    split <;> rfl
  refine wpIn_region_any hm (wpAnyW_free hnd hB hin hC hG hstep hQ ops.size _ a0 _ ?_ ⟨h0, fun _ _ => rfl, rfl, rfl, fun j o t _ hj hl _ => ?_, by simp, fun j o hj hl => ?_, fun j _ => hf j, fun j o t T _ _ hl => ?_, fun j j' o o' t t' T T' _ _ _ _ _ hl => ?_⟩)
  · refine Nat.le_trans Array.count_le_size (by simp)
  · rw [hf] at hl; cases hl
  · rw [hf] at hl; cases hl
  · rw [hf] at hl; cases hl
  · rw [hf] at hl; cases hl
end
section
variable {P : Program} {ops : Array Oper} {k : Nat} {C : World → Prop} {l : List (Tmp × Fact)} {a0 : Act} {Q : Exit → Act → World → Prop} {o : Oper}
theorem wpW_region_facts {n id : Nat} (hnd : nodefer ops = true) {w : World} {l0 : List Value} {d0 : List Deferred} (k : Nat) (C : World → Prop) (l : List (Tmp × Fact)) (ms : List Bool) (hm : P.follows .mixedOrders = true) (hB : freeB ops k = true) (hms : maskOf ops k l0.length = ms)
    (hin : (dstsOf (preOf ops k)).all (fun t => Nat.blt t l0.length) = true)
    (hC : ∀ w w', C w → Below w.heap.size w w' → C w') (h0 : C w.drew)
    (hstep : StepsOk P ops k C l ⟨l0.toArray, d0⟩ (ops.toList.take k))
    (hQ : ∀ (f : Tmp → Value) w, C w → (∀ t, (dstsOf (preOf ops k)).elem t = true → (lookF l t).holds (f t) w) → NewA ops k f → wpListIn Fence.wide n P ops Q (ops.toList.drop k) ⟨(patch ms f 0 l0).toArray, d0⟩ w) :
    (Code.region id ops true).wpIn Fence.wide n P Q ⟨l0.toArray, d0⟩ w := by
  refine wpW_region_free hnd (C := C) (G := fun t => (lookF l t).holds) hm hB (fun t ht => ?_) hC (fun t _ v w w' h hb => (lookF l t).stable v w w' h hb) h0
    (fun i o hik hi => hstep.get o (List.mem_iff_getElem?.2 ⟨i, by rw [List.getElem?_take, if_pos hik, Array.getElem?_toList]; exact hi⟩)) fun a w hc hs hz hd hf hnew => ?_
  · have := List.all_eq_true.1 hin t ht
    simpa [Nat.blt_eq] using this
  · have e : a = ⟨(patch ms (slot a) 0 l0).toArray, d0⟩ := by
      obtain ⟨tm, df⟩ := a
      simp only at hd hz
      subst hd
      have hlen : ms.length = l0.length := by rw [← hms, maskOf, List.length_map, List.length_range]
      congr 1
      apply Array.ext'
      apply List.ext_getElem?
      intro j
      show _ = (patch ms (slot ⟨tm, _⟩) 0 l0)[j]?
      rw [patch_get ms _ 0 l0 hlen j, Nat.zero_add, Array.getElem?_toList]
      have hsz : tm.size = l0.length := by simpa using hz
      by_cases hj : j < l0.length
      · have hmj : ms[j]? = some ((dstsOf (preOf ops k)).elem j) := by
          rw [← hms, maskOf, List.getElem?_map, List.getElem?_range hj]; rfl
        rw [hmj]
        have hjt : j < tm.size := by omega
        cases hdj : (dstsOf (preOf ops k)).elem j
        · rw [if_neg (by simp)]
          have := hs j (fun q => by rw [List.elem_eq_mem] at hdj; simp at hdj; exact hdj q)
          simp only [slot, Array.getD_eq_getD_getElem?, Array.getElem?_eq_getElem hjt, Option.getD_some, List.getElem?_toArray, List.getElem?_eq_getElem hj] at this
          rw [Array.getElem?_eq_getElem hjt, List.getElem?_eq_getElem hj, this]
        · rw [if_pos rfl]
          simp [slot, hjt]
      · have hmj : ms[j]? = none := List.getElem?_eq_none (by omega)
        rw [hmj, if_neg (by simp), Array.getElem?_eq_none (by omega), List.getElem?_eq_none (by omega)]
    rw [e]
    exact hQ (slot a) w hc (fun t ht => hf t (by rw [List.elem_eq_mem] at ht; simpa using ht)) hnew

end
end Go.Proofs.YtfpnhggbfakdkaaDoor
