/- A region that draws its order and writes an answer into a variable that it makes. -/
import Derived.Test.YtnpfochbpdfcmaaGreatDoorFreeR
set_option linter.unusedVariables false
set_option linter.unusedSimpArgs false
set_option maxRecDepth 100000
namespace Go.Proofs.YtnpfochbpdfcmaaGreatDoor.RR
open Go.RowKit

/-- The operation writes: it yields nothing. -/
def ndB (ops : Array Oper) (j : Nat) : Bool := match ops[j]? with | some o => o.dst.isNone | none => false
def oneB (ops : Array Oper) (k : Nat) : Bool := (List.range k).all fun j => (List.range k).all fun j' => !(ndB ops j) || !(ndB ops j') || j == j'
def someB (ops : Array Oper) (k : Nat) : Bool := (List.range k).any fun j => ndB ops j
def storesB (ops : Array Oper) (k : Nat) (p x : Tmp) : Bool := (List.range k).all fun j => match ops[j]? with
  | some o => o.dst.isSome || ((o.looksAt ops).elem p && (o.looksAt ops).elem x && (dstsOf (preOf ops k)).elem p && (dstsOf (preOf ops k)).elem x)
  | none => true
theorem ndB_of {ops : Array Oper} {j : Nat} {o : Oper} (h : ops[j]? = some o) (hd : o.dst = none) : ndB ops j = true := by simp [ndB, h, hd]
theorem oneB_spec {ops : Array Oper} {k : Nat} (h : oneB ops k = true) : ∀ (j j' : Nat) o o', j < k → j' < k → ops[j]? = some o → ops[j']? = some o' → o.dst = none → o'.dst = none → j = j' := by
  intro j j' o o' h1 h2 h3 h4 h5 h6
  have := List.all_eq_true.1 (List.all_eq_true.1 h j (List.mem_range.2 h1)) j' (List.mem_range.2 h2)
  rw [ndB_of h3 h5, ndB_of h4 h6] at this
  simpa using this
theorem storesB_spec {ops : Array Oper} {k : Nat} {p x : Tmp} (h : storesB ops k p x = true) {j : Nat} {o : Oper} (h1 : j < k) (h2 : ops[j]? = some o) (h3 : o.dst = none) :
    (p ∈ o.looksAt ops ∧ p ∈ dstsOf (preOf ops k)) ∧ (x ∈ o.looksAt ops ∧ x ∈ dstsOf (preOf ops k)) := by
  have := List.all_eq_true.1 h j (List.mem_range.2 h1)
  simp only [h2, h3, Option.isSome_none, Bool.false_or, Bool.and_eq_true, List.elem_eq_mem, decide_eq_true_eq] at this
  exact ⟨⟨this.1.1.1, this.1.2⟩, ⟨this.1.1.2, this.2⟩⟩
/-- What the write has brought about. -/
def ER (V : World) (p x : Tmp) : (Tmp → Value) → World → Prop := fun s w => ∃ g b A n c D m k, s p = .pointer (some ⟨g, 0, none⟩) ∧ V.heap.size ≤ g ∧ s x = .agg #[.bool b, .slice A n c, .slice D m k] ∧ Blk w g TR #[.bool b, .slice A n c, .slice D m k]
def EI (V : World) (p x : Tmp) : (Tmp → Value) → World → Prop := fun s w => ∃ g b A n c, s p = .pointer (some ⟨g, 0, none⟩) ∧ V.heap.size ≤ g ∧ s x = .agg #[.bool b, .slice A n c] ∧ Blk w g 25 #[.bool b, .slice A n c]
theorem ER.stays {V : World} {p x : Tmp} {s s' : Tmp → Value} {w w' : World} (h : ER V p x s w) (h1 : s p = s' p) (h2 : s x = s' x) (hb : Below w.heap.size w w') : ER V p x s' w' := by
  obtain ⟨g, b, A, n, c, D, m, k, e1, e2, e3, e4⟩ := h
  exact ⟨g, b, A, n, c, D, m, k, h1 ▸ e1, e2, h2 ▸ e3, e4.below' hb⟩
theorem EI.stays {V : World} {p x : Tmp} {s s' : Tmp → Value} {w w' : World} (h : EI V p x s w) (h1 : s p = s' p) (h2 : s x = s' x) (hb : Below w.heap.size w w') : EI V p x s' w' := by
  obtain ⟨g, b, A, n, c, e1, e2, e3, e4⟩ := h
  exact ⟨g, b, A, n, c, h1 ▸ e1, e2, h2 ▸ e3, e4.below' hb⟩
section
variable {P : Program} {ops : Array Oper} {Q : Exit → Act → World → Prop}
theorem wp_region_R {id : Nat} {w : World} {l0 : List Value} {d0 : List Deferred} (k : Nat) (V : World) (p x : Tmp) (l : List (Tmp × Fact V.heap.size)) (ms : List Bool) (hm : P.follows .mixedOrders = true) (hB : freeB ops k = true) (hms : maskOf ops k l0.length = ms)
    (hin : (dstsOf (preOf ops k)).all (fun t => Nat.blt t l0.length) = true) (h0 : Below V.heap.size V w.drew) (h1 : oneB ops k = true) (h2 : someB ops k = true) (h3 : storesB ops k p x = true)
    (hstep : StepsOk P ops k V l (ER V p x) ⟨l0.toArray, d0⟩ (ops.toList.take k))
    (hQ : ∀ (f : Tmp → Value) w, Below V.heap.size V w → (∀ t, (dstsOf (preOf ops k)).elem t = true → (lookF l t).holds (f t) w) → NewA ops k f → ER V p x f w → wpList P ops Q (ops.toList.drop k) ⟨(patch ms f 0 l0).toArray, d0⟩ w) :
    (Code.region id ops true).wp P Q ⟨l0.toArray, d0⟩ w := by
  refine wp_region_facts k V l (ER V p x) ms hm hB hms hin h0 (oneB_spec h1) (fun j o hj ho hd s s' w w' hs ht hb => ?_) hstep fun f w hc hf hn hd => ?_
  · obtain ⟨⟨a1, a2⟩, ⟨a3, a4⟩⟩ := storesB_spec h3 hj ho hd
    exact hs.stays (ht p a1 a2) (ht x a3 a4) hb
  · obtain ⟨j, hj, hnd⟩ := List.any_eq_true.1 h2
    unfold ndB at hnd
    split at hnd
    · next o ho => exact hQ f w hc hf hn (hd j o (List.mem_range.1 hj) ho (by simpa using hnd))
    · cases hnd
theorem wp_region_I {id : Nat} {w : World} {l0 : List Value} {d0 : List Deferred} (k : Nat) (V : World) (p x : Tmp) (l : List (Tmp × Fact V.heap.size)) (ms : List Bool) (hm : P.follows .mixedOrders = true) (hB : freeB ops k = true) (hms : maskOf ops k l0.length = ms)
    (hin : (dstsOf (preOf ops k)).all (fun t => Nat.blt t l0.length) = true) (h0 : Below V.heap.size V w.drew) (h1 : oneB ops k = true) (h2 : someB ops k = true) (h3 : storesB ops k p x = true)
    (hstep : StepsOk P ops k V l (EI V p x) ⟨l0.toArray, d0⟩ (ops.toList.take k))
    (hQ : ∀ (f : Tmp → Value) w, Below V.heap.size V w → (∀ t, (dstsOf (preOf ops k)).elem t = true → (lookF l t).holds (f t) w) → NewA ops k f → EI V p x f w → wpList P ops Q (ops.toList.drop k) ⟨(patch ms f 0 l0).toArray, d0⟩ w) :
    (Code.region id ops true).wp P Q ⟨l0.toArray, d0⟩ w := by
  refine wp_region_facts k V l (EI V p x) ms hm hB hms hin h0 (oneB_spec h1) (fun j o hj ho hd s s' w w' hs ht hb => ?_) hstep fun f w hc hf hn hd => ?_
  · obtain ⟨⟨a1, a2⟩, ⟨a3, a4⟩⟩ := storesB_spec h3 hj ho hd
    exact hs.stays (ht p a1 a2) (ht x a3 a4) hb
  · obtain ⟨j, hj, hnd⟩ := List.any_eq_true.1 h2
    unfold ndB at hnd
    split at hnd
    · next o ho => exact hQ f w hc hf hn (hd j o (List.mem_range.1 hj) ho (by simpa using hnd))
    · cases hnd
end
/-- Writes into one block of another kind than the numbers' keep what is asked. -/
theorem Keep.write {B g : Nat} {w W : World} {t : TypeId} {cs cs' : Array Value} (hk : Blk w g t cs) (hk' : Blk W g t cs') (hs : cs'.size = cs.size) (ht : T32 ≠ t) (hb : Below B w W) (F : Only g w W) : Keep B w W := by
  refine ⟨hb, Nat.le_of_eq F.size.symm, fun b ds h => ?_, fun b u ds h => ?_⟩
  · exact h.keep (F.block b (h.type_ne hk ht))
  · by_cases e : b = g
    · subst e
      have := h.eq.symm.trans hk.eq
      cases this
      exact ⟨cs', hk', hs⟩
    · exact ⟨ds, h.keep (F.block b e), rfl⟩
theorem size3 {cs : Array Value} (h : cs.size = 3) : ∃ a b c, cs = #[a, b, c] := by
  obtain ⟨l⟩ := cs
  match l, h with
  | [a, b, c], _ => exact ⟨a, b, c, rfl⟩
theorem size2 {cs : Array Value} (h : cs.size = 2) : ∃ a b, cs = #[a, b] := by
  obtain ⟨l⟩ := cs
  match l, h with
  | [a, b], _ => exact ⟨a, b, rfl⟩
section
variable {ops : Array Oper} {k : Nat} {V : World} {l : List (Tmp × Fact V.heap.size)} {a0 : Act} {o : Oper} {p x : Tmp}
theorem storeR_ {B : Nat} {w : World} {a : Act} {g : Nat} {c0 c1 c2 : Value} {b : Bool} {A D : Option Addr} {n c m k : Nat} (hk : Blk w g TR #[c0, c1, c2]) (hg : B ≤ g) (hw : B ≤ w.heap.size) (ho : o.op = .store TR (.tmp p) (.tmp x)) (hp : a.eval (.tmp p) = .pointer (some ⟨g, 0, none⟩)) (hx : a.eval (.tmp x) = .agg #[.bool b, .slice A n c, .slice D m k]) :
    Does Tryz.prog o a w fun _ w' => Keep B w w' ∧ Blk w' g TR #[.bool b, .slice A n c, .slice D m k] := by
  have q0 : w.cell? ⟨g, 0, none⟩ = some c0 := hk.at_ 0 rfl
  have p0 : w.frozen? ⟨g, 0, none⟩ = false := hk.frozen 0
  have q1 : w.cell? ⟨g, 1, none⟩ = some c1 := hk.at_ 1 rfl
  have p1 : w.frozen? ⟨g, 1, none⟩ = false := hk.frozen 1
  have q2 : w.cell? ⟨g, 2, none⟩ = some c2 := hk.at_ 2 rfl
  have p2 : w.frozen? ⟨g, 2, none⟩ = false := hk.frozen 2
  have e : (execOp a.eval o).run Tryz.prog w = .ok .skip (((w.setCell ⟨g, 0, none⟩ (.bool b)).setCell ⟨g, 1, none⟩ (.slice A n c)).setCell ⟨g, 2, none⟩ (.slice D m k)) := by
    simp only [execOp, ho, hp, hx]
    simp [go_sem, q0, p0, q1, p1, q2, p2]
  unfold Does
  rw [e]
  have hk' : Blk (((w.setCell ⟨g, 0, none⟩ (.bool b)).setCell ⟨g, 1, none⟩ (.slice A n c)).setCell ⟨g, 2, none⟩ (.slice D m k)) g TR #[.bool b, .slice A n c, .slice D m k] := ((hk.set_ 0 (.bool b)).set_ 1 (.slice A n c)).set_ 2 (.slice D m k)
  exact ⟨.write hk hk' rfl (by decide) ((((Below.refl B w).setCell (p := ⟨g, 0, none⟩) hg (.bool b)).setCell (p := ⟨g, 1, none⟩) hg (.slice A n c)).setCell (p := ⟨g, 2, none⟩) hg (.slice D m k)) ((((Only.refl _ _).set _ _).set _ _).set _ _), hk'⟩
theorem storeI_ {B : Nat} {w : World} {a : Act} {g : Nat} {c0 c1 : Value} {b : Bool} {A : Option Addr} {n c : Nat} (hk : Blk w g 25 #[c0, c1]) (hg : B ≤ g) (hw : B ≤ w.heap.size) (ho : o.op = .store 25 (.tmp p) (.tmp x)) (hp : a.eval (.tmp p) = .pointer (some ⟨g, 0, none⟩)) (hx : a.eval (.tmp x) = .agg #[.bool b, .slice A n c]) :
    Does Tryz.prog o a w fun _ w' => Keep B w w' ∧ Blk w' g 25 #[.bool b, .slice A n c] := by
  have q0 : w.cell? ⟨g, 0, none⟩ = some c0 := hk.at_ 0 rfl
  have p0 : w.frozen? ⟨g, 0, none⟩ = false := hk.frozen 0
  have q1 : w.cell? ⟨g, 1, none⟩ = some c1 := hk.at_ 1 rfl
  have p1 : w.frozen? ⟨g, 1, none⟩ = false := hk.frozen 1
  have e : (execOp a.eval o).run Tryz.prog w = .ok .skip ((w.setCell ⟨g, 0, none⟩ (.bool b)).setCell ⟨g, 1, none⟩ (.slice A n c)) := by
    simp only [execOp, ho, hp, hx]
    simp [go_sem, q0, p0, q1, p1]
  unfold Does
  rw [e]
  have hk' : Blk ((w.setCell ⟨g, 0, none⟩ (.bool b)).setCell ⟨g, 1, none⟩ (.slice A n c)) g 25 #[.bool b, .slice A n c] := (hk.set_ 0 (.bool b)).set_ 1 (.slice A n c)
  exact ⟨.write hk hk' rfl (by decide) (((Below.refl B w).setCell (p := ⟨g, 0, none⟩) hg (.bool b)).setCell (p := ⟨g, 1, none⟩) hg (.slice A n c)) (((Only.refl _ _).set _ _).set _ _), hk'⟩
theorem elem_mem {l : List Tmp} {t : Tmp} (h : l.elem t = true) : t ∈ l := by rw [List.elem_eq_mem] at h; simpa using h
theorem Does.imp {P : Program} {o : Oper} {a : Act} {w : World} {R R' : Value → World → Prop} (h : Does P o a w R) (hi : ∀ v w', R v w' → R' v w') : Does P o a w R' := by
  unfold Does at h ⊢
  split at h
  · exact hi _ _ h
  · exact hi _ _ h
  · exact h.mono fun e w'' ⟨v, he, hr⟩ => ⟨v, he, hi _ _ hr⟩
  · exact h
theorem StepOk.storeR (hx : ∀ v w, (lookF l x).holds v w → ∃ b A n c D m k, v = .agg #[.bool b, .slice A n c, .slice D m k]) (hd : o.dst = none) (hgd : o.guard = none) (ho : o.op = .store TR (.tmp p) (.tmp x)) (hp1 : (o.looksAt ops).elem p = true) (hp2 : (dstsOf (preOf ops k)).elem p = true) (hx1 : (o.looksAt ops).elem x = true) (hx2 : (dstsOf (preOf ops k)).elem x = true) (fp : lookF l p = .var TR 3) :
    StepOk Tryz.prog ops k V (fun t => (lookF l t).holds) (ER V p x) a0 o := by
  refine .inr ⟨hd, hgd, (fun T e => by rw [ho] at e; cases e), fun a w hc hs hl => ?_⟩
  have h1 := hl p (elem_mem hp1) (elem_mem hp2)
  have h2 := hl x (elem_mem hx1) (elem_mem hx2)
  simp only [fp] at h1
  obtain ⟨g, cs, e1, hg, hk, hz⟩ := h1
  obtain ⟨c0, c1, c2, rfl⟩ := size3 hz
  obtain ⟨b, A, n, c, D, m, k', e2⟩ := hx _ _ h2
  exact Does.imp (storeR_ (o := o) hk hg hc.size ho e1 e2) fun _ w' ⟨h3, h4⟩ => ⟨h3, g, b, A, n, c, D, m, k', e1, hg, e2, h4⟩
theorem StepOk.storeI (hx : ∀ v w, (lookF l x).holds v w → ∃ b A n c, v = .agg #[.bool b, .slice A n c]) (hd : o.dst = none) (hgd : o.guard = none) (ho : o.op = .store 25 (.tmp p) (.tmp x)) (hp1 : (o.looksAt ops).elem p = true) (hp2 : (dstsOf (preOf ops k)).elem p = true) (hx1 : (o.looksAt ops).elem x = true) (hx2 : (dstsOf (preOf ops k)).elem x = true) (fp : lookF l p = .var 25 2) :
    StepOk Tryz.prog ops k V (fun t => (lookF l t).holds) (EI V p x) a0 o := by
  refine .inr ⟨hd, hgd, (fun T e => by rw [ho] at e; cases e), fun a w hc hs hl => ?_⟩
  have h1 := hl p (elem_mem hp1) (elem_mem hp2)
  have h2 := hl x (elem_mem hx1) (elem_mem hx2)
  simp only [fp] at h1
  obtain ⟨g, cs, e1, hg, hk, hz⟩ := h1
  obtain ⟨c0, c1, rfl⟩ := size2 hz
  obtain ⟨b, A, n, c, e2⟩ := hx _ _ h2
  exact Does.imp (storeI_ (o := o) hk hg hc.size ho e1 e2) fun _ w' ⟨h3, h4⟩ => ⟨h3, g, b, A, n, c, e1, hg, e2, h4⟩
end
theorem rSub_R {w : World} {v v' : Value} {p q : Rat} (B : Nat) (hB : B ≤ w.heap.size) (h : RArg w v p) (h' : RArg w v' q) (hT : Tab w) :
    Calls Tryz.prog 31 #[v, v'] w fun e w' => ∃ u, e = .returned u ∧ Below w.heap.size w w' ∧ RatR (p - q) B w' u :=
  (rSub_P h h' hT).mono fun e w' ⟨u, h1, h2, h3⟩ => ⟨u, h1, h2, h3.mono hB⟩
theorem rlof_R (w : World) (B : Nat) (hB : B ≤ w.heap.size) (n d : Int) (h0 : -9223372036854775808 ≤ n) (h1 : n < 9223372036854775808) (h2 : -9223372036854775808 ≤ d) (h3 : d < 9223372036854775808) (hd : d ≠ 0) (hT : Tab w) :
    Calls Tryz.prog 23 #[.int .i64 n, .int .i64 d] w fun e w' => ∃ u, e = .returned u ∧ Below w.heap.size w w' ∧ RatR (Rat.divInt n d) B w' u :=
  (rlof_P w n d h0 h1 h2 h3 hd hT).mono fun e w' ⟨u, h1, h2, h3⟩ => ⟨u, h1, h2, h3.mono hB⟩
theorem iOf_R (w : World) (B : Nat) (hB : B ≤ w.heap.size) (n : Int) (h0 : -9223372036854775808 ≤ n) (h1 : n < 9223372036854775808) :
    Calls Tryz.prog 30 #[.int .i64 n] w fun e w' => ∃ u, e = .returned u ∧ Below w.heap.size w w' ∧ IntR n B w' u :=
  (iOf_ok w n h0 h1).mono fun e w' ⟨u, h1, h2, h3⟩ => ⟨u, h1, h2, h3.mono hB⟩
theorem rDiv_T {w : World} {v1 v2 : Value} {p q : Rat} {B' : Nat} (B : Nat) (hB : B ≤ w.heap.size) (h1 : RCan w v1 p) (s1 : H p 100000000000) (h2 : RCan w v2 q) (s2 : H q 100000000000) (hT : Tab w) (hq : q ≠ 0) :
    Calls Tryz.prog 32 #[v1, v2] w fun e w' => ∃ u, e = .returned u ∧ Below w.heap.size w w' ∧ (Fact.tupE (B := B') (.ratR (p / q) B) (.int .i64 0)).holds u w' :=
  (rDiv_ok h1 s1 h2 s2 hT hq).mono fun e w' ⟨u, h1, h2, h3⟩ => ⟨_, h1, h2, u, rfl, h3.mono hB⟩
theorem rMake_T {w : World} {v1 v2 : Value} {z n : Int} {B' : Nat} (B : Nat) (hB : B ≤ w.heap.size) (h1 : ICan w v1 z) (s1 : L z.natAbs ≤ 1000000000000) (h2 : ICan w v2 n) (s2 : L n.natAbs ≤ 1000000000000) (hT : Tab w) (hq : n ≠ 0) :
    Calls Tryz.prog 27 #[v1, v2] w fun e w' => ∃ u, e = .returned u ∧ Below w.heap.size w w' ∧ (Fact.tupE (B := B') (.ratR (Rat.divInt z n) B) (.int .i64 0)).holds u w' :=
  (rMake_ok h1 h2 s1 s2 hq hT).mono fun e w' ⟨u, h1, h2, h3⟩ => ⟨_, h1, h2, u, rfl, h3.mono hB⟩
end Go.Proofs.YtnpfochbpdfcmaaGreatDoor.RR
