/- vecs: words for lists of fractions; Zero, Scale, Check, fit. -/
import Derived.Test.YtfpnhggbfakdkaaDoorFR
import Derived.Test.YtfpnhggbfakdkaaDoorCa
/- lists of fractions: words. -/
set_option linter.unusedVariables false
set_option linter.unusedSimpArgs false
set_option maxRecDepth 100000
namespace Go.Proofs.YtfpnhggbfakdkaaDoor
open Go.RowKit

/-- The cells of values, one behind the other. -/
def flat (us : List Value) : List Value := us.flatMap fun u => u.cells.toList
/-- A list whose elements (of three cells) are as told. -/
def Lst {α : Type} (E : World → Value → α → Prop) (w : World) (v : Value) (qs : List α) : Prop :=
  ∃ A n c us, v = .slice A n c ∧ n ≤ c ∧ n = qs.length ∧ us.length = n ∧ n ≤ 140737488355328 ∧
    (0 < n → ∃ ad, A = some ad ∧ ad.block < w.heap.size ∧ ∀ (j : Nat) u, (flat us)[j]? = some u → w.cell? (ad.add j) = some u) ∧
    ∀ (j : Nat) q, qs[j]? = some q → ∃ u, us[j]? = some u ∧ E w u q
/-- Such a value is a fraction by its shape. -/
def Tri {α : Type} (E : World → Value → α → Prop) : Prop := ∀ w u q, E w u q → ∃ b A n c D m k, u = .agg #[.bool b, .slice A n c, .slice D m k]
theorem tri_can : Tri RCan := fun w u q h => h.slice
theorem tri_arg : Tri RArg := fun w u q h => h.slice
theorem Lst.imp {α β : Type} {E : World → Value → α → Prop} {F : World → Value → β → Prop} {w : World} {v : Value} {qs : List α} (h : Lst E w v qs) (f : α → β) (hf : ∀ u q, q ∈ qs → E w u q → F w u (f q)) : Lst F w v (qs.map f) := by
  obtain ⟨A, n, c, us, e, h1, h2, h3, h4, h5, h6⟩ := h
  refine ⟨A, n, c, us, e, h1, by rw [List.length_map]; exact h2, h3, h4, h5, fun j q hq => ?_⟩
  rw [List.getElem?_map] at hq
  obtain ⟨p, hp, rfl⟩ := Option.map_eq_some_iff.1 hq
  obtain ⟨u, hu, he⟩ := h6 j p hp
  exact ⟨u, hu, hf u p (List.mem_of_getElem? hp) he⟩
theorem Lst.below {α : Type} {E : World → Value → α → Prop} {w w' : World} {v : Value} {qs : List α} (h : Lst E w v qs) (hE : ∀ u q, E w u q → E w' u q) (hb : Below w.heap.size w w') : Lst E w' v qs := by
  obtain ⟨A, n, c, us, e, h1, h2, h3, h4, h5, h6⟩ := h
  refine ⟨A, n, c, us, e, h1, h2, h3, h4, fun h0 => ?_, fun j q hq => ?_⟩
  · obtain ⟨ad, e1, hl, hc⟩ := h5 h0
    exact ⟨ad, e1, Nat.lt_of_lt_of_le hl hb.size, fun j u hu => cell_below hb (hc j u hu)⟩
  · obtain ⟨u, hu, he⟩ := h6 j q hq
    exact ⟨u, hu, hE u q he⟩
theorem Lst.can_below {w w' : World} {v : Value} {qs : List Rat} (h : Lst RCan w v qs) (hb : Below w.heap.size w w') : Lst RCan w' v qs := Lst.below h (fun u q h => h.below hb) hb
theorem Lst.arg_below {w w' : World} {v : Value} {qs : List Rat} (h : Lst RArg w v qs) (hb : Below w.heap.size w w') : Lst RArg w' v qs := Lst.below h (fun u q h => h.below hb) hb
theorem lst_nil {α : Type} (E : World → Value → α → Prop) (w : World) : Lst E w (.slice none 0 0) [] := ⟨none, 0, 0, [], rfl, Nat.le_refl _, rfl, rfl, by omega, fun h => absurd h (by omega), fun j q h => by simp at h⟩
theorem flat_get {us : List Value} (h3 : ∀ u ∈ us, u.cells.size = 3) {j : Nat} {u : Value} (hj : us[j]? = some u) (i : Nat) (hi : i < 3) : (flat us)[3 * j + i]? = u.cells.toList[i]? := by
  induction us generalizing j with
  | nil => simp at hj
  | cons a us ih =>
    have ha : a.cells.toList.length = 3 := by rw [Array.length_toList]; exact h3 a List.mem_cons_self
    show (a.cells.toList ++ flat us)[3 * j + i]? = _
    cases j with
    | zero =>
      simp only [List.getElem?_cons_zero, Option.some.injEq] at hj
      subst hj
      rw [List.getElem?_append_left (by omega)]
      simp
    | succ j =>
      rw [List.getElem?_append_right (by omega), ha, show 3 * (j + 1) + i - 3 = 3 * j + i by omega]
      exact ih (fun u hu => h3 u (List.mem_cons_of_mem _ hu)) (by simpa using hj)
theorem flat_len {us : List Value} (h3 : ∀ u ∈ us, u.cells.size = 3) : (flat us).length = 3 * us.length := by
  induction us with
  | nil => rfl
  | cons a us ih =>
    show (a.cells.toList ++ flat us).length = _
    rw [List.length_append, ih (fun u hu => h3 u (List.mem_cons_of_mem _ hu)), Array.length_toList, h3 a List.mem_cons_self, List.length_cons]
    omega
/-- An element. -/
theorem Lst.get {α : Type} {E : World → Value → α → Prop} (hT : Tri E) {w : World} {A : Option Addr} {n c : Nat} {qs : List α} (h : Lst E w (.slice A n c) qs) {j : Nat} {q : α} (hj : qs[j]? = some q) :
    ∃ ad b A1 n1 c1 A2 n2 c2, A = some ad ∧ j < n ∧ w.cell? (ad.add (3 * j)) = some (.bool b) ∧ w.cell? (ad.add (3 * j + 1)) = some (.slice A1 n1 c1) ∧ w.cell? (ad.add (3 * j + 2)) = some (.slice A2 n2 c2) ∧ E w (.agg #[.bool b, .slice A1 n1 c1, .slice A2 n2 c2]) q := by
  obtain ⟨A', n', c', us, e, h1, h2, h3, h4, h5, h6⟩ := h
  cases e
  have hjn : j < n := by
    rw [h2]
    exact (List.getElem?_eq_some_iff.1 hj).1
  obtain ⟨ad, rfl, hl, hc⟩ := h5 (by omega)
  obtain ⟨u, hu, he⟩ := h6 j q hj
  obtain ⟨b, A1, n1, c1, A2, n2, c2, rfl⟩ := hT _ _ _ he
  have hall : ∀ u ∈ us, u.cells.size = 3 := fun u hu => by
    obtain ⟨i, hi, rfl⟩ := List.getElem_of_mem hu
    obtain ⟨u', hu', he'⟩ := h6 i (qs[i]'(by omega)) (List.getElem?_eq_getElem _)
    rw [List.getElem?_eq_getElem hi] at hu'
    cases hu'
    obtain ⟨_, _, _, _, _, _, _, e⟩ := hT _ _ _ he'
    rw [e]; rfl
  refine ⟨ad, b, A1, n1, c1, A2, n2, c2, rfl, hjn, hc _ _ ?_, hc _ _ ?_, hc _ _ ?_, he⟩
  · exact flat_get hall hu 0 (by omega)
  · exact flat_get hall hu 1 (by omega)
  · exact flat_get hall hu 2 (by omega)
end Go.Proofs.YtfpnhggbfakdkaaDoor

/- lists of fractions: append; vecs: Zero. -/
set_option linter.unusedVariables false
set_option linter.unusedSimpArgs false
set_option maxRecDepth 100000
namespace Go.Proofs.YtfpnhggbfakdkaaDoor
open Go.RowKit

theorem infoR : (Tryd.prog.info? 44).map (fun i => (i.zero, i.size, i.bytes)) = some (some (.agg #[.bool false, .slice none 0 0, .slice none 0 0]), 3, 56) := by kernel_rfl
theorem flat_snoc (us : List Value) (u : Value) : flat (us ++ [u]) = flat us ++ u.cells.toList := by simp [flat]
theorem wpList_appR {w : World} {ops : Array Oper} {rest : List Oper} {o : Oper} {a : Act} {Q : Exit → Act → World → Prop} (hgd : o.guard = none) (s x : Operand)
    (ho : o.op = .call { callee := .builtin .append, args := #[s, x], argTypes := #[30, 30] })
    (base n : Nat) (v : Value) (us : List Value) (hs : a.eval s = v) (hown : w.ownsRow base TR 3 v n (flat us)) {g : Nat} {b : Bool} {A D : Option Addr} {m c k d : Nat} (hx : a.eval x = .slice (some ⟨g, 0, none⟩) 1 1) (hg : Blk w g TR #[.bool b, .slice A m c, .slice D k d])
    (hn : n ≤ 1000000) (hbase : base ≤ w.heap.size)
    (h : ∀ v' w', Hid (w'.ownsRow base TR 3 v' (n + 1) (flat (us ++ [.agg #[.bool b, .slice A m c, .slice D k d]]))) → Hid (w.grownBy w' v.ownBlock) → wpList Tryd.prog ops Q rest (a.put o.dst v') w') : wpList Tryd.prog ops Q (o :: rest) a w := by
  refine wpList_appv (P := Tryd.prog) (t := 30) (e := TR) (z := .agg #[.bool false, .slice none 0 0, .slice none 0 0]) (size := 3) (b := 56) (by kernel_rfl) infoR rfl (by omega) w hgd s x ho base n v (flat us) hs hown ⟨g, 0, none⟩ 1 1 [.bool b, .slice A m c, .slice D k d] hx rfl (fun j u hj => ?_) (fun u hu => ?_) (by omega) (by omega) hbase (fun v' w' h1 h2 => h v' w' ?_ h2)
  · rw [add0, hg.cell]
    simpa using hj
  · simp at hu
    rcases hu with rfl | rfl | rfl <;> rfl
  · rw [flat_snoc]; exact h1
theorem T32_TR : T32 ≠ TR := by decide
theorem NatR.grownR {N B : Nat} {w w' : World} {v : Value} {row : Option Nat} (h : NatR N B w v) (hg : w.grownBy w' row) (hr : ∀ k, row = some k → ∃ cs, Blk w k TR cs) : NatR N B w' v := by
  obtain ⟨A, c, e, r, f, l⟩ := h
  rcases f with f | ⟨g', cs', e1, hB, hk, hc⟩
  · have h0 : (limbs N).length = 0 := by omega
    have hN : limbs N = [] := List.eq_nil_of_length_eq_zero h0
    exact ⟨A, c, e, by rw [hN]; exact Rdk.nil _ _ _, .inl f, l⟩
  · subst e1
    have hk' : Blk w' g' T32 cs' := hk.keep (hg.block g' hk.lt (fun e => by
      obtain ⟨cs, k2⟩ := hr g' e.symm
      exact absurd rfl (hk.type_ne k2 T32_TR)))
    refine ⟨_, c, e, ⟨r.1, r.2.1, fun hn => ?_⟩, .inr ⟨g', cs', rfl, hB, hk', hc⟩, l⟩
    obtain ⟨ad, e2, hl, hcl⟩ := r.2.2 hn
    cases e2
    refine ⟨_, rfl, hk'.lt, fun j hj => ?_⟩
    have := hcl j hj
    rw [add0, hk.cell] at this
    rw [add0, hk'.cell]
    exact this
theorem RatR.grownR {q : Rat} {B : Nat} {w w' : World} {v : Value} {row : Option Nat} (h : RatR q B w v) (hg : w.grownBy w' row) (hr : ∀ k, row = some k → ∃ cs, Blk w k TR cs) : RatR q B w' v := by
  obtain ⟨u, d, e, h1, h2, h3⟩ := h
  exact ⟨u, d, e, h1.grownR hg hr, h2.grownR hg hr, h3⟩
theorem own_row {w : World} {base n : Nat} {v : Value} {xs : List Value} (h : w.ownsRow base TR 3 v n xs) : ∀ k, v.ownBlock = some k → base ≤ k ∧ ∃ cs, Blk w k TR cs := by
  intro k hk
  rcases h.2 with ⟨rfl, rfl⟩ | ⟨g, cap, cur, rfl, hB, hh, hnc, hcm, hcs, htk⟩
  · cases hk
  · have : g = k := by simpa [Value.ownBlock] using hk
    subst this
    exact ⟨hB, cur, ⟨hh⟩⟩
/-- The blocks that a fraction's parts may come to write. -/
def uhas (u : Value) (g : Nat) : Prop := ∃ b A n c D m k, u = .agg #[.bool b, .slice A n c, .slice D m k] ∧ (blkOf A c = some g ∨ blkOf D k = some g)
/-- No two elements' parts share memory. -/
def UAp (us : List Value) : Prop := ∀ (i j : Nat) u u', i < j → us[i]? = some u → us[j]? = some u' → ∀ g, uhas u g → ¬ uhas u' g
theorem UAp.nil : UAp [] := fun i j u u' _ h => by simp at h
theorem Fr.own_blk {t : TypeId} {B : Nat} {w : World} {A : Option Addr} {c g : Nat} (h : Fr t B w A c) (hg : blkOf A c = some g) : B ≤ g ∧ g < w.heap.size := by
  have h0 := blkOf_pos hg
  rcases h with h | ⟨g', cs, rfl, hB, hk, hc⟩
  · omega
  · rw [blkOf_some h0] at hg
    cases hg
    exact ⟨hB, hk.lt⟩
theorem RatR.own_blk {q : Rat} {B : Nat} {w : World} {u : Value} (h : RatR q B w u) {g : Nat} (hg : uhas u g) : B ≤ g ∧ g < w.heap.size := by
  obtain ⟨b, A, n, c, D, m, k, rfl, hg⟩ := hg
  obtain ⟨u', d', e, h1, h2, h3⟩ := h
  cases e
  obtain ⟨_, _, e, _, f, _⟩ := h1
  cases e
  obtain ⟨_, _, e, _, f', _⟩ := h2
  cases e
  rcases hg with x | x
  · exact f.own_blk x
  · exact f'.own_blk x
theorem UAp.snoc {us : List Value} {u : Value} (h : UAp us) (hn : ∀ u' ∈ us, ∀ g, uhas u' g → ¬ uhas u g) : UAp (us ++ [u]) := by
  intro i j v v' hij hi hj g hg
  have hl := (List.getElem?_eq_some_iff.1 hj).1
  simp at hl
  rw [List.getElem?_append_left (by omega)] at hi
  by_cases hj2 : j < us.length
  · rw [List.getElem?_append_left hj2] at hj
    exact h i j v v' hij hi hj g hg
  · rw [List.getElem?_append_right (by omega)] at hj
    obtain rfl : j = us.length := by omega
    simp at hj
    subst hj
    exact hn v (List.mem_of_getElem? hi) g hg
/-- A list of the call's own: its elements too. -/
def OLst (w : World) (B : Nat) (v : Value) (qs : List Rat) : Prop :=
  ∃ us, us.length = qs.length ∧ w.ownsRow B TR 3 v qs.length (flat us) ∧ (∀ (j : Nat) q, qs[j]? = some q → ∃ u, us[j]? = some u ∧ RatR q B w u) ∧ UAp us
theorem OLst.lst {w : World} {B : Nat} {v : Value} {qs : List Rat} (h : OLst w B v qs) (hn : qs.length ≤ 1000000) : Lst RCan w v qs := by
  obtain ⟨us, h1, h2, h3, _⟩ := h
  rcases h2.2 with ⟨e, h0⟩ | ⟨g, cap, cur, e, hB, hh, hnc, hcm, hcs, htk⟩
  · obtain rfl : qs = [] := List.eq_nil_of_length_eq_zero h0
    rw [e]
    exact lst_nil RCan w
  · subst e
    refine ⟨_, _, cap, us, rfl, hnc, rfl, h1, by omega, fun h0 => ⟨_, rfl, (Array.getElem?_eq_some_iff.1 hh).1, fun j u hj => ?_⟩, fun j q hq => ?_⟩
    · have k : Blk w g TR cur := ⟨hh⟩
      rw [add0, k.cell]
      exact take_get htk hj
    · obtain ⟨u, hu, hr⟩ := h3 j q hq
      exact ⟨u, hu, hr.can⟩
theorem OLst.nil (w : World) (B : Nat) : OLst w B (.slice none 0 0) [] := ⟨[], rfl, World.ownsRow_nil _ _ _ _, fun j q h => by simp at h, .nil⟩
theorem OLst.below {w w' : World} {B : Nat} {v : Value} {qs : List Rat} (h : OLst w B v qs) (hb : Below w.heap.size w w') : OLst w' B v qs := by
  obtain ⟨us, h1, h2, h3, h4⟩ := h
  exact ⟨us, h1, own_below h2 hb, fun j q hq => by
    obtain ⟨u, hu, hr⟩ := h3 j q hq
    exact ⟨u, hu, hr.below hb⟩, h4⟩
theorem OLst.slice {w : World} {B : Nat} {v : Value} {qs : List Rat} (h : OLst w B v qs) : ∃ A c, v = .slice A qs.length c := by
  obtain ⟨us, h1, h2, h3, _⟩ := h
  exact own_slice h2
/-- What is newer than a list is apart from its elements. -/
theorem OLst.elt {w : World} {B : Nat} {v : Value} {qs : List Rat} {us : List Value} (h1 : us.length = qs.length) (h3 : ∀ (j : Nat) q, qs[j]? = some q → ∃ u, us[j]? = some u ∧ RatR q B w u) {q : Rat} {w' : World} {u : Value} (hq : RatR q w.heap.size w' u) : ∀ u' ∈ us, ∀ g, uhas u' g → ¬ uhas u g := by
  intro u' hu' g hg hg'
  obtain ⟨i, hi, rfl⟩ := List.getElem_of_mem hu'
  obtain ⟨x, hx, hr⟩ := h3 i (qs[i]'(by omega)) (List.getElem?_eq_getElem _)
  rw [List.getElem?_eq_getElem hi] at hx
  cases hx
  have := (hr.own_blk hg).2
  have := (hq.own_blk hg').1
  omega
/-- One more. -/
theorem wpList_appO {w : World} {ops : Array Oper} {rest : List Oper} {o : Oper} {a : Act} {Q : Exit → Act → World → Prop} (hgd : o.guard = none) (s x : Operand)
    (ho : o.op = .call { callee := .builtin .append, args := #[s, x], argTypes := #[30, 30] })
    (B : Nat) (v : Value) (qs : List Rat) (hs : a.eval s = v) {w0 : World} (hown0 : OLst w0 B v qs) (hb0 : Below w0.heap.size w0 w) (hB0 : B ≤ w0.heap.size) {g : Nat} {b : Bool} {A D : Option Addr} {m c k d : Nat} {q : Rat} (hx : a.eval x = .slice (some ⟨g, 0, none⟩) 1 1) (hg : Blk w g TR #[.bool b, .slice A m c, .slice D k d]) (hq : RatR q w0.heap.size w (.agg #[.bool b, .slice A m c, .slice D k d]))
    (hn : qs.length ≤ 1000000) (hbase : B ≤ w.heap.size)
    (h : ∀ v' w', Hid (OLst w' B v' (qs ++ [q])) → Hid (Below B w w') → Hid (B ≤ w'.heap.size) → wpList Tryd.prog ops Q rest (a.put o.dst v') w') : wpList Tryd.prog ops Q (o :: rest) a w := by
  have hfr : ∀ us' : List Value, us'.length = qs.length → (∀ (j : Nat) q, qs[j]? = some q → ∃ u, us'[j]? = some u ∧ RatR q B w0 u) → ∀ u' ∈ us', ∀ g', uhas u' g' → ¬ uhas (.agg #[.bool b, .slice A m c, .slice D k d]) g' := fun us' e1 e3 => OLst.elt (v := v) e1 e3 hq
  obtain ⟨us, h1, h2', h3', h4⟩ := hown0
  have h3 : ∀ (j : Nat) q, qs[j]? = some q → ∃ u, us[j]? = some u ∧ RatR q B w u := fun j q hq => by
    obtain ⟨u, hu, hr⟩ := h3' j q hq
    exact ⟨u, hu, hr.below hb0⟩
  have h2 := own_below h2' hb0
  have hap := UAp.snoc h4 (hfr us h1 h3')
  replace hq := hq.mono hB0
  refine wpList_appR hgd s x ho B qs.length v us hs h2 hx hg hn hbase fun v' w' k1 k2 => h v' w' ?_ ?_ ?_
  · have hr := fun k e => (own_row h2 k e).2
    refine ⟨us ++ [.agg #[.bool b, .slice A m c, .slice D k d]], by simp [h1], by rw [List.length_append]; exact k1.out, fun j p hp => ?_, hap⟩
    by_cases hj : j < qs.length
    · rw [List.getElem?_append_left hj] at hp
      obtain ⟨u, hu, hR⟩ := h3 j p hp
      exact ⟨u, by rw [List.getElem?_append_left (by omega)]; exact hu, hR.grownR k2.out hr⟩
    · have hj2 : j = qs.length := by
        have := (List.getElem?_eq_some_iff.1 hp).1
        simp at this
        omega
      subst hj2
      rw [List.getElem?_append_right (Nat.le_refl _), Nat.sub_self] at hp
      cases hp
      refine ⟨_, by rw [List.getElem?_append_right (by omega), h1, Nat.sub_self]; rfl, hq.grownR k2.out hr⟩
  · exact (Below.refl B w).grown k2.out hbase (fun k e => (own_row h2 k e).1)
  · exact Nat.le_trans hbase k2.out.size
set_option maxHeartbeats 1000000 in
theorem Zero_ok (w : World) (n : Nat) (hn : n ≤ 65536) :
    Calls Tryd.prog 25 #[.int .i64 (n : Nat)] w fun e w' => ∃ u, e = .returned u ∧ Hid (Below w.heap.size w w') ∧ Hid (OLst w' w.heap.size u (List.replicate n 0)) := by
  refine opq fun R hR => ?_
  go_enter Tryd.func25, Tryd.ntmps25
  go_wp2
  go_loopw [2, 3] (fun tv iv wr => ∃ (i : Nat) (A : Option Addr) (c : Nat), i ≤ n ∧ iv = .int .i64 (i : Nat) ∧ tv = .slice A i c ∧ Hid (OLst wr w.heap.size (.slice A i c) (List.replicate i 0)) ∧ Hid (Below w.heap.size w wr)) (fun _ iv _ => n - (intOf iv).toNat)
  case atStart => exact ⟨0, _, _, by omega, rfl, rfl, OLst.nil _ _, Below.refl _ _⟩
  case round =>
    obtain ⟨i, A, c, hi, rfl, rfl, own, hbel⟩ := hrel
    by_cases hlt : i < n
    · go_wp2_with fail
      refine (rOf_P _ 0 (by omega) (by omega)).mono ?_
      rintro e w1 ⟨u, rfl, d0, r⟩
      have r1 := hide r
      have hs0 := hide hbel.out.size
      replace hbel := hide (below_tr hbel.out d0)
      replace d0 := hide d0
      clear r
      obtain ⟨b, A1, n1, c1, D1, m1, k1, rfl⟩ := r1.out.slice
      have K := hide (Blk.new w1 TR #[.bool b, .slice A1 n1 c1, .slice D1 m1 k1])
      have y : Below w1.heap.size w1 (w1.alloc (.cells #[.bool b, .slice A1 n1 c1, .slice D1 m1 k1] TR)) := (Below.refl _ _).alloc (Nat.le_refl _) _
      have O2 := hide (below_tr d0.out y)
      have R2 := hide (r1.out.below y)
      have B2 := hide (below_tr hbel.out y)
      clear r1 hbel y d0
      go_wp2_with (at_builtin; refine wpList_appO rfl _ _ rfl w.heap.size _ (List.replicate i 0) rfl own.out O2.out hs0.out rfl K.out R2.out (by rw [List.length_replicate]; omega) B2.out.size ?_; intro v' w3 q1 q2 q3)
      have q4 : Hid (OLst w3 w.heap.size v' (List.replicate (i + 1) 0)) := by
        show OLst _ _ _ _
        rw [List.replicate_succ']
        exact q1.out
      obtain ⟨A', c', rfl⟩ := q4.out.slice
      rw [List.length_replicate] at q4 ⊢
      have B4 := hide (B2.out.trans q2.out)
      go_roundw
      case rel => exact ⟨i + 1, A', c', by omega, by go_num, rfl, q4, B4⟩
      case measure => simp [intOf]; omega
    · obtain rfl : i = n := by omega
      go_wp2
      exact opq_end hR ⟨_, rfl, hbel, own⟩
def rats (zs : List Int) : List Rat := zs.map fun (z : Int) => (z : Rat)
/-- What a law's own list of whole numbers is. -/
def NumsAt (w : World) (g : Nat) (zs : List Int) : Prop := ∀ (j : Nat) z, zs[j]? = some z → w.cell? ⟨g, j, none⟩ = some (.int .i64 z)
end Go.Proofs.YtfpnhggbfakdkaaDoor

/- vecs: Scale. -/
set_option linter.unusedVariables false
set_option linter.unusedSimpArgs false
set_option maxRecDepth 100000
namespace Go.Proofs.YtfpnhggbfakdkaaDoor
open Go.RowKit

theorem own_mono {w : World} {B B' n : Nat} {v : Value} {xs : List Value} (h : w.ownsRow B TR 3 v n xs) (hB : B' ≤ B) : w.ownsRow B' TR 3 v n xs := by
  refine ⟨h.1, ?_⟩
  rcases h.2 with h2 | ⟨g, cap, cur, e1, hg, r⟩
  · exact .inl h2
  · exact .inr ⟨g, cap, cur, e1, Nat.le_trans hB hg, r⟩
theorem OLst.mono {w : World} {B B' : Nat} {v : Value} {qs : List Rat} (h : OLst w B v qs) (hB : B' ≤ B) : OLst w B' v qs := by
  obtain ⟨us, h1, h2, h3, h4⟩ := h
  exact ⟨us, h1, own_mono h2 hB, fun j q hq => by
    obtain ⟨u, hu, hr⟩ := h3 j q hq
    exact ⟨u, hu, hr.mono hB⟩, h4⟩
theorem add_off (ad : Addr) (m k : Nat) (hk : 0 < k) : ad.add (m + k) = ⟨(ad.add m).block, (ad.add m).off + k, none⟩ := by
  unfold Addr.add
  rw [if_neg (by omega)]
  by_cases h : m = 0
  · subst h; simp
  · rw [if_neg h]; simp [Nat.add_assoc]
theorem Lst.at_ {α : Type} {E : World → Value → α → Prop} (hT : Tri E) {w : World} {A : Option Addr} {n c : Nat} {qs : List α} (h : Lst E w (.slice A n c) qs) {j : Nat} {q : α} (hj : qs[j]? = some q) :
    ∃ ad b A1 n1 c1 A2 n2 c2, A = some ad ∧ j < n ∧ w.cell? (ad.add (j * 3)) = some (.bool b) ∧ w.cell? ⟨(ad.add (j * 3)).block, (ad.add (j * 3)).off + 1, none⟩ = some (.slice A1 n1 c1) ∧ w.cell? ⟨(ad.add (j * 3)).block, (ad.add (j * 3)).off + 2, none⟩ = some (.slice A2 n2 c2) ∧ E w (.agg #[.bool b, .slice A1 n1 c1, .slice A2 n2 c2]) q := by
  obtain ⟨ad, b, A1, n1, c1, A2, n2, c2, e, h1, h2, h3, h4, h5⟩ := h.get hT hj
  rw [Nat.mul_comm] at h2 h3 h4
  rw [add_off _ _ _ (by omega)] at h3 h4
  exact ⟨ad, b, A1, n1, c1, A2, n2, c2, e, h1, h2, h3, h4, h5⟩
set_option maxHeartbeats 2000000 in
theorem Scale_ok (w : World) (A : Option Addr) (n c : Nat) (qs : List Rat) (b : Bool) (A1 : Option Addr) (n1 c1 : Nat) (D1 : Option Addr) (m1 k1 : Nat) (y : Rat) (h : Lst RArg w (.slice A n c) qs) (hy : RArg w (.agg #[.bool b, .slice A1 n1 c1, .slice D1 m1 k1]) y) (hn : n ≤ 1000000) (hT : Tab w) :
    Calls Tryd.prog 32 #[.slice A n c, .agg #[.bool b, .slice A1 n1 c1, .slice D1 m1 k1]] w fun e w' => ∃ u, e = .returned u ∧ Hid (Below w.heap.size w w') ∧ Hid (OLst w' w.heap.size u (qs.map (· * y))) := by
  refine opq fun R hR => ?_
  have L := hide h
  have Y := hide hy
  have T := hide hT
  have hq : Hid (qs.length = n) := by
    obtain ⟨_, _, _, _, e, _, h2, _⟩ := h
    cases e
    exact h2.symm
  clear h hy hT
  go_enter Tryd.func32, Tryd.ntmps32
  have b0 := hide (Below.refl w.heap.size w)
  have K3 := hide (Blk.new_at w (w.heap.size) (by simp) TR #[.bool b, .slice A1 n1 c1, .slice D1 m1 k1])
  have yy := (Below.refl w.heap.size w).alloc (Nat.le_refl _) (.cells #[.bool b, .slice A1 n1 c1, .slice D1 m1 k1] TR)
  replace b0 := hide (below_tr b0.out yy)
  clear yy
  go_wp2
  obtain ⟨V, hV⟩ : ∃ V, w.alloc (.cells #[.bool b, .slice A1 n1 c1, .slice D1 m1 k1] TR) = V := ⟨_, rfl⟩
  rw [hV] at K3 b0
  rw [hV]
  clear hV
  go_loopw [4, 9] (fun tv iv wr => ∃ (i : Nat) (A' : Option Addr) (c' : Nat), i ≤ n ∧ iv = .int .i64 (i : Nat) ∧ tv = .slice A' i c' ∧ Hid (OLst wr V.heap.size (.slice A' i c') ((qs.take i).map (· * y))) ∧ Hid (Below V.heap.size V wr)) (fun _ iv _ => n - (intOf iv).toNat)
  case atStart => exact ⟨0, _, _, by omega, rfl, rfl, OLst.nil _ _, Below.refl _ _⟩
  case round =>
    obtain ⟨i, A', c', hi, rfl, rfl, own, hbel⟩ := hrel
    by_cases hlt : i < n
    · obtain ⟨x, hx⟩ : ∃ x, qs[i]? = some x := ⟨_, List.getElem?_eq_getElem (by rw [hq.out]; exact hlt)⟩
      obtain ⟨ad, b2, A2, n2, c2, D2, m2, k2, rfl, _, x0, x1, x2, X⟩ := (L.out.arg_below (below_tr b0.out hbel.out)).at_ tri_arg hx
      have hT := hide (show qs.take (i + 1) = qs.take i ++ [x] by
        rw [List.take_add_one, hx]; rfl)
      replace X := hide X
      replace hx := hide hx
      have yy : Below wr.heap.size wr (wr.alloc (.cells #[.bool b2, .slice A2 n2 c2, .slice D2 m2 k2] TR)) := (Below.refl _ _).alloc (Nat.le_refl _) _
      have K6 := hide (Blk.new wr TR #[.bool b2, .slice A2 n2 c2, .slice D2 m2 k2])
      have u0 := K6.out.at_ 0 rfl
      have u1 := K6.out.at_ 1 rfl
      have u2 := K6.out.at_ 2 rfl
      have k0 := (K3.out.below' (below_tr hbel.out yy)).at_ 0 rfl
      have k1' := (K3.out.below' (below_tr hbel.out yy)).at_ 1 rfl
      have k2' := (K3.out.below' (below_tr hbel.out yy)).at_ 2 rfl
      go_wp2_with fail
      refine (rMul_P (X.out.below yy) ((Y.out.below (below_tr b0.out hbel.out)).below yy) ((T.out.below (below_tr b0.out hbel.out)).below yy)).mono ?_
      rintro e w1 ⟨u, rfl, d0, r⟩
      have hs0 := hide hbel.out.size
      have r1 := hide (r.mono (B' := wr.heap.size) yy.size)
      replace hbel := hide (below_tr (below_tr hbel.out yy) d0)
      have D0 := hide (below_tr yy d0)
      clear d0 r yy K6 u0 u1 u2 k0 k1' k2' x0 x1 x2 X
      obtain ⟨b3, A3, n3, c3, D3, m3, k3, rfl⟩ := r1.out.slice
      have K := hide (Blk.new w1 TR #[.bool b3, .slice A3 n3 c3, .slice D3 m3 k3])
      have y1 : Below w1.heap.size w1 (w1.alloc (.cells #[.bool b3, .slice A3 n3 c3, .slice D3 m3 k3] TR)) := (Below.refl _ _).alloc (Nat.le_refl _) _
      have O2 := hide (below_tr D0.out y1)
      have R2 := hide (r1.out.below y1)
      have B2 := hide (below_tr hbel.out y1)
      have hlen : Hid (((qs.take i).map (· * y)).length = i) := by
        show _ = _
        rw [List.length_map, List.length_take, hq.out]; omega
      clear r1 hbel y1 D0
      go_wp2_with (at_builtin; refine wpList_appO rfl _ _ rfl V.heap.size _ ((qs.take i).map (· * y)) rfl own.out O2.out hs0.out rfl K.out R2.out (by rw [hlen.out]; omega) B2.out.size ?_; intro v' w3 q1 q2 q3)
      have q4 : Hid (OLst w3 V.heap.size v' ((qs.take (i + 1)).map (· * y))) := by
        show OLst _ _ _ _
        rw [hT.out, List.map_append]
        exact q1.out
      obtain ⟨A', c', rfl⟩ := q4.out.slice
      have hlen2 : Hid (((qs.take (i + 1)).map (· * y)).length = i + 1) := by
        show _ = _
        rw [List.length_map, List.length_take, hq.out]; omega
      rw [hlen2.out] at q4 ⊢
      have B4 := hide (B2.out.trans q2.out)
      go_roundw
      case rel => exact ⟨i + 1, A', c', by omega, by go_num, rfl, q4, B4⟩
      case measure => simp [intOf]; omega
    · obtain rfl : i = n := by omega
      rw [List.take_of_length_le (by rw [hq.out]; exact Nat.le_refl _)] at own
      have B5 := hide (below_tr b0.out hbel.out)
      have O5 : Hid (OLst wr w.heap.size (.slice A' i c') (qs.map (· * y))) := own.out.mono b0.out.size
      go_wp2
      exact opq_end hR ⟨_, rfl, B5, O5⟩
end Go.Proofs.YtfpnhggbfakdkaaDoor

/- vecs: Check, fit. -/
set_option linter.unusedVariables false
set_option linter.unusedSimpArgs false
set_option maxRecDepth 100000
namespace Go.Proofs.YtfpnhggbfakdkaaDoor
open Go.RowKit

/-- A raw fraction of a list. -/
abbrev Raw := Bool × List Nat × List Nat
def RRaw (w : World) (u : Value) (e : Raw) : Prop := RPrt w u e.1 e.2.1 e.2.2
def rk (e : Raw) : Bool := rok e.1 e.2.1 e.2.2
theorem RPrt.slice {w : World} {v : Value} {b : Bool} {xs ys : List Nat} (h : RPrt w v b xs ys) : ∃ b A n c D m k, v = .agg #[.bool b, .slice A n c, .slice D m k] := by
  obtain ⟨u, d, rfl, ⟨A, n, c, rfl, _⟩, ⟨D, m, k, rfl, _⟩⟩ := h
  exact ⟨_, _, _, _, _, _, _, rfl⟩
theorem tri_raw : Tri RRaw := fun w u q h => h.slice
theorem RRaw.below {w w' : World} {u : Value} {e : Raw} (h : RRaw w u e) (hb : Below w.heap.size w w') : RRaw w' u e := RPrt.below h hb
theorem Lst.raw_below {w w' : World} {v : Value} {es : List Raw} (h : Lst RRaw w v es) (hb : Below w.heap.size w w') : Lst RRaw w' v es := Lst.below h (fun u q h => h.below hb) hb
theorem Lst.len {α : Type} {E : World → Value → α → Prop} {w : World} {A : Option Addr} {n c : Nat} {qs : List α} (h : Lst E w (.slice A n c) qs) : qs.length = n := by
  obtain ⟨_, _, _, _, e, _, h2, _⟩ := h
  cases e
  exact h2.symm
set_option maxHeartbeats 1000000 in
theorem vCheck1_ok (w : World) (b : Bool) (A1 : Option Addr) (n1 c1 : Nat) (D1 : Option Addr) (m1 k1 : Nat) (e : Raw) (h : RRaw w (.agg #[.bool b, .slice A1 n1 c1, .slice D1 m1 k1]) e) (hT : Tab w) :
    Calls Tryd.prog 37 #[.agg #[.bool b, .slice A1 n1 c1, .slice D1 m1 k1]] w fun e' w' => e' = .returned (.bool (!(rk e))) ∧ Hid (Below w.heap.size w w') := by
  refine opq fun R hR => ?_
  have L := hide h
  have T := hide hT
  clear h hT
  go_enter Tryd.func37, Tryd.ntmps37
  have b0 := hide (Below.refl w.heap.size w)
  have K3 := hide (Blk.new_at w (w.heap.size) (by simp) TR #[.bool b, .slice A1 n1 c1, .slice D1 m1 k1])
  have yy := (Below.refl w.heap.size w).alloc (Nat.le_refl _) (.cells #[.bool b, .slice A1 n1 c1, .slice D1 m1 k1] TR)
  replace b0 := hide (below_tr b0.out yy)
  clear yy
  go_wp2_with fail
  refine (rCheck_P (L.out.below b0.out) (T.out.below b0.out) (rk e) rfl).mono ?_
  rintro e' w1 ⟨_, rfl, d0, rfl⟩
  replace b0 := hide (below_tr b0.out d0)
  clear d0
  go_wp2
  exact opq_end hR ⟨rfl, b0⟩
abbrev ckF : Value := .func (.func 37) #[] #[]
set_option maxHeartbeats 1000000 in
theorem vIndex_ok (w : World) (A : Option Addr) (n c : Nat) (es : List Raw) (h : Lst RRaw w (.slice A n c) es) (hT : Tab w) :
    Calls Tryd.prog 58 #[.slice A n c, ckF] w fun e w' => ∃ r : Int, e = .returned (.int .i64 r) ∧ Hid (decide (0 ≤ r) = !(es.all rk)) ∧ Hid (Below w.heap.size w w') := by
  refine opq fun R hR => ?_
  have L := hide h
  have T := hide hT
  have hq := hide h.len
  have hn : n ≤ 140737488355328 := by
    obtain ⟨_, _, _, _, e, _, _, _, h4, _⟩ := h
    cases e
    exact h4
  clear h hT
  go_enter Tryd.func58, Tryd.ntmps58
  go_wp2
  go_loopw [8] (fun iv wr => ∃ (i : Nat), i ≤ n ∧ iv = .int .i64 (i : Nat) ∧ Hid ((es.take i).all rk = true) ∧ Hid (Below w.heap.size w wr)) (fun iv _ => n - (intOf iv).toNat)
  case atStart => exact ⟨0, by omega, rfl, rfl, Below.refl _ _⟩
  case round =>
    obtain ⟨i, hi, rfl, hall, hbel⟩ := hrel
    by_cases hlt : i < n
    · obtain ⟨x, hx⟩ : ∃ x, es[i]? = some x := ⟨_, List.getElem?_eq_getElem (by rw [hq.out]; exact hlt)⟩
      obtain ⟨ad, b2, A2, n2, c2, D2, m2, k2, rfl, _, x0, x1, x2, X⟩ := (L.out.raw_below hbel.out).at_ tri_raw hx
      have hT := hide (show es.take (i + 1) = es.take i ++ [x] by
        rw [List.take_add_one, hx]; rfl)
      have hm := hide (List.mem_of_getElem? hx)
      replace X := hide X
      replace hx := hide hx
      go_wp2_with fail
      refine (vCheck1_ok _ b2 A2 n2 c2 D2 m2 k2 x X.out (T.out.below hbel.out)).mono ?_
      rintro e w1 ⟨rfl, d0⟩
      replace hbel := hide (below_tr hbel.out d0.out)
      clear d0 x0 x1 x2 X
      by_cases hr : rk x = true
      · rw [hr]
        have h2 : Hid ((es.take (i + 1)).all rk = true) := by
          show _ = _
          rw [hT.out, List.all_append, hall.out]
          simp [hr]
        go_wp2
        go_roundw
        case rel => exact ⟨i + 1, by omega, by go_num, h2, hbel⟩
        case measure => simp [intOf]; omega
      · have hr2 : rk x = false := by simpa using hr
        rw [hr2]
        have h2 : Hid (decide (0 ≤ ((i : Nat) : Int)) = !(es.all rk)) := by
          show _ = _
          have : es.all rk = false := List.all_eq_false.2 ⟨x, hm.out, by simp [hr2]⟩
          rw [this]
          simp
        go_wp2
        exact opq_end hR ⟨_, rfl, h2, hbel⟩
    · obtain rfl : i = n := by omega
      rw [List.take_of_length_le (by rw [hq.out]; exact Nat.le_refl _)] at hall
      have h2 : Hid (decide (0 ≤ (-1 : Int)) = !(es.all rk)) := by
        show _ = _
        rw [hall.out]; rfl
      go_wp2
      exact opq_end hR ⟨_, rfl, h2, hbel⟩
theorem vContains_ok (w : World) (A : Option Addr) (n c : Nat) (es : List Raw) (h : Lst RRaw w (.slice A n c) es) (hT : Tab w) :
    Calls Tryd.prog 36 #[.slice A n c, ckF] w fun e w' => e = .returned (.bool (!(es.all rk))) ∧ Hid (Below w.heap.size w w') := by
  refine opq fun R hR => ?_
  go_enter Tryd.func36, Tryd.ntmps36
  have C := hide (vIndex_ok w A n c es h hT)
  clear h hT
  go_wp2_with fail
  refine C.out.mono ?_
  rintro e w1 ⟨r, rfl, hr, d0⟩
  go_wp2
  exact opq_end hR ⟨ret_bool hr.out, d0⟩
theorem vCheck_ok (w : World) (A : Option Addr) (n c : Nat) (es : List Raw) (h : Lst RRaw w (.slice A n c) es) (hT : Tab w) :
    Calls Tryd.prog 16 #[.slice A n c] w fun e w' => e = .returned (.bool (es.all rk)) ∧ Hid (Below w.heap.size w w') := by
  refine opq fun R hR => ?_
  go_enter Tryd.func16, Tryd.ntmps16
  have C := hide (vContains_ok w A n c es h hT)
  clear h hT
  go_wp2_with fail
  refine C.out.mono ?_
  rintro e w1 ⟨rfl, d0⟩
  go_wp2
  exact opq_end hR ⟨ret_bool (by simp), d0⟩
end Go.Proofs.YtfpnhggbfakdkaaDoor

/- vecs: fit. -/
set_option linter.unusedVariables false
set_option linter.unusedSimpArgs false
set_option maxRecDepth 100000
namespace Go.Proofs.YtfpnhggbfakdkaaDoor
open Go.RowKit

/-- Two raw lists that may be, as long. -/
def fits (es fs : List Raw) : Bool := decide (es.length = fs.length) && es.all rk && fs.all rk
theorem vfit_ok (w : World) (A : Option Addr) (n c : Nat) (es : List Raw) (A' : Option Addr) (n' c' : Nat) (fs : List Raw) (h : Lst RRaw w (.slice A n c) es) (h' : Lst RRaw w (.slice A' n' c') fs) (hT : Tab w) :
    Calls Tryd.prog 41 #[.slice A n c, .slice A' n' c'] w fun e w' => e = .returned (.bool (fits es fs)) ∧ Hid (Below w.heap.size w w') := by
  refine opq fun R hR => ?_
  have L := hide h
  have L' := hide h'
  have T := hide hT
  have hq := hide h.len
  have hq' := hide h'.len
  clear h h' hT
  go_enter Tryd.func41, Tryd.ntmps41
  by_cases hl : n = n'
  case neg =>
    have hf : Hid (fits es fs = false) := by
      show _ = _
      unfold fits
      rw [decide_eq_false (by rw [hq.out, hq'.out]; exact hl)]; rfl
    have hz : ((n : Int) == (n' : Int)) = false := by simp; omega
    go_wp2
    exact opq_end hR ⟨by rw [hf.out]; rfl, Below.refl _ _⟩
  subst hl
  have hf : Hid (fits es fs = (es.all rk && fs.all rk)) := by
    show _ = _
    unfold fits
    rw [decide_eq_true (by rw [hq.out, hq'.out])]; rfl
  go_wp2_with fail
  refine (vCheck_ok w A n c es L.out T.out).mono ?_
  rintro e w1 ⟨rfl, d0⟩
  rcases h1 : es.all rk with _ | _
  · go_wp2
    exact opq_end hR ⟨by rw [hf.out, h1]; rfl, d0⟩
  · go_wp2_with fail
    refine (vCheck_ok w1 A' n c' fs (L'.out.raw_below d0.out) (T.out.below d0.out)).mono ?_
    rintro e w2 ⟨rfl, d1⟩
    have B := hide (below_tr d0.out d1.out)
    go_wp2
    exact opq_end hR ⟨by rw [hf.out, h1]; simp, B⟩
end Go.Proofs.YtfpnhggbfakdkaaDoor
