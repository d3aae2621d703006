/- Words on memory. -/
import Derived.Test.YtfpnhggbfakdkaaDoorLa
import Derived.WalkKit
import Derived.BigQuiet
import Derived.Deep.QuietTactic
import Derived.Laws.MakeOwn
import Derived.Maps.AppendAt
import Derived.Deep.AppendLies
/- Words on memory: what a slice of parts reads as; rows of the call's own. -/
set_option linter.unusedVariables false
set_option linter.unusedSimpArgs false
namespace Go.Proofs.YtfpnhggbfakdkaaDoor
open Go.RowKit

/-! ### a post that the walk does not look into -/
theorem opq {P : Program} {f : FuncId} {args : Array Value} {w : World} {R0 : Ending → World → Prop} (h : ∀ R : Ending → World → Prop, Hid (R = R0) → Calls P f args w R) : Calls P f args w R0 := h R0 rfl
theorem opq_end {R R0 : Ending → World → Prop} (h : Hid (R = R0)) {e : Ending} {w : World} (h0 : R0 e w) : R e w := by rw [h.out]; exact h0
theorem hide {p : Prop} (h : p) : Hid p := h
theorem bne_nat0 (x : Nat) : ((x : Int) != 0) = decide (x ≠ 0) := by rw [Bool.eq_iff_iff]; simp
theorem beq_nat0 (x : Nat) : ((x : Int) == 0) = decide (x = 0) := by rw [Bool.eq_iff_iff]; simp
theorem wrap_u32_nat {x : Nat} (h : x < 4294967296) : IntKind.u32.wrap (x : Int) = x := by rw [IntKind.wrap_u32]; omega
theorem ret_nat {k : IntKind} {a b : Nat} (h : a = b) : Ending.returned (.int k a) = .returned (.int k b) := by rw [h]
theorem ret_bool {a b : Bool} (h : a = b) : Ending.returned (.bool a) = .returned (.bool b) := by rw [h]

theorem cell_below {w w' : World} (h : Below w.heap.size w w') {a : Addr} {v : Value} (hc : w.cell? a = some v) : w'.cell? a = some v := (h.cell (World.block_lt_of_cell? w a hc)).trans hc
theorem below_trans {B : Nat} {w w1 w2 : World} (h : Below B w w1) (hB : B ≤ w1.heap.size) (k : Below w1.heap.size w1 w2) : Below B w w2 := h.trans (k.mono hB)
theorem below_tr {w w1 w2 : World} (h : Below w.heap.size w w1) (k : Below w1.heap.size w1 w2) : Below w.heap.size w w2 := below_trans h h.size k

/-! ### a slice of numbers of one kind that is read -/
def Rdk (k : IntKind) (w : World) (A : Option Addr) (n : Nat) (xs : List Nat) : Prop :=
  xs.length = n ∧ n ≤ 9223372036854775807 ∧ (0 < n → ∃ ad, A = some ad ∧ ad.block < w.heap.size ∧ ∀ j, j < n → w.cell? (ad.add j) = some (.int k (xs.getD j 0 : Nat)))
abbrev Rd (w : World) (A : Option Addr) (n : Nat) (xs : List Nat) : Prop := Rdk .u32 w A n xs
theorem Rdk.below {k : IntKind} {w w' : World} {A : Option Addr} {n : Nat} {xs : List Nat} (h : Rdk k w A n xs) (hb : Below w.heap.size w w') : Rdk k w' A n xs :=
  ⟨h.1, h.2.1, fun hn => by
    obtain ⟨ad, e, hl, hc⟩ := h.2.2 hn
    exact ⟨ad, e, Nat.lt_of_lt_of_le hl hb.size, fun j hj => cell_below hb (hc j hj)⟩⟩
theorem Rdk.nil (k : IntKind) (w : World) (A : Option Addr) : Rdk k w A 0 [] := ⟨rfl, by omega, fun h => absurd h (by omega)⟩
theorem Rdk.nil_iff {k : IntKind} {w : World} {A : Option Addr} {xs : List Nat} (h : Rdk k w A 0 xs) : xs = [] := List.eq_nil_of_length_eq_zero h.1
theorem Rdk.take {k : IntKind} {w : World} {A : Option Addr} {n : Nat} {xs : List Nat} (h : Rdk k w A n xs) (m : Nat) (hm : m ≤ n) : Rdk k w A m (xs.take m) := by
  refine ⟨by rw [List.length_take, h.1]; omega, by have := h.2.1; omega, fun hn => ?_⟩
  obtain ⟨ad, e, hl, hc⟩ := h.2.2 (by omega)
  refine ⟨ad, e, hl, fun j hj => ?_⟩
  rw [hc j (by omega)]
  simp [List.getD_eq_getElem?_getD, List.getElem?_take, hj]

/-! ### a block of the call's own: all cells known -/
def cellsOf (k : IntKind) (xs : List Nat) : Array Value := (xs.map fun x => Value.int k (x : Nat)).toArray
theorem cellsOf_size (k : IntKind) (xs : List Nat) : (cellsOf k xs).size = xs.length := by simp [cellsOf]
theorem cellsOf_get (k : IntKind) (xs : List Nat) (i : Nat) (h : i < xs.length) : (cellsOf k xs)[i]? = some (.int k (xs.getD i 0 : Nat)) := by
  simp [cellsOf, getD_lt h, List.getElem?_eq_getElem h]
theorem cellsOf_set (k : IntKind) (xs : List Nat) (i v : Nat) : (cellsOf k xs).setIfInBounds i (.int k (v : Nat)) = cellsOf k (xs.set i v) := by
  apply Array.ext'
  simp [cellsOf, List.map_set]
/-- Block number g holds the cells cs, of element type t; none is sealed. -/
structure Blk (w : World) (g : Nat) (t : TypeId) (cs : Array Value) : Prop where
  eq : w.heap[g]? = some (.cells cs t (0, 0))
section
variable {w w' : World} {g : Nat} {t : TypeId} {cs : Array Value}
theorem Blk.lt (h : Blk w g t cs) : g < w.heap.size := (Array.getElem?_eq_some_iff.1 h.eq).1
theorem Blk.cell (h : Blk w g t cs) (i : Nat) : w.cell? ⟨g, i, none⟩ = cs[i]? := by simp [World.cell?, h.eq]
theorem Blk.frozen (h : Blk w g t cs) (i : Nat) : w.frozen? ⟨g, i, none⟩ = false := by simp [World.frozen?, h.eq]
theorem Blk.new (w : World) (t : TypeId) (cs : Array Value) : Blk (w.alloc (.cells cs t)) w.heap.size t cs := ⟨heap_alloc_new w _⟩
theorem Blk.keep (h : Blk w g t cs) (e : w'.heap[g]? = w.heap[g]?) : Blk w' g t cs := ⟨e.trans h.eq⟩
theorem Blk.drew (h : Blk w g t cs) : Blk w.drew g t cs := h.keep rfl
theorem Blk.drewN (h : Blk w g t cs) (n : Nat) : Blk (w.drewN n) g t cs := h.keep rfl
theorem Blk.alloc (h : Blk w g t cs) (o : Obj) : Blk (w.alloc o) g t cs := h.keep (Below.heap_alloc w o g h.lt)
theorem Blk.set_ (h : Blk w g t cs) (i : Nat) (u : Value) : Blk (w.setCell ⟨g, i, none⟩ u) g t (cs.setIfInBounds i u) :=
  ⟨by simp only [World.setCell, Array.getElem?_modify, if_true, h.eq, Option.map_some]; rfl⟩
theorem Blk.far (h : Blk w g t cs) {p : Addr} (hp : g ≠ p.block) (u : Value) : Blk (w.setCell p u) g t cs := h.keep (Below.heap_setCell w p u g hp)
theorem Blk.below {B : Nat} (h : Blk w g t cs) (hb : Below B w w') (hg : g < B) : Blk w' g t cs := h.keep (hb.block g hg)
theorem Blk.below' (h : Blk w g t cs) (hb : Below w.heap.size w w') : Blk w' g t cs := h.below hb h.lt
theorem Blk.type_ne {g' : Nat} {t' : TypeId} {cs' : Array Value} (h : Blk w g t cs) (h' : Blk w g' t' cs') (hne : t ≠ t') : g ≠ g' := fun e => by
  have := h.eq
  rw [e, h'.eq] at this
  cases this
  exact hne rfl
/-- A block of the call's own reads as the list that it holds, or its beginning. -/
theorem Blk.rd {k : IntKind} {xs : List Nat} (h : Blk w g t (cellsOf k xs)) (n : Nat) (hn : n ≤ xs.length) (hm : n ≤ 9223372036854775807) : Rdk k w (some ⟨g, 0, none⟩) n (xs.take n) := by
  refine ⟨by rw [List.length_take]; omega, hm, fun h0 => ⟨_, rfl, h.lt, fun j hj => ?_⟩⟩
  rw [show (⟨g, 0, none⟩ : Addr).add j = ⟨g, j, none⟩ by unfold Addr.add; split <;> simp_all, h.cell, cellsOf_get k xs j (by omega)]
  simp [List.getD_eq_getElem?_getD, List.getElem?_take, hj]
end
theorem add0 (g j : Nat) : (⟨g, 0, none⟩ : Addr).add j = ⟨g, j, none⟩ := by unfold Addr.add; split <;> simp_all
/-- All that a slice may come to write lies in a block of its own, from block number B on. -/
def Fr (t : TypeId) (B : Nat) (w : World) (A : Option Addr) (c : Nat) : Prop :=
  c = 0 ∨ ∃ g cs, A = some ⟨g, 0, none⟩ ∧ B ≤ g ∧ Blk w g t cs ∧ c ≤ cs.size
theorem Fr.below {t : TypeId} {B : Nat} {w w' : World} {A : Option Addr} {c : Nat} (h : Fr t B w A c) (hb : Below w.heap.size w w') : Fr t B w' A c := by
  rcases h with h | ⟨g, cs, e, hB, hk, hc⟩
  · exact .inl h
  · exact .inr ⟨g, cs, e, hB, hk.below' hb, hc⟩
theorem Fr.mono {t : TypeId} {B B' : Nat} {w : World} {A : Option Addr} {c : Nat} (h : Fr t B w A c) (hB : B' ≤ B) : Fr t B' w A c := by
  rcases h with h | ⟨g, cs, e, hg, hk, hc⟩
  · exact .inl h
  · exact .inr ⟨g, cs, e, Nat.le_trans hB hg, hk, hc⟩
theorem Fr.cap {t : TypeId} {B : Nat} {w : World} {A : Option Addr} {c : Nat} (h : Fr t B w A c) {c' : Nat} (hc' : c' ≤ c) : Fr t B w A c' := by
  rcases h with h | ⟨g, cs, e, hg, hk, hc⟩
  · exact .inl (by omega)
  · exact .inr ⟨g, cs, e, hg, hk, by omega⟩

/-! ### append of numbers that are read onto a row of the call's own -/
theorem Rdk.list {k : IntKind} {w : World} {A : Option Addr} {n : Nat} {xs : List Nat} (h : Rdk k w A n xs) (hn : 0 < n) : ∃ ad, A = some ad ∧ ∀ j u, (xs.map fun x => Value.int k (x : Nat))[j]? = some u → w.cell? (ad.add j) = some u := by
  obtain ⟨ad, e, _, hc⟩ := h.2.2 hn
  refine ⟨ad, e, fun j u hu => ?_⟩
  rw [List.getElem?_map] at hu
  by_cases hj : j < xs.length
  · rw [List.getElem?_eq_getElem hj] at hu
    rw [hc j (by rw [← h.1]; exact hj), getD_lt hj]
    exact hu
  · rw [List.getElem?_eq_none (by omega)] at hu
    cases hu
/-- 'append(v, s...)': v a row of the call's own, s numbers that are read. -/
theorem app_nums {P : Program} {t e : TypeId} {k : IntKind} {b : Nat} (ht : P.underlying t = some (.slice e)) (he : (P.info? e).map (fun i => (i.zero, i.size, i.bytes)) = some (some (.int k 0), 1, b)) (w : World) (ty : TypeId)
    (base n : Nat) (v : Value) (ys : List Nat) (hown : w.ownsRow base e 1 v n (ys.map fun x => Value.int k (x : Nat))) (A : Option Addr) (m c : Nat) (xs : List Nat) (hr : Rdk k w A m xs)
    (h63 : n + m ≤ 9223372036854775807) (hb : (n + m) * b ≤ 140737488355328) (hbase : base ≤ w.heap.size) :
    ∃ v' w', (Builtin.append_ #[t, t] ty #[v, .slice A m c]).run P w = .ok v' w' ∧ w'.ownsRow base e 1 v' (n + m) ((ys ++ xs).map fun x => Value.int k (x : Nat)) ∧ w.grownBy w' v.ownBlock ∧ (v'.ownBlock = v.ownBlock ∨ v'.ownBlock = some w.heap.size) := by
  obtain ⟨i0, hi, hz0, hz1, hz2⟩ := info_parts he
  rcases A with _ | ad
  · have hm : m = 0 := by
      rcases Nat.eq_zero_or_pos m with h0 | h0
      · exact h0
      · obtain ⟨ad, h, _⟩ := hr.2.2 h0; cases h
    subst hm
    rw [hr.nil_iff, List.append_nil]
    refine ⟨v, w, ?_, by simpa using hown, World.grownBy.refl w _, .inl rfl⟩
    rcases hown.2 with ⟨rfl, rfl⟩ | ⟨g, cap, cur, rfl, _, _, hnc, _⟩
    · simp [Builtin.append_, run_underlying ht, sizeOf, typeInfo, hi, Builtin.lenOf, Builtin.firstCells]
    · simp [Builtin.append_, run_underlying ht, sizeOf, typeInfo, hi, Builtin.lenOf, Builtin.firstCells, hnc, storeCells]
  · have hcell : ∀ j u, (xs.map fun x => Value.int k (x : Nat))[j]? = some u → w.cell? (ad.add j) = some u := by
      intro j u hu
      rcases Nat.eq_zero_or_pos m with h0 | h0
      · subst h0
        rw [hr.nil_iff] at hu
        simp at hu
      · obtain ⟨ad', e', h⟩ := hr.list h0
        cases e'
        exact h j u hu
    obtain ⟨v', w', h1, h2, h3, _, h5⟩ := run_append_own_at (P := P) w base t ty e i0 (.int k 0) 1 b ht hi hz0 hz1 hz2 rfl (by decide) v n _ hown ad m c _ (by simp [hr.1]) hcell (by intro u hu; obtain ⟨x, _, rfl⟩ := List.mem_map.1 hu; rfl) (by simpa [maxLen] using h63) hb hbase
    exact ⟨v', w', h1, by rw [List.map_append]; exact h2, h3, h5⟩
theorem own_rd {w : World} {base n : Nat} {e : TypeId} {k : IntKind} {v : Value} {xs : List Nat} (h : w.ownsRow base e 1 v n (xs.map fun x => Value.int k (x : Nat))) : ∃ A c, v = .slice A n c ∧ n ≤ c ∧ Rdk k w A n xs ∧ Fr e base w A c := by
  have hl : xs.length = n := by simpa using h.1
  rcases h.2 with ⟨rfl, rfl⟩ | ⟨g, cap, cur, rfl, hB, hh, hnc, hcm, hcs, htk⟩
  · obtain rfl : xs = [] := List.eq_nil_of_length_eq_zero hl
    exact ⟨none, 0, rfl, Nat.le_refl _, Rdk.nil _ _ _, .inl rfl⟩
  · have hb : Blk w g e cur := ⟨hh⟩
    refine ⟨_, cap, rfl, hnc, ⟨hl, by simp only [maxLen] at hcm; omega, fun hn => ⟨_, rfl, hb.lt, fun j hj => ?_⟩⟩, .inr ⟨g, cur, rfl, hB, hb, by omega⟩⟩
    rw [add0, hb.cell]
    have h1 : (cur.toList.take (n * 1))[j]? = some (.int k (xs.getD j 0 : Nat)) := by
      rw [htk, List.getElem?_map, List.getElem?_eq_getElem (by omega), getD_lt (by omega)]; rfl
    rw [List.getElem?_take, if_pos (by omega), Array.getElem?_toList] at h1
    exact h1
/-- .. as an arm of the walk. -/
theorem wpList_app {P : Program} {t e : TypeId} {k : IntKind} {b : Nat} (ht : P.underlying t = some (.slice e)) (he : (P.info? e).map (fun i => (i.zero, i.size, i.bytes)) = some (some (.int k 0), 1, b)) (w : World)
    {ops : Array Oper} {rest : List Oper} {o : Oper} {a : Act} {Q : Exit → Act → World → Prop} (hgd : o.guard = none) (s x : Operand)
    (ho : o.op = .call { callee := .builtin .append, args := #[s, x], argTypes := #[t, t] })
    (base n : Nat) (v : Value) (ys : List Nat) (hs : a.eval s = v) (hown : w.ownsRow base e 1 v n (ys.map fun x => Value.int k (x : Nat))) (A : Option Addr) (m c : Nat) (xs : List Nat) (hx : a.eval x = .slice A m c) (hr : Rdk k w A m xs)
    (h63 : n + m ≤ 9223372036854775807) (hb : (n + m) * b ≤ 140737488355328) (hbase : base ≤ w.heap.size)
    (h : ∀ A' c' w', n + m ≤ c' → Hid (Rdk k w' A' (n + m) (ys ++ xs)) → Hid (Fr e base w' A' c') → Hid (w'.ownsRow base e 1 (.slice A' (n + m) c') (n + m) ((ys ++ xs).map fun x => Value.int k (x : Nat))) → Hid (w.grownBy w' v.ownBlock) → wpList P ops Q rest (a.put o.dst (.slice A' (n + m) c')) w') : wpList P ops Q (o :: rest) a w := by
  refine wpList_plain hgd fun K hK => ?_
  obtain ⟨v', w', hrun, h2, h3, h4⟩ := app_nums (P := P) ht he w o.type base n v ys hown A m c xs hr h63 hb hbase
  obtain ⟨A', c', rfl, q1, q2, q3⟩ := own_rd h2
  unfold Oper.wp execOp
  simp only [ho, resolve, invoke, builtin, Sem.run_bind, Sem.run_pure, Result.andThen_ok, List.map_toArray, List.map_cons, List.map_nil, hs, hx, hrun]
  exact hK _ _ (h A' c' w' q1 q2 q3 h2 h3)
theorem own_blk {w : World} {g base n cap : Nat} {e : TypeId} {cs : Array Value} {xs : List Value} (h : Blk w g e cs) (hB : base ≤ g) (hc : cs.size = cap) (hm : cap ≤ 9223372036854775807) (hn : n ≤ cap) (hx : cs.toList.take n = xs) :
    w.ownsRow base e 1 (.slice (some ⟨g, 0, none⟩) n cap) n xs :=
  ⟨by rw [← hx, List.length_take, Array.length_toList]; omega, .inr ⟨g, cap, cs, rfl, hB, h.eq, hn, by simpa [maxLen] using hm, by omega, by simpa using hx⟩⟩
/-! ### numbers that are answered -/
abbrev T32 : TypeId := 85
/-- The value v is the number N, in memory of its own from block B on. -/
def NatR (N : Nat) (B : Nat) (w : World) (v : Value) : Prop :=
  ∃ A c, v = .slice A (limbs N).length c ∧ Rd w A (limbs N).length (limbs N) ∧ Fr T32 B w A c ∧ (limbs N).length ≤ c
theorem natR_of_blk {w : World} {g B : Nat} {zs : List Nat} (h : Blk w g T32 (cellsOf .u32 zs)) (h32 : Is32 zs) (hB : B ≤ g) (hm : zs.length ≤ 9223372036854775807) :
    NatR (val zs) B w (.slice (some ⟨g, 0, none⟩) (strip zs).length (strip zs).length) := by
  have hl := strip_length_le zs
  refine ⟨_, (strip zs).length, by rw [limbs_val h32], ?_, .inr ⟨g, _, rfl, hB, h, by rw [cellsOf_size]; exact hl⟩, by rw [limbs_val h32]; exact Nat.le_refl _⟩
  rw [limbs_val h32]
  have := h.rd (strip zs).length hl (by omega)
  rw [← strip_eq_take] at this
  exact this
theorem madeCells_one (v : Value) (n : Nat) : madeCells #[v] n = (List.replicate n v).toArray := by
  apply Array.ext
  · simp [madeCells]
  · intro i h1 h2
    simp [madeCells, Nat.mod_one]
/-- make of so many parts of 0. -/
theorem mk_nums {P : Program} {t e : TypeId} {k : IntKind} {b : Nat} (ht : P.underlying t = some (.slice e)) (he : (P.info? e).map (fun i => (i.zero, i.size, i.bytes)) = some (some (.int k 0), 1, b)) (c : Int) (m : Nat) (hc : c = m) (hb : b * m ≤ 281474976710656) (h63 : m ≤ 9223372036854775807) (w : World) :
    (Instr.makeSlice t (.int .i64 c) (.int .i64 c)).run P w = .ok (.slice (some ⟨w.heap.size, 0, none⟩) m m) (w.alloc (.cells (cellsOf k (List.replicate m 0)) e)) := by
  subst hc
  obtain ⟨i0, hi, hz0, hz1, hz2⟩ := info_parts he
  have hb' : (i0.bytes : Int) * (m : Int) ≤ 281474976710656 := by
    rw [hz2]
    have h : ((b * m : Nat) : Int) ≤ 281474976710656 := by omega
    rwa [Int.natCast_mul] at h
  have hr := run_make (P := P) w t e i0 (.int k 0) ht hi hz0 .i64 .i64 (m : Int) (m : Int) (by omega) (by omega) hb' (by omega)
  rw [hr, hz1]
  simp only [Int.toNat_natCast, Value.cells, Nat.mul_one, madeCells_one, cellsOf, List.map_replicate]
  rfl
theorem run_max_nat {P : Program} (ts : Array TypeId) (t : TypeId) (a b m : Nat) (h : m = max a b) (W : World) :
    (Builtin.max_ ts t #[.int .i64 (a : Int), .int .i64 (b : Int)]).run P W = .ok (.int .i64 (m : Int)) W := by
  have e : (if (b : Int) > a then (b : Int) else a) = (m : Int) := by split <;> omega
  simp [Builtin.max_, Builtin.max2]
  simpa using e
end Go.Proofs.YtfpnhggbfakdkaaDoor

/- Words on memory: a row of the call's own of which the beginning is known. -/
set_option linter.unusedVariables false
set_option linter.unusedSimpArgs false
namespace Go.Proofs.YtfpnhggbfakdkaaDoor
open Go.RowKit

/-- Block g begins with the numbers xs. -/
structure PB (k : IntKind) (w : World) (g : Nat) (t : TypeId) (xs : List Nat) : Prop where
  ex : ∃ tail : List Value, Blk w g t ((xs.map fun x => Value.int k (x : Nat)) ++ tail).toArray
section
variable {k : IntKind} {w w' : World} {g : Nat} {t : TypeId} {xs : List Nat}
theorem PB.lt (h : PB k w g t xs) : g < w.heap.size := by obtain ⟨tl, h⟩ := h; exact h.lt
theorem PB.keep (h : PB k w g t xs) (e : w'.heap[g]? = w.heap[g]?) : PB k w' g t xs := by obtain ⟨tl, h⟩ := h; exact ⟨tl, h.keep e⟩
theorem PB.below' (h : PB k w g t xs) (hb : Below w.heap.size w w') : PB k w' g t xs := h.keep (hb.block g h.lt)
theorem PB.drew (h : PB k w g t xs) : PB k w.drew g t xs := h.keep rfl
theorem PB.drewN (h : PB k w g t xs) (n : Nat) : PB k (w.drewN n) g t xs := h.keep rfl
theorem PB.alloc (h : PB k w g t xs) (o : Obj) : PB k (w.alloc o) g t xs := h.keep (Below.heap_alloc w o g h.lt)
theorem PB.far (h : PB k w g t xs) {p : Addr} (hp : g ≠ p.block) (u : Value) : PB k (w.setCell p u) g t xs := h.keep (Below.heap_setCell w p u g hp)
theorem PB.cell (h : PB k w g t xs) (i : Nat) (hi : i < xs.length) : w.cell? ⟨g, i, none⟩ = some (.int k (xs.getD i 0 : Nat)) := by
  obtain ⟨tl, h⟩ := h
  rw [h.cell]
  simp only [List.getElem?_toArray]
  rw [List.getElem?_append_left (by simpa using hi), List.getElem?_map, List.getElem?_eq_getElem hi, getD_lt hi]
  rfl
theorem PB.frozen (h : PB k w g t xs) (i : Nat) : w.frozen? ⟨g, i, none⟩ = false := by obtain ⟨tl, h⟩ := h; exact h.frozen i
theorem PB.set_ (h : PB k w g t xs) (i v : Nat) (hi : i < xs.length) : PB k (w.setCell ⟨g, i, none⟩ (.int k (v : Nat))) g t (xs.set i v) := by
  obtain ⟨tl, h⟩ := h
  have := h.set_ i (.int k (v : Nat))
  refine ⟨tl, ?_⟩
  have e : (((xs.map fun x => Value.int k (x : Nat)) ++ tl).toArray).setIfInBounds i (.int k (v : Nat)) = (((xs.set i v).map fun x => Value.int k (x : Nat)) ++ tl).toArray := by
    apply Array.ext'
    simp only [Array.toList_setIfInBounds]
    rw [List.set_append_left _ _ (by simpa using hi), List.map_set]
  rwa [e] at this
theorem PB.rd (h : PB k w g t xs) (n : Nat) (hn : n ≤ xs.length) (hm : n ≤ 9223372036854775807) : Rdk k w (some ⟨g, 0, none⟩) n (xs.take n) := by
  refine ⟨by rw [List.length_take]; omega, hm, fun h0 => ⟨_, rfl, h.lt, fun j hj => ?_⟩⟩
  rw [add0, h.cell j (by omega)]
  simp [List.getD_eq_getElem?_getD, List.getElem?_take, hj]
theorem Blk.pb (h : Blk w g t (cellsOf k xs)) : PB k w g t xs := ⟨[], by rw [List.append_nil]; exact h⟩
end
theorem natR_of_pb {w : World} {g B : Nat} {zs : List Nat} (h : PB .u32 w g T32 zs) (h32 : Is32 zs) (hB : B ≤ g) (hm : zs.length ≤ 9223372036854775807) :
    NatR (val zs) B w (.slice (some ⟨g, 0, none⟩) (strip zs).length (strip zs).length) := by
  have hl := strip_length_le zs
  obtain ⟨tl, hb⟩ := h.ex
  refine ⟨_, (strip zs).length, by rw [limbs_val h32], ?_, .inr ⟨g, _, rfl, hB, hb, by simp; omega⟩, by rw [limbs_val h32]; exact Nat.le_refl _⟩
  rw [limbs_val h32]
  have := h.rd (strip zs).length hl (by omega)
  rw [← strip_eq_take] at this
  exact this
theorem own_from {w : World} {base n : Nat} {e : TypeId} {v : Value} {xs : List Value} (h : w.ownsRow base e 1 v n xs) {b : Nat} (hb : v.ownBlock = some b) : base ≤ b := by
  rcases h.2 with ⟨rfl, _⟩ | ⟨g, cap, cur, rfl, hB, _⟩
  · cases hb
  · cases hb; exact hB
theorem own_pb {w : World} {base n : Nat} {e : TypeId} {k : IntKind} {v : Value} {xs : List Nat} (h : w.ownsRow base e 1 v n (xs.map fun x => Value.int k (x : Nat))) (hn : 0 < n) : ∃ g c, v = .slice (some ⟨g, 0, none⟩) n c ∧ n ≤ c ∧ c ≤ 9223372036854775807 ∧ base ≤ g ∧ PB k w g e xs := by
  rcases h.2 with ⟨rfl, rfl⟩ | ⟨g, cap, cur, rfl, hB, hh, hnc, hcm, hcs, htk⟩
  · omega
  · refine ⟨g, cap, rfl, hnc, by simpa [maxLen] using hcm, hB, ⟨cur.toList.drop n, ?_⟩⟩
    rw [Nat.mul_one] at htk
    rw [← htk, List.take_append_drop]
    exact ⟨by simpa using hh⟩
end Go.Proofs.YtfpnhggbfakdkaaDoor

/- Words on memory: append of values, one cell each or more. -/
set_option linter.unusedVariables false
set_option linter.unusedSimpArgs false
namespace Go.Proofs.YtfpnhggbfakdkaaDoor
open Go.RowKit

/-- 'append(v, s...)': v a row of the call's own, s cells that are read: as an arm of the walk. -/
theorem wpList_appv {P : Program} {t e : TypeId} {z : Value} {size b : Nat} (ht : P.underlying t = some (.slice e)) (he : (P.info? e).map (fun i => (i.zero, i.size, i.bytes)) = some (some z, size, b)) (hz : z.cells.size = size) (hsz : 0 < size) (w : World)
    {ops : Array Oper} {rest : List Oper} {o : Oper} {a : Act} {Q : Exit → Act → World → Prop} (hgd : o.guard = none) (s x : Operand)
    (ho : o.op = .call { callee := .builtin .append, args := #[s, x], argTypes := #[t, t] })
    (base n : Nat) (v : Value) (xs : List Value) (hs : a.eval s = v) (hown : w.ownsRow base e size v n xs) (ad : Addr) (m c : Nat) (news : List Value) (hx : a.eval x = .slice (some ad) m c)
    (hl : news.length = m * size) (hnews : ∀ (j : Nat) u, news[j]? = some u → w.cell? (ad.add j) = some u) (h1 : ∀ u ∈ news, u.oneCell' = true)
    (h63 : n + m ≤ 9223372036854775807) (hb : (n + m) * b ≤ 140737488355328) (hbase : base ≤ w.heap.size)
    (h : ∀ v' w', Hid (w'.ownsRow base e size v' (n + m) (xs ++ news)) → Hid (w.grownBy w' v.ownBlock) → wpList P ops Q rest (a.put o.dst v') w') : wpList P ops Q (o :: rest) a w := by
  refine wpList_plain hgd fun K hK => ?_
  obtain ⟨i0, hi, hz0, hz1, hz2⟩ := info_parts he
  obtain ⟨v', w', hrun, h2, h3, _, h5⟩ := run_append_own_at (P := P) w base t o.type e i0 z size b ht hi hz0 hz1 hz2 hz hsz v n xs hown ad m c news hl hnews h1 (by simpa [maxLen] using h63) hb hbase
  unfold Oper.wp execOp
  simp only [ho, resolve, invoke, builtin, Sem.run_bind, Sem.run_pure, Result.andThen_ok, List.map_toArray, List.map_cons, List.map_nil, hs, hx, hrun]
  exact hK _ _ (h v' w' h2 h3)
theorem own_some {w : World} {base n size : Nat} {e : TypeId} {v : Value} {xs : List Value} (h : w.ownsRow base e size v n xs) (hn : 0 < n) :
    ∃ g cap cur, v = .slice (some ⟨g, 0, none⟩) n cap ∧ base ≤ g ∧ n ≤ cap ∧ cap ≤ 9223372036854775807 ∧ Blk w g e cur ∧ cur.size = cap * size ∧ cur.toList.take (n * size) = xs := by
  rcases h.2 with ⟨rfl, rfl⟩ | ⟨g, cap, cur, rfl, hB, hh, hnc, hcm, hcs, htk⟩
  · omega
  · exact ⟨g, cap, cur, rfl, hB, hnc, by simpa [maxLen] using hcm, ⟨hh⟩, by simpa using hcs, htk⟩
theorem own_slice {w : World} {base n size : Nat} {e : TypeId} {v : Value} {xs : List Value} (h : w.ownsRow base e size v n xs) : ∃ A c, v = .slice A n c := by
  rcases h.2 with ⟨rfl, rfl⟩ | ⟨g, cap, cur, rfl, hB, hh, hnc, hcm, hcs, htk⟩
  · exact ⟨none, 0, rfl⟩
  · exact ⟨_, cap, rfl⟩
theorem own_below {w w' : World} {base n size : Nat} {e : TypeId} {v : Value} {xs : List Value} (h : w.ownsRow base e size v n xs) (hb : Below w.heap.size w w') : w'.ownsRow base e size v n xs := by
  refine ⟨h.1, ?_⟩
  rcases h.2 with h2 | ⟨g, cap, cur, e1, hB, hh, r⟩
  · exact .inl h2
  · exact .inr ⟨g, cap, cur, e1, hB, (hb.block g (Array.getElem?_eq_some_iff.1 hh).1).trans hh, r⟩
theorem take_get {xs : List Value} {cur : Array Value} {m j : Nat} {u : Value} (h : cur.toList.take m = xs) (hj : xs[j]? = some u) : cur[j]? = some u := by
  rw [← h, List.getElem?_take] at hj
  split at hj
  · rw [Array.getElem?_toList] at hj; exact hj
  · cases hj
/-- The block that a list may come to write. -/
def blkOf (A : Option Addr) (c : Nat) : Option Nat := if c = 0 then none else A.map Addr.block
theorem blkOf_some {g c : Nat} (h : 0 < c) : blkOf (some ⟨g, 0, none⟩) c = some g := by
  unfold blkOf
  rw [if_neg (by omega)]
  rfl
theorem blkOf_pos {A : Option Addr} {c g : Nat} (h : blkOf A c = some g) : 0 < c := by
  unfold blkOf at h
  split at h
  · cases h
  · omega
end Go.Proofs.YtfpnhggbfakdkaaDoor
