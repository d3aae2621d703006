/- the laws of ints: texts of whole numbers, there and back. -/
import Derived.Test.YtcdejccbamjdoaaDoorJd
import Derived.Test.YtcdejccbamjdoaaDoorSd
set_option linter.unusedVariables false
set_option linter.unusedSimpArgs false
set_option maxRecDepth 100000
namespace Go.Proofs.YtcdejccbamjdoaaDoor
open Go.RowKit

theorem txt_lt (n : Nat) : ∀ x ∈ txt n, 48 ≤ x ∧ x < 58 := by
  intro x hx
  unfold txt at hx
  split at hx
  · simp at hx; omega
  · exact decs_lt x hx
theorem txt_ne (n : Nat) : (txt n).head? ≠ some 45 := by
  intro h
  have := txt_lt n 45 (List.mem_of_mem_head? h)
  omega
theorem isgn_itxt (x : Int) : isgn (itxt x) = (decide (x < 0), txt x.natAbs) := by
  unfold itxt
  split
  · next h => rw [show decide (x < 0) = true from by simpa using h]; rfl
  · next h =>
    rw [show decide (x < 0) = false from by simpa using h]
    unfold isgn
    rw [if_neg (txt_ne _)]
theorem itxt_lt (x : Int) : ∀ c ∈ itxt x, c < 256 := by
  intro c hc
  unfold itxt at hc
  split at hc
  · rcases List.mem_cons.1 hc with h | h
    · omega
    · have := txt_lt _ c h; omega
  · have := txt_lt _ c hc; omega
theorem byt_bts (l : List Nat) (h : ∀ x ∈ l, x < 256) : byt ⟨(bts l).toArray⟩ = l := by
  show ((bts l).toArray.toList).map UInt8.toNat = l
  rw [List.toList_toArray]
  unfold bts
  rw [List.map_map]
  conv => rhs; rw [← List.map_id l]
  apply List.map_congr_left
  intro x hx
  simp [Nat.mod_eq_of_lt (h x hx)]
theorem byt_inj {s t : ByteArray} (h : byt s = byt t) : s = t := by
  have h1 : s.data.toList = t.data.toList := (List.map_inj_right (fun a b e => UInt8.toNat_inj.1 e)).1 h
  cases s; cases t
  simp only [ByteArray.mk.injEq]
  exact Array.toList_inj.1 h1
/-- A text that is read is the number's. -/
theorem itxt_isgn {l : List Nat} (h : isNum (isgn l).2 = true) (h0 : ¬((isgn l).1 = true ∧ num (isgn l).2 = 0)) : itxt (sgn (isgn l).1 (num (isgn l).2)) = l := by
  unfold isgn at *
  by_cases hd : l.head? = some 45
  · rw [if_pos hd] at *
    simp only at *
    have hn : num l.tail ≠ 0 := by simpa using h0
    unfold itxt
    rw [if_pos (by simp only [sgn, if_true]; omega), sgn_abs, txt_num h]
    cases l with
    | nil => simp at hd
    | cons a l => simp at hd; rw [hd]; rfl
  · rw [if_neg hd] at *
    simp only at *
    unfold itxt
    rw [if_neg (by simp [sgn]), sgn_abs, txt_num h]
theorem itxt_len (x : Int) : (itxt x).length = (txt x.natAbs).length + if x < 0 then 1 else 0 := by
  unfold itxt
  split
  · rw [List.length_cons]
  · rfl
/-- A number's text, as bytes. -/
theorem itxt_bytes (x : Int) : ∃ t : ByteArray, byt t = itxt x ∧ t.size = (itxt x).length := by
  have h := byt_bts _ (itxt_lt x)
  exact ⟨_, h, by rw [← byt_length, h]⟩
theorem iText_C {w : World} {v1 : Value} {x : Int} (h1 : IArg w v1 x) (hl : L x.natAbs ≤ 1000000) (t : ByteArray) (ht : byt t = itxt x) :
    Calls Tryd.prog 28 #[v1] w fun e w' => ∃ u, e = .returned u ∧ Below w.heap.size w w' ∧ u = .string t :=
  (iText_ok h1 hl).mono fun e w' ⟨e1, h2⟩ => ⟨_, e1, h2.out, by
    have : t = ⟨(bts (itxt x)).toArray⟩ := byt_inj (by rw [ht, byt_bts _ (itxt_lt x)])
    rw [this]⟩
theorem fn_iText (args : Array Value) (w : World) : (callFunc 28 args).run Tryd.prog w = .ok (.enter 28 args) w := callFunc_enter Tryd.func28 (by kernel_rfl) rfl args w
/-- The text of a number is read as it. -/
theorem iParse_txt {w : World} {t : ByteArray} {x : Int} (ht : byt t = itxt x) (hs : t.size ≤ 9223372036854775807) (hl : (txt x.natAbs).length ≤ 200) :
    Calls Tryd.prog 29 #[.string t] w fun e w' => ∃ v, e = .returned (.tuple #[v, .int .i64 0]) ∧ Below w.heap.size w w' ∧ IntR x w.heap.size w' v := by
  refine iParse_yes hs x ?_ ?_ ?_ ?_ <;> rw [ht, isgn_itxt]
  · exact isNum_txt _
  · exact hl
  · rintro ⟨h1, h2⟩
    simp only [num_txt, decide_eq_true_eq] at h1 h2
    omega
  · rw [num_txt, sgn_self]
theorem iParse_long {w : World} {t : ByteArray} {x : Int} (ht : byt t = itxt x) (hs : t.size ≤ 9223372036854775807) (hl : 200 < (txt x.natAbs).length) :
    Calls Tryd.prog 29 #[.string t] w fun e w' => e = .returned (.tuple #[.agg #[.bool false, .slice none 0 0], .int .i64 3]) ∧ Below w.heap.size w w' := by
  refine iParse_limit hs ?_ ?_ <;> rw [ht, isgn_itxt]
  · exact isNum_txt _
  · exact hl
theorem byt_hyphen (s : ByteArray) : byt (⟨#[45]⟩ ++ s) = 45 :: byt s := by
  show ((ByteArray.mk #[45] ++ s).data.toList).map UInt8.toNat = 45 :: s.data.toList.map UInt8.toNat
  rw [ByteArray.data_append]
  simp
theorem isgn_hyphen (s : ByteArray) : isgn (byt (⟨#[45]⟩ ++ s)) = (true, byt s) := by rw [byt_hyphen]; rfl
theorem isgn_true {l : List Nat} (h : (isgn l).1 = true) : isNum l = false := by
  unfold isgn at h
  split at h
  · next hd =>
    cases l with
    | nil => simp at hd
    | cons a l =>
      simp at hd
      subst hd
      unfold isNum
      simp [isDig]
  · cases h
theorem isgn_false {l : List Nat} (h : (isgn l).1 = false) : (isgn l).2 = l := by
  unfold isgn at *
  split at h
  · cases h
  · next hd => rw [if_neg hd]
theorem isNum_lt {l : List Nat} (h : isNum l = true) : ∀ c ∈ l, c < 58 := by
  intro c hc
  unfold isNum at h
  simp only [Bool.and_eq_true, List.all_eq_true] at h
  have := h.1.2 c hc
  simp only [isDig, Bool.and_eq_true, decide_eq_true_eq] at this
  exact this.2
end Go.Proofs.YtcdejccbamjdoaaDoor
