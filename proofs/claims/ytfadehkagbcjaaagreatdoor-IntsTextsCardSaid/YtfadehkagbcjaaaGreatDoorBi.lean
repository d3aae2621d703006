/- laws of nats that compare with the document's answer: words. -/
import Derived.Test.YtfadehkagbcjaaaGreatDoorBK
import Derived.Test.YtfadehkagbcjaaaGreatDoorRN
import Derived.Test.YtfadehkagbcjaaaGreatDoorND
set_option linter.unusedVariables false
set_option linter.unusedSimpArgs false
set_option maxRecDepth 100000
namespace Go.Proofs.YtfadehkagbcjaaaGreatDoor
open Go.RowKit


set_option maxHeartbeats 1000000 in
theorem bookNat_ok (w : World) (B g num : Nat) (v : Value) (es : List Ent) (hB : B ≤ w.heap.size) (hb : BookAt B w g num v es) (A : Option Addr) (n c : Nat) (hn : num ≤ 1000) (hes : es.length ≤ 1000) :
    Calls Tryz.prog 50 #[.pointer (some ⟨g, 0, none⟩), .slice A n c] w fun e w' => (∃ r, e = .returned r) ∧ Kp B w w' ∧ ∃ v', BookAt B w' g (num + 1) v' (es ++ [⟨A, n, c, none, 0, 0, num + 1⟩]) := by
  refine opq fun R hR => ?_
  have K := hide (keepInt32_ok w B g num v es hB hb A n c hn hes)
  clear hb hB
  go_enter Tryz.func50, Tryz.ntmps50
  go_wp2_with fail
  refine K.out.mono ?_
  rintro e w' ⟨⟨_, rfl⟩, k1, k2⟩
  replace k1 := hide k1
  replace k2 := hide k2
  clear K
  go_wp2
  go_end0
  exact opq_end hR ⟨⟨_, rfl⟩, k1.out, k2.out⟩
/-- Lists that are held, the last of them newest. -/
def HW (B : Nat) (w : World) (es : List Ent) : Prop := HB B w.heap.size w es
theorem HW.nil (B : Nat) (w : World) : HW B w [] := HB.nil _ _ _
theorem HB.up {B hi hi' : Nat} {w : World} {es : List Ent} (h : HB B hi w es) (hh : hi ≤ hi') : HB B hi' w es := by
  obtain ⟨X, Y, h1, h2, h3⟩ := h
  exact ⟨X, Y, h1, fun i e g he hg => Nat.lt_of_lt_of_le (h2 i e g he hg) hh, h3⟩
theorem HW.below {B : Nat} {w w' : World} {es : List Ent} (h : HW B w es) (k : Below w.heap.size w w') : HW B w' es := (HB.bel h k).up k.size
theorem HW.snoc {B B' : Nat} {w : World} {es : List Ent} (h : HB B B' w es) {A : Option Addr} {n c : Nat} {xs : List Value} (l : LRow B' w A n c xs) (hB : B ≤ B') (hw : B' ≤ w.heap.size) (hn : n ≤ 500000) {k : Nat} (hk : k ≤ 1000) : HW B w (es ++ [⟨A, n, c, none, 0, 0, k⟩]) :=
  HB.snoc h l rfl hB hw hn hk
theorem HW.next {B : Nat} {w w' : World} {es : List Ent} (h : HW B w es) (k : Below w.heap.size w w') {A : Option Addr} {n c : Nat} {xs : List Value} (l : LRow w.heap.size w' A n c xs) (hB : B ≤ w.heap.size) (hn : n ≤ 500000) {i : Nat} (hk : i ≤ 1000) : HW B w' (es ++ [⟨A, n, c, none, 0, 0, i⟩]) :=
  HW.snoc (HB.bel h k) l hB k.size hn hk
/-- A twin: a list of the law's own with a mark behind it. -/
structure Tw (B : Nat) (w : World) (A : Option Addr) (n c : Nat) (xs : List Nat) : Prop where
  rd : Rd w A (n + 1) (xs ++ [77])
  fr : Fr T32 B w A c
  lt : n < c
  is : Is32 xs
  len : n ≤ 1000
theorem Tw.below {B : Nat} {w w' : World} {A : Option Addr} {n c : Nat} {xs : List Nat} (h : Tw B w A n c xs) (k : Below w.heap.size w w') : Tw B w' A n c xs := ⟨h.rd.below k, h.fr.below k, h.lt, h.is, h.len⟩
theorem Tw.prt {B : Nat} {w : World} {A : Option Addr} {n c : Nat} {xs : List Nat} (h : Tw B w A n c xs) : Prt w (.slice A n c) xs := by
  have h1 := h.rd.take n (by omega)
  have hl : xs.length = n := by have := h.rd.1; simp at this; omega
  rw [List.take_append_of_le_length (by omega), List.take_of_length_le (by omega)] at h1
  exact ⟨A, n, c, rfl, Nat.le_of_lt h.lt, by have := h.len; omega, h1, h.is⟩
theorem Tw.lrow {B : Nat} {w : World} {A : Option Addr} {n c : Nat} {xs : List Nat} (h : Tw B w A n c xs) : ∃ ys, LRow B w A n c ys := h.fr.lrow (Nat.le_of_lt h.lt)
theorem np_twin {w : World} {A : Option Addr} {n c : Nat} {xs : List Nat} (h : Prt w (.slice A n c) xs) (hn : n ≤ 1000) :
    Calls Tryz.prog 43 #[.slice A n c] w fun e w' => ∃ X cx, e = .returned (.slice X n cx) ∧ Hid (Below w.heap.size w w') ∧ Tw w.heap.size w' X n cx xs := by
  obtain ⟨A', n', c', e, h1, h2, h3, h4⟩ := h
  cases e
  exact (TwinNat_ok w A n c xs h3 (by omega)).mono fun e w' ⟨A', c', e1, h1, h2, h3, h5, h6⟩ => ⟨A', c', e1, h6, h2.out, h3.out, h1, h4, hn⟩
theorem np_left {B : Nat} {w : World} {A X : Option Addr} {n c cx : Nat} {xs : List Nat} (h : Tw B w X n cx xs) (h' : Prt w (.slice A n c) xs) :
    Calls Tryz.prog 49 #[.slice X n cx, .slice A n c] w fun e w' => e = .returned (.bool true) ∧ Hid (Below w.heap.size w w') := by
  obtain ⟨A', n', c', e, h1, h2, h3, h4⟩ := h'
  cases e
  exact LeftNat_ok w X A n cx c xs h.rd h3 h.lt
theorem np_same {B B' N : Nat} {w : World} {v v' : Value} (h : NatR N B w v) (h' : NatR N B' w v') :
    Calls Tryz.prog 47 #[v, v'] w fun e w' => e = .returned (.bool true) ∧ Hid (Below w.heap.size w w') := by
  obtain ⟨A, c, rfl, h1, _⟩ := h
  obtain ⟨A', c', rfl, h2, _⟩ := h'
  exact (SameNat_ok w A A' _ _ c c' _ _ h1 h2).mono fun e w' ⟨q1, q2⟩ => ⟨by rw [q1]; simp, q2⟩
def subD (xs ys : List Nat) : Nat := if chk xs = true ∧ chk ys = true ∧ val ys ≤ val xs then val xs - val ys else 0
def subK (xs ys : List Nat) : Int := if chk xs = true ∧ chk ys = true ∧ val ys ≤ val xs then 0 else 1
theorem natR_len {N B : Nat} {w : World} {A : Option Addr} {n c : Nat} (h : NatR N B w (.slice A n c)) : n = L N := by
  obtain ⟨A', c', e, _⟩ := h
  cases e
  rfl
theorem np_Add {w : World} {v v' : Value} {xs ys : List Nat} (h : Prt w v xs) (h' : Prt w v' ys) :
    Calls Tryz.prog 214 #[v, v'] w fun e w' => ∃ A n c, e = .returned (.slice A n c) ∧ Hid (Below w.heap.size w w') ∧ NatR (nv xs + nv ys) w.heap.size w' (.slice A n c) := by
  obtain ⟨A, n, c, rfl, h1, h2, h3, h4⟩ := h
  obtain ⟨A', n', c', rfl, h1', h2', h3', h4'⟩ := h'
  exact (Add_ok w A A' n n' c c' xs ys h3 h3' h4 h4' (by omega) (by omega) h1 h1').mono fun e w' ⟨u, q1, q2, q3⟩ => by
    obtain ⟨A2, c2, rfl, q4⟩ := q2
    exact ⟨A2, _, c2, q1, q3, A2, c2, rfl, q4⟩
theorem np_Mul {w : World} {v v' : Value} {xs ys : List Nat} (h : Prt w v xs) (h' : Prt w v' ys) :
    Calls Tryz.prog 121 #[v, v'] w fun e w' => ∃ A n c, e = .returned (.slice A n c) ∧ Hid (Below w.heap.size w w') ∧ NatR (nv xs * nv ys) w.heap.size w' (.slice A n c) := by
  obtain ⟨A, n, c, rfl, h1, h2, h3, h4⟩ := h
  obtain ⟨A', n', c', rfl, h1', h2', h3', h4'⟩ := h'
  exact (Mul_ok w A A' n n' c c' xs ys h3 h3' h4 h4' (by omega) (by omega) h1 h1').mono fun e w' ⟨u, q1, q2, q3⟩ => by
    obtain ⟨A2, c2, rfl, q4⟩ := q2
    exact ⟨A2, _, c2, q1, q3, A2, c2, rfl, q4⟩
theorem np_Sub {w : World} {v v' : Value} {xs ys : List Nat} (h : Prt w v xs) (h' : Prt w v' ys) :
    Calls Tryz.prog 231 #[v, v'] w fun e w' => ∃ A n c, e = .returned (.tuple #[.slice A n c, .int .i64 (subK xs ys)]) ∧ Hid (Below w.heap.size w w') ∧ NatR (subD xs ys) w.heap.size w' (.slice A n c) := by
  obtain ⟨A, n, c, rfl, h1, h2, h3, h4⟩ := h
  obtain ⟨A', n', c', rfl, h1', h2', h3', h4'⟩ := h'
  exact (Sub_ok w A A' n n' c c' xs ys h3 h3' h4 h4' (by omega) (by omega) h1 h1').mono fun e w' ⟨q1, q2⟩ => by
    unfold subD subK
    split at q1
    · rename_i hc
      obtain ⟨u, q3, q4⟩ := q1
      obtain ⟨A2, c2, rfl, q5⟩ := q4
      rw [if_pos hc, if_pos hc]
      exact ⟨A2, _, c2, q3, q2, A2, c2, rfl, q5⟩
    · rename_i hc
      rw [if_neg hc, if_neg hc]
      exact ⟨none, 0, 0, q1, q2, NatR.zero _ _⟩
theorem np_Cmp {w : World} {v v' : Value} {xs ys : List Nat} (h : Prt w v xs) (h' : Prt w v' ys) :
    Calls Tryz.prog 124 #[v, v'] w fun e w' => e = .returned (.int .i64 (cmpN (nv xs) (nv ys))) ∧ Hid (Below w.heap.size w w') := by
  obtain ⟨A, n, c, rfl, h1, h2, h3, h4⟩ := h
  obtain ⟨A', n', c', rfl, h1', h2', h3', h4'⟩ := h'
  exact (Cmp_ok w A A' n n' c c' xs ys h3 h3' h4 h4' (by omega) (by omega) h1 h1').mono fun e w' ⟨q1, q2⟩ => ⟨q1, q2⟩
theorem nq_Add {w : World} {v v' : Value} {xs ys : List Nat} (h : Prt w v xs) (h' : Prt w v' ys) :
    Calls Tryz.prog 127 #[v, v'] w fun e w' => ∃ A n c, e = .returned (.slice A n c) ∧ Hid (Below w.heap.size w w') ∧ NatR (nv xs + nv ys) w.heap.size w' (.slice A n c) := by
  obtain ⟨A, n, c, rfl, h1, h2, h3, h4⟩ := h
  obtain ⟨A', n', c', rfl, h1', h2', h3', h4'⟩ := h'
  exact (rAdd_ok w A A' n n' c c' xs ys h3 h3' h4 h4' (by omega) (by omega) h1 h1').mono fun e w' ⟨u, q1, q2, q3⟩ => by
    obtain ⟨A2, c2, rfl, q4⟩ := q2
    exact ⟨A2, _, c2, q1, q3, A2, c2, rfl, q4⟩
theorem nq_Mul {w : World} {v v' : Value} {xs ys : List Nat} (h : Prt w v xs) (h' : Prt w v' ys) :
    Calls Tryz.prog 130 #[v, v'] w fun e w' => ∃ A n c, e = .returned (.slice A n c) ∧ Hid (Below w.heap.size w w') ∧ NatR (nv xs * nv ys) w.heap.size w' (.slice A n c) := by
  obtain ⟨A, n, c, rfl, h1, h2, h3, h4⟩ := h
  obtain ⟨A', n', c', rfl, h1', h2', h3', h4'⟩ := h'
  exact (rMul_ok w A A' n n' c c' xs ys h3 h3' h4 h4' (by omega) (by omega) h1 h1').mono fun e w' ⟨u, q1, q2, q3⟩ => by
    obtain ⟨A2, c2, rfl, q4⟩ := q2
    exact ⟨A2, _, c2, q1, q3, A2, c2, rfl, q4⟩
theorem nq_Sub {w : World} {v v' : Value} {xs ys : List Nat} (h : Prt w v xs) (h' : Prt w v' ys) :
    Calls Tryz.prog 129 #[v, v'] w fun e w' => ∃ A n c, e = .returned (.tuple #[.slice A n c, .int .i64 (subK xs ys)]) ∧ Hid (Below w.heap.size w w') ∧ NatR (subD xs ys) w.heap.size w' (.slice A n c) := by
  obtain ⟨A, n, c, rfl, h1, h2, h3, h4⟩ := h
  obtain ⟨A', n', c', rfl, h1', h2', h3', h4'⟩ := h'
  exact (rSub_ok w A A' n n' c c' xs ys h3 h3' h4 h4' (by omega) (by omega) h1 h1').mono fun e w' ⟨q1, q2⟩ => by
    unfold subD subK
    split at q1
    · rename_i hc
      obtain ⟨u, q3, q4⟩ := q1
      obtain ⟨A2, c2, rfl, q5⟩ := q4
      rw [if_pos hc, if_pos hc]
      exact ⟨A2, _, c2, q3, q2, A2, c2, rfl, q5⟩
    · rename_i hc
      rw [if_neg hc, if_neg hc]
      exact ⟨none, 0, 0, q1, q2, NatR.zero _ _⟩
theorem nq_Cmp {w : World} {v v' : Value} {xs ys : List Nat} (h : Prt w v xs) (h' : Prt w v' ys) :
    Calls Tryz.prog 128 #[v, v'] w fun e w' => e = .returned (.int .i64 (cmpN (nv xs) (nv ys))) ∧ Hid (Below w.heap.size w w') := by
  obtain ⟨A, n, c, rfl, h1, h2, h3, h4⟩ := h
  obtain ⟨A', n', c', rfl, h1', h2', h3', h4'⟩ := h'
  exact (rCmp_ok w A A' n n' c c' xs ys h3 h3' h4 h4' h1 h1').mono fun e w' ⟨q1, q2⟩ => ⟨q1, q2⟩
theorem np_great2 {w : World} {A1 A2 : Option Addr} {n1 c1 n2 c2 : Nat} (t : TypeId) :
    Calls Tryz.prog 85 #[.slice (some ⟨w.heap.size, 0, none⟩) 2 2] (w.alloc (.cells #[.slice A1 n1 c1, .slice A2 n2 c2] t)) fun e w' => e = .returned (.bool (decide (300 < n1) || decide (300 < n2))) ∧ w.alloc (.cells #[.slice A1 n1 c1, .slice A2 n2 c2] t) = w' := by
  have := great_ok (w.alloc (.cells #[.slice A1 n1 c1, .slice A2 n2 c2] t)) w.heap.size [(A1, n1, c1), (A2, n2, c2)] (fun j x hx => by
    match j, hx with
    | 0, hx => simp at hx; subst hx; exact (Blk.new w t _).at_ 0 rfl
    | 1, hx => simp at hx; subst hx; exact (Blk.new w t _).at_ 1 rfl
    | j + 2, hx => simp at hx) (by simp)
  exact this.mono fun e w' ⟨h1, h2⟩ => ⟨by rw [h1]; simp, h2⟩
/-- A Book of which nothing is held. -/
theorem BookAt.new {B : Nat} {w : World} (hB : B ≤ w.heap.size) : BookAt B (w.alloc (.cells #[.int .i64 0, .slice none 0 0, .slice none 0 0, .slice none 0 0, .slice none 0 0, .slice none 0 0, .slice none 0 0, .slice none 0 0, .slice none 0 0, .slice none 0 0, .slice none 0 0, .slice none 0 0, .slice none 0 0] TBK)) w.heap.size 0 (.slice none 0 0) [] :=
  ⟨Blk.new w TBK _, hB, rfl, .inl ⟨rfl, rfl⟩⟩
end Go.Proofs.YtfadehkagbcjaaaGreatDoor
