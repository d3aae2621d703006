/- laws of nats that compare texts: words. -/
import Derived.Test.YtfadehkagbcjaaaGreatDoorBk
import Derived.Test.YtfadehkagbcjaaaGreatDoorRo
import Derived.Test.YtfadehkagbcjaaaGreatDoorSd
import Derived.Test.YtfadehkagbcjaaaGreatDoorNC
set_option linter.unusedVariables false
set_option linter.unusedSimpArgs false
set_option maxRecDepth 100000
namespace Go.Proofs.YtfadehkagbcjaaaGreatDoor
open Go.RowKit

theorem np_great1 {w : World} {A1 : Option Addr} {n1 c1 : Nat} (t : TypeId) :
    Calls Tryz.prog 85 #[.slice (some ⟨w.heap.size, 0, none⟩) 1 1] (w.alloc (.cells #[.slice A1 n1 c1] t)) fun e w' => e = .returned (.bool (decide (300 < n1))) ∧ w.alloc (.cells #[.slice A1 n1 c1] t) = w' := by
  have := great_ok (w.alloc (.cells #[.slice A1 n1 c1] t)) w.heap.size [(A1, n1, c1)] (fun j x hx => by
    match j, hx with
    | 0, hx => simp at hx; subst hx; exact (Blk.new w t _).at_ 0 rfl
    | j + 1, hx => simp at hx) (by simp)
  exact this.mono fun e w' ⟨h1, h2⟩ => ⟨by rw [h1]; simp, h2⟩
def backV (xs : List Nat) : Nat := if chk xs = true then if xs.length ≤ 2 then val xs else 0 else 0
def backK (xs : List Nat) : Int := if chk xs = true then if xs.length ≤ 2 then 0 else 3 else 1
theorem back_eq (xs : List Nat) : (if chk xs = true then if xs.length ≤ 2 then #[.int .u64 (val xs : Nat), .int .i64 0] else #[.int .u64 0, .int .i64 3] else #[.int .u64 0, .int .i64 1] : Array Value) = #[.int .u64 (backV xs : Nat), .int .i64 (backK xs)] := by
  unfold backV backK
  split
  · split <;> rfl
  · rfl
theorem np_Back {w : World} {v : Value} {xs : List Nat} (h : Prt w v xs) :
    Calls Tryz.prog 87 #[v] w fun e w' => e = .returned (.tuple #[.int .u64 (backV xs : Nat), .int .i64 (backK xs)]) ∧ Hid (Below w.heap.size w w') := by
  obtain ⟨A, n, c, rfl, h1, h2, h3, h4⟩ := h
  exact (Back_ok w A n c xs h3 h4).mono fun e w' ⟨q1, q2⟩ => ⟨by rw [q1, back_eq], q2⟩
theorem nq_Back {w : World} {v : Value} {xs : List Nat} (h : Prt w v xs) :
    Calls Tryz.prog 88 #[v] w fun e w' => e = .returned (.tuple #[.int .u64 (backV xs : Nat), .int .i64 (backK xs)]) ∧ Hid (Below w.heap.size w w') := by
  obtain ⟨A, n, c, rfl, h1, h2, h3, h4⟩ := h
  exact (kBack_ok w A n c xs h3 h4).mono fun e w' ⟨q1, q2⟩ => ⟨by rw [q1, back_eq], q2⟩
def parsV (s : ByteArray) : Nat := if isNum (byt s) = true then if s.size ≤ 200 then num (byt s) else 0 else 0
def parsK (s : ByteArray) : Int := if isNum (byt s) = true then if s.size ≤ 200 then 0 else 3 else 4
theorem pars_post {w w' : World} {e : Ending} {s : ByteArray} (h : if isNum (byt s) = true then if s.size ≤ 200 then ∃ v, e = .returned (.tuple #[v, .int .i64 0]) ∧ NatR (num (byt s)) w.heap.size w' v else e = .returned (.tuple #[.slice none 0 0, .int .i64 3])
        else e = .returned (.tuple #[.slice none 0 0, .int .i64 4])) :
    ∃ A n c, e = .returned (.tuple #[.slice A n c, .int .i64 (parsK s)]) ∧ NatR (parsV s) w.heap.size w' (.slice A n c) := by
  unfold parsV parsK
  split at h
  · next h1 =>
    split at h
    · next h2 =>
      obtain ⟨v, e1, q⟩ := h
      obtain ⟨A, c, rfl, q2⟩ := q
      exact ⟨_, _, _, by rw [e1, if_pos h1, if_pos h2], by rw [if_pos h1, if_pos h2]; exact ⟨_, _, rfl, q2⟩⟩
    · next h2 => exact ⟨none, 0, 0, by rw [h, if_pos h1, if_neg h2], by rw [if_pos h1, if_neg h2]; exact NatR.zero _ _⟩
  · next h1 => exact ⟨none, 0, 0, by rw [h, if_neg h1], by rw [if_neg h1]; exact NatR.zero _ _⟩
theorem np_Parse (w : World) (s : ByteArray) (hs : s.size ≤ 9223372036854775807) :
    Calls Tryz.prog 89 #[.string s] w fun e w' => ∃ A n c, e = .returned (.tuple #[.slice A n c, .int .i64 (parsK s)]) ∧ Hid (Below w.heap.size w w') ∧ NatR (parsV s) w.heap.size w' (.slice A n c) :=
  (Parse_ok w s hs).mono fun e w' ⟨q1, q2⟩ => by
    obtain ⟨A, n, c, e1, r⟩ := pars_post q1
    exact ⟨A, n, c, e1, q2, r⟩
theorem nq_Parse (w : World) (s : ByteArray) (hs : s.size ≤ 9223372036854775807) :
    Calls Tryz.prog 90 #[.string s] w fun e w' => ∃ A n c, e = .returned (.tuple #[.slice A n c, .int .i64 (parsK s)]) ∧ Hid (Below w.heap.size w w') ∧ NatR (parsV s) w.heap.size w' (.slice A n c) :=
  (kParse_ok w s hs).mono fun e w' ⟨q1, q2⟩ => by
    obtain ⟨A, n, c, e1, r⟩ := pars_post q1
    exact ⟨A, n, c, e1, q2, r⟩
theorem np_Of (w : World) (x : Nat) (hx : x < 18446744073709551616) :
    Calls Tryz.prog 91 #[.int .u64 (x : Nat)] w fun e w' => ∃ A n c, e = .returned (.slice A n c) ∧ Hid (Below w.heap.size w w') ∧ NatR x w.heap.size w' (.slice A n c) :=
  (Of_ok w x hx).mono fun e w' ⟨u, q1, q2, q3⟩ => by
    obtain ⟨A, c, rfl, q4⟩ := q2
    exact ⟨_, _, _, q1, q3, _, _, rfl, q4⟩
theorem nq_Of (w : World) (x : Nat) (hx : x < 18446744073709551616) :
    Calls Tryz.prog 96 #[.int .u64 (x : Nat)] w fun e w' => ∃ A n c, e = .returned (.slice A n c) ∧ Hid (Below w.heap.size w w') ∧ NatR x w.heap.size w' (.slice A n c) :=
  (kOf_ok w x hx).mono fun e w' ⟨u, q1, q2, q3⟩ => by
    obtain ⟨A, c, rfl, q4⟩ := q2
    exact ⟨_, _, _, q1, q3, _, _, rfl, q4⟩
theorem np_Check {w : World} {v : Value} {xs : List Nat} (h : Prt w v xs) :
    Calls Tryz.prog 92 #[v] w fun e w' => e = .returned (.bool (chk xs)) ∧ Hid (Below w.heap.size w w') := by
  obtain ⟨A, n, c, rfl, h1, h2, h3, h4⟩ := h
  exact (Check_ok w A n c xs h3).mono fun e w' ⟨q1, q2⟩ => ⟨q1, by rw [← q2]; exact Below.refl _ _⟩
theorem nq_Check {w : World} {v : Value} {xs : List Nat} (h : Prt w v xs) :
    Calls Tryz.prog 93 #[v] w fun e w' => e = .returned (.bool (chk xs)) ∧ Hid (Below w.heap.size w w') := by
  obtain ⟨A, n, c, rfl, h1, h2, h3, h4⟩ := h
  exact (rCheck_ok w A n c xs h3).mono fun e w' ⟨q1, q2⟩ => ⟨q1, by rw [← q2]; exact Below.refl _ _⟩
def txtB (N : Nat) : ByteArray := ⟨(bts (txt N)).toArray⟩
theorem np_Text {w : World} {v : Value} {xs : List Nat} (h : Prt w v xs) (hl : xs.length ≤ 1000) :
    Calls Tryz.prog 94 #[v] w fun e w' => e = .returned (.string (txtB (nv xs))) ∧ Hid (Below w.heap.size w w') := by
  obtain ⟨A, n, c, rfl, h1, h2, h3, h4⟩ := h
  exact (Text_ok w A n c xs h3 h4 (by have := h3.1; omega) h1).mono fun e w' ⟨q1, q2⟩ => ⟨q1, q2⟩
theorem nq_Text {w : World} {v : Value} {xs : List Nat} (h : Prt w v xs) (hl : xs.length ≤ 1000) :
    Calls Tryz.prog 95 #[v] w fun e w' => e = .returned (.string (txtB (nv xs))) ∧ Hid (Below w.heap.size w w') := by
  obtain ⟨A, n, c, rfl, h1, h2, h3, h4⟩ := h
  exact (kText_ok w A n c xs h3 h4 (by have := h3.1; omega) h1).mono fun e w' ⟨q1, q2⟩ => ⟨q1, q2⟩
theorem num_lt200 (s : ByteArray) (h : isNum (byt s) = true) (hs : s.size ≤ 200) : L (num (byt s)) ≤ 200 := by
  have hd : ∀ c ∈ byt s, c < 58 := fun c hc => by
    unfold isNum at h
    simp only [Bool.and_eq_true] at h
    have := List.all_eq_true.1 h.1.2 c hc
    simp [isDig] at this
    omega
  refine limbs_length_le.2 (Nat.lt_of_lt_of_le (num_lt _ hd) ?_)
  rw [byt_length]
  exact Nat.le_trans (Nat.pow_le_pow_right (by omega) hs) (Nat.pow_le_pow_left (by omega) 200)
theorem L_pars (s : ByteArray) : L (parsV s) ≤ 200 := by
  unfold parsV
  split
  · next h =>
    split
    · next h2 => exact num_lt200 s h h2
    · rw [L_zero]; omega
  · rw [L_zero]; omega
theorem L_64 {n : Nat} (h : n < 18446744073709551616) : L n ≤ 2 := limbs_length_le.2 (by omega)
end Go.Proofs.YtfadehkagbcjaaaGreatDoor
