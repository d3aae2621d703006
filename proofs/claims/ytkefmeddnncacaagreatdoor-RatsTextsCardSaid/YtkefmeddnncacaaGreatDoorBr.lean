/- laws of fractions that compare texts: words. -/
import Derived.Test.YtkefmeddnncacaaGreatDoorRu
import Derived.Test.YtkefmeddnncacaaGreatDoorBo
import Derived.Test.YtkefmeddnncacaaGreatDoorKl
import Derived.Test.YtkefmeddnncacaaGreatDoorFR
set_option linter.unusedVariables false
set_option linter.unusedSimpArgs false
set_option maxRecDepth 100000
namespace Go.Proofs.YtkefmeddnncacaaGreatDoor
open Go.RowKit

def rpR (s : ByteArray) : Rat ⊕ Int := rmake (isgn (byt s)).1 (rsplit (isgn (byt s)).2)
def sumZ : Rat ⊕ Int → Int
  | .inl q => q.num
  | .inr _ => 0
def sumN : Rat ⊕ Int → Nat
  | .inl q => q.den
  | .inr _ => 0
def sumK : Rat ⊕ Int → Int
  | .inl _ => 0
  | .inr c => c
theorem rpost_PR {r : Rat ⊕ Int} {B : Nat} {e : Ending} {w : World} (h : RPost r B e w) :
    ∃ s A n c D m k, e = .returned (.tuple #[.agg #[.bool s, .slice A n c, .slice D m k], .int .i64 (sumK r)]) ∧ PR (sumZ r) (sumN r) B w s A n c D m k := by
  cases r with
  | inl q =>
    obtain ⟨u, e1, r1⟩ := h
    obtain ⟨s, A, n, c, D, m, k, rfl⟩ := r1.slice
    exact ⟨s, A, n, c, D, m, k, e1, .of r1⟩
  | inr c => exact ⟨_, _, _, _, _, _, _, h, .zero _ _⟩
theorem rp_L (s : ByteArray) : L (sumZ (rpR s)).natAbs ≤ 30 ∧ L (sumN (rpR s)) ≤ 30 := by
  cases h : rpR s with
  | inl q => exact (rmake_ok h).2.2
  | inr c => exact ⟨by show L 0 ≤ _; rw [L_zero]; omega, by show L 0 ≤ _; rw [L_zero]; omega⟩
theorem rp_Parse (w : World) (s : ByteArray) (hs : s.size ≤ 4294967000) (hT : Tab w) (hM : MaxL w) :
    Calls Tryz.prog 12 #[.string s] w fun e w' => ∃ b A n c D m k, e = .returned (.tuple #[.agg #[.bool b, .slice A n c, .slice D m k], .int .i64 (sumK (rpR s))]) ∧ Hid (Below w.heap.size w w') ∧ PR (sumZ (rpR s)) (sumN (rpR s)) w.heap.size w' b A n c D m k :=
  (rParse_P w s hs hT hM _ rfl).mono fun e w' ⟨h1, h2⟩ => by
    obtain ⟨b, A, n, c, D, m, k, e1, r⟩ := rpost_PR h1
    exact ⟨b, A, n, c, D, m, k, e1, h2, r⟩
theorem rq_Parse (w : World) (s : ByteArray) (hs : s.size ≤ 4294967000) :
    Calls Tryz.prog 13 #[.string s] w fun e w' => ∃ b A n c D m k, e = .returned (.tuple #[.agg #[.bool b, .slice A n c, .slice D m k], .int .i64 (sumK (rpR s))]) ∧ Hid (Below w.heap.size w w') ∧ PR (sumZ (rpR s)) (sumN (rpR s)) w.heap.size w' b A n c D m k :=
  (krParse_P w s hs _ rfl).mono fun e w' ⟨h1, h2⟩ => by
    obtain ⟨b, A, n, c, D, m, k, e1, r⟩ := rpost_PR h1
    exact ⟨b, A, n, c, D, m, k, e1, h2, r⟩
theorem rp_Floor {w : World} {v : Value} {q : Rat} (h : RArg w v q) (hT : Tab w) :
    Calls Tryz.prog 11 #[v] w fun e w' => ∃ s A n c, e = .returned (.agg #[.bool s, .slice A n c]) ∧ Hid (Below w.heap.size w w') ∧ IntR q.floor w.heap.size w' (.agg #[.bool s, .slice A n c]) :=
  (rFloor_P h hT).mono fun e w' ⟨u, q1, q2, q3⟩ => by
    obtain ⟨s, A, n, c, rfl⟩ := q3.slice
    exact ⟨s, A, n, c, q1, q2, q3⟩
theorem krFloor_C {w : World} {v : Value} {q : Rat} (h : RArg w v q) :
    Calls Tryz.prog 19 #[v] w fun e w' => ∃ u, e = .returned u ∧ Below w.heap.size w w' ∧ ICan w' u q.floor := (krFloor_P h).mono fun e w' ⟨u, q1, q2, q3⟩ => ⟨u, q1, q2, q3.can⟩
theorem rTextV {w : World} {v : Value} {q : Rat} (h : RArg w v q) (hl : H q 1000) (hT : Tab w) {t : ByteArray} (ht : rtxB q = t) :
    Calls Tryz.prog 20 #[v] w fun e w' => ∃ u, e = .returned u ∧ Below w.heap.size w w' ∧ u = .string t := (rText_P h (hl.up (by decide)) hT).mono fun e w' ⟨u, q1, q2, q3⟩ => ⟨u, q1, q2, by rw [q3, ← ht]; rfl⟩
theorem krTextV {w : World} {v : Value} {q : Rat} (h : RArg w v q) (hl : H q 1000) {t : ByteArray} (ht : rtxB q = t) :
    Calls Tryz.prog 21 #[v] w fun e w' => ∃ u, e = .returned u ∧ Below w.heap.size w w' ∧ u = .string t := (krText_P h hl).mono fun e w' ⟨u, q1, q2, q3⟩ => ⟨u, q1, q2, by rw [q3, ← ht]⟩
end Go.Proofs.YtkefmeddnncacaaGreatDoor
