/- rats: words; is1. -/
import Derived.Test.YtnpfochbpdfcmaaGreatDoorIk
import Derived.Test.YtnpfochbpdfcmaaGreatDoorFree4
set_option linter.unusedVariables false
set_option linter.unusedSimpArgs false
set_option maxRecDepth 100000
namespace Go.Proofs.YtnpfochbpdfcmaaGreatDoor
open Go.RowKit

abbrev TR : TypeId := 27
/-- A fraction as it is told: a sign and parts above, parts below, not too many. -/
def RPrt (w : World) (v : Value) (b : Bool) (xs ys : List Nat) : Prop := ∃ u d, v = .agg #[.bool b, u, d] ∧ Prt w u xs ∧ Prt w d ys
/-- The value reads as the fraction q, in lowest terms. -/
def RCan (w : World) (v : Value) (q : Rat) : Prop := ∃ u d, v = .agg #[.bool (decide (q.num < 0)), u, d] ∧ Can w u q.num.natAbs ∧ Can w d q.den
/-- .. in memory of its own from block B on. -/
def RatR (q : Rat) (B : Nat) (w : World) (v : Value) : Prop := ∃ u d, v = .agg #[.bool (decide (q.num < 0)), u, d] ∧ NatR q.num.natAbs B w u ∧ NatR q.den B w d ∧ Sep u d
/-- A fraction of whatever kind, not too long, that counts as q. -/
def RArg (w : World) (v : Value) (q : Rat) : Prop := ∃ b xs ys, RPrt w v b xs ys ∧ xs.length ≤ 100000000000 ∧ ys.length ≤ 100000000000 ∧ rv b xs ys = q
theorem RPrt.below {w w' : World} {v : Value} {b : Bool} {xs ys : List Nat} (h : RPrt w v b xs ys) (hb : Below w.heap.size w w') : RPrt w' v b xs ys := by
  obtain ⟨u, d, e, h1, h2⟩ := h
  exact ⟨u, d, e, h1.below hb, h2.below hb⟩
theorem RCan.below {w w' : World} {v : Value} {q : Rat} (h : RCan w v q) (hb : Below w.heap.size w w') : RCan w' v q := by
  obtain ⟨u, d, e, h1, h2⟩ := h
  exact ⟨u, d, e, h1.below hb, h2.below hb⟩
theorem RatR.below {q : Rat} {B : Nat} {w w' : World} {v : Value} (h : RatR q B w v) (hb : Below w.heap.size w w') : RatR q B w' v := by
  obtain ⟨u, d, e, h1, h2, h3⟩ := h
  exact ⟨u, d, e, h1.below hb, h2.below hb, h3⟩
theorem RArg.below {w w' : World} {v : Value} {q : Rat} (h : RArg w v q) (hb : Below w.heap.size w w') : RArg w' v q := by
  obtain ⟨b, xs, ys, h1, h2⟩ := h
  exact ⟨b, xs, ys, h1.below hb, h2⟩
theorem RatR.mono {q : Rat} {B B' : Nat} {w : World} {v : Value} (h : RatR q B w v) (hB : B' ≤ B) : RatR q B' w v := by
  obtain ⟨u, d, e, h1, h2, h3⟩ := h
  exact ⟨u, d, e, h1.mono hB, h2.mono hB, h3⟩
theorem RatR.can {q : Rat} {B : Nat} {w : World} {v : Value} (h : RatR q B w v) : RCan w v q := by
  obtain ⟨u, d, e, h1, h2, h3⟩ := h
  exact ⟨u, d, e, h1.can, h2.can⟩
theorem RatR.only {q : Rat} {B g : Nat} {w W : World} {v : Value} {t : TypeId} {cs : Array Value} (h : RatR q B w v) (hb : Blk w g t cs) (ht : T32 ≠ t) (F : Only g w W) : RatR q B W v := by
  obtain ⟨u, d, e, h1, h2, h3⟩ := h
  exact ⟨u, d, e, h1.only hb ht F, h2.only hb ht F, h3⟩
theorem Can.slice {w : World} {v : Value} {N : Nat} (h : Can w v N) : ∃ A n c, v = .slice A n c := by
  obtain ⟨A, c, q, _⟩ := h; exact ⟨A, _, c, q⟩
theorem Prt.slice {w : World} {v : Value} {xs : List Nat} (h : Prt w v xs) : ∃ A n c, v = .slice A n c ∧ xs.length = n := by
  obtain ⟨A, n, c, e, h1, h2, h3, h4⟩ := h; exact ⟨A, n, c, e, h3.1⟩
theorem NatR.slice {N B : Nat} {w : World} {v : Value} (h : NatR N B w v) : ∃ A n c, v = .slice A n c := h.can.slice
theorem RCan.slice {w : World} {v : Value} {q : Rat} (h : RCan w v q) : ∃ b A n c D m k, v = .agg #[.bool b, .slice A n c, .slice D m k] := by
  obtain ⟨u, d, e, h1, h2⟩ := h
  obtain ⟨A, n, c, rfl⟩ := h1.slice
  obtain ⟨D, m, k, rfl⟩ := h2.slice
  exact ⟨_, A, n, c, D, m, k, e⟩
theorem RatR.slice {w : World} {v : Value} {q : Rat} {B : Nat} (h : RatR q B w v) : ∃ b A n c D m k, v = .agg #[.bool b, .slice A n c, .slice D m k] := h.can.slice
theorem RArg.slice {w : World} {v : Value} {q : Rat} (h : RArg w v q) : ∃ b A n c D m k, v = .agg #[.bool b, .slice A n c, .slice D m k] := by
  obtain ⟨b, xs, ys, ⟨u, d, e, h1, h2⟩, _⟩ := h
  obtain ⟨A, n, c, rfl, _⟩ := h1.slice
  obtain ⟨D, m, k, rfl, _⟩ := h2.slice
  exact ⟨b, A, n, c, D, m, k, e⟩
theorem RArg.size {w : World} {v : Value} {q : Rat} (h : RArg w v q) : H q 100000000000 := by
  obtain ⟨b, xs, ys, ⟨u, d, e, h1, h2⟩, l1, l2, rfl⟩ := h
  exact H_rv h1.is32 h2.is32 l1 l2 (by decide)
theorem RPrt.can {w : World} {v : Value} {b : Bool} {xs ys : List Nat} (h : RPrt w v b xs ys) (hr : rok b xs ys = true) : RCan w v (rv b xs ys) := by
  obtain ⟨u, d, rfl, h1, h2⟩ := h
  obtain ⟨e1, e2⟩ := rv_ok hr
  obtain ⟨p1, p2, p3, p4⟩ := rok_parts hr
  refine ⟨u, d, by rw [e1, iok_neg p1], ?_, ?_⟩
  · rw [e1, iok_abs p1]; exact h1.can (iok_chk p1)
  · rw [e2]; exact h2.can p2
theorem RCan.prt {w : World} {v : Value} {q : Rat} (h : RCan w v q) (hl : H q 4398046511104) : RPrt w v (decide (q.num < 0)) (limbs q.num.natAbs) (limbs q.den) := by
  obtain ⟨u, d, e, h1, h2⟩ := h
  exact ⟨u, d, e, h1.prt hl.1, h2.prt hl.2⟩
theorem RCan.arg {w : World} {v : Value} {q : Rat} (h : RCan w v q) (hl : H q 100000000000) : RArg w v q :=
  ⟨_, _, _, h.prt (hl.up (by decide)), hl.1, hl.2, rv_self q⟩
theorem RCan.num {w : World} {b : Bool} {u d : Value} {q : Rat} (h : RCan w (.agg #[.bool b, u, d]) q) : ICan w (.agg #[.bool b, u]) q.num := by
  obtain ⟨u', d', e, h1, h2⟩ := h
  cases e
  exact ⟨u, rfl, h1⟩
theorem RCan.den {w : World} {b : Bool} {u d : Value} {q : Rat} (h : RCan w (.agg #[.bool b, u, d]) q) : Can w d q.den := by
  obtain ⟨u', d', e, h1, h2⟩ := h
  cases e
  exact h2
theorem rcan_mk {w : World} {b : Bool} {u d : Value} {z : Int} {n : Nat} (q : Rat) (h : ICan w (.agg #[.bool b, u]) z) (h' : Can w d n) (e1 : q.num = z) (e2 : q.den = n) : RCan w (.agg #[.bool b, u, d]) q := by
  subst e1 e2
  obtain ⟨u', e, h1⟩ := h
  cases e
  exact ⟨u, d, rfl, h1, h'⟩
def Fact.rat (q : Rat) : Fact := ⟨fun v w => RCan w v q, fun _ _ _ h hb => h.below hb⟩
def Fact.ratR (q : Rat) (B : Nat) : Fact := ⟨fun v w => RatR q B w v, fun _ _ _ h hb => h.below hb⟩
def Fact.rarg0 (w : World) (q : Rat) : Fact := ⟨fun v _ => RArg w v q, fun _ _ _ h _ => h⟩
def Fact.rat0 (w : World) (q : Rat) : Fact := ⟨fun v _ => RCan w v q, fun _ _ _ h _ => h⟩

/-! ### contracts of what lies below, in one form -/
theorem iCheck_P {w : World} {v : Value} {b : Bool} {xs : List Nat} (h : IPrt w v b xs) (r : Bool) (hr : iok b xs = r) :
    Calls Tryz.prog 26 #[v] w fun e w' => ∃ u, e = .returned u ∧ Below w.heap.size w w' ∧ u = .bool r :=
  (iCheck_ok h).mono fun e w' ⟨h1, h2⟩ => ⟨_, h1, h2.out, by rw [hr]⟩
theorem nCheck_P {w : World} {v : Value} {xs : List Nat} (h : Prt w v xs) (r : Bool) (hr : chk xs = r) :
    Calls Tryz.prog 62 #[v] w fun e w' => ∃ u, e = .returned u ∧ Below w.heap.size w w' ∧ u = .bool r :=
  (Check_prt h).mono fun e w' ⟨h1, h2⟩ => ⟨_, h1, h2 ▸ Below.refl _ _, by rw [hr]⟩
theorem nGcd_P {w : World} {v v' : Value} {M N : Nat} (h : Arg w v M) (h' : Arg w v' N) (hT : Tab w) :
    Calls Tryz.prog 63 #[v, v'] w fun e w' => ∃ u, e = .returned u ∧ Below w.heap.size w w' ∧ NatR (Nat.gcd M N) w.heap.size w' u :=
  (Gcd_arg h h' hT).mono fun e w' ⟨u, e1, h1, h2⟩ => ⟨u, e1, h2.out, h1.out⟩
theorem nDiv_P {w : World} {v v' : Value} {M N : Nat} (h : Can w v M) (h' : Can w v' N) (s : L M ≤ 4398046511104) (s' : L N ≤ 4398046511104) (hl : N ≠ 0) :
    Calls Tryz.prog 77 #[v, v'] w fun e w' => ∃ q t, e = .returned (.tuple #[q, t, .int .i64 0]) ∧ Below w.heap.size w w' ∧ NatR (M / N) w.heap.size w' q ∧ NatR (M % N) w.heap.size w' t :=
  (Div_pos h h' s s' hl).mono fun e w' ⟨q, t, e1, h1, h2, h3, h4⟩ => ⟨q, t, e1, h4.out, h1.out, h2.out⟩
set_option maxHeartbeats 400000 in
theorem is1_P {w : World} {v : Value} {N : Nat} (h : Can w v N) (r : Bool) (hr : decide (N = 1) = r) :
    Calls Tryz.prog 51 #[v] w fun e w' => ∃ u, e = .returned u ∧ Below w.heap.size w w' ∧ u = .bool r := by
  refine opq fun R hR => ?_
  subst hr
  obtain ⟨A, c, rfl, l, rd⟩ := h
  by_cases h1 : (limbs N).length = 1
  · have hs : N < 4294967296 := by have := (@limbs_length_le N 1).1 (by omega); simpa using this
    have hp : 0 < N := by
      rcases Nat.eq_zero_or_pos N with h0 | h0
      · subst h0; rw [limbs_zero] at h1; simp at h1
      · exact h0
    have e := limbs_small hp hs
    rw [e] at rd ⊢
    obtain ⟨ad, rfl, hl, hc⟩ := rd.2.2 (by simp)
    have h0 := hc 0 (by simp)
    simp only [List.getD_cons_zero] at h0
    rw [show ad.add 0 = ad from by unfold Addr.add; split <;> simp_all] at h0
    clear hc rd l e h1
    by_cases hN : N = 1
    · subst hN
      show Calls _ _ #[.slice (some ad) 1 c] _ _
      go_enter Tryz.func51, Tryz.ntmps51
      go_wp2
      exact opq_end hR ⟨_, rfl, Below.refl _ _, rfl⟩
    · have e1 : Hid (decide (N = 1) = false) := by show _ = _; simpa using hN
      have e2 : ((N : Int) == 1) = false := by simp; omega
      show Calls _ _ #[.slice (some ad) 1 c] _ _
      go_enter Tryz.func51, Tryz.ntmps51
      go_wp2
      exact opq_end hR ⟨_, rfl, Below.refl _ _, by first | (rw [e1.out]; done) | (rw [e1.out]; rfl)⟩
  · have e1 : Hid (decide (N = 1) = false) := by
      show _ = _
      rw [decide_eq_false_iff_not]
      intro e; subst e
      exact h1 (by rw [limbs_small (by omega) (by omega)]; rfl)
    have e2 : (((limbs N).length : Int) == 1) = false := by
      simp only [beq_eq_false_iff_ne, ne_eq]
      omega
    clear rd l
    generalize (limbs N).length = n at *
    go_enter Tryz.func51, Tryz.ntmps51
    go_wp2
    exact opq_end hR ⟨_, rfl, Below.refl _ _, by first | (rw [e1.out]; done) | (rw [e1.out]; rfl)⟩
end Go.Proofs.YtnpfochbpdfcmaaGreatDoor
