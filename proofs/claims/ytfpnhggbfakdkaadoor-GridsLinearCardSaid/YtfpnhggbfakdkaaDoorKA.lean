/- rats: contracts of Check, Of, lowest, Make, cross, Add, Sub, Mul, Cmp, Sign, Whole, Div, Floor, Text. -/
import Derived.Test.YtfpnhggbfakdkaaDoorIA
import Derived.Test.YtfpnhggbfakdkaaDoorFz
/- rats: words; is1. -/
set_option linter.unusedVariables false
set_option linter.unusedSimpArgs false
set_option maxRecDepth 100000
namespace Go.Proofs.YtfpnhggbfakdkaaDoor
open Go.RowKit

abbrev TR : TypeId := 44
/-- A fraction as it is told: a sign and parts above, parts below, not too many. -/
def RPrt (w : World) (v : Value) (b : Bool) (xs ys : List Nat) : Prop := ∃ u d, v = .agg #[.bool b, u, d] ∧ Prt w u xs ∧ Prt w d ys
/-- The value reads as the fraction q, in lowest terms. -/
def RCan (w : World) (v : Value) (q : Rat) : Prop := ∃ u d, v = .agg #[.bool (decide (q.num < 0)), u, d] ∧ Can w u q.num.natAbs ∧ Can w d q.den
/-- .. in memory of its own from block B on. -/
def RatR (q : Rat) (B : Nat) (w : World) (v : Value) : Prop := ∃ u d, v = .agg #[.bool (decide (q.num < 0)), u, d] ∧ NatR q.num.natAbs B w u ∧ NatR q.den B w d ∧ Sep u d
/-- A fraction of whatever kind, not too long, that counts as q. -/
def RArg (w : World) (v : Value) (q : Rat) : Prop := ∃ b xs ys, RPrt w v b xs ys ∧ xs.length ≤ 100000000000 ∧ ys.length ≤ 100000000000 ∧ rv b xs ys = q
theorem RPrt.below {w w' : World} {v : Value} {b : Bool} {xs ys : List Nat} (h : RPrt w v b xs ys) (hb : Below w.heap.size w w') : RPrt w' v b xs ys := by
  obtain ⟨u, d, e, h1, h2⟩ := h
  exact ⟨u, d, e, h1.below hb, h2.below hb⟩
theorem RCan.below {w w' : World} {v : Value} {q : Rat} (h : RCan w v q) (hb : Below w.heap.size w w') : RCan w' v q := by
  obtain ⟨u, d, e, h1, h2⟩ := h
  exact ⟨u, d, e, h1.below hb, h2.below hb⟩
theorem RatR.below {q : Rat} {B : Nat} {w w' : World} {v : Value} (h : RatR q B w v) (hb : Below w.heap.size w w') : RatR q B w' v := by
  obtain ⟨u, d, e, h1, h2, h3⟩ := h
  exact ⟨u, d, e, h1.below hb, h2.below hb, h3⟩
theorem RArg.below {w w' : World} {v : Value} {q : Rat} (h : RArg w v q) (hb : Below w.heap.size w w') : RArg w' v q := by
  obtain ⟨b, xs, ys, h1, h2⟩ := h
  exact ⟨b, xs, ys, h1.below hb, h2⟩
theorem RatR.mono {q : Rat} {B B' : Nat} {w : World} {v : Value} (h : RatR q B w v) (hB : B' ≤ B) : RatR q B' w v := by
  obtain ⟨u, d, e, h1, h2, h3⟩ := h
  exact ⟨u, d, e, h1.mono hB, h2.mono hB, h3⟩
theorem RatR.can {q : Rat} {B : Nat} {w : World} {v : Value} (h : RatR q B w v) : RCan w v q := by
  obtain ⟨u, d, e, h1, h2, h3⟩ := h
  exact ⟨u, d, e, h1.can, h2.can⟩
theorem RatR.only {q : Rat} {B g : Nat} {w W : World} {v : Value} {t : TypeId} {cs : Array Value} (h : RatR q B w v) (hb : Blk w g t cs) (ht : T32 ≠ t) (F : Only g w W) : RatR q B W v := by
  obtain ⟨u, d, e, h1, h2, h3⟩ := h
  exact ⟨u, d, e, h1.only hb ht F, h2.only hb ht F, h3⟩
theorem Can.slice {w : World} {v : Value} {N : Nat} (h : Can w v N) : ∃ A n c, v = .slice A n c := by
  obtain ⟨A, c, q, _⟩ := h; exact ⟨A, _, c, q⟩
theorem Prt.slice {w : World} {v : Value} {xs : List Nat} (h : Prt w v xs) : ∃ A n c, v = .slice A n c ∧ xs.length = n := by
  obtain ⟨A, n, c, e, h1, h2, h3, h4⟩ := h; exact ⟨A, n, c, e, h3.1⟩
theorem NatR.slice {N B : Nat} {w : World} {v : Value} (h : NatR N B w v) : ∃ A n c, v = .slice A n c := h.can.slice
theorem RCan.slice {w : World} {v : Value} {q : Rat} (h : RCan w v q) : ∃ b A n c D m k, v = .agg #[.bool b, .slice A n c, .slice D m k] := by
  obtain ⟨u, d, e, h1, h2⟩ := h
  obtain ⟨A, n, c, rfl⟩ := h1.slice
  obtain ⟨D, m, k, rfl⟩ := h2.slice
  exact ⟨_, A, n, c, D, m, k, e⟩
theorem RatR.slice {w : World} {v : Value} {q : Rat} {B : Nat} (h : RatR q B w v) : ∃ b A n c D m k, v = .agg #[.bool b, .slice A n c, .slice D m k] := h.can.slice
theorem RArg.slice {w : World} {v : Value} {q : Rat} (h : RArg w v q) : ∃ b A n c D m k, v = .agg #[.bool b, .slice A n c, .slice D m k] := by
  obtain ⟨b, xs, ys, ⟨u, d, e, h1, h2⟩, _⟩ := h
  obtain ⟨A, n, c, rfl, _⟩ := h1.slice
  obtain ⟨D, m, k, rfl, _⟩ := h2.slice
  exact ⟨b, A, n, c, D, m, k, e⟩
theorem RArg.size {w : World} {v : Value} {q : Rat} (h : RArg w v q) : H q 100000000000 := by
  obtain ⟨b, xs, ys, ⟨u, d, e, h1, h2⟩, l1, l2, rfl⟩ := h
  exact H_rv h1.is32 h2.is32 l1 l2 (by decide)
theorem RPrt.can {w : World} {v : Value} {b : Bool} {xs ys : List Nat} (h : RPrt w v b xs ys) (hr : rok b xs ys = true) : RCan w v (rv b xs ys) := by
  obtain ⟨u, d, rfl, h1, h2⟩ := h
  obtain ⟨e1, e2⟩ := rv_ok hr
  obtain ⟨p1, p2, p3, p4⟩ := rok_parts hr
  refine ⟨u, d, by rw [e1, iok_neg p1], ?_, ?_⟩
  · rw [e1, iok_abs p1]; exact h1.can (iok_chk p1)
  · rw [e2]; exact h2.can p2
theorem RCan.prt {w : World} {v : Value} {q : Rat} (h : RCan w v q) (hl : H q 4398046511104) : RPrt w v (decide (q.num < 0)) (limbs q.num.natAbs) (limbs q.den) := by
  obtain ⟨u, d, e, h1, h2⟩ := h
  exact ⟨u, d, e, h1.prt hl.1, h2.prt hl.2⟩
theorem RCan.arg {w : World} {v : Value} {q : Rat} (h : RCan w v q) (hl : H q 100000000000) : RArg w v q :=
  ⟨_, _, _, h.prt (hl.up (by decide)), hl.1, hl.2, rv_self q⟩
theorem RCan.num {w : World} {b : Bool} {u d : Value} {q : Rat} (h : RCan w (.agg #[.bool b, u, d]) q) : ICan w (.agg #[.bool b, u]) q.num := by
  obtain ⟨u', d', e, h1, h2⟩ := h
  cases e
  exact ⟨u, rfl, h1⟩
theorem RCan.den {w : World} {b : Bool} {u d : Value} {q : Rat} (h : RCan w (.agg #[.bool b, u, d]) q) : Can w d q.den := by
  obtain ⟨u', d', e, h1, h2⟩ := h
  cases e
  exact h2
def Fact.rat (q : Rat) : Fact := ⟨fun v w => RCan w v q, fun _ _ _ h hb => h.below hb⟩
def Fact.ratR (q : Rat) (B : Nat) : Fact := ⟨fun v w => RatR q B w v, fun _ _ _ h hb => h.below hb⟩
def Fact.rarg0 (w : World) (q : Rat) : Fact := ⟨fun v _ => RArg w v q, fun _ _ _ h _ => h⟩
def Fact.rat0 (w : World) (q : Rat) : Fact := ⟨fun v _ => RCan w v q, fun _ _ _ h _ => h⟩

/-! ### contracts of what lies below, in one form -/
theorem iCheck_P {w : World} {v : Value} {b : Bool} {xs : List Nat} (h : IPrt w v b xs) (r : Bool) (hr : iok b xs = r) :
    Calls Tryd.prog 50 #[v] w fun e w' => ∃ u, e = .returned u ∧ Below w.heap.size w w' ∧ u = .bool r :=
  (iCheck_ok h).mono fun e w' ⟨h1, h2⟩ => ⟨_, h1, h2.out, by rw [hr]⟩
theorem nCheck_P {w : World} {v : Value} {xs : List Nat} (h : Prt w v xs) (r : Bool) (hr : chk xs = r) :
    Calls Tryd.prog 51 #[v] w fun e w' => ∃ u, e = .returned u ∧ Below w.heap.size w w' ∧ u = .bool r :=
  (Check_prt h).mono fun e w' ⟨h1, h2⟩ => ⟨_, h1, h2 ▸ Below.refl _ _, by rw [hr]⟩
theorem nGcd_P {w : World} {v v' : Value} {M N : Nat} (h : Arg w v M) (h' : Arg w v' N) (hT : Tab w) :
    Calls Tryd.prog 53 #[v, v'] w fun e w' => ∃ u, e = .returned u ∧ Below w.heap.size w w' ∧ NatR (Nat.gcd M N) w.heap.size w' u :=
  (Gcd_arg h h' hT).mono fun e w' ⟨u, e1, h1, h2⟩ => ⟨u, e1, h2.out, h1.out⟩
theorem nDiv_P {w : World} {v v' : Value} {M N : Nat} (h : Can w v M) (h' : Can w v' N) (s : L M ≤ 4398046511104) (s' : L N ≤ 4398046511104) (hl : N ≠ 0) :
    Calls Tryd.prog 96 #[v, v'] w fun e w' => ∃ q t, e = .returned (.tuple #[q, t, .int .i64 0]) ∧ Below w.heap.size w w' ∧ NatR (M / N) w.heap.size w' q ∧ NatR (M % N) w.heap.size w' t :=
  (Div_pos h h' s s' hl).mono fun e w' ⟨q, t, e1, h1, h2, h3, h4⟩ => ⟨q, t, e1, h4.out, h1.out, h2.out⟩
set_option maxHeartbeats 400000 in
theorem is1_P {w : World} {v : Value} {N : Nat} (h : Can w v N) (r : Bool) (hr : decide (N = 1) = r) :
    Calls Tryd.prog 52 #[v] w fun e w' => ∃ u, e = .returned u ∧ Below w.heap.size w w' ∧ u = .bool r := by
  refine opq fun R hR => ?_
  subst hr
  obtain ⟨A, c, rfl, l, rd⟩ := h
  by_cases h1 : (limbs N).length = 1
  · have hs : N < 4294967296 := by have := (@limbs_length_le N 1).1 (by omega); simpa using this
    have hp : 0 < N := by
      rcases Nat.eq_zero_or_pos N with h0 | h0
      · subst h0; rw [limbs_zero] at h1; simp at h1
      · exact h0
    have e := limbs_small hp hs
    rw [e] at rd ⊢
    obtain ⟨ad, rfl, hl, hc⟩ := rd.2.2 (by simp)
    have h0 := hc 0 (by simp)
    simp only [List.getD_cons_zero] at h0
    rw [show ad.add 0 = ad from by unfold Addr.add; split <;> simp_all] at h0
    clear hc rd l e h1
    by_cases hN : N = 1
    · subst hN
      show Calls _ _ #[.slice (some ad) 1 c] _ _
      go_enter Tryd.func52, Tryd.ntmps52
      go_wp2
      exact opq_end hR ⟨_, rfl, Below.refl _ _, rfl⟩
    · have e1 : Hid (decide (N = 1) = false) := by show _ = _; simpa using hN
      have e2 : ((N : Int) == 1) = false := by simp; omega
      show Calls _ _ #[.slice (some ad) 1 c] _ _
      go_enter Tryd.func52, Tryd.ntmps52
      go_wp2
      exact opq_end hR ⟨_, rfl, Below.refl _ _, by first | (rw [e1.out]; done) | (rw [e1.out]; rfl)⟩
  · have e1 : Hid (decide (N = 1) = false) := by
      show _ = _
      rw [decide_eq_false_iff_not]
      intro e; subst e
      exact h1 (by rw [limbs_small (by omega) (by omega)]; rfl)
    have e2 : (((limbs N).length : Int) == 1) = false := by
      simp only [beq_eq_false_iff_ne, ne_eq]
      omega
    clear rd l
    generalize (limbs N).length = n at *
    go_enter Tryd.func52, Tryd.ntmps52
    go_wp2
    exact opq_end hR ⟨_, rfl, Below.refl _ _, by first | (rw [e1.out]; done) | (rw [e1.out]; rfl)⟩
end Go.Proofs.YtfpnhggbfakdkaaDoor

/- rats: Check, Of, of, lowest, Make. -/
set_option linter.unusedVariables false
set_option linter.unusedSimpArgs false
set_option maxRecDepth 100000
namespace Go.Proofs.YtfpnhggbfakdkaaDoor
open Go.RowKit

set_option maxHeartbeats 1000000 in
theorem rCheck_P {w : World} {v : Value} {b : Bool} {xs ys : List Nat} (h : RPrt w v b xs ys) (hT : Tab w) (r : Bool) (hr : rok b xs ys = r) :
    Calls Tryd.prog 24 #[v] w fun e w' => ∃ u, e = .returned u ∧ Below w.heap.size w w' ∧ u = .bool r := by
  refine opq fun R hR => ?_
  obtain ⟨u, d, rfl, U, V⟩ := h
  obtain ⟨A, n, c, rfl, _⟩ := U.slice
  obtain ⟨D, m, k, rfl, lm⟩ := V.slice
  have em : Hid (ys.isEmpty = decide (m = 0)) := by
    show _ = _
    rw [Bool.eq_iff_iff, List.isEmpty_iff, decide_eq_true_eq, ← lm]
    exact List.length_eq_zero_iff.symm
  clear lm
  replace U := hide U
  replace V := hide V
  have T := hide hT
  clear hT
  replace hr := hide hr
  go_enter Tryd.func24, Tryd.ntmps24
  have b0 := hide (Below.refl w.heap.size w)
  have K := hide (Blk.new_at w (w.heap.size) (by simp) 44 #[.bool b, .slice A n c, .slice D m k])
  have y := (Below.refl w.heap.size w).alloc (Nat.le_refl _) (.cells #[.bool b, .slice A n c, .slice D m k] 44)
  replace b0 := hide (below_tr b0.out y)
  clear y
  replace U := hide (U.out.below b0.out)
  replace V := hide (V.out.below b0.out)
  replace T := hide (T.out.below b0.out)
  have Kc0 : (w.alloc (.cells #[.bool b, .slice A n c, .slice D m k] 44)).cell? ⟨w.heap.size, 0, none⟩ = some (.bool b) := K.out.at_ 0 rfl
  have Kc1 : (w.alloc (.cells #[.bool b, .slice A n c, .slice D m k] 44)).cell? ⟨w.heap.size, 1, none⟩ = some (.slice A n c) := K.out.at_ 1 rfl
  have Kc2 : (w.alloc (.cells #[.bool b, .slice A n c, .slice D m k] 44)).cell? ⟨w.heap.size, 2, none⟩ = some (.slice D m k) := K.out.at_ 2 rfl
  cases p1 : iok b xs
  case false =>
    go_wp2_with fail
    refine (iCheck_P (b := b) ⟨_, rfl, U.out⟩ false p1).mono ?_
    rintro e w1 ⟨_, rfl, d0, rfl⟩
    replace K := hide (K.out.below' d0)
    replace U := hide (U.out.below d0)
    replace V := hide (V.out.below d0)
    replace T := hide (T.out.below d0)
    replace b0 := hide (below_tr b0.out d0)
    clear d0
    clear Kc0 Kc1 Kc2
    have Kc0 : w1.cell? ⟨w.heap.size, 0, none⟩ = some (.bool b) := K.out.at_ 0 rfl
    have Kc1 : w1.cell? ⟨w.heap.size, 1, none⟩ = some (.slice A n c) := K.out.at_ 1 rfl
    have Kc2 : w1.cell? ⟨w.heap.size, 2, none⟩ = some (.slice D m k) := K.out.at_ 2 rfl
    replace p1 := hide p1
    go_wp2
    exact opq_end hR ⟨_, rfl, b0.out, by rw [← hr.out]; simp [rok, p1.out]⟩
  case true =>
    go_wp2_with fail
    refine (iCheck_P (b := b) ⟨_, rfl, U.out⟩ true p1).mono ?_
    rintro e w1 ⟨_, rfl, d0, rfl⟩
    replace K := hide (K.out.below' d0)
    replace U := hide (U.out.below d0)
    replace V := hide (V.out.below d0)
    replace T := hide (T.out.below d0)
    replace b0 := hide (below_tr b0.out d0)
    clear d0
    clear Kc0 Kc1 Kc2
    have Kc0 : w1.cell? ⟨w.heap.size, 0, none⟩ = some (.bool b) := K.out.at_ 0 rfl
    have Kc1 : w1.cell? ⟨w.heap.size, 1, none⟩ = some (.slice A n c) := K.out.at_ 1 rfl
    have Kc2 : w1.cell? ⟨w.heap.size, 2, none⟩ = some (.slice D m k) := K.out.at_ 2 rfl
    replace p1 := hide p1
    cases p2 : chk ys
    case false =>
      go_wp2_with fail
      refine (nCheck_P V.out false p2).mono ?_
      rintro e w2 ⟨_, rfl, d0, rfl⟩
      replace K := hide (K.out.below' d0)
      replace U := hide (U.out.below d0)
      replace V := hide (V.out.below d0)
      replace T := hide (T.out.below d0)
      replace b0 := hide (below_tr b0.out d0)
      clear d0
      clear Kc0 Kc1 Kc2
      have Kc0 : w2.cell? ⟨w.heap.size, 0, none⟩ = some (.bool b) := K.out.at_ 0 rfl
      have Kc1 : w2.cell? ⟨w.heap.size, 1, none⟩ = some (.slice A n c) := K.out.at_ 1 rfl
      have Kc2 : w2.cell? ⟨w.heap.size, 2, none⟩ = some (.slice D m k) := K.out.at_ 2 rfl
      replace p2 := hide p2
      go_wp2
      exact opq_end hR ⟨_, rfl, b0.out, by rw [← hr.out]; simp [rok, p2.out]⟩
    case true =>
      go_wp2_with fail
      refine (nCheck_P V.out true p2).mono ?_
      rintro e w2 ⟨_, rfl, d0, rfl⟩
      replace K := hide (K.out.below' d0)
      replace U := hide (U.out.below d0)
      replace V := hide (V.out.below d0)
      replace T := hide (T.out.below d0)
      replace b0 := hide (below_tr b0.out d0)
      clear d0
      clear Kc0 Kc1 Kc2
      have Kc0 : w2.cell? ⟨w.heap.size, 0, none⟩ = some (.bool b) := K.out.at_ 0 rfl
      have Kc1 : w2.cell? ⟨w.heap.size, 1, none⟩ = some (.slice A n c) := K.out.at_ 1 rfl
      have Kc2 : w2.cell? ⟨w.heap.size, 2, none⟩ = some (.slice D m k) := K.out.at_ 2 rfl
      replace p2 := hide p2
      by_cases p3 : m = 0
      case pos =>
        subst p3
        go_wp2
        exact opq_end hR ⟨_, rfl, b0.out, by rw [← hr.out]; simp [rok, em.out]⟩
      have p4 : 0 < m := by omega
      have e3 : Hid (ys.isEmpty = false) := by show _ = _; rw [em.out]; simpa using p3
      clear p3 em
      go_wp2_with fail
      refine (nGcd_P U.out.arg V.out.arg T.out).mono ?_
      rintro e w3 ⟨gv, rfl, d0, gr⟩
      replace K := hide (K.out.below' d0)
      replace U := hide (U.out.below d0)
      replace V := hide (V.out.below d0)
      replace T := hide (T.out.below d0)
      replace b0 := hide (below_tr b0.out d0)
      have G := hide (gr.can)
      clear d0
      clear Kc0 Kc1 Kc2
      have Kc0 : w3.cell? ⟨w.heap.size, 0, none⟩ = some (.bool b) := K.out.at_ 0 rfl
      have Kc1 : w3.cell? ⟨w.heap.size, 1, none⟩ = some (.slice A n c) := K.out.at_ 1 rfl
      have Kc2 : w3.cell? ⟨w.heap.size, 2, none⟩ = some (.slice D m k) := K.out.at_ 2 rfl
      clear gr
      obtain ⟨Ag, ng, cg, rfl⟩ := G.out.slice
      go_wp2_with fail
      refine (is1_P G.out _ rfl).mono ?_
      rintro e w4 ⟨_, rfl, d0, rfl⟩
      replace K := hide (K.out.below' d0)
      replace U := hide (U.out.below d0)
      replace V := hide (V.out.below d0)
      replace T := hide (T.out.below d0)
      replace G := hide (G.out.below d0)
      replace b0 := hide (below_tr b0.out d0)
      clear d0
      clear Kc0 Kc1 Kc2
      have Kc0 : w4.cell? ⟨w.heap.size, 0, none⟩ = some (.bool b) := K.out.at_ 0 rfl
      have Kc1 : w4.cell? ⟨w.heap.size, 1, none⟩ = some (.slice A n c) := K.out.at_ 1 rfl
      have Kc2 : w4.cell? ⟨w.heap.size, 2, none⟩ = some (.slice D m k) := K.out.at_ 2 rfl
      have ef : decide (Nat.gcd (nv xs) (nv ys) = 1) = r := by rw [← hr.out]; simp only [rok, p1.out, p2.out, e3.out, Bool.true_and, Bool.not_false]
      go_wp2
      exact opq_end hR ⟨_, rfl, b0.out, rfl⟩
/-- Parts that are written out, in memory of its own. -/
theorem litR_at (w : World) (g : Nat) (hg : w.heap.size = g) (xs : List Nat) (N : Nat) (hN : val xs = N) (h : Is32 xs) (hc : chk xs = true) (hl : xs.length ≤ 1000) (B : Nat) (hB : B ≤ g) (cs : Array Value) (hcs : cellsOf .u32 xs = cs) : NatR N B (w.alloc (.cells cs T32)) (.slice (some ⟨g, 0, none⟩) xs.length xs.length) := by
  subst hg hN hcs
  have e := limbs_val_chk h hc
  have k := Blk.new w T32 (cellsOf .u32 xs)
  refine ⟨_, xs.length, by rw [e], ?_, .inr ⟨_, _, rfl, hB, k, by rw [cellsOf_size]; exact Nat.le_refl _⟩, by rw [e]; exact Nat.le_refl _⟩
  rw [e]
  have := k.rd xs.length (Nat.le_refl _) (by omega)
  rwa [List.take_length] at this
set_option maxHeartbeats 1000000 in
theorem rOf_P (w : World) (n : Int) (h0 : -9223372036854775808 ≤ n) (h1 : n < 9223372036854775808) :
    Calls Tryd.prog 26 #[.int .i64 n] w fun e w' => ∃ u, e = .returned u ∧ Below w.heap.size w w' ∧ RatR (n : Rat) w.heap.size w' u := by
  refine opq fun R hR => ?_
  go_enter Tryd.func26, Tryd.ntmps26
  have b0 := hide (Below.refl w.heap.size w)
  have K := hide (Blk.new_at w (w.heap.size) (by simp) 44 #[.bool false, .slice none 0 0, .slice none 0 0])
  have y := (Below.refl w.heap.size w).alloc (Nat.le_refl _) (.cells #[.bool false, .slice none 0 0, .slice none 0 0] 44)
  replace b0 := hide (below_tr b0.out y)
  clear y
  go_wp2_with fail
  refine (iOf_ok _ n h0 h1).mono ?_
  rintro e w1 ⟨v9, rfl, d0, r9⟩
  replace K := hide (K.out.below' d0)
  replace b0 := hide (below_tr b0.out d0)
  have R9 := hide (r9.mono (B' := w.heap.size) (by simp))
  clear d0
  clear r9
  obtain ⟨b9, A9, n9, c9, rfl⟩ := R9.out.slice
  have x0 := hide (litR_at w1 (w1.heap.size) (by simp) [1] 1 rfl (is32d (by decide)) (by decide) (by decide) w.heap.size b0.out.size #[.int .u32 1] rfl)
  have xs0 : Hid (Sep (.slice A9 n9 c9) (.slice (some ⟨w1.heap.size, 0, none⟩) 1 1)) := by
    obtain ⟨u, e, hn⟩ := R9.out
    cases e
    exact hn.sep (litR_at w1 (w1.heap.size) (by simp) [1] 1 rfl (is32d (by decide)) (by decide) (by decide) _ (Nat.le_refl _) #[.int .u32 1] rfl)
  have y := (Below.refl w1.heap.size w1).alloc (Nat.le_refl _) (.cells #[.int .u32 1] T32)
  replace K := hide (K.out.below' y)
  replace R9 := hide (R9.out.below y)
  replace b0 := hide (below_tr b0.out y)
  clear y
  have Q : Hid (RatR (n : Rat) w.heap.size (w1.alloc (.cells #[.int .u32 1] T32)) (.agg #[.bool b9, .slice A9 n9 c9, .slice (some ⟨w1.heap.size, 0, none⟩) 1 1])) := by
    obtain ⟨u, e, hn⟩ := R9.out
    cases e
    exact ⟨_, _, rfl, hn, x0.out, xs0.out⟩
  have Kc0 : (w1.alloc (.cells #[.int .u32 1] T32)).cell? ⟨w.heap.size, 0, none⟩ = some (.bool false) := K.out.at_ 0 rfl
  have Kc1 : (w1.alloc (.cells #[.int .u32 1] T32)).cell? ⟨w.heap.size, 1, none⟩ = some (.slice none 0 0) := K.out.at_ 1 rfl
  have Kc2 : (w1.alloc (.cells #[.int .u32 1] T32)).cell? ⟨w.heap.size, 2, none⟩ = some (.slice none 0 0) := K.out.at_ 2 rfl
  have p0 : (w1.alloc (.cells #[.int .u32 1] T32)).frozen? ⟨w.heap.size, 0, none⟩ = false := K.out.frozen 0
  have p1 : (w1.alloc (.cells #[.int .u32 1] T32)).frozen? ⟨w.heap.size, 1, none⟩ = false := K.out.frozen 1
  have p2 : (w1.alloc (.cells #[.int .u32 1] T32)).frozen? ⟨w.heap.size, 2, none⟩ = false := K.out.frozen 2
  go_wp2
  refine bodyPost_ret (v := .agg #[.bool b9, .slice A9 n9 c9, .slice (some ⟨w1.heap.size, 0, none⟩) 1 1]) (by simp [results, Tryd.results26, go_sem, Kc0, Kc1, Kc2, p0, p1, p2]) rfl ?_
  exact opq_end hR ⟨_, rfl, (by (repeat (first | exact b0 | exact Below.refl _ _ | refine Below.setCell ?_ (by first | (simp; done) | (simp; omega)) _ | refine Below.alloc ?_ (by first | (simp; done) | (simp; omega)) _))), Q.out.only K.out (by decide) ((((Only.refl _ _).set _ _).set _ _).set _ _)⟩
end Go.Proofs.YtfpnhggbfakdkaaDoor

/- rats: lowest, of, Make. -/
set_option linter.unusedVariables false
set_option linter.unusedSimpArgs false
set_option maxRecDepth 100000
namespace Go.Proofs.YtfpnhggbfakdkaaDoor
open Go.RowKit

theorem low_num {z : Int} {d : Nat} (hd : d ≠ 0) : (mkRat z d).num.natAbs = z.natAbs / Nat.gcd z.natAbs d ∧ (mkRat z d).den = d / Nat.gcd z.natAbs d ∧ decide ((mkRat z d).num < 0) = decide (z < 0) := ⟨mk_num_abs hd, mk_den hd, mk_neg hd⟩
theorem low_pos {z : Int} {d : Nat} (hz : z < 0) : 0 < z.natAbs / Nat.gcd z.natAbs d := by
  have h0 : 0 < z.natAbs := by omega
  exact Nat.div_pos (Nat.gcd_le_left _ h0) (Nat.gcd_pos_of_pos_left _ h0)
theorem ratR_mk {q : Rat} {B : Nat} {w : World} {u d : Value} {b : Bool} {N M : Nat} (h : NatR N B w u) (h' : NatR M B w d) (hs : Sep u d) (e1 : q.num.natAbs = N) (e2 : q.den = M) (e3 : decide (q.num < 0) = b) : RatR q B w (.agg #[.bool b, u, d]) := by
  subst e1 e2 e3
  exact ⟨u, d, rfl, h, h', hs⟩
set_option maxHeartbeats 1000000 in
theorem rlowest_P {w : World} {v v' : Value} {z : Int} {d : Nat} (h : ICan w v z) (h' : Can w v' d) (s : L z.natAbs ≤ 4398046511104) (s' : L d ≤ 4398046511104) (hd : d ≠ 0) (hT : Tab w) :
    Calls Tryd.prog 86 #[v, v'] w fun e w' => ∃ u, e = .returned u ∧ Below w.heap.size w w' ∧ RatR (mkRat z d) w.heap.size w' u := by
  refine opq fun R hR => ?_
  obtain ⟨u, rfl, U⟩ := h
  obtain ⟨A, n, c, rfl⟩ := U.slice
  obtain ⟨D, m, k, rfl⟩ := h'.slice
  replace U := hide U
  have V := hide h'
  have T := hide hT
  have HE := hide (low_num (z := z) hd)
  have hg : Hid (Nat.gcd z.natAbs d ≠ 0) := Nat.ne_of_gt (Nat.gcd_pos_of_pos_right _ (Nat.pos_of_ne_zero hd))
  have sg : Hid (L (Nat.gcd z.natAbs d) ≤ 4398046511104) := L_gcd s s'
  have hp : Hid (z < 0 → 0 < z.natAbs / Nat.gcd z.natAbs d) := low_pos
  replace s := hide s
  replace s' := hide s'
  clear hT h' hd
  obtain ⟨b, hb⟩ : ∃ b, Hid (decide (z < 0) = b) := ⟨_, rfl⟩
  rw [hb.out]
  go_enter Tryd.func86, Tryd.ntmps86
  have b0 := hide (Below.refl w.heap.size w)
  have K1 := hide (Blk.new_at w (w.heap.size) (by simp) 42 #[.bool b, .slice A n c])
  have y := (Below.refl w.heap.size w).alloc (Nat.le_refl _) (.cells #[.bool b, .slice A n c] 42)
  replace U := hide (U.out.below y)
  replace V := hide (V.out.below y)
  replace T := hide (T.out.below y)
  replace b0 := hide (below_tr b0.out y)
  clear y
  have K2 := hide (Blk.new_at (w.alloc (.cells #[.bool b, .slice A n c] 42)) (w.heap.size + 1) (by simp) 44 #[.bool false, .slice none 0 0, .slice none 0 0])
  have y := (Below.refl (w.alloc (.cells #[.bool b, .slice A n c] 42)).heap.size (w.alloc (.cells #[.bool b, .slice A n c] 42))).alloc (Nat.le_refl _) (.cells #[.bool false, .slice none 0 0, .slice none 0 0] 44)
  replace U := hide (U.out.below y)
  replace V := hide (V.out.below y)
  replace T := hide (T.out.below y)
  replace K1 := hide (K1.out.below' y)
  replace b0 := hide (below_tr b0.out y)
  clear y
  have K1c0 : ((w.alloc (.cells #[.bool b, .slice A n c] 42)).alloc (.cells #[.bool false, .slice none 0 0, .slice none 0 0] 44)).cell? ⟨w.heap.size, 0, none⟩ = some (.bool b) := K1.out.at_ 0 rfl
  have K1c1 : ((w.alloc (.cells #[.bool b, .slice A n c] 42)).alloc (.cells #[.bool false, .slice none 0 0, .slice none 0 0] 44)).cell? ⟨w.heap.size, 1, none⟩ = some (.slice A n c) := K1.out.at_ 1 rfl
  go_wp2_with fail
  refine (nGcd_P (U.out.arg s.out) (V.out.arg s'.out) T.out).mono ?_
  rintro e w1 ⟨gv, rfl, d0, gr⟩
  replace U := hide (U.out.below d0)
  replace V := hide (V.out.below d0)
  replace T := hide (T.out.below d0)
  replace K1 := hide (K1.out.below' d0)
  replace K2 := hide (K2.out.below' d0)
  replace b0 := hide (below_tr b0.out d0)
  have G := hide (gr.can)
  clear d0
  clear gr
  obtain ⟨Ag, ng, cg, rfl⟩ := G.out.slice
  clear K1c0 K1c1
  have K1c0 : w1.cell? ⟨w.heap.size, 0, none⟩ = some (.bool b) := K1.out.at_ 0 rfl
  have K1c1 : w1.cell? ⟨w.heap.size, 1, none⟩ = some (.slice A n c) := K1.out.at_ 1 rfl
  go_wp2_with fail
  refine (nDiv_P U.out G.out s.out sg.out hg.out).mono ?_
  rintro e w2 ⟨qv, tv, rfl, d0, qr, _⟩
  have bz := b0.out.size
  replace U := hide (U.out.below d0)
  replace V := hide (V.out.below d0)
  replace T := hide (T.out.below d0)
  replace K1 := hide (K1.out.below' d0)
  replace K2 := hide (K2.out.below' d0)
  replace G := hide (G.out.below d0)
  replace b0 := hide (below_tr b0.out d0)
  have N1 := hide (qr.mono (B' := w.heap.size) bz)
  clear d0 bz
  clear qr
  obtain ⟨An, nn, cn, rfl⟩ := N1.out.slice
  clear K1c0 K1c1
  have K1c0 : w2.cell? ⟨w.heap.size, 0, none⟩ = some (.bool b) := K1.out.at_ 0 rfl
  have K1c1 : w2.cell? ⟨w.heap.size, 1, none⟩ = some (.slice A n c) := K1.out.at_ 1 rfl
  have B1 := hide (show w.heap.size ≤ w2.heap.size from b0.out.size)
  go_wp2_with fail
  refine (nDiv_P V.out G.out s'.out sg.out hg.out).mono ?_
  rintro e w3 ⟨qv2, tv2, rfl, d0, qr2, _⟩
  have SS := hide (N1.out.sep qr2)
  replace U := hide (U.out.below d0)
  replace V := hide (V.out.below d0)
  replace T := hide (T.out.below d0)
  replace K1 := hide (K1.out.below' d0)
  replace K2 := hide (K2.out.below' d0)
  replace G := hide (G.out.below d0)
  replace N1 := hide (N1.out.below d0)
  replace b0 := hide (below_tr b0.out d0)
  have N2 := hide (qr2.mono B1.out)
  clear d0 qr2
  obtain ⟨Ad, nd, cd, rfl⟩ := N2.out.slice
  clear K1c0 K1c1
  have K1c0 : w3.cell? ⟨w.heap.size, 0, none⟩ = some (.bool b) := K1.out.at_ 0 rfl
  have K1c1 : w3.cell? ⟨w.heap.size, 1, none⟩ = some (.slice A n c) := K1.out.at_ 1 rfl
  have K2c0 : w3.cell? ⟨w.heap.size + 1, 0, none⟩ = some (.bool false) := K2.out.at_ 0 rfl
  have K2c1 : w3.cell? ⟨w.heap.size + 1, 1, none⟩ = some (.slice none 0 0) := K2.out.at_ 1 rfl
  have K2c2 : w3.cell? ⟨w.heap.size + 1, 2, none⟩ = some (.slice none 0 0) := K2.out.at_ 2 rfl
  have Q := hide (ratR_mk N1.out N2.out SS.out HE.out.1 HE.out.2.1 (HE.out.2.2.trans hb.out))
  clear U V G T N2 SS HE hg sg s s'
  cases b
  case false =>
    clear N1 hp hb
    have p0 : w3.frozen? ⟨w.heap.size + 1, 0, none⟩ = false := K2.out.frozen 0
    have p1 : w3.frozen? ⟨w.heap.size + 1, 1, none⟩ = false := K2.out.frozen 1
    have p2 : w3.frozen? ⟨w.heap.size + 1, 2, none⟩ = false := K2.out.frozen 2
    go_wp2
    refine bodyPost_ret (v := .agg #[.bool false, .slice An nn cn, .slice Ad nd cd]) (by simp [results, Tryd.results86, go_sem, K2c0, K2c1, K2c2, p0, p1, p2]) rfl ?_
    exact opq_end hR ⟨_, rfl, (by (repeat (first | exact b0 | exact Below.refl _ _ | refine Below.setCell ?_ (by first | (simp; done) | (simp; omega)) _ | refine Below.alloc ?_ (by first | (simp; done) | (simp; omega)) _))), Q.out.only K2.out (by decide) ((((Only.refl _ _).set _ _).set _ _).set _ _)⟩
  case true =>
    have hn : 0 < nn := by
      obtain ⟨A', c', e, _⟩ := N1.out
      cases e
      have h0 := hp.out (of_decide_eq_true hb.out)
      have := @is_zero_len (z.natAbs / Nat.gcd z.natAbs d)
      omega
    clear N1 hp hb
    have p0 : w3.frozen? ⟨w.heap.size + 1, 0, none⟩ = false := K2.out.frozen 0
    have p1 : w3.frozen? ⟨w.heap.size + 1, 1, none⟩ = false := K2.out.frozen 1
    have p2 : w3.frozen? ⟨w.heap.size + 1, 2, none⟩ = false := K2.out.frozen 2
    go_wp2
    refine bodyPost_ret (v := .agg #[.bool true, .slice An nn cn, .slice Ad nd cd]) (by simp [results, Tryd.results86, go_sem, K2c0, K2c1, K2c2, p0, p1, p2]) rfl ?_
    exact opq_end hR ⟨_, rfl, (by (repeat (first | exact b0 | exact Below.refl _ _ | refine Below.setCell ?_ (by first | (simp; done) | (simp; omega)) _ | refine Below.alloc ?_ (by first | (simp; done) | (simp; omega)) _))), Q.out.only K2.out (by decide) ((((Only.refl _ _).set _ _).set _ _).set _ _)⟩
/-- What is read in the world ahead, or lies in memory of the call's own. -/
def ROld (w0 : World) (q : Rat) (B : Nat) (w : World) (u : Value) : Prop := RCan w0 u q ∨ RatR q B w u
theorem ROld.below {w0 w w' : World} {q : Rat} {B : Nat} {u : Value} (h : ROld w0 q B w u) (hb : Below w.heap.size w w') : ROld w0 q B w' u := h.imp id fun h => h.below hb
theorem ROld.mono {w0 w : World} {q : Rat} {B B' : Nat} {u : Value} (h : ROld w0 q B w u) (hB : B' ≤ B) : ROld w0 q B' w u := h.imp id fun h => h.mono hB
theorem ROld.can {w0 w : World} {q : Rat} {B : Nat} {u : Value} (h : ROld w0 q B w u) (hb : Below w0.heap.size w0 w) : RCan w u q := h.elim (fun h => h.below hb) fun h => h.can
theorem ROld.only {w0 w W : World} {q : Rat} {B g : Nat} {u : Value} {t : TypeId} {cs : Array Value} (h : ROld w0 q B w u) (hb : Blk w g t cs) (ht : T32 ≠ t) (F : Only g w W) : ROld w0 q B W u := h.imp id fun h => h.only hb ht F
theorem ROld.slice {w0 w : World} {q : Rat} {B : Nat} {v : Value} (h : ROld w0 q B w v) : ∃ b A n c D m k, v = .agg #[.bool b, .slice A n c, .slice D m k] := h.elim (fun h => h.slice) fun h => h.slice
def Fact.rold (w0 : World) (q : Rat) (B : Nat) : Fact := ⟨fun v w => ROld w0 q B w v, fun _ _ _ h hb => h.below hb⟩
set_option maxHeartbeats 1000000 in
theorem rof_P {w W : World} {v : Value} {q : Rat} (h : RArg w v q) (hb : Below w.heap.size w W) (hT : Tab W) (B : Nat) (hB : B ≤ W.heap.size) :
    Calls Tryd.prog 69 #[v] W fun e w' => ∃ u, e = .returned u ∧ Below W.heap.size W w' ∧ ROld w q B w' u := by
  refine opq fun R hR => ?_
  obtain ⟨b, xs, ys, h1, h2, h3, rfl⟩ := h
  have H1 := hide h1
  have HP := hide (h1.below hb)
  have T := hide hT
  have hB' := hide hB
  obtain ⟨u, d, rfl, U, V⟩ := h1
  obtain ⟨A, n, c, rfl, _⟩ := U.slice
  obtain ⟨D, m, k, rfl, _⟩ := V.slice
  clear h2 h3 hb hT U V hB
  go_enter Tryd.func69, Tryd.ntmps69
  cases hr : rok b xs ys
  case false =>
    have b0 := hide (Below.refl W.heap.size W)
    have K1 := hide (Blk.new_at W (W.heap.size) (by simp) 44 #[.bool b, .slice A n c, .slice D m k])
    have y := (Below.refl W.heap.size W).alloc (Nat.le_refl _) (.cells #[.bool b, .slice A n c, .slice D m k] 44)
    replace HP := hide (HP.out.below y)
    replace T := hide (T.out.below y)
    replace b0 := hide (below_tr b0.out y)
    clear y
    have K2 := hide (Blk.new_at (W.alloc (.cells #[.bool b, .slice A n c, .slice D m k] 44)) (W.heap.size + 1) (by simp) 44 #[.bool false, .slice none 0 0, .slice none 0 0])
    have y := (Below.refl (W.alloc (.cells #[.bool b, .slice A n c, .slice D m k] 44)).heap.size (W.alloc (.cells #[.bool b, .slice A n c, .slice D m k] 44))).alloc (Nat.le_refl _) (.cells #[.bool false, .slice none 0 0, .slice none 0 0] 44)
    replace HP := hide (HP.out.below y)
    replace T := hide (T.out.below y)
    replace K1 := hide (K1.out.below' y)
    replace b0 := hide (below_tr b0.out y)
    clear y
    have K1c0 : ((W.alloc (.cells #[.bool b, .slice A n c, .slice D m k] 44)).alloc (.cells #[.bool false, .slice none 0 0, .slice none 0 0] 44)).cell? ⟨W.heap.size, 0, none⟩ = some (.bool b) := K1.out.at_ 0 rfl
    have K1c1 : ((W.alloc (.cells #[.bool b, .slice A n c, .slice D m k] 44)).alloc (.cells #[.bool false, .slice none 0 0, .slice none 0 0] 44)).cell? ⟨W.heap.size, 1, none⟩ = some (.slice A n c) := K1.out.at_ 1 rfl
    have K1c2 : ((W.alloc (.cells #[.bool b, .slice A n c, .slice D m k] 44)).alloc (.cells #[.bool false, .slice none 0 0, .slice none 0 0] 44)).cell? ⟨W.heap.size, 2, none⟩ = some (.slice D m k) := K1.out.at_ 2 rfl
    have K2c0 : ((W.alloc (.cells #[.bool b, .slice A n c, .slice D m k] 44)).alloc (.cells #[.bool false, .slice none 0 0, .slice none 0 0] 44)).cell? ⟨W.heap.size + 1, 0, none⟩ = some (.bool false) := K2.out.at_ 0 rfl
    have K2c1 : ((W.alloc (.cells #[.bool b, .slice A n c, .slice D m k] 44)).alloc (.cells #[.bool false, .slice none 0 0, .slice none 0 0] 44)).cell? ⟨W.heap.size + 1, 1, none⟩ = some (.slice none 0 0) := K2.out.at_ 1 rfl
    have K2c2 : ((W.alloc (.cells #[.bool b, .slice A n c, .slice D m k] 44)).alloc (.cells #[.bool false, .slice none 0 0, .slice none 0 0] 44)).cell? ⟨W.heap.size + 1, 2, none⟩ = some (.slice none 0 0) := K2.out.at_ 2 rfl
    go_wp2_with fail
    refine (rCheck_P HP.out T.out false hr).mono ?_
    rintro e w1 ⟨_, rfl, d0, rfl⟩
    replace HP := hide (HP.out.below d0)
    replace T := hide (T.out.below d0)
    replace K1 := hide (K1.out.below' d0)
    replace K2 := hide (K2.out.below' d0)
    replace b0 := hide (below_tr b0.out d0)
    clear d0
    clear K1c0 K1c1 K1c2 K2c0 K2c1 K2c2
    have K1c0 : w1.cell? ⟨W.heap.size, 0, none⟩ = some (.bool b) := K1.out.at_ 0 rfl
    have K1c1 : w1.cell? ⟨W.heap.size, 1, none⟩ = some (.slice A n c) := K1.out.at_ 1 rfl
    have K1c2 : w1.cell? ⟨W.heap.size, 2, none⟩ = some (.slice D m k) := K1.out.at_ 2 rfl
    have K2c0 : w1.cell? ⟨W.heap.size + 1, 0, none⟩ = some (.bool false) := K2.out.at_ 0 rfl
    have K2c1 : w1.cell? ⟨W.heap.size + 1, 1, none⟩ = some (.slice none 0 0) := K2.out.at_ 1 rfl
    have K2c2 : w1.cell? ⟨W.heap.size + 1, 2, none⟩ = some (.slice none 0 0) := K2.out.at_ 2 rfl
    clear T HP
    have ez : Hid (rv b xs ys = 0) := rv_no hr
    clear H1 hr
    go_wp2_with fail
    refine (rOf_P _ 0 (by decide) (by decide)).mono ?_
    rintro e w2 ⟨v9, rfl, d0, r9⟩
    have bz := b0.out.size
    replace K1 := hide (K1.out.below' d0)
    replace K2 := hide (K2.out.below' d0)
    replace b0 := hide (below_tr b0.out d0)
    have R9 := hide (r9.mono (B' := B) (Nat.le_trans hB'.out bz))
    clear d0 bz
    clear r9
    obtain ⟨b9, A9, n9, c9, D9, m9, k9, rfl⟩ := R9.out.slice
    clear K1c0 K1c1 K1c2 K2c0 K2c1 K2c2
    have K2c0 : w2.cell? ⟨W.heap.size + 1, 0, none⟩ = some (.bool false) := K2.out.at_ 0 rfl
    have K2c1 : w2.cell? ⟨W.heap.size + 1, 1, none⟩ = some (.slice none 0 0) := K2.out.at_ 1 rfl
    have K2c2 : w2.cell? ⟨W.heap.size + 1, 2, none⟩ = some (.slice none 0 0) := K2.out.at_ 2 rfl
    have p0 : w2.frozen? ⟨W.heap.size + 1, 0, none⟩ = false := K2.out.frozen 0
    have p1 : w2.frozen? ⟨W.heap.size + 1, 1, none⟩ = false := K2.out.frozen 1
    have p2 : w2.frozen? ⟨W.heap.size + 1, 2, none⟩ = false := K2.out.frozen 2
    go_wp2
    refine bodyPost_ret (v := .agg #[.bool b9, .slice A9 n9 c9, .slice D9 m9 k9]) (by simp [results, Tryd.results69, go_sem, K2c0, K2c1, K2c2, p0, p1, p2]) rfl ?_
    exact opq_end hR ⟨_, rfl, (by (repeat (first | exact b0 | exact Below.refl _ _ | refine Below.setCell ?_ (by first | (simp; done) | (simp; omega)) _ | refine Below.alloc ?_ (by first | (simp; done) | (simp; omega)) _))), (by rw [ez.out]; exact Or.inr (R9.out.only K2.out (by decide) ((((Only.refl _ _).set _ _).set _ _).set _ _)))⟩
  case true =>
    have b0 := hide (Below.refl W.heap.size W)
    have K1 := hide (Blk.new_at W (W.heap.size) (by simp) 44 #[.bool b, .slice A n c, .slice D m k])
    have y := (Below.refl W.heap.size W).alloc (Nat.le_refl _) (.cells #[.bool b, .slice A n c, .slice D m k] 44)
    replace HP := hide (HP.out.below y)
    replace T := hide (T.out.below y)
    replace b0 := hide (below_tr b0.out y)
    clear y
    have K2 := hide (Blk.new_at (W.alloc (.cells #[.bool b, .slice A n c, .slice D m k] 44)) (W.heap.size + 1) (by simp) 44 #[.bool false, .slice none 0 0, .slice none 0 0])
    have y := (Below.refl (W.alloc (.cells #[.bool b, .slice A n c, .slice D m k] 44)).heap.size (W.alloc (.cells #[.bool b, .slice A n c, .slice D m k] 44))).alloc (Nat.le_refl _) (.cells #[.bool false, .slice none 0 0, .slice none 0 0] 44)
    replace HP := hide (HP.out.below y)
    replace T := hide (T.out.below y)
    replace K1 := hide (K1.out.below' y)
    replace b0 := hide (below_tr b0.out y)
    clear y
    have K1c0 : ((W.alloc (.cells #[.bool b, .slice A n c, .slice D m k] 44)).alloc (.cells #[.bool false, .slice none 0 0, .slice none 0 0] 44)).cell? ⟨W.heap.size, 0, none⟩ = some (.bool b) := K1.out.at_ 0 rfl
    have K1c1 : ((W.alloc (.cells #[.bool b, .slice A n c, .slice D m k] 44)).alloc (.cells #[.bool false, .slice none 0 0, .slice none 0 0] 44)).cell? ⟨W.heap.size, 1, none⟩ = some (.slice A n c) := K1.out.at_ 1 rfl
    have K1c2 : ((W.alloc (.cells #[.bool b, .slice A n c, .slice D m k] 44)).alloc (.cells #[.bool false, .slice none 0 0, .slice none 0 0] 44)).cell? ⟨W.heap.size, 2, none⟩ = some (.slice D m k) := K1.out.at_ 2 rfl
    have K2c0 : ((W.alloc (.cells #[.bool b, .slice A n c, .slice D m k] 44)).alloc (.cells #[.bool false, .slice none 0 0, .slice none 0 0] 44)).cell? ⟨W.heap.size + 1, 0, none⟩ = some (.bool false) := K2.out.at_ 0 rfl
    have K2c1 : ((W.alloc (.cells #[.bool b, .slice A n c, .slice D m k] 44)).alloc (.cells #[.bool false, .slice none 0 0, .slice none 0 0] 44)).cell? ⟨W.heap.size + 1, 1, none⟩ = some (.slice none 0 0) := K2.out.at_ 1 rfl
    have K2c2 : ((W.alloc (.cells #[.bool b, .slice A n c, .slice D m k] 44)).alloc (.cells #[.bool false, .slice none 0 0, .slice none 0 0] 44)).cell? ⟨W.heap.size + 1, 2, none⟩ = some (.slice none 0 0) := K2.out.at_ 2 rfl
    go_wp2_with fail
    refine (rCheck_P HP.out T.out true hr).mono ?_
    rintro e w1 ⟨_, rfl, d0, rfl⟩
    replace HP := hide (HP.out.below d0)
    replace T := hide (T.out.below d0)
    replace K1 := hide (K1.out.below' d0)
    replace K2 := hide (K2.out.below' d0)
    replace b0 := hide (below_tr b0.out d0)
    clear d0
    clear K1c0 K1c1 K1c2 K2c0 K2c1 K2c2
    have K1c0 : w1.cell? ⟨W.heap.size, 0, none⟩ = some (.bool b) := K1.out.at_ 0 rfl
    have K1c1 : w1.cell? ⟨W.heap.size, 1, none⟩ = some (.slice A n c) := K1.out.at_ 1 rfl
    have K1c2 : w1.cell? ⟨W.heap.size, 2, none⟩ = some (.slice D m k) := K1.out.at_ 2 rfl
    have K2c0 : w1.cell? ⟨W.heap.size + 1, 0, none⟩ = some (.bool false) := K2.out.at_ 0 rfl
    have K2c1 : w1.cell? ⟨W.heap.size + 1, 1, none⟩ = some (.slice none 0 0) := K2.out.at_ 1 rfl
    have K2c2 : w1.cell? ⟨W.heap.size + 1, 2, none⟩ = some (.slice none 0 0) := K2.out.at_ 2 rfl
    clear T HP
    have Q := hide (H1.out.can hr)
    clear H1 hr
    have p0 : w1.frozen? ⟨W.heap.size + 1, 0, none⟩ = false := K2.out.frozen 0
    have p1 : w1.frozen? ⟨W.heap.size + 1, 1, none⟩ = false := K2.out.frozen 1
    have p2 : w1.frozen? ⟨W.heap.size + 1, 2, none⟩ = false := K2.out.frozen 2
    go_wp2
    refine bodyPost_ret (v := .agg #[.bool b, .slice A n c, .slice D m k]) (by simp [results, Tryd.results69, go_sem, K2c0, K2c1, K2c2, p0, p1, p2]) rfl ?_
    exact opq_end hR ⟨_, rfl, (by (repeat (first | exact b0 | exact Below.refl _ _ | refine Below.setCell ?_ (by first | (simp; done) | (simp; omega)) _ | refine Below.alloc ?_ (by first | (simp; done) | (simp; omega)) _))), (Or.inl Q.out)⟩
theorem ICan.nat {w : World} {b : Bool} {u : Value} {z : Int} (h : ICan w (.agg #[.bool b, u]) z) : Can w u z.natAbs ∧ decide (z < 0) = b := by
  obtain ⟨u', e, h1⟩ := h
  cases e
  exact ⟨h1, rfl⟩
theorem iSign_P {w : World} {v : Value} {x : Int} (h : IArg w v x) (r : Int) (hr : cmpI x 0 = r) :
    Calls Tryd.prog 81 #[v] w fun e w' => ∃ u, e = .returned u ∧ Below w.heap.size w w' ∧ u = .int .i64 r := (iSign_ok h).mono fun e w' ⟨u, h1, h2, h3⟩ => ⟨u, h1, h2, by rw [h3, hr]⟩
theorem iNeg_P {w : World} {v : Value} {x : Int} (h : IArg w v x) :
    Calls Tryd.prog 85 #[v] w fun e w' => ∃ u, e = .returned u ∧ Below w.heap.size w w' ∧ IntR (-x) w.heap.size w' u := iNeg_ok h
set_option maxHeartbeats 1000000 in
theorem rMake_ok {w : World} {v v' : Value} {z n : Int} (h : ICan w v z) (h' : ICan w v' n) (s : L z.natAbs ≤ 1000000000000) (s' : L n.natAbs ≤ 1000000000000) (hn : n ≠ 0) (hT : Tab w) :
    Calls Tryd.prog 63 #[v, v'] w fun e w' => ∃ u, e = .returned (.tuple #[u, .int .i64 0]) ∧ Below w.heap.size w w' ∧ RatR (Rat.divInt z n) w.heap.size w' u := by
  refine opq fun R hR => ?_
  obtain ⟨b1, A1, n1, c1, rfl⟩ := h.slice
  obtain ⟨b2, A2, n2, c2, rfl⟩ := h'.slice
  have Z := hide h
  have N := hide h'
  have T := hide hT
  have I1 := hide (h.prt (L_up s (by decide)))
  have I2 := hide (h'.prt (L_up s' (by decide)))
  replace s := hide s
  replace s' := hide s'
  clear h h' hT
  go_enter Tryd.func63, Tryd.ntmps63
  rcases Int.lt_trichotomy n 0 with h0 | h0 | h0
  case inl =>
    have N0 := N
    have T0 := T
    have b0 := hide (Below.refl w.heap.size w)
    have K1 := hide (Blk.new_at w (w.heap.size) (by simp) 42 #[.bool b1, .slice A1 n1 c1])
    have y := (Below.refl w.heap.size w).alloc (Nat.le_refl _) (.cells #[.bool b1, .slice A1 n1 c1] 42)
    replace Z := hide (Z.out.below y)
    replace N := hide (N.out.below y)
    replace T := hide (T.out.below y)
    replace I1 := hide (I1.out.below y)
    replace I2 := hide (I2.out.below y)
    replace b0 := hide (below_tr b0.out y)
    clear y
    have K2 := hide (Blk.new_at (w.alloc (.cells #[.bool b1, .slice A1 n1 c1] 42)) (w.heap.size + 1) (by simp) 42 #[.bool b2, .slice A2 n2 c2])
    have y := (Below.refl (w.alloc (.cells #[.bool b1, .slice A1 n1 c1] 42)).heap.size (w.alloc (.cells #[.bool b1, .slice A1 n1 c1] 42))).alloc (Nat.le_refl _) (.cells #[.bool b2, .slice A2 n2 c2] 42)
    replace Z := hide (Z.out.below y)
    replace N := hide (N.out.below y)
    replace T := hide (T.out.below y)
    replace I1 := hide (I1.out.below y)
    replace I2 := hide (I2.out.below y)
    replace K1 := hide (K1.out.below' y)
    replace b0 := hide (below_tr b0.out y)
    clear y
    have K3 := hide (Blk.new_at ((w.alloc (.cells #[.bool b1, .slice A1 n1 c1] 42)).alloc (.cells #[.bool b2, .slice A2 n2 c2] 42)) (w.heap.size + 1 + 1) (by simp) 44 #[.bool false, .slice none 0 0, .slice none 0 0])
    have y := (Below.refl ((w.alloc (.cells #[.bool b1, .slice A1 n1 c1] 42)).alloc (.cells #[.bool b2, .slice A2 n2 c2] 42)).heap.size ((w.alloc (.cells #[.bool b1, .slice A1 n1 c1] 42)).alloc (.cells #[.bool b2, .slice A2 n2 c2] 42))).alloc (Nat.le_refl _) (.cells #[.bool false, .slice none 0 0, .slice none 0 0] 44)
    replace Z := hide (Z.out.below y)
    replace N := hide (N.out.below y)
    replace T := hide (T.out.below y)
    replace I1 := hide (I1.out.below y)
    replace I2 := hide (I2.out.below y)
    replace K1 := hide (K1.out.below' y)
    replace K2 := hide (K2.out.below' y)
    replace b0 := hide (below_tr b0.out y)
    clear y
    have K1c0 : (((w.alloc (.cells #[.bool b1, .slice A1 n1 c1] 42)).alloc (.cells #[.bool b2, .slice A2 n2 c2] 42)).alloc (.cells #[.bool false, .slice none 0 0, .slice none 0 0] 44)).cell? ⟨w.heap.size, 0, none⟩ = some (.bool b1) := K1.out.at_ 0 rfl
    have K1c1 : (((w.alloc (.cells #[.bool b1, .slice A1 n1 c1] 42)).alloc (.cells #[.bool b2, .slice A2 n2 c2] 42)).alloc (.cells #[.bool false, .slice none 0 0, .slice none 0 0] 44)).cell? ⟨w.heap.size, 1, none⟩ = some (.slice A1 n1 c1) := K1.out.at_ 1 rfl
    have K2c0 : (((w.alloc (.cells #[.bool b1, .slice A1 n1 c1] 42)).alloc (.cells #[.bool b2, .slice A2 n2 c2] 42)).alloc (.cells #[.bool false, .slice none 0 0, .slice none 0 0] 44)).cell? ⟨w.heap.size + 1, 0, none⟩ = some (.bool b2) := K2.out.at_ 0 rfl
    have K2c1 : (((w.alloc (.cells #[.bool b1, .slice A1 n1 c1] 42)).alloc (.cells #[.bool b2, .slice A2 n2 c2] 42)).alloc (.cells #[.bool false, .slice none 0 0, .slice none 0 0] 44)).cell? ⟨w.heap.size + 1, 1, none⟩ = some (.slice A2 n2 c2) := K2.out.at_ 1 rfl
    have K3c0 : (((w.alloc (.cells #[.bool b1, .slice A1 n1 c1] 42)).alloc (.cells #[.bool b2, .slice A2 n2 c2] 42)).alloc (.cells #[.bool false, .slice none 0 0, .slice none 0 0] 44)).cell? ⟨w.heap.size + 1 + 1, 0, none⟩ = some (.bool false) := K3.out.at_ 0 rfl
    have K3c1 : (((w.alloc (.cells #[.bool b1, .slice A1 n1 c1] 42)).alloc (.cells #[.bool b2, .slice A2 n2 c2] 42)).alloc (.cells #[.bool false, .slice none 0 0, .slice none 0 0] 44)).cell? ⟨w.heap.size + 1 + 1, 1, none⟩ = some (.slice none 0 0) := K3.out.at_ 1 rfl
    have K3c2 : (((w.alloc (.cells #[.bool b1, .slice A1 n1 c1] 42)).alloc (.cells #[.bool b2, .slice A2 n2 c2] 42)).alloc (.cells #[.bool false, .slice none 0 0, .slice none 0 0] 44)).cell? ⟨w.heap.size + 1 + 1, 2, none⟩ = some (.slice none 0 0) := K3.out.at_ 2 rfl
    go_wp2_with fail
    refine (iCheck_P I1.out true (iok_self _)).mono ?_
    rintro e w1 ⟨_, rfl, d0, rfl⟩
    replace Z := hide (Z.out.below d0)
    replace N := hide (N.out.below d0)
    replace T := hide (T.out.below d0)
    replace I1 := hide (I1.out.below d0)
    replace I2 := hide (I2.out.below d0)
    replace K1 := hide (K1.out.below' d0)
    replace K2 := hide (K2.out.below' d0)
    replace K3 := hide (K3.out.below' d0)
    replace b0 := hide (below_tr b0.out d0)
    clear d0
    clear K1c0 K1c1 K2c0 K2c1 K3c0 K3c1 K3c2
    have K1c0 : w1.cell? ⟨w.heap.size, 0, none⟩ = some (.bool b1) := K1.out.at_ 0 rfl
    have K1c1 : w1.cell? ⟨w.heap.size, 1, none⟩ = some (.slice A1 n1 c1) := K1.out.at_ 1 rfl
    have K2c0 : w1.cell? ⟨w.heap.size + 1, 0, none⟩ = some (.bool b2) := K2.out.at_ 0 rfl
    have K2c1 : w1.cell? ⟨w.heap.size + 1, 1, none⟩ = some (.slice A2 n2 c2) := K2.out.at_ 1 rfl
    have K3c0 : w1.cell? ⟨w.heap.size + 1 + 1, 0, none⟩ = some (.bool false) := K3.out.at_ 0 rfl
    have K3c1 : w1.cell? ⟨w.heap.size + 1 + 1, 1, none⟩ = some (.slice none 0 0) := K3.out.at_ 1 rfl
    have K3c2 : w1.cell? ⟨w.heap.size + 1 + 1, 2, none⟩ = some (.slice none 0 0) := K3.out.at_ 2 rfl
    go_wp2_with fail
    refine (iCheck_P I2.out true (iok_self _)).mono ?_
    rintro e w2 ⟨_, rfl, d0, rfl⟩
    replace Z := hide (Z.out.below d0)
    replace N := hide (N.out.below d0)
    replace T := hide (T.out.below d0)
    replace I1 := hide (I1.out.below d0)
    replace I2 := hide (I2.out.below d0)
    replace K1 := hide (K1.out.below' d0)
    replace K2 := hide (K2.out.below' d0)
    replace K3 := hide (K3.out.below' d0)
    replace b0 := hide (below_tr b0.out d0)
    clear d0
    clear K1c0 K1c1 K2c0 K2c1 K3c0 K3c1 K3c2
    have K1c0 : w2.cell? ⟨w.heap.size, 0, none⟩ = some (.bool b1) := K1.out.at_ 0 rfl
    have K1c1 : w2.cell? ⟨w.heap.size, 1, none⟩ = some (.slice A1 n1 c1) := K1.out.at_ 1 rfl
    have K2c0 : w2.cell? ⟨w.heap.size + 1, 0, none⟩ = some (.bool b2) := K2.out.at_ 0 rfl
    have K2c1 : w2.cell? ⟨w.heap.size + 1, 1, none⟩ = some (.slice A2 n2 c2) := K2.out.at_ 1 rfl
    have K3c0 : w2.cell? ⟨w.heap.size + 1 + 1, 0, none⟩ = some (.bool false) := K3.out.at_ 0 rfl
    have K3c1 : w2.cell? ⟨w.heap.size + 1 + 1, 1, none⟩ = some (.slice none 0 0) := K3.out.at_ 1 rfl
    have K3c2 : w2.cell? ⟨w.heap.size + 1 + 1, 2, none⟩ = some (.slice none 0 0) := K3.out.at_ 2 rfl
    go_wp2_with fail
    refine (iSign_P (N.out.arg s'.out) (-1) (cmpI_lt h0)).mono ?_
    rintro e w3 ⟨_, rfl, d0, rfl⟩
    replace Z := hide (Z.out.below d0)
    replace N := hide (N.out.below d0)
    replace T := hide (T.out.below d0)
    replace I1 := hide (I1.out.below d0)
    replace I2 := hide (I2.out.below d0)
    replace K1 := hide (K1.out.below' d0)
    replace K2 := hide (K2.out.below' d0)
    replace K3 := hide (K3.out.below' d0)
    replace b0 := hide (below_tr b0.out d0)
    clear d0
    clear K1c0 K1c1 K2c0 K2c1 K3c0 K3c1 K3c2
    have K1c0 : w3.cell? ⟨w.heap.size, 0, none⟩ = some (.bool b1) := K1.out.at_ 0 rfl
    have K1c1 : w3.cell? ⟨w.heap.size, 1, none⟩ = some (.slice A1 n1 c1) := K1.out.at_ 1 rfl
    have K2c0 : w3.cell? ⟨w.heap.size + 1, 0, none⟩ = some (.bool b2) := K2.out.at_ 0 rfl
    have K2c1 : w3.cell? ⟨w.heap.size + 1, 1, none⟩ = some (.slice A2 n2 c2) := K2.out.at_ 1 rfl
    have K3c0 : w3.cell? ⟨w.heap.size + 1 + 1, 0, none⟩ = some (.bool false) := K3.out.at_ 0 rfl
    have K3c1 : w3.cell? ⟨w.heap.size + 1 + 1, 1, none⟩ = some (.slice none 0 0) := K3.out.at_ 1 rfl
    have K3c2 : w3.cell? ⟨w.heap.size + 1 + 1, 2, none⟩ = some (.slice none 0 0) := K3.out.at_ 2 rfl
    clear I1 I2
    have e2 : b2 = true := by rw [← N.out.nat.2]; simpa using h0
    subst e2
    have eq : Hid (Rat.divInt z n = mkRat (-z) n.natAbs) := make_neg h0
    have hd : Hid (n.natAbs ≠ 0) := by show _ ≠ _; omega
    clear h0 hn
    clear K1c0 K1c1 K2c0 K2c1 K3c0 K3c1 K3c2
    have K1c0 : w3.cell? ⟨w.heap.size, 0, none⟩ = some (.bool b1) := K1.out.at_ 0 rfl
    have K1c1 : w3.cell? ⟨w.heap.size, 1, none⟩ = some (.slice A1 n1 c1) := K1.out.at_ 1 rfl
    have K2c0 : w3.cell? ⟨w.heap.size + 1, 0, none⟩ = some (.bool true) := K2.out.at_ 0 rfl
    have K2c1 : w3.cell? ⟨w.heap.size + 1, 1, none⟩ = some (.slice A2 n2 c2) := K2.out.at_ 1 rfl
    have K3c0 : w3.cell? ⟨w.heap.size + 1 + 1, 0, none⟩ = some (.bool false) := K3.out.at_ 0 rfl
    have K3c1 : w3.cell? ⟨w.heap.size + 1 + 1, 1, none⟩ = some (.slice none 0 0) := K3.out.at_ 1 rfl
    have K3c2 : w3.cell? ⟨w.heap.size + 1 + 1, 2, none⟩ = some (.slice none 0 0) := K3.out.at_ 2 rfl
    go_wp2_with fail
    refine (iNeg_P (Z.out.arg s.out)).mono ?_
    rintro e w4 ⟨v9, rfl, d0, r9⟩
    have bz := b0.out.size
    replace Z := hide (Z.out.below d0)
    replace N := hide (N.out.below d0)
    replace T := hide (T.out.below d0)
    replace K1 := hide (K1.out.below' d0)
    replace K2 := hide (K2.out.below' d0)
    replace K3 := hide (K3.out.below' d0)
    replace b0 := hide (below_tr b0.out d0)
    have R9 := hide (r9.mono (B' := w.heap.size) bz)
    clear d0 bz
    clear r9
    obtain ⟨b9, A9, n9, c9, rfl⟩ := R9.out.slice
    clear K1c0 K1c1 K2c0 K2c1 K3c0 K3c1 K3c2
    have r0 : w4.frozen? ⟨w.heap.size, 0, none⟩ = false := K1.out.frozen 0
    have r1 : w4.frozen? ⟨w.heap.size, 1, none⟩ = false := K1.out.frozen 1
    have K1c0 : w4.cell? ⟨w.heap.size, 0, none⟩ = some (.bool b1) := K1.out.at_ 0 rfl
    have K1c1 : w4.cell? ⟨w.heap.size, 1, none⟩ = some (.slice A1 n1 c1) := K1.out.at_ 1 rfl
    have K2c0 : w4.cell? ⟨w.heap.size + 1, 0, none⟩ = some (.bool true) := K2.out.at_ 0 rfl
    have K2c1 : w4.cell? ⟨w.heap.size + 1, 1, none⟩ = some (.slice A2 n2 c2) := K2.out.at_ 1 rfl
    have K3c0 : w4.cell? ⟨w.heap.size + 1 + 1, 0, none⟩ = some (.bool false) := K3.out.at_ 0 rfl
    have K3c1 : w4.cell? ⟨w.heap.size + 1 + 1, 1, none⟩ = some (.slice none 0 0) := K3.out.at_ 1 rfl
    have K3c2 : w4.cell? ⟨w.heap.size + 1 + 1, 2, none⟩ = some (.slice none 0 0) := K3.out.at_ 2 rfl
    go_wp2_with fail
    clear K1c0 K1c1 K2c0 K2c1 K3c0 K3c1 K3c2
    have F : Only (w.heap.size) w4 ((w4.setCell ⟨w.heap.size, 0, none⟩ (.bool b9)).setCell ⟨w.heap.size, 1, none⟩ (.slice A9 n9 c9)) := (((Only.refl _ _).set _ _).set _ _)
    have R10 := hide (R9.out.only K1.out (by decide) F)
    have b10 : Hid (Below w.heap.size w ((w4.setCell ⟨w.heap.size, 0, none⟩ (.bool b9)).setCell ⟨w.heap.size, 1, none⟩ (.slice A9 n9 c9))) := (by (repeat (first | exact b0 | exact Below.refl _ _ | refine Below.setCell ?_ (by first | (simp; done) | (simp; omega)) _ | refine Below.alloc ?_ (by first | (simp; done) | (simp; omega)) _)))
    have K30 : Hid (Blk ((w4.setCell ⟨w.heap.size, 0, none⟩ (.bool b9)).setCell ⟨w.heap.size, 1, none⟩ (.slice A9 n9 c9)) (w.heap.size + 1 + 1) 44 #[.bool false, .slice none 0 0, .slice none 0 0]) := (K3.out.far (p := ⟨w.heap.size, 0, none⟩) (by simp <;> omega) _).far (p := ⟨w.heap.size, 1, none⟩) (by simp <;> omega) _
    have N10 := hide (N0.out.below b10.out)
    have T10 := hide (T0.out.below b10.out)
    clear Z N T R9 K1 K2 K3 b0 F r0 r1
    obtain ⟨V, hV⟩ : ∃ V, ((w4.setCell ⟨w.heap.size, 0, none⟩ (.bool b9)).setCell ⟨w.heap.size, 1, none⟩ (.slice A9 n9 c9)) = V := ⟨_, rfl⟩
    rw [hV] at R10 b10 K30 N10 T10
    rw [hV]
    clear hV
    refine (rlowest_P R10.out.can N10.out.nat.1 (L_up (Z_neg s.out) (by decide)) (L_up s'.out (by decide)) hd.out T10.out).mono ?_
    rintro e w9 ⟨v8, rfl, d0, r8⟩
    have R8 := hide (r8.mono (B' := w.heap.size) b10.out.size)
    clear r8
    obtain ⟨b8, A8, n8, c8, D8, m8, k8, rfl⟩ := R8.out.slice
    replace b10 := hide (below_tr b10.out d0)
    replace K30 := hide (K30.out.below' d0)
    clear R10 N10 T10 d0
    have K30c0 : w9.cell? ⟨w.heap.size + 1 + 1, 0, none⟩ = some (.bool false) := K30.out.at_ 0 rfl
    have K30c1 : w9.cell? ⟨w.heap.size + 1 + 1, 1, none⟩ = some (.slice none 0 0) := K30.out.at_ 1 rfl
    have K30c2 : w9.cell? ⟨w.heap.size + 1 + 1, 2, none⟩ = some (.slice none 0 0) := K30.out.at_ 2 rfl
    have p0 : w9.frozen? ⟨w.heap.size + 1 + 1, 0, none⟩ = false := K30.out.frozen 0
    have p1 : w9.frozen? ⟨w.heap.size + 1 + 1, 1, none⟩ = false := K30.out.frozen 1
    have p2 : w9.frozen? ⟨w.heap.size + 1 + 1, 2, none⟩ = false := K30.out.frozen 2
    go_wp2
    refine bodyPost_ret (v := .tuple #[.agg #[.bool b8, .slice A8 n8 c8, .slice D8 m8 k8], .int .i64 0]) (by simp [results, Tryd.results63, go_sem, K30c0, K30c1, K30c2, p0, p1, p2]) rfl ?_
    exact opq_end hR ⟨_, rfl, (by (repeat (first | exact b10 | exact Below.refl _ _ | refine Below.setCell ?_ (by first | (simp; done) | (simp; omega)) _ | refine Below.alloc ?_ (by first | (simp; done) | (simp; omega)) _))), (by rw [eq.out]; exact R8.out.only K30.out (by decide) ((((Only.refl _ _).set _ _).set _ _).set _ _))⟩
  case inr.inl => exact absurd h0 hn
  case inr.inr =>
    have b0 := hide (Below.refl w.heap.size w)
    have K1 := hide (Blk.new_at w (w.heap.size) (by simp) 42 #[.bool b1, .slice A1 n1 c1])
    have y := (Below.refl w.heap.size w).alloc (Nat.le_refl _) (.cells #[.bool b1, .slice A1 n1 c1] 42)
    replace Z := hide (Z.out.below y)
    replace N := hide (N.out.below y)
    replace T := hide (T.out.below y)
    replace I1 := hide (I1.out.below y)
    replace I2 := hide (I2.out.below y)
    replace b0 := hide (below_tr b0.out y)
    clear y
    have K2 := hide (Blk.new_at (w.alloc (.cells #[.bool b1, .slice A1 n1 c1] 42)) (w.heap.size + 1) (by simp) 42 #[.bool b2, .slice A2 n2 c2])
    have y := (Below.refl (w.alloc (.cells #[.bool b1, .slice A1 n1 c1] 42)).heap.size (w.alloc (.cells #[.bool b1, .slice A1 n1 c1] 42))).alloc (Nat.le_refl _) (.cells #[.bool b2, .slice A2 n2 c2] 42)
    replace Z := hide (Z.out.below y)
    replace N := hide (N.out.below y)
    replace T := hide (T.out.below y)
    replace I1 := hide (I1.out.below y)
    replace I2 := hide (I2.out.below y)
    replace K1 := hide (K1.out.below' y)
    replace b0 := hide (below_tr b0.out y)
    clear y
    have K3 := hide (Blk.new_at ((w.alloc (.cells #[.bool b1, .slice A1 n1 c1] 42)).alloc (.cells #[.bool b2, .slice A2 n2 c2] 42)) (w.heap.size + 1 + 1) (by simp) 44 #[.bool false, .slice none 0 0, .slice none 0 0])
    have y := (Below.refl ((w.alloc (.cells #[.bool b1, .slice A1 n1 c1] 42)).alloc (.cells #[.bool b2, .slice A2 n2 c2] 42)).heap.size ((w.alloc (.cells #[.bool b1, .slice A1 n1 c1] 42)).alloc (.cells #[.bool b2, .slice A2 n2 c2] 42))).alloc (Nat.le_refl _) (.cells #[.bool false, .slice none 0 0, .slice none 0 0] 44)
    replace Z := hide (Z.out.below y)
    replace N := hide (N.out.below y)
    replace T := hide (T.out.below y)
    replace I1 := hide (I1.out.below y)
    replace I2 := hide (I2.out.below y)
    replace K1 := hide (K1.out.below' y)
    replace K2 := hide (K2.out.below' y)
    replace b0 := hide (below_tr b0.out y)
    clear y
    have K1c0 : (((w.alloc (.cells #[.bool b1, .slice A1 n1 c1] 42)).alloc (.cells #[.bool b2, .slice A2 n2 c2] 42)).alloc (.cells #[.bool false, .slice none 0 0, .slice none 0 0] 44)).cell? ⟨w.heap.size, 0, none⟩ = some (.bool b1) := K1.out.at_ 0 rfl
    have K1c1 : (((w.alloc (.cells #[.bool b1, .slice A1 n1 c1] 42)).alloc (.cells #[.bool b2, .slice A2 n2 c2] 42)).alloc (.cells #[.bool false, .slice none 0 0, .slice none 0 0] 44)).cell? ⟨w.heap.size, 1, none⟩ = some (.slice A1 n1 c1) := K1.out.at_ 1 rfl
    have K2c0 : (((w.alloc (.cells #[.bool b1, .slice A1 n1 c1] 42)).alloc (.cells #[.bool b2, .slice A2 n2 c2] 42)).alloc (.cells #[.bool false, .slice none 0 0, .slice none 0 0] 44)).cell? ⟨w.heap.size + 1, 0, none⟩ = some (.bool b2) := K2.out.at_ 0 rfl
    have K2c1 : (((w.alloc (.cells #[.bool b1, .slice A1 n1 c1] 42)).alloc (.cells #[.bool b2, .slice A2 n2 c2] 42)).alloc (.cells #[.bool false, .slice none 0 0, .slice none 0 0] 44)).cell? ⟨w.heap.size + 1, 1, none⟩ = some (.slice A2 n2 c2) := K2.out.at_ 1 rfl
    have K3c0 : (((w.alloc (.cells #[.bool b1, .slice A1 n1 c1] 42)).alloc (.cells #[.bool b2, .slice A2 n2 c2] 42)).alloc (.cells #[.bool false, .slice none 0 0, .slice none 0 0] 44)).cell? ⟨w.heap.size + 1 + 1, 0, none⟩ = some (.bool false) := K3.out.at_ 0 rfl
    have K3c1 : (((w.alloc (.cells #[.bool b1, .slice A1 n1 c1] 42)).alloc (.cells #[.bool b2, .slice A2 n2 c2] 42)).alloc (.cells #[.bool false, .slice none 0 0, .slice none 0 0] 44)).cell? ⟨w.heap.size + 1 + 1, 1, none⟩ = some (.slice none 0 0) := K3.out.at_ 1 rfl
    have K3c2 : (((w.alloc (.cells #[.bool b1, .slice A1 n1 c1] 42)).alloc (.cells #[.bool b2, .slice A2 n2 c2] 42)).alloc (.cells #[.bool false, .slice none 0 0, .slice none 0 0] 44)).cell? ⟨w.heap.size + 1 + 1, 2, none⟩ = some (.slice none 0 0) := K3.out.at_ 2 rfl
    go_wp2_with fail
    refine (iCheck_P I1.out true (iok_self _)).mono ?_
    rintro e w1 ⟨_, rfl, d0, rfl⟩
    replace Z := hide (Z.out.below d0)
    replace N := hide (N.out.below d0)
    replace T := hide (T.out.below d0)
    replace I1 := hide (I1.out.below d0)
    replace I2 := hide (I2.out.below d0)
    replace K1 := hide (K1.out.below' d0)
    replace K2 := hide (K2.out.below' d0)
    replace K3 := hide (K3.out.below' d0)
    replace b0 := hide (below_tr b0.out d0)
    clear d0
    clear K1c0 K1c1 K2c0 K2c1 K3c0 K3c1 K3c2
    have K1c0 : w1.cell? ⟨w.heap.size, 0, none⟩ = some (.bool b1) := K1.out.at_ 0 rfl
    have K1c1 : w1.cell? ⟨w.heap.size, 1, none⟩ = some (.slice A1 n1 c1) := K1.out.at_ 1 rfl
    have K2c0 : w1.cell? ⟨w.heap.size + 1, 0, none⟩ = some (.bool b2) := K2.out.at_ 0 rfl
    have K2c1 : w1.cell? ⟨w.heap.size + 1, 1, none⟩ = some (.slice A2 n2 c2) := K2.out.at_ 1 rfl
    have K3c0 : w1.cell? ⟨w.heap.size + 1 + 1, 0, none⟩ = some (.bool false) := K3.out.at_ 0 rfl
    have K3c1 : w1.cell? ⟨w.heap.size + 1 + 1, 1, none⟩ = some (.slice none 0 0) := K3.out.at_ 1 rfl
    have K3c2 : w1.cell? ⟨w.heap.size + 1 + 1, 2, none⟩ = some (.slice none 0 0) := K3.out.at_ 2 rfl
    go_wp2_with fail
    refine (iCheck_P I2.out true (iok_self _)).mono ?_
    rintro e w2 ⟨_, rfl, d0, rfl⟩
    replace Z := hide (Z.out.below d0)
    replace N := hide (N.out.below d0)
    replace T := hide (T.out.below d0)
    replace I1 := hide (I1.out.below d0)
    replace I2 := hide (I2.out.below d0)
    replace K1 := hide (K1.out.below' d0)
    replace K2 := hide (K2.out.below' d0)
    replace K3 := hide (K3.out.below' d0)
    replace b0 := hide (below_tr b0.out d0)
    clear d0
    clear K1c0 K1c1 K2c0 K2c1 K3c0 K3c1 K3c2
    have K1c0 : w2.cell? ⟨w.heap.size, 0, none⟩ = some (.bool b1) := K1.out.at_ 0 rfl
    have K1c1 : w2.cell? ⟨w.heap.size, 1, none⟩ = some (.slice A1 n1 c1) := K1.out.at_ 1 rfl
    have K2c0 : w2.cell? ⟨w.heap.size + 1, 0, none⟩ = some (.bool b2) := K2.out.at_ 0 rfl
    have K2c1 : w2.cell? ⟨w.heap.size + 1, 1, none⟩ = some (.slice A2 n2 c2) := K2.out.at_ 1 rfl
    have K3c0 : w2.cell? ⟨w.heap.size + 1 + 1, 0, none⟩ = some (.bool false) := K3.out.at_ 0 rfl
    have K3c1 : w2.cell? ⟨w.heap.size + 1 + 1, 1, none⟩ = some (.slice none 0 0) := K3.out.at_ 1 rfl
    have K3c2 : w2.cell? ⟨w.heap.size + 1 + 1, 2, none⟩ = some (.slice none 0 0) := K3.out.at_ 2 rfl
    go_wp2_with fail
    refine (iSign_P (N.out.arg s'.out) 1 (cmpI_gt h0)).mono ?_
    rintro e w3 ⟨_, rfl, d0, rfl⟩
    replace Z := hide (Z.out.below d0)
    replace N := hide (N.out.below d0)
    replace T := hide (T.out.below d0)
    replace I1 := hide (I1.out.below d0)
    replace I2 := hide (I2.out.below d0)
    replace K1 := hide (K1.out.below' d0)
    replace K2 := hide (K2.out.below' d0)
    replace K3 := hide (K3.out.below' d0)
    replace b0 := hide (below_tr b0.out d0)
    clear d0
    clear K1c0 K1c1 K2c0 K2c1 K3c0 K3c1 K3c2
    have K1c0 : w3.cell? ⟨w.heap.size, 0, none⟩ = some (.bool b1) := K1.out.at_ 0 rfl
    have K1c1 : w3.cell? ⟨w.heap.size, 1, none⟩ = some (.slice A1 n1 c1) := K1.out.at_ 1 rfl
    have K2c0 : w3.cell? ⟨w.heap.size + 1, 0, none⟩ = some (.bool b2) := K2.out.at_ 0 rfl
    have K2c1 : w3.cell? ⟨w.heap.size + 1, 1, none⟩ = some (.slice A2 n2 c2) := K2.out.at_ 1 rfl
    have K3c0 : w3.cell? ⟨w.heap.size + 1 + 1, 0, none⟩ = some (.bool false) := K3.out.at_ 0 rfl
    have K3c1 : w3.cell? ⟨w.heap.size + 1 + 1, 1, none⟩ = some (.slice none 0 0) := K3.out.at_ 1 rfl
    have K3c2 : w3.cell? ⟨w.heap.size + 1 + 1, 2, none⟩ = some (.slice none 0 0) := K3.out.at_ 2 rfl
    clear I1 I2
    have e2 : b2 = false := by rw [← N.out.nat.2]; simp; omega
    subst e2
    have eq : Hid (Rat.divInt z n = mkRat z n.natAbs) := make_pos h0
    have hd : Hid (n.natAbs ≠ 0) := by show _ ≠ _; omega
    clear h0 hn
    clear K1c0 K1c1 K2c0 K2c1 K3c0 K3c1 K3c2
    have K1c0 : w3.cell? ⟨w.heap.size, 0, none⟩ = some (.bool b1) := K1.out.at_ 0 rfl
    have K1c1 : w3.cell? ⟨w.heap.size, 1, none⟩ = some (.slice A1 n1 c1) := K1.out.at_ 1 rfl
    have K2c0 : w3.cell? ⟨w.heap.size + 1, 0, none⟩ = some (.bool false) := K2.out.at_ 0 rfl
    have K2c1 : w3.cell? ⟨w.heap.size + 1, 1, none⟩ = some (.slice A2 n2 c2) := K2.out.at_ 1 rfl
    have K3c0 : w3.cell? ⟨w.heap.size + 1 + 1, 0, none⟩ = some (.bool false) := K3.out.at_ 0 rfl
    have K3c1 : w3.cell? ⟨w.heap.size + 1 + 1, 1, none⟩ = some (.slice none 0 0) := K3.out.at_ 1 rfl
    have K3c2 : w3.cell? ⟨w.heap.size + 1 + 1, 2, none⟩ = some (.slice none 0 0) := K3.out.at_ 2 rfl
    go_wp2_with fail
    refine (rlowest_P Z.out N.out.nat.1 (L_up s.out (by decide)) (L_up s'.out (by decide)) hd.out T.out).mono ?_
    rintro e w4 ⟨v8, rfl, d0, r8⟩
    have bz := b0.out.size
    replace Z := hide (Z.out.below d0)
    replace N := hide (N.out.below d0)
    replace T := hide (T.out.below d0)
    replace K1 := hide (K1.out.below' d0)
    replace K2 := hide (K2.out.below' d0)
    replace K3 := hide (K3.out.below' d0)
    replace b0 := hide (below_tr b0.out d0)
    have R8 := hide (r8.mono (B' := w.heap.size) bz)
    clear d0 bz
    clear r8
    obtain ⟨b8, A8, n8, c8, D8, m8, k8, rfl⟩ := R8.out.slice
    clear K1c0 K1c1 K2c0 K2c1 K3c0 K3c1 K3c2
    have K3c0 : w4.cell? ⟨w.heap.size + 1 + 1, 0, none⟩ = some (.bool false) := K3.out.at_ 0 rfl
    have K3c1 : w4.cell? ⟨w.heap.size + 1 + 1, 1, none⟩ = some (.slice none 0 0) := K3.out.at_ 1 rfl
    have K3c2 : w4.cell? ⟨w.heap.size + 1 + 1, 2, none⟩ = some (.slice none 0 0) := K3.out.at_ 2 rfl
    have p0 : w4.frozen? ⟨w.heap.size + 1 + 1, 0, none⟩ = false := K3.out.frozen 0
    have p1 : w4.frozen? ⟨w.heap.size + 1 + 1, 1, none⟩ = false := K3.out.frozen 1
    have p2 : w4.frozen? ⟨w.heap.size + 1 + 1, 2, none⟩ = false := K3.out.frozen 2
    go_wp2
    refine bodyPost_ret (v := .tuple #[.agg #[.bool b8, .slice A8 n8 c8, .slice D8 m8 k8], .int .i64 0]) (by simp [results, Tryd.results63, go_sem, K3c0, K3c1, K3c2, p0, p1, p2]) rfl ?_
    exact opq_end hR ⟨_, rfl, (by (repeat (first | exact b0 | exact Below.refl _ _ | refine Below.setCell ?_ (by first | (simp; done) | (simp; omega)) _ | refine Below.alloc ?_ (by first | (simp; done) | (simp; omega)) _))), (by rw [eq.out]; exact R8.out.only K3.out (by decide) ((((Only.refl _ _).set _ _).set _ _).set _ _))⟩
end Go.Proofs.YtfpnhggbfakdkaaDoor

/- rats: cross. -/
set_option linter.unusedVariables false
set_option linter.unusedSimpArgs false
set_option maxRecDepth 100000
namespace Go.Proofs.YtfpnhggbfakdkaaDoor
open Go.RowKit

section
variable {w : World} {g : Nat}
theorem fa_Rat0_ {i : Nat} : (Instr.fieldAt 44 (.pointer (some ⟨g, i, none⟩)) 0).run Tryd.prog w = .ok (.pointer (some ⟨g, i, none⟩)) w := by simp [go_sem]
theorem fa_Rat1_ {i : Nat} : (Instr.fieldAt 44 (.pointer (some ⟨g, i, none⟩)) 1).run Tryd.prog w = .ok (.pointer (some ⟨g, i + 2, none⟩)) w := by simp [go_sem]
theorem ld_Int_ {i : Nat} {b u : Value} (h0 : w.cell? ⟨g, i, none⟩ = some b) (h1 : w.cell? ⟨g, i + 1, none⟩ = some u) : (Instr.loadAt 42 (.pointer (some ⟨g, i, none⟩))).run Tryd.prog w = .ok (.agg #[b, u]) w := by
  simp [go_sem, h0, h1]
theorem ld_Rat_ {i : Nat} {b u d : Value} (h0 : w.cell? ⟨g, i, none⟩ = some b) (h1 : w.cell? ⟨g, i + 1, none⟩ = some u) (h2 : w.cell? ⟨g, i + 2, none⟩ = some d) : (Instr.loadAt 44 (.pointer (some ⟨g, i, none⟩))).run Tryd.prog w = .ok (.agg #[b, u, d]) w := by
  simp [go_sem, h0, h1, h2]
end
theorem fn_rof (args : Array Value) (w : World) : (callFunc 69 args).run Tryd.prog w = .ok (.enter 69 args) w := callFunc_enter Tryd.func69 (by kernel_rfl) rfl args w
def Fact.ints2 (x y : Int) (B : Nat) : Fact := ⟨fun v w => ∃ b1 A1 n1 c1 b2 A2 n2 c2, v = .agg #[.bool b1, .slice A1 n1 c1, .bool b2, .slice A2 n2 c2] ∧ IntR x B w (.agg #[.bool b1, .slice A1 n1 c1]) ∧ IntR y B w (.agg #[.bool b2, .slice A2 n2 c2]),
  fun _ _ _ ⟨b1, A1, n1, c1, b2, A2, n2, c2, e, h1, h2⟩ hb => ⟨b1, A1, n1, c1, b2, A2, n2, c2, e, h1.below hb, h2.below hb⟩⟩
theorem den_L {q : Rat} {k : Nat} (h : H q k) : L ((q.den : Int)).natAbs ≤ k := by rw [Int.natAbs_natCast]; exact h.2
theorem iMul_R {w : World} {v v' : Value} {x y : Int} (B : Nat) (hB : B ≤ w.heap.size) (h : IArg w v x) (h' : IArg w v' y) :
    Calls Tryd.prog 71 #[v, v'] w fun e w' => ∃ u, e = .returned u ∧ Below w.heap.size w w' ∧ IntR (x * y) B w' u :=
  (iMul_ok h h').mono fun e w' ⟨u, h1, h2, h3⟩ => ⟨u, h1, h2, h3.mono hB⟩
set_option maxHeartbeats 1000000 in
theorem rcross_P {w : World} {v v' : Value} {p q : Rat} (h : RArg w v p) (h' : RArg w v' q) (hT : Tab w) :
    Calls Tryd.prog 62 #[v, v'] w fun e w' => ∃ b1 A1 n1 c1 b2 A2 n2 c2 D m k, e = .returned (.tuple #[.agg #[.bool b1, .slice A1 n1 c1, .bool b2, .slice A2 n2 c2], .slice D m k]) ∧ Below w.heap.size w w' ∧ ICan w' (.agg #[.bool b1, .slice A1 n1 c1]) (p.num * (q.den : Int)) ∧ ICan w' (.agg #[.bool b2, .slice A2 n2 c2]) (q.num * (p.den : Int)) ∧ Can w' (.slice D m k) (p.den * q.den) := by
  refine opq fun R hR => ?_
  obtain ⟨b1, A1, n1, c1, D1, m1, k1, rfl⟩ := h.slice
  obtain ⟨b2, A2, n2, c2, D2, m2, k2, rfl⟩ := h'.slice
  have S1 := hide h.size
  have S2 := hide h'.size
  replace h := hide h
  replace h' := hide h'
  have T := hide hT
  clear hT
  go_enter Tryd.func62, Tryd.ntmps62
  have b0 := hide (Below.refl w.heap.size w)
  have K1 := hide (Blk.new_at w (w.heap.size) (by simp) 44 #[.bool b1, .slice A1 n1 c1, .slice D1 m1 k1])
  have y := (Below.refl w.heap.size w).alloc (Nat.le_refl _) (.cells #[.bool b1, .slice A1 n1 c1, .slice D1 m1 k1] 44)
  replace b0 := hide (below_tr b0.out y)
  clear y
  have K2 := hide (Blk.new_at (w.alloc (.cells #[.bool b1, .slice A1 n1 c1, .slice D1 m1 k1] 44)) (w.heap.size + 1) (by simp) 44 #[.bool b2, .slice A2 n2 c2, .slice D2 m2 k2])
  have y := (Below.refl (w.alloc (.cells #[.bool b1, .slice A1 n1 c1, .slice D1 m1 k1] 44)).heap.size (w.alloc (.cells #[.bool b1, .slice A1 n1 c1, .slice D1 m1 k1] 44))).alloc (Nat.le_refl _) (.cells #[.bool b2, .slice A2 n2 c2, .slice D2 m2 k2] 44)
  replace K1 := hide (K1.out.below' y)
  replace b0 := hide (below_tr b0.out y)
  clear y
  have K3 := hide (Blk.new_at ((w.alloc (.cells #[.bool b1, .slice A1 n1 c1, .slice D1 m1 k1] 44)).alloc (.cells #[.bool b2, .slice A2 n2 c2, .slice D2 m2 k2] 44)) (w.heap.size + 1 + 1) (by simp) 91 #[.bool false, .slice none 0 0, .bool false, .slice none 0 0])
  have y := (Below.refl ((w.alloc (.cells #[.bool b1, .slice A1 n1 c1, .slice D1 m1 k1] 44)).alloc (.cells #[.bool b2, .slice A2 n2 c2, .slice D2 m2 k2] 44)).heap.size ((w.alloc (.cells #[.bool b1, .slice A1 n1 c1, .slice D1 m1 k1] 44)).alloc (.cells #[.bool b2, .slice A2 n2 c2, .slice D2 m2 k2] 44))).alloc (Nat.le_refl _) (.cells #[.bool false, .slice none 0 0, .bool false, .slice none 0 0] 91)
  replace K1 := hide (K1.out.below' y)
  replace K2 := hide (K2.out.below' y)
  replace b0 := hide (below_tr b0.out y)
  clear y
  go_wp2
  obtain ⟨V1_0, hV⟩ : ∃ V, (((w.alloc (.cells #[.bool b1, .slice A1 n1 c1, .slice D1 m1 k1] 44)).alloc (.cells #[.bool b2, .slice A2 n2 c2, .slice D2 m2 k2] 44)).alloc (.cells #[.bool false, .slice none 0 0, .bool false, .slice none 0 0] 91)) = V := ⟨_, rfl⟩
  rw [hV] at K1 K2 K3 b0
  rw [hV]
  clear hV
  refine wp_region_facts 4 (fun w' => Below V1_0.heap.size V1_0 w') [(6, (.rarg0 w p)), (7, (.rold w p w.heap.size)), (8, (.rarg0 w q)), (9, (.rold w q w.heap.size))] [false, false, false, false, false, false, true, true, true, true, false, false, false, false, false, false, false, false, false, false, false, false, false, false, false, false, false, false] mixed (by kernel_rfl) (by kernel_rfl) (by kernel_rfl) (fun _ _ h hb => h.trans (hb.mono h.size)) ((Below.refl _ _).drew) ⟨?_, ?_, ?_, ?_, trivial⟩ ?_
  · exact .load (.agg #[.bool b1, .slice A1 n1 c1, .slice D1 m1 k1]) (.inl rfl) rfl rfl (fun a w' hC hs hl => by rw [show a.eval (.tmp 2) = (.pointer (some ⟨w.heap.size, 0, none⟩) : Value) from (hs 2 (by kernel_rfl))]; exact ⟨ld_Rat_ ((K1.out.below' hC).at_ 0 rfl) ((K1.out.below' hC).at_ 1 rfl) ((K1.out.below' hC).at_ 2 rfl), h.out⟩)
  · exact .call (.inl rfl) rfl rfl fn_rof (fun a w' hC hs hl => rof_P (hl 6 (by kernel_rfl) (by kernel_rfl)) (b0.out.trans (hC.mono b0.out.size)) (T.out.below (b0.out.trans (hC.mono b0.out.size))) w.heap.size (Nat.le_trans b0.out.size hC.size))
  · exact .load (.agg #[.bool b2, .slice A2 n2 c2, .slice D2 m2 k2]) (.inl rfl) rfl rfl (fun a w' hC hs hl => by rw [show a.eval (.tmp 3) = (.pointer (some ⟨w.heap.size + 1, 0, none⟩) : Value) from (hs 3 (by kernel_rfl))]; exact ⟨ld_Rat_ ((K2.out.below' hC).at_ 0 rfl) ((K2.out.below' hC).at_ 1 rfl) ((K2.out.below' hC).at_ 2 rfl), h'.out⟩)
  · exact .call (.inl rfl) rfl rfl fn_rof (fun a w' hC hs hl => rof_P (hl 8 (by kernel_rfl) (by kernel_rfl)) (b0.out.trans (hC.mono b0.out.size)) (T.out.below (b0.out.trans (hC.mono b0.out.size))) w.heap.size (Nat.le_trans b0.out.size hC.size))
  intro f w1 hC hF _
  have P1 : ROld w p w.heap.size w1 (f 7) := hF 7 (by kernel_rfl)
  have P2 : ROld w q w.heap.size w1 (f 9) := hF 9 (by kernel_rfl)
  clear hF
  simp only [patch, List.drop]
  obtain ⟨b7, A7, n7, c7, D7, m7, k7, e7⟩ := P1.slice
  obtain ⟨b9, A9, n9, c9, D9, m9, k9, e9⟩ := P2.slice
  replace P1 := hide P1
  replace P2 := hide P2
  generalize f 7 = v7 at *
  generalize f 9 = v9 at *
  generalize f 6 = y6 at *
  generalize f 8 = y8 at *
  subst e7 e9
  replace K1 := hide (K1.out.below' hC)
  replace K2 := hide (K2.out.below' hC)
  replace K3 := hide (K3.out.below' hC)
  replace b0 := hide (b0.out.trans (hC.mono b0.out.size))
  clear hC
  have K1f0 : w1.frozen? ⟨w.heap.size, 0, none⟩ = false := K1.out.frozen 0
  have K1f1 : w1.frozen? ⟨w.heap.size, 1, none⟩ = false := K1.out.frozen 1
  have K1f2 : w1.frozen? ⟨w.heap.size, 2, none⟩ = false := K1.out.frozen 2
  have K2f0 : w1.frozen? ⟨w.heap.size + 1, 0, none⟩ = false := K2.out.frozen 0
  have K2f1 : w1.frozen? ⟨w.heap.size + 1, 1, none⟩ = false := K2.out.frozen 1
  have K2f2 : w1.frozen? ⟨w.heap.size + 1, 2, none⟩ = false := K2.out.frozen 2
  have K1c0 : w1.cell? ⟨w.heap.size, 0, none⟩ = some (.bool b1) := K1.out.at_ 0 rfl
  have K1c1 : w1.cell? ⟨w.heap.size, 1, none⟩ = some (.slice A1 n1 c1) := K1.out.at_ 1 rfl
  have K1c2 : w1.cell? ⟨w.heap.size, 2, none⟩ = some (.slice D1 m1 k1) := K1.out.at_ 2 rfl
  have K2c0 : w1.cell? ⟨w.heap.size + 1, 0, none⟩ = some (.bool b2) := K2.out.at_ 0 rfl
  have K2c1 : w1.cell? ⟨w.heap.size + 1, 1, none⟩ = some (.slice A2 n2 c2) := K2.out.at_ 1 rfl
  have K2c2 : w1.cell? ⟨w.heap.size + 1, 2, none⟩ = some (.slice D2 m2 k2) := K2.out.at_ 2 rfl
  go_wp2_with fail
  clear K1c0 K1c1 K1c2 K2c0 K2c1 K2c2
  clear K1f0 K1f1 K1f2 K2f0 K2f1 K2f2
  have F : Only (w.heap.size) w1 (((w1.setCell ⟨w.heap.size, 0, none⟩ (.bool b7)).setCell ⟨w.heap.size, 1, none⟩ (.slice A7 n7 c7)).setCell ⟨w.heap.size, 2, none⟩ (.slice D7 m7 k7)) := ((((Only.refl _ _).set _ _).set _ _).set _ _)
  replace P1 := hide (P1.out.only K1.out (by decide) F)
  replace P2 := hide (P2.out.only K1.out (by decide) F)
  replace K2 := hide (((K2.out.far (p := ⟨w.heap.size, 0, none⟩) (by first | (simp; done) | (simp; omega)) (.bool b7)).far (p := ⟨w.heap.size, 1, none⟩) (by first | (simp; done) | (simp; omega)) (.slice A7 n7 c7)).far (p := ⟨w.heap.size, 2, none⟩) (by first | (simp; done) | (simp; omega)) (.slice D7 m7 k7))
  replace K3 := hide (((K3.out.far (p := ⟨w.heap.size, 0, none⟩) (by first | (simp; done) | (simp; omega)) (.bool b7)).far (p := ⟨w.heap.size, 1, none⟩) (by first | (simp; done) | (simp; omega)) (.slice A7 n7 c7)).far (p := ⟨w.heap.size, 2, none⟩) (by first | (simp; done) | (simp; omega)) (.slice D7 m7 k7))
  have by_ : Hid (Below w.heap.size w (((w1.setCell ⟨w.heap.size, 0, none⟩ (.bool b7)).setCell ⟨w.heap.size, 1, none⟩ (.slice A7 n7 c7)).setCell ⟨w.heap.size, 2, none⟩ (.slice D7 m7 k7))) := (((b0.out.setCell (p := ⟨w.heap.size, 0, none⟩) (by first | exact Nat.le_refl _ | (simp; done) | (simp; omega)) (.bool b7)).setCell (p := ⟨w.heap.size, 1, none⟩) (by first | exact Nat.le_refl _ | (simp; done) | (simp; omega)) (.slice A7 n7 c7)).setCell (p := ⟨w.heap.size, 2, none⟩) (by first | exact Nat.le_refl _ | (simp; done) | (simp; omega)) (.slice D7 m7 k7))
  replace K1 : Hid (Blk (((w1.setCell ⟨w.heap.size, 0, none⟩ (.bool b7)).setCell ⟨w.heap.size, 1, none⟩ (.slice A7 n7 c7)).setCell ⟨w.heap.size, 2, none⟩ (.slice D7 m7 k7)) (w.heap.size) 44 #[.bool b7, .slice A7 n7 c7, .slice D7 m7 k7]) := (((K1.out.set_ 0 (.bool b7)).set_ 1 (.slice A7 n7 c7)).set_ 2 (.slice D7 m7 k7))
  replace b0 := by_
  clear by_ F
  have F : Only (w.heap.size + 1) (((w1.setCell ⟨w.heap.size, 0, none⟩ (.bool b7)).setCell ⟨w.heap.size, 1, none⟩ (.slice A7 n7 c7)).setCell ⟨w.heap.size, 2, none⟩ (.slice D7 m7 k7)) ((((((w1.setCell ⟨w.heap.size, 0, none⟩ (.bool b7)).setCell ⟨w.heap.size, 1, none⟩ (.slice A7 n7 c7)).setCell ⟨w.heap.size, 2, none⟩ (.slice D7 m7 k7)).setCell ⟨w.heap.size + 1, 0, none⟩ (.bool b9)).setCell ⟨w.heap.size + 1, 1, none⟩ (.slice A9 n9 c9)).setCell ⟨w.heap.size + 1, 2, none⟩ (.slice D9 m9 k9)) := ((((Only.refl _ _).set _ _).set _ _).set _ _)
  replace P1 := hide (P1.out.only K2.out (by decide) F)
  replace P2 := hide (P2.out.only K2.out (by decide) F)
  replace K1 := hide (((K1.out.far (p := ⟨w.heap.size + 1, 0, none⟩) (by first | (simp; done) | (simp; omega)) (.bool b9)).far (p := ⟨w.heap.size + 1, 1, none⟩) (by first | (simp; done) | (simp; omega)) (.slice A9 n9 c9)).far (p := ⟨w.heap.size + 1, 2, none⟩) (by first | (simp; done) | (simp; omega)) (.slice D9 m9 k9))
  replace K3 := hide (((K3.out.far (p := ⟨w.heap.size + 1, 0, none⟩) (by first | (simp; done) | (simp; omega)) (.bool b9)).far (p := ⟨w.heap.size + 1, 1, none⟩) (by first | (simp; done) | (simp; omega)) (.slice A9 n9 c9)).far (p := ⟨w.heap.size + 1, 2, none⟩) (by first | (simp; done) | (simp; omega)) (.slice D9 m9 k9))
  have by_ : Hid (Below w.heap.size w ((((((w1.setCell ⟨w.heap.size, 0, none⟩ (.bool b7)).setCell ⟨w.heap.size, 1, none⟩ (.slice A7 n7 c7)).setCell ⟨w.heap.size, 2, none⟩ (.slice D7 m7 k7)).setCell ⟨w.heap.size + 1, 0, none⟩ (.bool b9)).setCell ⟨w.heap.size + 1, 1, none⟩ (.slice A9 n9 c9)).setCell ⟨w.heap.size + 1, 2, none⟩ (.slice D9 m9 k9))) := (((b0.out.setCell (p := ⟨w.heap.size + 1, 0, none⟩) (by first | exact Nat.le_refl _ | (simp; done) | (simp; omega)) (.bool b9)).setCell (p := ⟨w.heap.size + 1, 1, none⟩) (by first | exact Nat.le_refl _ | (simp; done) | (simp; omega)) (.slice A9 n9 c9)).setCell (p := ⟨w.heap.size + 1, 2, none⟩) (by first | exact Nat.le_refl _ | (simp; done) | (simp; omega)) (.slice D9 m9 k9))
  replace K2 : Hid (Blk ((((((w1.setCell ⟨w.heap.size, 0, none⟩ (.bool b7)).setCell ⟨w.heap.size, 1, none⟩ (.slice A7 n7 c7)).setCell ⟨w.heap.size, 2, none⟩ (.slice D7 m7 k7)).setCell ⟨w.heap.size + 1, 0, none⟩ (.bool b9)).setCell ⟨w.heap.size + 1, 1, none⟩ (.slice A9 n9 c9)).setCell ⟨w.heap.size + 1, 2, none⟩ (.slice D9 m9 k9)) (w.heap.size + 1) 44 #[.bool b9, .slice A9 n9 c9, .slice D9 m9 k9]) := (((K2.out.set_ 0 (.bool b9)).set_ 1 (.slice A9 n9 c9)).set_ 2 (.slice D9 m9 k9))
  replace b0 := by_
  clear by_ F
  obtain ⟨V2_1, hV⟩ : ∃ V, ((((((w1.setCell ⟨w.heap.size, 0, none⟩ (.bool b7)).setCell ⟨w.heap.size, 1, none⟩ (.slice A7 n7 c7)).setCell ⟨w.heap.size, 2, none⟩ (.slice D7 m7 k7)).setCell ⟨w.heap.size + 1, 0, none⟩ (.bool b9)).setCell ⟨w.heap.size + 1, 1, none⟩ (.slice A9 n9 c9)).setCell ⟨w.heap.size + 1, 2, none⟩ (.slice D9 m9 k9)) = V := ⟨_, rfl⟩
  rw [hV] at K1 K2 K3 P1 P2 b0
  rw [hV]
  clear hV
  have C1 := hide (P1.out.can b0.out)
  have C2 := hide (P2.out.can b0.out)
  clear P1 P2
  refine wp_region_facts 18 (fun w' => Below V2_1.heap.size V2_1 w') [(10, .eq ((.pointer (some ⟨w.heap.size, 0, none⟩) : Value))), (11, (.int0 V2_1 p.num)), (12, .eq ((.pointer (some ⟨w.heap.size + 1, 2, none⟩) : Value))), (13, (.nat0 V2_1 q.den)), (14, (.int0 V2_1 (q.den : Int))), (15, (.intR (p.num * (q.den : Int)) w.heap.size)), (16, .eq ((.pointer (some ⟨w.heap.size + 1, 0, none⟩) : Value))), (17, (.int0 V2_1 q.num)), (18, .eq ((.pointer (some ⟨w.heap.size, 2, none⟩) : Value))), (19, (.nat0 V2_1 p.den)), (20, (.int0 V2_1 (p.den : Int))), (21, (.intR (q.num * (p.den : Int)) w.heap.size)), (22, (.ints2 (p.num * (q.den : Int)) (q.num * (p.den : Int)) w.heap.size)), (23, .eq ((.pointer (some ⟨w.heap.size, 2, none⟩) : Value))), (24, (.nat0 V2_1 p.den)), (25, .eq ((.pointer (some ⟨w.heap.size + 1, 2, none⟩) : Value))), (26, (.nat0 V2_1 q.den)), (27, (.natR (p.den * q.den) w.heap.size))] [false, false, false, false, false, false, false, false, false, false, true, true, true, true, true, true, true, true, true, true, true, true, true, true, true, true, true, true] mixed (by kernel_rfl) (by kernel_rfl) (by kernel_rfl) (fun _ _ h hb => h.trans (hb.mono h.size)) ((Below.refl _ _).drew) ⟨?_, ?_, ?_, ?_, ?_, ?_, ?_, ?_, ?_, ?_, ?_, ?_, ?_, ?_, ?_, ?_, ?_, ?_, trivial⟩ ?_
  · exact .fieldAddr (.inl rfl) rfl rfl rfl (fun a w' hC hs hl => by rw [show a.eval (.tmp 2) = (.pointer (some ⟨w.heap.size, 0, none⟩) : Value) from (hs 2 (by kernel_rfl))]; exact fa_Rat0_)
  · exact .load (.agg #[.bool b7, .slice A7 n7 c7]) (.inl rfl) rfl rfl (fun a w' hC hs hl => by rw [show a.eval (.tmp 10) = (.pointer (some ⟨w.heap.size, 0, none⟩) : Value) from (hl 10 (by kernel_rfl) (by kernel_rfl))]; exact ⟨ld_Int_ ((K1.out.below' hC).at_ 0 rfl) ((K1.out.below' hC).at_ 1 rfl), C1.out.num⟩)
  · exact .fieldAddr (.inl rfl) rfl rfl rfl (fun a w' hC hs hl => by rw [show a.eval (.tmp 3) = (.pointer (some ⟨w.heap.size + 1, 0, none⟩) : Value) from (hs 3 (by kernel_rfl))]; exact fa_Rat1_)
  · exact .load (.slice D9 m9 k9) (.inl rfl) rfl rfl (fun a w' hC hs hl => by rw [show a.eval (.tmp 12) = (.pointer (some ⟨w.heap.size + 1, 2, none⟩) : Value) from (hl 12 (by kernel_rfl) (by kernel_rfl))]; exact ⟨ld_Nat ((K2.out.below' hC).at_ 2 rfl), C2.out.den⟩)
  · exact .make (.inl rfl) (by intro T e; cases e) rfl (fun a w' hC hs hl => by
      have e0 : Can V2_1 (a.eval (.tmp 13)) q.den := (hl 13 (by kernel_rfl) (by kernel_rfl))
      obtain ⟨A, n, c, e⟩ := e0.slice
      rw [e] at e0
      have e' : a.tmps[13]?.getD undef = _ := (by simp [Act.eval] : _ = a.eval (.tmp 13)).trans e
      exact ⟨.agg #[.bool false, .slice A n c], by simp [execOp, go_sem, e'], ican_lit e0 _ rfl⟩)
  · exact .call (.inl rfl) rfl rfl fn_iMul (fun a w' hC hs hl => iMul_R w.heap.size (Nat.le_trans b0.out.size hC.size) (ICan.arg (ICan.below (hl 11 (by kernel_rfl) (by kernel_rfl)) hC) (L_up S1.out.1 (by decide))) (ICan.arg (ICan.below (hl 14 (by kernel_rfl) (by kernel_rfl)) hC) (L_up (den_L S2.out) (by decide))))
  · exact .fieldAddr (.inl rfl) rfl rfl rfl (fun a w' hC hs hl => by rw [show a.eval (.tmp 3) = (.pointer (some ⟨w.heap.size + 1, 0, none⟩) : Value) from (hs 3 (by kernel_rfl))]; exact fa_Rat0_)
  · exact .load (.agg #[.bool b9, .slice A9 n9 c9]) (.inl rfl) rfl rfl (fun a w' hC hs hl => by rw [show a.eval (.tmp 16) = (.pointer (some ⟨w.heap.size + 1, 0, none⟩) : Value) from (hl 16 (by kernel_rfl) (by kernel_rfl))]; exact ⟨ld_Int_ ((K2.out.below' hC).at_ 0 rfl) ((K2.out.below' hC).at_ 1 rfl), C2.out.num⟩)
  · exact .fieldAddr (.inl rfl) rfl rfl rfl (fun a w' hC hs hl => by rw [show a.eval (.tmp 2) = (.pointer (some ⟨w.heap.size, 0, none⟩) : Value) from (hs 2 (by kernel_rfl))]; exact fa_Rat1_)
  · exact .load (.slice D7 m7 k7) (.inl rfl) rfl rfl (fun a w' hC hs hl => by rw [show a.eval (.tmp 18) = (.pointer (some ⟨w.heap.size, 2, none⟩) : Value) from (hl 18 (by kernel_rfl) (by kernel_rfl))]; exact ⟨ld_Nat ((K1.out.below' hC).at_ 2 rfl), C1.out.den⟩)
  · exact .make (.inl rfl) (by intro T e; cases e) rfl (fun a w' hC hs hl => by
      have e0 : Can V2_1 (a.eval (.tmp 19)) p.den := (hl 19 (by kernel_rfl) (by kernel_rfl))
      obtain ⟨A, n, c, e⟩ := e0.slice
      rw [e] at e0
      have e' : a.tmps[19]?.getD undef = _ := (by simp [Act.eval] : _ = a.eval (.tmp 19)).trans e
      exact ⟨.agg #[.bool false, .slice A n c], by simp [execOp, go_sem, e'], ican_lit e0 _ rfl⟩)
  · exact .call (.inl rfl) rfl rfl fn_iMul (fun a w' hC hs hl => iMul_R w.heap.size (Nat.le_trans b0.out.size hC.size) (ICan.arg (ICan.below (hl 17 (by kernel_rfl) (by kernel_rfl)) hC) (L_up S2.out.1 (by decide))) (ICan.arg (ICan.below (hl 20 (by kernel_rfl) (by kernel_rfl)) hC) (L_up (den_L S1.out) (by decide))))
  · exact .make (.inl rfl) (by intro T e; cases e) rfl (fun a w' hC hs hl => by
      have e1 : IntR (p.num * (q.den : Int)) w.heap.size w' (a.eval (.tmp 15)) := (hl 15 (by kernel_rfl) (by kernel_rfl))
      have e2 : IntR (q.num * (p.den : Int)) w.heap.size w' (a.eval (.tmp 21)) := (hl 21 (by kernel_rfl) (by kernel_rfl))
      obtain ⟨b1, A1, n1, c1, e3⟩ := e1.slice
      obtain ⟨b2, A2, n2, c2, e4⟩ := e2.slice
      rw [e3] at e1
      rw [e4] at e2
      have e5 : a.tmps[15]?.getD undef = _ := (by simp [Act.eval] : _ = a.eval (.tmp 15)).trans e3
      have e6 : a.tmps[21]?.getD undef = _ := (by simp [Act.eval] : _ = a.eval (.tmp 21)).trans e4
      exact ⟨.agg #[.bool b1, .slice A1 n1 c1, .bool b2, .slice A2 n2 c2], by simp [execOp, go_sem, e5, e6], b1, A1, n1, c1, b2, A2, n2, c2, rfl, e1, e2⟩)
  · exact .fieldAddr (.inl rfl) rfl rfl rfl (fun a w' hC hs hl => by rw [show a.eval (.tmp 2) = (.pointer (some ⟨w.heap.size, 0, none⟩) : Value) from (hs 2 (by kernel_rfl))]; exact fa_Rat1_)
  · exact .load (.slice D7 m7 k7) (.inl rfl) rfl rfl (fun a w' hC hs hl => by rw [show a.eval (.tmp 23) = (.pointer (some ⟨w.heap.size, 2, none⟩) : Value) from (hl 23 (by kernel_rfl) (by kernel_rfl))]; exact ⟨ld_Nat ((K1.out.below' hC).at_ 2 rfl), C1.out.den⟩)
  · exact .fieldAddr (.inl rfl) rfl rfl rfl (fun a w' hC hs hl => by rw [show a.eval (.tmp 3) = (.pointer (some ⟨w.heap.size + 1, 0, none⟩) : Value) from (hs 3 (by kernel_rfl))]; exact fa_Rat1_)
  · exact .load (.slice D9 m9 k9) (.inl rfl) rfl rfl (fun a w' hC hs hl => by rw [show a.eval (.tmp 25) = (.pointer (some ⟨w.heap.size + 1, 2, none⟩) : Value) from (hl 25 (by kernel_rfl) (by kernel_rfl))]; exact ⟨ld_Nat ((K2.out.below' hC).at_ 2 rfl), C2.out.den⟩)
  · exact .call (.inl rfl) rfl rfl fn_Mul (fun a w' hC hs hl => nMul_F w.heap.size (Nat.le_trans b0.out.size hC.size) (Can.below (hl 24 (by kernel_rfl) (by kernel_rfl)) hC) (Can.below (hl 26 (by kernel_rfl) (by kernel_rfl)) hC) (L_up S1.out.2 (by decide)) (L_up S2.out.2 (by decide)))
  intro f w2 hC hF _
  obtain ⟨b5, A5, n5, c5, b6, A6, n6, c6, e5, R5, R6⟩ : (Fact.ints2 (p.num * (q.den : Int)) (q.num * (p.den : Int)) w.heap.size).holds (f 22) w2 := hF 22 (by kernel_rfl)
  have R4 : NatR (p.den * q.den) w.heap.size w2 (f 27) := hF 27 (by kernel_rfl)
  clear hF
  simp only [patch, List.drop]
  obtain ⟨D4, m4, k4, e4⟩ := R4.slice
  generalize f 10 = y10 at *
  generalize f 11 = y11 at *
  generalize f 12 = y12 at *
  generalize f 13 = y13 at *
  generalize f 14 = y14 at *
  generalize f 15 = y15 at *
  generalize f 16 = y16 at *
  generalize f 17 = y17 at *
  generalize f 18 = y18 at *
  generalize f 19 = y19 at *
  generalize f 20 = y20 at *
  generalize f 21 = y21 at *
  generalize f 22 = y22 at *
  generalize f 23 = y23 at *
  generalize f 24 = y24 at *
  generalize f 25 = y25 at *
  generalize f 26 = y26 at *
  generalize f 27 = y27 at *
  subst e5 e4
  replace R5 := hide R5
  replace R6 := hide R6
  replace R4 := hide R4
  replace K1 := hide (K1.out.below' hC)
  replace K2 := hide (K2.out.below' hC)
  replace K3 := hide (K3.out.below' hC)
  replace C1 := hide (C1.out.below hC)
  replace C2 := hide (C2.out.below hC)
  replace b0 := hide (b0.out.trans (hC.mono b0.out.size))
  clear hC
  have K3c0 : w2.cell? ⟨w.heap.size + 1 + 1, 0, none⟩ = some (.bool false) := K3.out.at_ 0 rfl
  have K3c1 : w2.cell? ⟨w.heap.size + 1 + 1, 1, none⟩ = some (.slice none 0 0) := K3.out.at_ 1 rfl
  have K3c2 : w2.cell? ⟨w.heap.size + 1 + 1, 2, none⟩ = some (.bool false) := K3.out.at_ 2 rfl
  have K3c3 : w2.cell? ⟨w.heap.size + 1 + 1, 3, none⟩ = some (.slice none 0 0) := K3.out.at_ 3 rfl
  have p0 : w2.frozen? ⟨w.heap.size + 1 + 1, 0, none⟩ = false := K3.out.frozen 0
  have p1 : w2.frozen? ⟨w.heap.size + 1 + 1, 1, none⟩ = false := K3.out.frozen 1
  have p2 : w2.frozen? ⟨w.heap.size + 1 + 1, 2, none⟩ = false := K3.out.frozen 2
  have p3 : w2.frozen? ⟨w.heap.size + 1 + 1, 3, none⟩ = false := K3.out.frozen 3
  go_wp2
  refine bodyPost_ret (v := .tuple #[.agg #[.bool b5, .slice A5 n5 c5, .bool b6, .slice A6 n6 c6], .slice D4 m4 k4]) (by simp [results, Tryd.results62, go_sem, K3c0, K3c1, K3c2, K3c3, p0, p1, p2, p3]) rfl ?_
  exact opq_end hR ⟨_, _, _, _, _, _, _, _, _, _, _, rfl, (by (repeat (first | exact b0 | exact Below.refl _ _ | refine Below.setCell ?_ (by first | (simp; done) | (simp; omega)) _ | refine Below.alloc ?_ (by first | (simp; done) | (simp; omega)) _))), (R5.out.only K3.out (by decide) (((((Only.refl _ _).set _ _).set _ _).set _ _).set _ _)).can, (R6.out.only K3.out (by decide) (((((Only.refl _ _).set _ _).set _ _).set _ _).set _ _)).can, (R4.out.only K3.out (by decide) (((((Only.refl _ _).set _ _).set _ _).set _ _).set _ _)).can⟩
end Go.Proofs.YtfpnhggbfakdkaaDoor

/- rats: with, Add, Sub, Mul, Cmp, Sign. -/
set_option linter.unusedVariables false
set_option linter.unusedSimpArgs false
set_option maxRecDepth 100000
namespace Go.Proofs.YtfpnhggbfakdkaaDoor
open Go.RowKit

set_option maxHeartbeats 1000000 in
theorem rAdd1_P {w : World} {v v' : Value} {x y : Int} (h : IArg w v x) (h' : IArg w v' y) :
    Calls Tryd.prog 67 #[v, v'] w fun e w' => ∃ u, e = .returned u ∧ Below w.heap.size w w' ∧ ICan w' u (x + y) := by
  refine opq fun R hR => ?_
  obtain ⟨b1, A1, n1, c1, rfl⟩ := h.slice
  obtain ⟨b2, A2, n2, c2, rfl⟩ := h'.slice
  replace h := hide h
  replace h' := hide h'
  go_enter Tryd.func67, Tryd.ntmps67
  have b0 := hide (Below.refl w.heap.size w)
  have K1 := hide (Blk.new_at w (w.heap.size) (by simp) 42 #[.bool b1, .slice A1 n1 c1])
  have y := (Below.refl w.heap.size w).alloc (Nat.le_refl _) (.cells #[.bool b1, .slice A1 n1 c1] 42)
  replace b0 := hide (below_tr b0.out y)
  clear y
  have K2 := hide (Blk.new_at (w.alloc (.cells #[.bool b1, .slice A1 n1 c1] 42)) (w.heap.size + 1) (by simp) 42 #[.bool b2, .slice A2 n2 c2])
  have y := (Below.refl (w.alloc (.cells #[.bool b1, .slice A1 n1 c1] 42)).heap.size (w.alloc (.cells #[.bool b1, .slice A1 n1 c1] 42))).alloc (Nat.le_refl _) (.cells #[.bool b2, .slice A2 n2 c2] 42)
  replace K1 := hide (K1.out.below' y)
  replace b0 := hide (below_tr b0.out y)
  clear y
  have K3 := hide (Blk.new_at ((w.alloc (.cells #[.bool b1, .slice A1 n1 c1] 42)).alloc (.cells #[.bool b2, .slice A2 n2 c2] 42)) (w.heap.size + 1 + 1) (by simp) 42 #[.bool false, .slice none 0 0])
  have y := (Below.refl ((w.alloc (.cells #[.bool b1, .slice A1 n1 c1] 42)).alloc (.cells #[.bool b2, .slice A2 n2 c2] 42)).heap.size ((w.alloc (.cells #[.bool b1, .slice A1 n1 c1] 42)).alloc (.cells #[.bool b2, .slice A2 n2 c2] 42))).alloc (Nat.le_refl _) (.cells #[.bool false, .slice none 0 0] 42)
  replace K1 := hide (K1.out.below' y)
  replace K2 := hide (K2.out.below' y)
  replace b0 := hide (below_tr b0.out y)
  clear y
  go_wp2_with fail
  refine (iAdd_ok (h.out.below b0.out) (h'.out.below b0.out)).mono ?_
  rintro e w1 ⟨v9, rfl, d0, r9⟩
  have bz := b0.out.size
  replace K1 := hide (K1.out.below' d0)
  replace K2 := hide (K2.out.below' d0)
  replace K3 := hide (K3.out.below' d0)
  replace b0 := hide (below_tr b0.out d0)
  have R9 := hide (r9.mono (B' := w.heap.size) bz)
  clear d0 bz
  clear r9
  obtain ⟨b9, A9, n9, c9, rfl⟩ := R9.out.slice
  have K3c0 : w1.cell? ⟨w.heap.size + 1 + 1, 0, none⟩ = some (.bool false) := K3.out.at_ 0 rfl
  have K3c1 : w1.cell? ⟨w.heap.size + 1 + 1, 1, none⟩ = some (.slice none 0 0) := K3.out.at_ 1 rfl
  have p0 : w1.frozen? ⟨w.heap.size + 1 + 1, 0, none⟩ = false := K3.out.frozen 0
  have p1 : w1.frozen? ⟨w.heap.size + 1 + 1, 1, none⟩ = false := K3.out.frozen 1
  go_wp2
  refine bodyPost_ret (v := .agg #[.bool b9, .slice A9 n9 c9]) (by simp [results, Tryd.results67, go_sem, K3c0, K3c1, p0, p1]) rfl ?_
  exact opq_end hR ⟨_, rfl, (by (repeat (first | exact b0 | exact Below.refl _ _ | refine Below.setCell ?_ (by first | (simp; done) | (simp; omega)) _ | refine Below.alloc ?_ (by first | (simp; done) | (simp; omega)) _))), (R9.out.only K3.out (by decide) (((Only.refl _ _).set _ _).set _ _)).can⟩
set_option maxHeartbeats 1000000 in
theorem rSub1_P {w : World} {v v' : Value} {x y : Int} (h : IArg w v x) (h' : IArg w v' y) :
    Calls Tryd.prog 82 #[v, v'] w fun e w' => ∃ u, e = .returned u ∧ Below w.heap.size w w' ∧ ICan w' u (x - y) := by
  refine opq fun R hR => ?_
  obtain ⟨b1, A1, n1, c1, rfl⟩ := h.slice
  obtain ⟨b2, A2, n2, c2, rfl⟩ := h'.slice
  replace h := hide h
  replace h' := hide h'
  go_enter Tryd.func82, Tryd.ntmps82
  have b0 := hide (Below.refl w.heap.size w)
  have K1 := hide (Blk.new_at w (w.heap.size) (by simp) 42 #[.bool b1, .slice A1 n1 c1])
  have y := (Below.refl w.heap.size w).alloc (Nat.le_refl _) (.cells #[.bool b1, .slice A1 n1 c1] 42)
  replace b0 := hide (below_tr b0.out y)
  clear y
  have K2 := hide (Blk.new_at (w.alloc (.cells #[.bool b1, .slice A1 n1 c1] 42)) (w.heap.size + 1) (by simp) 42 #[.bool b2, .slice A2 n2 c2])
  have y := (Below.refl (w.alloc (.cells #[.bool b1, .slice A1 n1 c1] 42)).heap.size (w.alloc (.cells #[.bool b1, .slice A1 n1 c1] 42))).alloc (Nat.le_refl _) (.cells #[.bool b2, .slice A2 n2 c2] 42)
  replace K1 := hide (K1.out.below' y)
  replace b0 := hide (below_tr b0.out y)
  clear y
  have K3 := hide (Blk.new_at ((w.alloc (.cells #[.bool b1, .slice A1 n1 c1] 42)).alloc (.cells #[.bool b2, .slice A2 n2 c2] 42)) (w.heap.size + 1 + 1) (by simp) 42 #[.bool false, .slice none 0 0])
  have y := (Below.refl ((w.alloc (.cells #[.bool b1, .slice A1 n1 c1] 42)).alloc (.cells #[.bool b2, .slice A2 n2 c2] 42)).heap.size ((w.alloc (.cells #[.bool b1, .slice A1 n1 c1] 42)).alloc (.cells #[.bool b2, .slice A2 n2 c2] 42))).alloc (Nat.le_refl _) (.cells #[.bool false, .slice none 0 0] 42)
  replace K1 := hide (K1.out.below' y)
  replace K2 := hide (K2.out.below' y)
  replace b0 := hide (below_tr b0.out y)
  clear y
  go_wp2_with fail
  refine (iSub_ok (h.out.below b0.out) (h'.out.below b0.out)).mono ?_
  rintro e w1 ⟨v9, rfl, d0, r9⟩
  have bz := b0.out.size
  replace K1 := hide (K1.out.below' d0)
  replace K2 := hide (K2.out.below' d0)
  replace K3 := hide (K3.out.below' d0)
  replace b0 := hide (below_tr b0.out d0)
  have R9 := hide (r9.mono (B' := w.heap.size) bz)
  clear d0 bz
  clear r9
  obtain ⟨b9, A9, n9, c9, rfl⟩ := R9.out.slice
  have K3c0 : w1.cell? ⟨w.heap.size + 1 + 1, 0, none⟩ = some (.bool false) := K3.out.at_ 0 rfl
  have K3c1 : w1.cell? ⟨w.heap.size + 1 + 1, 1, none⟩ = some (.slice none 0 0) := K3.out.at_ 1 rfl
  have p0 : w1.frozen? ⟨w.heap.size + 1 + 1, 0, none⟩ = false := K3.out.frozen 0
  have p1 : w1.frozen? ⟨w.heap.size + 1 + 1, 1, none⟩ = false := K3.out.frozen 1
  go_wp2
  refine bodyPost_ret (v := .agg #[.bool b9, .slice A9 n9 c9]) (by simp [results, Tryd.results82, go_sem, K3c0, K3c1, p0, p1]) rfl ?_
  exact opq_end hR ⟨_, rfl, (by (repeat (first | exact b0 | exact Below.refl _ _ | refine Below.setCell ?_ (by first | (simp; done) | (simp; omega)) _ | refine Below.alloc ?_ (by first | (simp; done) | (simp; omega)) _))), (R9.out.only K3.out (by decide) (((Only.refl _ _).set _ _).set _ _)).can⟩
set_option maxHeartbeats 1000000 in
theorem rMul1_P {w : World} {v v' : Value} {x y : Int} {p q : Rat} {g1 g2 : Nat} {b3 : Bool} {u3 d3 : Value} {b4 : Bool} {u4 d4 : Value} (h : ICan w v x) (h' : ICan w v' y) (k1 : Blk w g1 TR #[.bool b3, u3, d3]) (k2 : Blk w g2 TR #[.bool b4, u4, d4])
    (C1 : RCan w (.agg #[.bool b3, u3, d3]) p) (C2 : RCan w (.agg #[.bool b4, u4, d4]) q) (s1 : H p 100000000000) (s2 : H q 100000000000) :
    Calls Tryd.prog 70 #[v, v', .pointer (some ⟨g1, 0, none⟩), .pointer (some ⟨g2, 0, none⟩)] w fun e w' => ∃ u, e = .returned u ∧ Below w.heap.size w w' ∧ ICan w' u (p.num * q.num) := by
  refine opq fun R hR => ?_
  obtain ⟨b1, A1, n1, c1, rfl⟩ := h.slice
  obtain ⟨b2, A2, n2, c2, rfl⟩ := h'.slice
  replace C1 := hide C1
  replace C2 := hide C2
  have J1 := hide k1
  have J2 := hide k2
  have S1 := hide s1
  have S2 := hide s2
  clear h h' k1 k2 s1 s2
  go_enter Tryd.func70, Tryd.ntmps70
  have b0 := hide (Below.refl w.heap.size w)
  have K1 := hide (Blk.new_at w (w.heap.size) (by simp) 42 #[.bool b1, .slice A1 n1 c1])
  have y := (Below.refl w.heap.size w).alloc (Nat.le_refl _) (.cells #[.bool b1, .slice A1 n1 c1] 42)
  replace C1 := hide (C1.out.below y)
  replace C2 := hide (C2.out.below y)
  replace J1 := hide (J1.out.below' y)
  replace J2 := hide (J2.out.below' y)
  replace b0 := hide (below_tr b0.out y)
  clear y
  have K2 := hide (Blk.new_at (w.alloc (.cells #[.bool b1, .slice A1 n1 c1] 42)) (w.heap.size + 1) (by simp) 42 #[.bool b2, .slice A2 n2 c2])
  have y := (Below.refl (w.alloc (.cells #[.bool b1, .slice A1 n1 c1] 42)).heap.size (w.alloc (.cells #[.bool b1, .slice A1 n1 c1] 42))).alloc (Nat.le_refl _) (.cells #[.bool b2, .slice A2 n2 c2] 42)
  replace C1 := hide (C1.out.below y)
  replace C2 := hide (C2.out.below y)
  replace J1 := hide (J1.out.below' y)
  replace J2 := hide (J2.out.below' y)
  replace K1 := hide (K1.out.below' y)
  replace b0 := hide (below_tr b0.out y)
  clear y
  have K3 := hide (Blk.new_at ((w.alloc (.cells #[.bool b1, .slice A1 n1 c1] 42)).alloc (.cells #[.bool b2, .slice A2 n2 c2] 42)) (w.heap.size + 1 + 1) (by simp) 42 #[.bool false, .slice none 0 0])
  have y := (Below.refl ((w.alloc (.cells #[.bool b1, .slice A1 n1 c1] 42)).alloc (.cells #[.bool b2, .slice A2 n2 c2] 42)).heap.size ((w.alloc (.cells #[.bool b1, .slice A1 n1 c1] 42)).alloc (.cells #[.bool b2, .slice A2 n2 c2] 42))).alloc (Nat.le_refl _) (.cells #[.bool false, .slice none 0 0] 42)
  replace C1 := hide (C1.out.below y)
  replace C2 := hide (C2.out.below y)
  replace J1 := hide (J1.out.below' y)
  replace J2 := hide (J2.out.below' y)
  replace K1 := hide (K1.out.below' y)
  replace K2 := hide (K2.out.below' y)
  replace b0 := hide (below_tr b0.out y)
  clear y
  have J1c0 : (((w.alloc (.cells #[.bool b1, .slice A1 n1 c1] 42)).alloc (.cells #[.bool b2, .slice A2 n2 c2] 42)).alloc (.cells #[.bool false, .slice none 0 0] 42)).cell? ⟨g1, 0, none⟩ = some (.bool b3) := J1.out.at_ 0 rfl
  have J1c1 : (((w.alloc (.cells #[.bool b1, .slice A1 n1 c1] 42)).alloc (.cells #[.bool b2, .slice A2 n2 c2] 42)).alloc (.cells #[.bool false, .slice none 0 0] 42)).cell? ⟨g1, 1, none⟩ = some (u3) := J1.out.at_ 1 rfl
  have J2c0 : (((w.alloc (.cells #[.bool b1, .slice A1 n1 c1] 42)).alloc (.cells #[.bool b2, .slice A2 n2 c2] 42)).alloc (.cells #[.bool false, .slice none 0 0] 42)).cell? ⟨g2, 0, none⟩ = some (.bool b4) := J2.out.at_ 0 rfl
  have J2c1 : (((w.alloc (.cells #[.bool b1, .slice A1 n1 c1] 42)).alloc (.cells #[.bool b2, .slice A2 n2 c2] 42)).alloc (.cells #[.bool false, .slice none 0 0] 42)).cell? ⟨g2, 1, none⟩ = some (u4) := J2.out.at_ 1 rfl
  go_wp2_with fail
  refine (iMul_ok (ICan.arg C1.out.num (L_up S1.out.1 (by decide))) (ICan.arg C2.out.num (L_up S2.out.1 (by decide)))).mono ?_
  rintro e w1 ⟨v9, rfl, d0, r9⟩
  have bz := b0.out.size
  replace C1 := hide (C1.out.below d0)
  replace C2 := hide (C2.out.below d0)
  replace J1 := hide (J1.out.below' d0)
  replace J2 := hide (J2.out.below' d0)
  replace K1 := hide (K1.out.below' d0)
  replace K2 := hide (K2.out.below' d0)
  replace K3 := hide (K3.out.below' d0)
  replace b0 := hide (below_tr b0.out d0)
  have R9 := hide (r9.mono (B' := w.heap.size) bz)
  clear d0 bz
  clear r9
  obtain ⟨b9, A9, n9, c9, rfl⟩ := R9.out.slice
  clear J1c0 J1c1 J2c0 J2c1
  have K3c0 : w1.cell? ⟨w.heap.size + 1 + 1, 0, none⟩ = some (.bool false) := K3.out.at_ 0 rfl
  have K3c1 : w1.cell? ⟨w.heap.size + 1 + 1, 1, none⟩ = some (.slice none 0 0) := K3.out.at_ 1 rfl
  have p0 : w1.frozen? ⟨w.heap.size + 1 + 1, 0, none⟩ = false := K3.out.frozen 0
  have p1 : w1.frozen? ⟨w.heap.size + 1 + 1, 1, none⟩ = false := K3.out.frozen 1
  go_wp2
  refine bodyPost_ret (v := .agg #[.bool b9, .slice A9 n9 c9]) (by simp [results, Tryd.results70, go_sem, K3c0, K3c1, p0, p1]) rfl ?_
  exact opq_end hR ⟨_, rfl, (by (repeat (first | exact b0 | exact Below.refl _ _ | refine Below.setCell ?_ (by first | (simp; done) | (simp; omega)) _ | refine Below.alloc ?_ (by first | (simp; done) | (simp; omega)) _))), (R9.out.only K3.out (by decide) (((Only.refl _ _).set _ _).set _ _)).can⟩
set_option maxHeartbeats 2000000 in
theorem rwithAdd_P {w : World} {v v' : Value} {p q : Rat} (h : RArg w v p) (h' : RArg w v' q) (hT : Tab w) :
    Calls Tryd.prog 66 #[v, v', .func (.func 67) #[] #[]] w fun e w' => ∃ u, e = .returned u ∧ Below w.heap.size w w' ∧ RatR (p + q) w.heap.size w' u := by
  refine opq fun R hR => ?_
  obtain ⟨b1, A1, n1, c1, D1, m1, k1, rfl⟩ := h.slice
  obtain ⟨b2, A2, n2, c2, D2, m2, k2, rfl⟩ := h'.slice
  have S1 := hide h.size
  have S2 := hide h'.size
  replace h := hide h
  replace h' := hide h'
  have T := hide hT
  clear hT
  have eq : Hid (p + q = mkRat (p.num * (q.den : Int) + q.num * (p.den : Int)) (p.den * q.den)) := Rat.add_def' p q
  have hd : Hid (p.den * q.den ≠ 0) := Nat.mul_ne_zero p.den_nz q.den_nz
  go_enter Tryd.func66, Tryd.ntmps66
  have b0 := hide (Below.refl w.heap.size w)
  have K1 := hide (Blk.new_at w (w.heap.size) (by simp) 44 #[.bool b1, .slice A1 n1 c1, .slice D1 m1 k1])
  have y := (Below.refl w.heap.size w).alloc (Nat.le_refl _) (.cells #[.bool b1, .slice A1 n1 c1, .slice D1 m1 k1] 44)
  replace b0 := hide (below_tr b0.out y)
  clear y
  have K2 := hide (Blk.new_at (w.alloc (.cells #[.bool b1, .slice A1 n1 c1, .slice D1 m1 k1] 44)) (w.heap.size + 1) (by simp) 44 #[.bool b2, .slice A2 n2 c2, .slice D2 m2 k2])
  have y := (Below.refl (w.alloc (.cells #[.bool b1, .slice A1 n1 c1, .slice D1 m1 k1] 44)).heap.size (w.alloc (.cells #[.bool b1, .slice A1 n1 c1, .slice D1 m1 k1] 44))).alloc (Nat.le_refl _) (.cells #[.bool b2, .slice A2 n2 c2, .slice D2 m2 k2] 44)
  replace K1 := hide (K1.out.below' y)
  replace b0 := hide (below_tr b0.out y)
  clear y
  have K3 := hide (Blk.new_at ((w.alloc (.cells #[.bool b1, .slice A1 n1 c1, .slice D1 m1 k1] 44)).alloc (.cells #[.bool b2, .slice A2 n2 c2, .slice D2 m2 k2] 44)) (w.heap.size + 1 + 1) (by simp) 44 #[.bool false, .slice none 0 0, .slice none 0 0])
  have y := (Below.refl ((w.alloc (.cells #[.bool b1, .slice A1 n1 c1, .slice D1 m1 k1] 44)).alloc (.cells #[.bool b2, .slice A2 n2 c2, .slice D2 m2 k2] 44)).heap.size ((w.alloc (.cells #[.bool b1, .slice A1 n1 c1, .slice D1 m1 k1] 44)).alloc (.cells #[.bool b2, .slice A2 n2 c2, .slice D2 m2 k2] 44))).alloc (Nat.le_refl _) (.cells #[.bool false, .slice none 0 0, .slice none 0 0] 44)
  replace K1 := hide (K1.out.below' y)
  replace K2 := hide (K2.out.below' y)
  replace b0 := hide (below_tr b0.out y)
  clear y
  go_wp2_with fail
  refine (rcross_P (h.out.below b0.out) (h'.out.below b0.out) (T.out.below b0.out)).mono ?_
  rintro e w1 ⟨b3, A3, n3, c3, b4, A4, n4, c4, D5, m5, k5, rfl, d0, i1, i2, j3⟩
  replace K1 := hide (K1.out.below' d0)
  replace K2 := hide (K2.out.below' d0)
  replace K3 := hide (K3.out.below' d0)
  replace b0 := hide (below_tr b0.out d0)
  have I1 := hide (i1)
  have I2 := hide (i2)
  have N3 := hide (j3)
  clear d0
  clear i1 i2 j3
  have K4 := hide (Blk.new_at w1 (w1.heap.size) (by simp) 91 #[.bool b3, .slice A3 n3 c3, .bool b4, .slice A4 n4 c4])
  have y := (Below.refl w1.heap.size w1).alloc (Nat.le_refl _) (.cells #[.bool b3, .slice A3 n3 c3, .bool b4, .slice A4 n4 c4] 91)
  replace K1 := hide (K1.out.below' y)
  replace K2 := hide (K2.out.below' y)
  replace K3 := hide (K3.out.below' y)
  replace I1 := hide (I1.out.below y)
  replace I2 := hide (I2.out.below y)
  replace N3 := hide (N3.out.below y)
  replace b0 := hide (below_tr b0.out y)
  clear y
  have X := hide (H_cross S1.out S2.out (Nat.le_refl _))
  go_wp2_with fail
  refine (rAdd1_P (ICan.arg I1.out (L_up X.out.1 (by decide))) (ICan.arg I2.out (L_up X.out.2.1 (by decide)))).mono ?_
  rintro e w2 ⟨v6, rfl, d0, r6⟩
  replace K1 := hide (K1.out.below' d0)
  replace K2 := hide (K2.out.below' d0)
  replace K3 := hide (K3.out.below' d0)
  replace I1 := hide (I1.out.below d0)
  replace I2 := hide (I2.out.below d0)
  replace N3 := hide (N3.out.below d0)
  replace K4 := hide (K4.out.below' d0)
  replace b0 := hide (below_tr b0.out d0)
  have Y := hide (r6)
  clear d0
  clear r6
  obtain ⟨b6, A6, n6, c6, rfl⟩ := Y.out.slice
  go_wp2_with fail
  refine (rlowest_P Y.out N3.out (L_up (Z_add X.out.1 X.out.2.1 (Nat.lt_succ_self _)) (by decide)) (L_up X.out.2.2 (by decide)) hd.out (T.out.below b0.out)).mono ?_
  rintro e w3 ⟨v8, rfl, d0, r8⟩
  have bz := b0.out.size
  replace K1 := hide (K1.out.below' d0)
  replace K2 := hide (K2.out.below' d0)
  replace K3 := hide (K3.out.below' d0)
  replace I1 := hide (I1.out.below d0)
  replace I2 := hide (I2.out.below d0)
  replace N3 := hide (N3.out.below d0)
  replace K4 := hide (K4.out.below' d0)
  replace Y := hide (Y.out.below d0)
  replace b0 := hide (below_tr b0.out d0)
  have R8 := hide (r8.mono (B' := w.heap.size) bz)
  clear d0 bz
  clear r8
  obtain ⟨b8, A8, n8, c8, D8, m8, k8, rfl⟩ := R8.out.slice
  have K3c0 : w3.cell? ⟨w.heap.size + 1 + 1, 0, none⟩ = some (.bool false) := K3.out.at_ 0 rfl
  have K3c1 : w3.cell? ⟨w.heap.size + 1 + 1, 1, none⟩ = some (.slice none 0 0) := K3.out.at_ 1 rfl
  have K3c2 : w3.cell? ⟨w.heap.size + 1 + 1, 2, none⟩ = some (.slice none 0 0) := K3.out.at_ 2 rfl
  have p0 : w3.frozen? ⟨w.heap.size + 1 + 1, 0, none⟩ = false := K3.out.frozen 0
  have p1 : w3.frozen? ⟨w.heap.size + 1 + 1, 1, none⟩ = false := K3.out.frozen 1
  have p2 : w3.frozen? ⟨w.heap.size + 1 + 1, 2, none⟩ = false := K3.out.frozen 2
  go_wp2
  refine bodyPost_ret (v := .agg #[.bool b8, .slice A8 n8 c8, .slice D8 m8 k8]) (by simp [results, Tryd.results66, go_sem, K3c0, K3c1, K3c2, p0, p1, p2]) rfl ?_
  exact opq_end hR ⟨_, rfl, (by (repeat (first | exact b0 | exact Below.refl _ _ | refine Below.setCell ?_ (by first | (simp; done) | (simp; omega)) _ | refine Below.alloc ?_ (by first | (simp; done) | (simp; omega)) _))), (by rw [eq.out]; exact R8.out.only K3.out (by decide) ((((Only.refl _ _).set _ _).set _ _).set _ _))⟩
set_option maxHeartbeats 2000000 in
theorem rwithSub_P {w : World} {v v' : Value} {p q : Rat} (h : RArg w v p) (h' : RArg w v' q) (hT : Tab w) :
    Calls Tryd.prog 66 #[v, v', .func (.func 82) #[] #[]] w fun e w' => ∃ u, e = .returned u ∧ Below w.heap.size w w' ∧ RatR (p - q) w.heap.size w' u := by
  refine opq fun R hR => ?_
  obtain ⟨b1, A1, n1, c1, D1, m1, k1, rfl⟩ := h.slice
  obtain ⟨b2, A2, n2, c2, D2, m2, k2, rfl⟩ := h'.slice
  have S1 := hide h.size
  have S2 := hide h'.size
  replace h := hide h
  replace h' := hide h'
  have T := hide hT
  clear hT
  have eq : Hid (p - q = mkRat (p.num * (q.den : Int) - q.num * (p.den : Int)) (p.den * q.den)) := Rat.sub_def' p q
  have hd : Hid (p.den * q.den ≠ 0) := Nat.mul_ne_zero p.den_nz q.den_nz
  go_enter Tryd.func66, Tryd.ntmps66
  have b0 := hide (Below.refl w.heap.size w)
  have K1 := hide (Blk.new_at w (w.heap.size) (by simp) 44 #[.bool b1, .slice A1 n1 c1, .slice D1 m1 k1])
  have y := (Below.refl w.heap.size w).alloc (Nat.le_refl _) (.cells #[.bool b1, .slice A1 n1 c1, .slice D1 m1 k1] 44)
  replace b0 := hide (below_tr b0.out y)
  clear y
  have K2 := hide (Blk.new_at (w.alloc (.cells #[.bool b1, .slice A1 n1 c1, .slice D1 m1 k1] 44)) (w.heap.size + 1) (by simp) 44 #[.bool b2, .slice A2 n2 c2, .slice D2 m2 k2])
  have y := (Below.refl (w.alloc (.cells #[.bool b1, .slice A1 n1 c1, .slice D1 m1 k1] 44)).heap.size (w.alloc (.cells #[.bool b1, .slice A1 n1 c1, .slice D1 m1 k1] 44))).alloc (Nat.le_refl _) (.cells #[.bool b2, .slice A2 n2 c2, .slice D2 m2 k2] 44)
  replace K1 := hide (K1.out.below' y)
  replace b0 := hide (below_tr b0.out y)
  clear y
  have K3 := hide (Blk.new_at ((w.alloc (.cells #[.bool b1, .slice A1 n1 c1, .slice D1 m1 k1] 44)).alloc (.cells #[.bool b2, .slice A2 n2 c2, .slice D2 m2 k2] 44)) (w.heap.size + 1 + 1) (by simp) 44 #[.bool false, .slice none 0 0, .slice none 0 0])
  have y := (Below.refl ((w.alloc (.cells #[.bool b1, .slice A1 n1 c1, .slice D1 m1 k1] 44)).alloc (.cells #[.bool b2, .slice A2 n2 c2, .slice D2 m2 k2] 44)).heap.size ((w.alloc (.cells #[.bool b1, .slice A1 n1 c1, .slice D1 m1 k1] 44)).alloc (.cells #[.bool b2, .slice A2 n2 c2, .slice D2 m2 k2] 44))).alloc (Nat.le_refl _) (.cells #[.bool false, .slice none 0 0, .slice none 0 0] 44)
  replace K1 := hide (K1.out.below' y)
  replace K2 := hide (K2.out.below' y)
  replace b0 := hide (below_tr b0.out y)
  clear y
  go_wp2_with fail
  refine (rcross_P (h.out.below b0.out) (h'.out.below b0.out) (T.out.below b0.out)).mono ?_
  rintro e w1 ⟨b3, A3, n3, c3, b4, A4, n4, c4, D5, m5, k5, rfl, d0, i1, i2, j3⟩
  replace K1 := hide (K1.out.below' d0)
  replace K2 := hide (K2.out.below' d0)
  replace K3 := hide (K3.out.below' d0)
  replace b0 := hide (below_tr b0.out d0)
  have I1 := hide (i1)
  have I2 := hide (i2)
  have N3 := hide (j3)
  clear d0
  clear i1 i2 j3
  have K4 := hide (Blk.new_at w1 (w1.heap.size) (by simp) 91 #[.bool b3, .slice A3 n3 c3, .bool b4, .slice A4 n4 c4])
  have y := (Below.refl w1.heap.size w1).alloc (Nat.le_refl _) (.cells #[.bool b3, .slice A3 n3 c3, .bool b4, .slice A4 n4 c4] 91)
  replace K1 := hide (K1.out.below' y)
  replace K2 := hide (K2.out.below' y)
  replace K3 := hide (K3.out.below' y)
  replace I1 := hide (I1.out.below y)
  replace I2 := hide (I2.out.below y)
  replace N3 := hide (N3.out.below y)
  replace b0 := hide (below_tr b0.out y)
  clear y
  have X := hide (H_cross S1.out S2.out (Nat.le_refl _))
  go_wp2_with fail
  refine (rSub1_P (ICan.arg I1.out (L_up X.out.1 (by decide))) (ICan.arg I2.out (L_up X.out.2.1 (by decide)))).mono ?_
  rintro e w2 ⟨v6, rfl, d0, r6⟩
  replace K1 := hide (K1.out.below' d0)
  replace K2 := hide (K2.out.below' d0)
  replace K3 := hide (K3.out.below' d0)
  replace I1 := hide (I1.out.below d0)
  replace I2 := hide (I2.out.below d0)
  replace N3 := hide (N3.out.below d0)
  replace K4 := hide (K4.out.below' d0)
  replace b0 := hide (below_tr b0.out d0)
  have Y := hide (r6)
  clear d0
  clear r6
  obtain ⟨b6, A6, n6, c6, rfl⟩ := Y.out.slice
  go_wp2_with fail
  refine (rlowest_P Y.out N3.out (L_up (Z_sub X.out.1 X.out.2.1 (Nat.lt_succ_self _)) (by decide)) (L_up X.out.2.2 (by decide)) hd.out (T.out.below b0.out)).mono ?_
  rintro e w3 ⟨v8, rfl, d0, r8⟩
  have bz := b0.out.size
  replace K1 := hide (K1.out.below' d0)
  replace K2 := hide (K2.out.below' d0)
  replace K3 := hide (K3.out.below' d0)
  replace I1 := hide (I1.out.below d0)
  replace I2 := hide (I2.out.below d0)
  replace N3 := hide (N3.out.below d0)
  replace K4 := hide (K4.out.below' d0)
  replace Y := hide (Y.out.below d0)
  replace b0 := hide (below_tr b0.out d0)
  have R8 := hide (r8.mono (B' := w.heap.size) bz)
  clear d0 bz
  clear r8
  obtain ⟨b8, A8, n8, c8, D8, m8, k8, rfl⟩ := R8.out.slice
  have K3c0 : w3.cell? ⟨w.heap.size + 1 + 1, 0, none⟩ = some (.bool false) := K3.out.at_ 0 rfl
  have K3c1 : w3.cell? ⟨w.heap.size + 1 + 1, 1, none⟩ = some (.slice none 0 0) := K3.out.at_ 1 rfl
  have K3c2 : w3.cell? ⟨w.heap.size + 1 + 1, 2, none⟩ = some (.slice none 0 0) := K3.out.at_ 2 rfl
  have p0 : w3.frozen? ⟨w.heap.size + 1 + 1, 0, none⟩ = false := K3.out.frozen 0
  have p1 : w3.frozen? ⟨w.heap.size + 1 + 1, 1, none⟩ = false := K3.out.frozen 1
  have p2 : w3.frozen? ⟨w.heap.size + 1 + 1, 2, none⟩ = false := K3.out.frozen 2
  go_wp2
  refine bodyPost_ret (v := .agg #[.bool b8, .slice A8 n8 c8, .slice D8 m8 k8]) (by simp [results, Tryd.results66, go_sem, K3c0, K3c1, K3c2, p0, p1, p2]) rfl ?_
  exact opq_end hR ⟨_, rfl, (by (repeat (first | exact b0 | exact Below.refl _ _ | refine Below.setCell ?_ (by first | (simp; done) | (simp; omega)) _ | refine Below.alloc ?_ (by first | (simp; done) | (simp; omega)) _))), (by rw [eq.out]; exact R8.out.only K3.out (by decide) ((((Only.refl _ _).set _ _).set _ _).set _ _))⟩
set_option maxHeartbeats 2000000 in
theorem rwithMul_P {w : World} {v v' : Value} {p q : Rat} (h : RArg w v p) (h' : RArg w v' q) (hT : Tab w) {g1 g2 : Nat} {b7 : Bool} {u3 d3 : Value} {b9 : Bool} {u4 d4 : Value} (j1 : Blk w g1 TR #[.bool b7, u3, d3]) (j2 : Blk w g2 TR #[.bool b9, u4, d4]) (C1 : RCan w (.agg #[.bool b7, u3, d3]) p) (C2 : RCan w (.agg #[.bool b9, u4, d4]) q) :
    Calls Tryd.prog 66 #[v, v', .func (.func 70) #[] #[.pointer (some ⟨g1, 0, none⟩), .pointer (some ⟨g2, 0, none⟩)]] w fun e w' => ∃ u, e = .returned u ∧ Below w.heap.size w w' ∧ RatR (p * q) w.heap.size w' u := by
  refine opq fun R hR => ?_
  obtain ⟨b1, A1, n1, c1, D1, m1, k1, rfl⟩ := h.slice
  obtain ⟨b2, A2, n2, c2, D2, m2, k2, rfl⟩ := h'.slice
  have S1 := hide h.size
  have S2 := hide h'.size
  replace h := hide h
  replace h' := hide h'
  have T := hide hT
  clear hT
  have J1 := hide j1
  have J2 := hide j2
  replace C1 := hide C1
  replace C2 := hide C2
  clear j1 j2
  have eq : Hid (p * q = mkRat (p.num * q.num) (p.den * q.den)) := Rat.mul_def' p q
  have hd : Hid (p.den * q.den ≠ 0) := Nat.mul_ne_zero p.den_nz q.den_nz
  go_enter Tryd.func66, Tryd.ntmps66
  have b0 := hide (Below.refl w.heap.size w)
  have K1 := hide (Blk.new_at w (w.heap.size) (by simp) 44 #[.bool b1, .slice A1 n1 c1, .slice D1 m1 k1])
  have y := (Below.refl w.heap.size w).alloc (Nat.le_refl _) (.cells #[.bool b1, .slice A1 n1 c1, .slice D1 m1 k1] 44)
  replace b0 := hide (below_tr b0.out y)
  clear y
  have K2 := hide (Blk.new_at (w.alloc (.cells #[.bool b1, .slice A1 n1 c1, .slice D1 m1 k1] 44)) (w.heap.size + 1) (by simp) 44 #[.bool b2, .slice A2 n2 c2, .slice D2 m2 k2])
  have y := (Below.refl (w.alloc (.cells #[.bool b1, .slice A1 n1 c1, .slice D1 m1 k1] 44)).heap.size (w.alloc (.cells #[.bool b1, .slice A1 n1 c1, .slice D1 m1 k1] 44))).alloc (Nat.le_refl _) (.cells #[.bool b2, .slice A2 n2 c2, .slice D2 m2 k2] 44)
  replace K1 := hide (K1.out.below' y)
  replace b0 := hide (below_tr b0.out y)
  clear y
  have K3 := hide (Blk.new_at ((w.alloc (.cells #[.bool b1, .slice A1 n1 c1, .slice D1 m1 k1] 44)).alloc (.cells #[.bool b2, .slice A2 n2 c2, .slice D2 m2 k2] 44)) (w.heap.size + 1 + 1) (by simp) 44 #[.bool false, .slice none 0 0, .slice none 0 0])
  have y := (Below.refl ((w.alloc (.cells #[.bool b1, .slice A1 n1 c1, .slice D1 m1 k1] 44)).alloc (.cells #[.bool b2, .slice A2 n2 c2, .slice D2 m2 k2] 44)).heap.size ((w.alloc (.cells #[.bool b1, .slice A1 n1 c1, .slice D1 m1 k1] 44)).alloc (.cells #[.bool b2, .slice A2 n2 c2, .slice D2 m2 k2] 44))).alloc (Nat.le_refl _) (.cells #[.bool false, .slice none 0 0, .slice none 0 0] 44)
  replace K1 := hide (K1.out.below' y)
  replace K2 := hide (K2.out.below' y)
  replace b0 := hide (below_tr b0.out y)
  clear y
  go_wp2_with fail
  refine (rcross_P (h.out.below b0.out) (h'.out.below b0.out) (T.out.below b0.out)).mono ?_
  rintro e w1 ⟨b3, A3, n3, c3, b4, A4, n4, c4, D5, m5, k5, rfl, d0, i1, i2, j3⟩
  replace K1 := hide (K1.out.below' d0)
  replace K2 := hide (K2.out.below' d0)
  replace K3 := hide (K3.out.below' d0)
  replace b0 := hide (below_tr b0.out d0)
  have I1 := hide (i1)
  have I2 := hide (i2)
  have N3 := hide (j3)
  clear d0
  clear i1 i2 j3
  have K4 := hide (Blk.new_at w1 (w1.heap.size) (by simp) 91 #[.bool b3, .slice A3 n3 c3, .bool b4, .slice A4 n4 c4])
  have y := (Below.refl w1.heap.size w1).alloc (Nat.le_refl _) (.cells #[.bool b3, .slice A3 n3 c3, .bool b4, .slice A4 n4 c4] 91)
  replace K1 := hide (K1.out.below' y)
  replace K2 := hide (K2.out.below' y)
  replace K3 := hide (K3.out.below' y)
  replace I1 := hide (I1.out.below y)
  replace I2 := hide (I2.out.below y)
  replace N3 := hide (N3.out.below y)
  replace b0 := hide (below_tr b0.out y)
  clear y
  have X := hide (H_cross S1.out S2.out (Nat.le_refl _))
  go_wp2_with fail
  refine (rMul1_P I1.out I2.out (J1.out.below' b0.out) (J2.out.below' b0.out) (C1.out.below b0.out) (C2.out.below b0.out) S1.out S2.out).mono ?_
  rintro e w2 ⟨v6, rfl, d0, r6⟩
  replace K1 := hide (K1.out.below' d0)
  replace K2 := hide (K2.out.below' d0)
  replace K3 := hide (K3.out.below' d0)
  replace I1 := hide (I1.out.below d0)
  replace I2 := hide (I2.out.below d0)
  replace N3 := hide (N3.out.below d0)
  replace K4 := hide (K4.out.below' d0)
  replace b0 := hide (below_tr b0.out d0)
  have Y := hide (r6)
  clear d0
  clear r6
  obtain ⟨b6, A6, n6, c6, rfl⟩ := Y.out.slice
  go_wp2_with fail
  refine (rlowest_P Y.out N3.out (L_up (Z_mul S1.out.1 S2.out.1 (Nat.le_refl _)) (by decide)) (L_up X.out.2.2 (by decide)) hd.out (T.out.below b0.out)).mono ?_
  rintro e w3 ⟨v8, rfl, d0, r8⟩
  have bz := b0.out.size
  replace K1 := hide (K1.out.below' d0)
  replace K2 := hide (K2.out.below' d0)
  replace K3 := hide (K3.out.below' d0)
  replace I1 := hide (I1.out.below d0)
  replace I2 := hide (I2.out.below d0)
  replace N3 := hide (N3.out.below d0)
  replace K4 := hide (K4.out.below' d0)
  replace Y := hide (Y.out.below d0)
  replace b0 := hide (below_tr b0.out d0)
  have R8 := hide (r8.mono (B' := w.heap.size) bz)
  clear d0 bz
  clear r8
  obtain ⟨b8, A8, n8, c8, D8, m8, k8, rfl⟩ := R8.out.slice
  have K3c0 : w3.cell? ⟨w.heap.size + 1 + 1, 0, none⟩ = some (.bool false) := K3.out.at_ 0 rfl
  have K3c1 : w3.cell? ⟨w.heap.size + 1 + 1, 1, none⟩ = some (.slice none 0 0) := K3.out.at_ 1 rfl
  have K3c2 : w3.cell? ⟨w.heap.size + 1 + 1, 2, none⟩ = some (.slice none 0 0) := K3.out.at_ 2 rfl
  have p0 : w3.frozen? ⟨w.heap.size + 1 + 1, 0, none⟩ = false := K3.out.frozen 0
  have p1 : w3.frozen? ⟨w.heap.size + 1 + 1, 1, none⟩ = false := K3.out.frozen 1
  have p2 : w3.frozen? ⟨w.heap.size + 1 + 1, 2, none⟩ = false := K3.out.frozen 2
  go_wp2
  refine bodyPost_ret (v := .agg #[.bool b8, .slice A8 n8 c8, .slice D8 m8 k8]) (by simp [results, Tryd.results66, go_sem, K3c0, K3c1, K3c2, p0, p1, p2]) rfl ?_
  exact opq_end hR ⟨_, rfl, (by (repeat (first | exact b0 | exact Below.refl _ _ | refine Below.setCell ?_ (by first | (simp; done) | (simp; omega)) _ | refine Below.alloc ?_ (by first | (simp; done) | (simp; omega)) _))), (by rw [eq.out]; exact R8.out.only K3.out (by decide) ((((Only.refl _ _).set _ _).set _ _).set _ _))⟩
set_option maxHeartbeats 1000000 in
theorem rAdd_P {w : World} {v v' : Value} {p q : Rat} (h : RArg w v p) (h' : RArg w v' q) (hT : Tab w) :
    Calls Tryd.prog 46 #[v, v'] w fun e w' => ∃ u, e = .returned u ∧ Below w.heap.size w w' ∧ RatR (p + q) w.heap.size w' u := by
  refine opq fun R hR => ?_
  obtain ⟨b1, A1, n1, c1, D1, m1, k1, rfl⟩ := h.slice
  obtain ⟨b2, A2, n2, c2, D2, m2, k2, rfl⟩ := h'.slice
  have S1 := hide h.size
  have S2 := hide h'.size
  replace h := hide h
  replace h' := hide h'
  have T := hide hT
  clear hT
  go_enter Tryd.func46, Tryd.ntmps46
  have b0 := hide (Below.refl w.heap.size w)
  have K1 := hide (Blk.new_at w (w.heap.size) (by simp) 44 #[.bool b1, .slice A1 n1 c1, .slice D1 m1 k1])
  have y := (Below.refl w.heap.size w).alloc (Nat.le_refl _) (.cells #[.bool b1, .slice A1 n1 c1, .slice D1 m1 k1] 44)
  replace b0 := hide (below_tr b0.out y)
  clear y
  have K2 := hide (Blk.new_at (w.alloc (.cells #[.bool b1, .slice A1 n1 c1, .slice D1 m1 k1] 44)) (w.heap.size + 1) (by simp) 44 #[.bool b2, .slice A2 n2 c2, .slice D2 m2 k2])
  have y := (Below.refl (w.alloc (.cells #[.bool b1, .slice A1 n1 c1, .slice D1 m1 k1] 44)).heap.size (w.alloc (.cells #[.bool b1, .slice A1 n1 c1, .slice D1 m1 k1] 44))).alloc (Nat.le_refl _) (.cells #[.bool b2, .slice A2 n2 c2, .slice D2 m2 k2] 44)
  replace K1 := hide (K1.out.below' y)
  replace b0 := hide (below_tr b0.out y)
  clear y
  have K3 := hide (Blk.new_at ((w.alloc (.cells #[.bool b1, .slice A1 n1 c1, .slice D1 m1 k1] 44)).alloc (.cells #[.bool b2, .slice A2 n2 c2, .slice D2 m2 k2] 44)) (w.heap.size + 1 + 1) (by simp) 44 #[.bool false, .slice none 0 0, .slice none 0 0])
  have y := (Below.refl ((w.alloc (.cells #[.bool b1, .slice A1 n1 c1, .slice D1 m1 k1] 44)).alloc (.cells #[.bool b2, .slice A2 n2 c2, .slice D2 m2 k2] 44)).heap.size ((w.alloc (.cells #[.bool b1, .slice A1 n1 c1, .slice D1 m1 k1] 44)).alloc (.cells #[.bool b2, .slice A2 n2 c2, .slice D2 m2 k2] 44))).alloc (Nat.le_refl _) (.cells #[.bool false, .slice none 0 0, .slice none 0 0] 44)
  replace K1 := hide (K1.out.below' y)
  replace K2 := hide (K2.out.below' y)
  replace b0 := hide (below_tr b0.out y)
  clear y
  go_wp2_with fail
  refine (rwithAdd_P (h.out.below b0.out) (h'.out.below b0.out) (T.out.below b0.out)).mono ?_
  rintro e w1 ⟨v8, rfl, d0, r8⟩
  have bz := b0.out.size
  replace K1 := hide (K1.out.below' d0)
  replace K2 := hide (K2.out.below' d0)
  replace K3 := hide (K3.out.below' d0)
  replace b0 := hide (below_tr b0.out d0)
  have R8 := hide (r8.mono (B' := w.heap.size) bz)
  clear d0 bz
  clear r8
  obtain ⟨b8, A8, n8, c8, D8, m8, k8, rfl⟩ := R8.out.slice
  have K3c0 : w1.cell? ⟨w.heap.size + 1 + 1, 0, none⟩ = some (.bool false) := K3.out.at_ 0 rfl
  have K3c1 : w1.cell? ⟨w.heap.size + 1 + 1, 1, none⟩ = some (.slice none 0 0) := K3.out.at_ 1 rfl
  have K3c2 : w1.cell? ⟨w.heap.size + 1 + 1, 2, none⟩ = some (.slice none 0 0) := K3.out.at_ 2 rfl
  have p0 : w1.frozen? ⟨w.heap.size + 1 + 1, 0, none⟩ = false := K3.out.frozen 0
  have p1 : w1.frozen? ⟨w.heap.size + 1 + 1, 1, none⟩ = false := K3.out.frozen 1
  have p2 : w1.frozen? ⟨w.heap.size + 1 + 1, 2, none⟩ = false := K3.out.frozen 2
  go_wp2
  refine bodyPost_ret (v := .agg #[.bool b8, .slice A8 n8 c8, .slice D8 m8 k8]) (by simp [results, Tryd.results46, go_sem, K3c0, K3c1, K3c2, p0, p1, p2]) rfl ?_
  exact opq_end hR ⟨_, rfl, (by (repeat (first | exact b0 | exact Below.refl _ _ | refine Below.setCell ?_ (by first | (simp; done) | (simp; omega)) _ | refine Below.alloc ?_ (by first | (simp; done) | (simp; omega)) _))), R8.out.only K3.out (by decide) ((((Only.refl _ _).set _ _).set _ _).set _ _)⟩
set_option maxHeartbeats 1000000 in
theorem rSub_P {w : World} {v v' : Value} {p q : Rat} (h : RArg w v p) (h' : RArg w v' q) (hT : Tab w) :
    Calls Tryd.prog 57 #[v, v'] w fun e w' => ∃ u, e = .returned u ∧ Below w.heap.size w w' ∧ RatR (p - q) w.heap.size w' u := by
  refine opq fun R hR => ?_
  obtain ⟨b1, A1, n1, c1, D1, m1, k1, rfl⟩ := h.slice
  obtain ⟨b2, A2, n2, c2, D2, m2, k2, rfl⟩ := h'.slice
  have S1 := hide h.size
  have S2 := hide h'.size
  replace h := hide h
  replace h' := hide h'
  have T := hide hT
  clear hT
  go_enter Tryd.func57, Tryd.ntmps57
  have b0 := hide (Below.refl w.heap.size w)
  have K1 := hide (Blk.new_at w (w.heap.size) (by simp) 44 #[.bool b1, .slice A1 n1 c1, .slice D1 m1 k1])
  have y := (Below.refl w.heap.size w).alloc (Nat.le_refl _) (.cells #[.bool b1, .slice A1 n1 c1, .slice D1 m1 k1] 44)
  replace b0 := hide (below_tr b0.out y)
  clear y
  have K2 := hide (Blk.new_at (w.alloc (.cells #[.bool b1, .slice A1 n1 c1, .slice D1 m1 k1] 44)) (w.heap.size + 1) (by simp) 44 #[.bool b2, .slice A2 n2 c2, .slice D2 m2 k2])
  have y := (Below.refl (w.alloc (.cells #[.bool b1, .slice A1 n1 c1, .slice D1 m1 k1] 44)).heap.size (w.alloc (.cells #[.bool b1, .slice A1 n1 c1, .slice D1 m1 k1] 44))).alloc (Nat.le_refl _) (.cells #[.bool b2, .slice A2 n2 c2, .slice D2 m2 k2] 44)
  replace K1 := hide (K1.out.below' y)
  replace b0 := hide (below_tr b0.out y)
  clear y
  have K3 := hide (Blk.new_at ((w.alloc (.cells #[.bool b1, .slice A1 n1 c1, .slice D1 m1 k1] 44)).alloc (.cells #[.bool b2, .slice A2 n2 c2, .slice D2 m2 k2] 44)) (w.heap.size + 1 + 1) (by simp) 44 #[.bool false, .slice none 0 0, .slice none 0 0])
  have y := (Below.refl ((w.alloc (.cells #[.bool b1, .slice A1 n1 c1, .slice D1 m1 k1] 44)).alloc (.cells #[.bool b2, .slice A2 n2 c2, .slice D2 m2 k2] 44)).heap.size ((w.alloc (.cells #[.bool b1, .slice A1 n1 c1, .slice D1 m1 k1] 44)).alloc (.cells #[.bool b2, .slice A2 n2 c2, .slice D2 m2 k2] 44))).alloc (Nat.le_refl _) (.cells #[.bool false, .slice none 0 0, .slice none 0 0] 44)
  replace K1 := hide (K1.out.below' y)
  replace K2 := hide (K2.out.below' y)
  replace b0 := hide (below_tr b0.out y)
  clear y
  go_wp2_with fail
  refine (rwithSub_P (h.out.below b0.out) (h'.out.below b0.out) (T.out.below b0.out)).mono ?_
  rintro e w1 ⟨v8, rfl, d0, r8⟩
  have bz := b0.out.size
  replace K1 := hide (K1.out.below' d0)
  replace K2 := hide (K2.out.below' d0)
  replace K3 := hide (K3.out.below' d0)
  replace b0 := hide (below_tr b0.out d0)
  have R8 := hide (r8.mono (B' := w.heap.size) bz)
  clear d0 bz
  clear r8
  obtain ⟨b8, A8, n8, c8, D8, m8, k8, rfl⟩ := R8.out.slice
  have K3c0 : w1.cell? ⟨w.heap.size + 1 + 1, 0, none⟩ = some (.bool false) := K3.out.at_ 0 rfl
  have K3c1 : w1.cell? ⟨w.heap.size + 1 + 1, 1, none⟩ = some (.slice none 0 0) := K3.out.at_ 1 rfl
  have K3c2 : w1.cell? ⟨w.heap.size + 1 + 1, 2, none⟩ = some (.slice none 0 0) := K3.out.at_ 2 rfl
  have p0 : w1.frozen? ⟨w.heap.size + 1 + 1, 0, none⟩ = false := K3.out.frozen 0
  have p1 : w1.frozen? ⟨w.heap.size + 1 + 1, 1, none⟩ = false := K3.out.frozen 1
  have p2 : w1.frozen? ⟨w.heap.size + 1 + 1, 2, none⟩ = false := K3.out.frozen 2
  go_wp2
  refine bodyPost_ret (v := .agg #[.bool b8, .slice A8 n8 c8, .slice D8 m8 k8]) (by simp [results, Tryd.results57, go_sem, K3c0, K3c1, K3c2, p0, p1, p2]) rfl ?_
  exact opq_end hR ⟨_, rfl, (by (repeat (first | exact b0 | exact Below.refl _ _ | refine Below.setCell ?_ (by first | (simp; done) | (simp; omega)) _ | refine Below.alloc ?_ (by first | (simp; done) | (simp; omega)) _))), R8.out.only K3.out (by decide) ((((Only.refl _ _).set _ _).set _ _).set _ _)⟩
set_option maxHeartbeats 1000000 in
theorem rMul_P {w : World} {v v' : Value} {p q : Rat} (h : RArg w v p) (h' : RArg w v' q) (hT : Tab w) :
    Calls Tryd.prog 47 #[v, v'] w fun e w' => ∃ u, e = .returned u ∧ Below w.heap.size w w' ∧ RatR (p * q) w.heap.size w' u := by
  refine opq fun R hR => ?_
  obtain ⟨b1, A1, n1, c1, D1, m1, k1, rfl⟩ := h.slice
  obtain ⟨b2, A2, n2, c2, D2, m2, k2, rfl⟩ := h'.slice
  have S1 := hide h.size
  have S2 := hide h'.size
  replace h := hide h
  replace h' := hide h'
  have T := hide hT
  clear hT
  go_enter Tryd.func47, Tryd.ntmps47
  have b0 := hide (Below.refl w.heap.size w)
  have K1 := hide (Blk.new_at w (w.heap.size) (by simp) 44 #[.bool b1, .slice A1 n1 c1, .slice D1 m1 k1])
  have y := (Below.refl w.heap.size w).alloc (Nat.le_refl _) (.cells #[.bool b1, .slice A1 n1 c1, .slice D1 m1 k1] 44)
  replace b0 := hide (below_tr b0.out y)
  clear y
  have K2 := hide (Blk.new_at (w.alloc (.cells #[.bool b1, .slice A1 n1 c1, .slice D1 m1 k1] 44)) (w.heap.size + 1) (by simp) 44 #[.bool b2, .slice A2 n2 c2, .slice D2 m2 k2])
  have y := (Below.refl (w.alloc (.cells #[.bool b1, .slice A1 n1 c1, .slice D1 m1 k1] 44)).heap.size (w.alloc (.cells #[.bool b1, .slice A1 n1 c1, .slice D1 m1 k1] 44))).alloc (Nat.le_refl _) (.cells #[.bool b2, .slice A2 n2 c2, .slice D2 m2 k2] 44)
  replace K1 := hide (K1.out.below' y)
  replace b0 := hide (below_tr b0.out y)
  clear y
  have K3 := hide (Blk.new_at ((w.alloc (.cells #[.bool b1, .slice A1 n1 c1, .slice D1 m1 k1] 44)).alloc (.cells #[.bool b2, .slice A2 n2 c2, .slice D2 m2 k2] 44)) (w.heap.size + 1 + 1) (by simp) 44 #[.bool false, .slice none 0 0, .slice none 0 0])
  have y := (Below.refl ((w.alloc (.cells #[.bool b1, .slice A1 n1 c1, .slice D1 m1 k1] 44)).alloc (.cells #[.bool b2, .slice A2 n2 c2, .slice D2 m2 k2] 44)).heap.size ((w.alloc (.cells #[.bool b1, .slice A1 n1 c1, .slice D1 m1 k1] 44)).alloc (.cells #[.bool b2, .slice A2 n2 c2, .slice D2 m2 k2] 44))).alloc (Nat.le_refl _) (.cells #[.bool false, .slice none 0 0, .slice none 0 0] 44)
  replace K1 := hide (K1.out.below' y)
  replace K2 := hide (K2.out.below' y)
  replace b0 := hide (below_tr b0.out y)
  clear y
  go_wp2
  obtain ⟨V1_0, hV⟩ : ∃ V, (((w.alloc (.cells #[.bool b1, .slice A1 n1 c1, .slice D1 m1 k1] 44)).alloc (.cells #[.bool b2, .slice A2 n2 c2, .slice D2 m2 k2] 44)).alloc (.cells #[.bool false, .slice none 0 0, .slice none 0 0] 44)) = V := ⟨_, rfl⟩
  rw [hV] at K1 K2 K3 b0
  rw [hV]
  clear hV
  refine wp_region_facts 4 (fun w' => Below V1_0.heap.size V1_0 w') [(5, (.rarg0 w p)), (6, (.rold w p w.heap.size)), (7, (.rarg0 w q)), (8, (.rold w q w.heap.size))] [false, false, false, false, false, true, true, true, true, false, false, false, false] mixed (by kernel_rfl) (by kernel_rfl) (by kernel_rfl) (fun _ _ h hb => h.trans (hb.mono h.size)) ((Below.refl _ _).drew) ⟨?_, ?_, ?_, ?_, trivial⟩ ?_
  · exact .load (.agg #[.bool b1, .slice A1 n1 c1, .slice D1 m1 k1]) (.inl rfl) rfl rfl (fun a w' hC hs hl => by rw [show a.eval (.tmp 2) = (.pointer (some ⟨w.heap.size, 0, none⟩) : Value) from (hs 2 (by kernel_rfl))]; exact ⟨ld_Rat_ ((K1.out.below' hC).at_ 0 rfl) ((K1.out.below' hC).at_ 1 rfl) ((K1.out.below' hC).at_ 2 rfl), h.out⟩)
  · exact .call (.inl rfl) rfl rfl fn_rof (fun a w' hC hs hl => rof_P (hl 5 (by kernel_rfl) (by kernel_rfl)) (b0.out.trans (hC.mono b0.out.size)) (T.out.below (b0.out.trans (hC.mono b0.out.size))) w.heap.size (Nat.le_trans b0.out.size hC.size))
  · exact .load (.agg #[.bool b2, .slice A2 n2 c2, .slice D2 m2 k2]) (.inl rfl) rfl rfl (fun a w' hC hs hl => by rw [show a.eval (.tmp 3) = (.pointer (some ⟨w.heap.size + 1, 0, none⟩) : Value) from (hs 3 (by kernel_rfl))]; exact ⟨ld_Rat_ ((K2.out.below' hC).at_ 0 rfl) ((K2.out.below' hC).at_ 1 rfl) ((K2.out.below' hC).at_ 2 rfl), h'.out⟩)
  · exact .call (.inl rfl) rfl rfl fn_rof (fun a w' hC hs hl => rof_P (hl 7 (by kernel_rfl) (by kernel_rfl)) (b0.out.trans (hC.mono b0.out.size)) (T.out.below (b0.out.trans (hC.mono b0.out.size))) w.heap.size (Nat.le_trans b0.out.size hC.size))
  intro f w1 hC hF _
  have P1 : ROld w p w.heap.size w1 (f 6) := hF 6 (by kernel_rfl)
  have P2 : ROld w q w.heap.size w1 (f 8) := hF 8 (by kernel_rfl)
  clear hF
  simp only [patch, List.drop]
  obtain ⟨b7, A7, n7, c7, D7, m7, k7, e7⟩ := P1.slice
  obtain ⟨b9, A9, n9, c9, D9, m9, k9, e9⟩ := P2.slice
  replace P1 := hide P1
  replace P2 := hide P2
  generalize f 6 = v7 at *
  generalize f 8 = v9 at *
  generalize f 5 = y6 at *
  generalize f 7 = y8 at *
  subst e7 e9
  replace K1 := hide (K1.out.below' hC)
  replace K2 := hide (K2.out.below' hC)
  replace K3 := hide (K3.out.below' hC)
  replace b0 := hide (b0.out.trans (hC.mono b0.out.size))
  clear hC
  have K1f0 : w1.frozen? ⟨w.heap.size, 0, none⟩ = false := K1.out.frozen 0
  have K1f1 : w1.frozen? ⟨w.heap.size, 1, none⟩ = false := K1.out.frozen 1
  have K1f2 : w1.frozen? ⟨w.heap.size, 2, none⟩ = false := K1.out.frozen 2
  have K2f0 : w1.frozen? ⟨w.heap.size + 1, 0, none⟩ = false := K2.out.frozen 0
  have K2f1 : w1.frozen? ⟨w.heap.size + 1, 1, none⟩ = false := K2.out.frozen 1
  have K2f2 : w1.frozen? ⟨w.heap.size + 1, 2, none⟩ = false := K2.out.frozen 2
  have K1c0 : w1.cell? ⟨w.heap.size, 0, none⟩ = some (.bool b1) := K1.out.at_ 0 rfl
  have K1c1 : w1.cell? ⟨w.heap.size, 1, none⟩ = some (.slice A1 n1 c1) := K1.out.at_ 1 rfl
  have K1c2 : w1.cell? ⟨w.heap.size, 2, none⟩ = some (.slice D1 m1 k1) := K1.out.at_ 2 rfl
  have K2c0 : w1.cell? ⟨w.heap.size + 1, 0, none⟩ = some (.bool b2) := K2.out.at_ 0 rfl
  have K2c1 : w1.cell? ⟨w.heap.size + 1, 1, none⟩ = some (.slice A2 n2 c2) := K2.out.at_ 1 rfl
  have K2c2 : w1.cell? ⟨w.heap.size + 1, 2, none⟩ = some (.slice D2 m2 k2) := K2.out.at_ 2 rfl
  go_wp2_with fail
  clear K1c0 K1c1 K1c2 K2c0 K2c1 K2c2
  clear K1f0 K1f1 K1f2 K2f0 K2f1 K2f2
  have F : Only (w.heap.size) w1 (((w1.setCell ⟨w.heap.size, 0, none⟩ (.bool b7)).setCell ⟨w.heap.size, 1, none⟩ (.slice A7 n7 c7)).setCell ⟨w.heap.size, 2, none⟩ (.slice D7 m7 k7)) := ((((Only.refl _ _).set _ _).set _ _).set _ _)
  replace P1 := hide (P1.out.only K1.out (by decide) F)
  replace P2 := hide (P2.out.only K1.out (by decide) F)
  replace K2 := hide (((K2.out.far (p := ⟨w.heap.size, 0, none⟩) (by first | (simp; done) | (simp; omega)) (.bool b7)).far (p := ⟨w.heap.size, 1, none⟩) (by first | (simp; done) | (simp; omega)) (.slice A7 n7 c7)).far (p := ⟨w.heap.size, 2, none⟩) (by first | (simp; done) | (simp; omega)) (.slice D7 m7 k7))
  replace K3 := hide (((K3.out.far (p := ⟨w.heap.size, 0, none⟩) (by first | (simp; done) | (simp; omega)) (.bool b7)).far (p := ⟨w.heap.size, 1, none⟩) (by first | (simp; done) | (simp; omega)) (.slice A7 n7 c7)).far (p := ⟨w.heap.size, 2, none⟩) (by first | (simp; done) | (simp; omega)) (.slice D7 m7 k7))
  have by_ : Hid (Below w.heap.size w (((w1.setCell ⟨w.heap.size, 0, none⟩ (.bool b7)).setCell ⟨w.heap.size, 1, none⟩ (.slice A7 n7 c7)).setCell ⟨w.heap.size, 2, none⟩ (.slice D7 m7 k7))) := (((b0.out.setCell (p := ⟨w.heap.size, 0, none⟩) (by first | exact Nat.le_refl _ | (simp; done) | (simp; omega)) (.bool b7)).setCell (p := ⟨w.heap.size, 1, none⟩) (by first | exact Nat.le_refl _ | (simp; done) | (simp; omega)) (.slice A7 n7 c7)).setCell (p := ⟨w.heap.size, 2, none⟩) (by first | exact Nat.le_refl _ | (simp; done) | (simp; omega)) (.slice D7 m7 k7))
  replace K1 : Hid (Blk (((w1.setCell ⟨w.heap.size, 0, none⟩ (.bool b7)).setCell ⟨w.heap.size, 1, none⟩ (.slice A7 n7 c7)).setCell ⟨w.heap.size, 2, none⟩ (.slice D7 m7 k7)) (w.heap.size) 44 #[.bool b7, .slice A7 n7 c7, .slice D7 m7 k7]) := (((K1.out.set_ 0 (.bool b7)).set_ 1 (.slice A7 n7 c7)).set_ 2 (.slice D7 m7 k7))
  replace b0 := by_
  clear by_ F
  have F : Only (w.heap.size + 1) (((w1.setCell ⟨w.heap.size, 0, none⟩ (.bool b7)).setCell ⟨w.heap.size, 1, none⟩ (.slice A7 n7 c7)).setCell ⟨w.heap.size, 2, none⟩ (.slice D7 m7 k7)) ((((((w1.setCell ⟨w.heap.size, 0, none⟩ (.bool b7)).setCell ⟨w.heap.size, 1, none⟩ (.slice A7 n7 c7)).setCell ⟨w.heap.size, 2, none⟩ (.slice D7 m7 k7)).setCell ⟨w.heap.size + 1, 0, none⟩ (.bool b9)).setCell ⟨w.heap.size + 1, 1, none⟩ (.slice A9 n9 c9)).setCell ⟨w.heap.size + 1, 2, none⟩ (.slice D9 m9 k9)) := ((((Only.refl _ _).set _ _).set _ _).set _ _)
  replace P1 := hide (P1.out.only K2.out (by decide) F)
  replace P2 := hide (P2.out.only K2.out (by decide) F)
  replace K1 := hide (((K1.out.far (p := ⟨w.heap.size + 1, 0, none⟩) (by first | (simp; done) | (simp; omega)) (.bool b9)).far (p := ⟨w.heap.size + 1, 1, none⟩) (by first | (simp; done) | (simp; omega)) (.slice A9 n9 c9)).far (p := ⟨w.heap.size + 1, 2, none⟩) (by first | (simp; done) | (simp; omega)) (.slice D9 m9 k9))
  replace K3 := hide (((K3.out.far (p := ⟨w.heap.size + 1, 0, none⟩) (by first | (simp; done) | (simp; omega)) (.bool b9)).far (p := ⟨w.heap.size + 1, 1, none⟩) (by first | (simp; done) | (simp; omega)) (.slice A9 n9 c9)).far (p := ⟨w.heap.size + 1, 2, none⟩) (by first | (simp; done) | (simp; omega)) (.slice D9 m9 k9))
  have by_ : Hid (Below w.heap.size w ((((((w1.setCell ⟨w.heap.size, 0, none⟩ (.bool b7)).setCell ⟨w.heap.size, 1, none⟩ (.slice A7 n7 c7)).setCell ⟨w.heap.size, 2, none⟩ (.slice D7 m7 k7)).setCell ⟨w.heap.size + 1, 0, none⟩ (.bool b9)).setCell ⟨w.heap.size + 1, 1, none⟩ (.slice A9 n9 c9)).setCell ⟨w.heap.size + 1, 2, none⟩ (.slice D9 m9 k9))) := (((b0.out.setCell (p := ⟨w.heap.size + 1, 0, none⟩) (by first | exact Nat.le_refl _ | (simp; done) | (simp; omega)) (.bool b9)).setCell (p := ⟨w.heap.size + 1, 1, none⟩) (by first | exact Nat.le_refl _ | (simp; done) | (simp; omega)) (.slice A9 n9 c9)).setCell (p := ⟨w.heap.size + 1, 2, none⟩) (by first | exact Nat.le_refl _ | (simp; done) | (simp; omega)) (.slice D9 m9 k9))
  replace K2 : Hid (Blk ((((((w1.setCell ⟨w.heap.size, 0, none⟩ (.bool b7)).setCell ⟨w.heap.size, 1, none⟩ (.slice A7 n7 c7)).setCell ⟨w.heap.size, 2, none⟩ (.slice D7 m7 k7)).setCell ⟨w.heap.size + 1, 0, none⟩ (.bool b9)).setCell ⟨w.heap.size + 1, 1, none⟩ (.slice A9 n9 c9)).setCell ⟨w.heap.size + 1, 2, none⟩ (.slice D9 m9 k9)) (w.heap.size + 1) 44 #[.bool b9, .slice A9 n9 c9, .slice D9 m9 k9]) := (((K2.out.set_ 0 (.bool b9)).set_ 1 (.slice A9 n9 c9)).set_ 2 (.slice D9 m9 k9))
  replace b0 := by_
  clear by_ F
  obtain ⟨V2_1, hV⟩ : ∃ V, ((((((w1.setCell ⟨w.heap.size, 0, none⟩ (.bool b7)).setCell ⟨w.heap.size, 1, none⟩ (.slice A7 n7 c7)).setCell ⟨w.heap.size, 2, none⟩ (.slice D7 m7 k7)).setCell ⟨w.heap.size + 1, 0, none⟩ (.bool b9)).setCell ⟨w.heap.size + 1, 1, none⟩ (.slice A9 n9 c9)).setCell ⟨w.heap.size + 1, 2, none⟩ (.slice D9 m9 k9)) = V := ⟨_, rfl⟩
  rw [hV] at K1 K2 K3 P1 P2 b0
  rw [hV]
  clear hV
  have C1 := hide (P1.out.can b0.out)
  have C2 := hide (P2.out.can b0.out)
  clear P1 P2
  refine (rwithMul_P (C1.out.arg S1.out) (C2.out.arg S2.out) (T.out.below b0.out) K1.out K2.out C1.out C2.out).mono ?_
  rintro e wz ⟨v8, rfl, d0, r8⟩
  have R8 := hide (r8.mono (B' := w.heap.size) b0.out.size)
  replace K1 := hide (K1.out.below' d0)
  replace K2 := hide (K2.out.below' d0)
  replace K3 := hide (K3.out.below' d0)
  replace C1 := hide (C1.out.below d0)
  replace C2 := hide (C2.out.below d0)
  replace b0 := hide (below_tr b0.out d0)
  clear r8 d0
  obtain ⟨b8, A8, n8, c8, D8, m8, k8, rfl⟩ := R8.out.slice
  have K3c0 : wz.cell? ⟨w.heap.size + 1 + 1, 0, none⟩ = some (.bool false) := K3.out.at_ 0 rfl
  have K3c1 : wz.cell? ⟨w.heap.size + 1 + 1, 1, none⟩ = some (.slice none 0 0) := K3.out.at_ 1 rfl
  have K3c2 : wz.cell? ⟨w.heap.size + 1 + 1, 2, none⟩ = some (.slice none 0 0) := K3.out.at_ 2 rfl
  have p0 : wz.frozen? ⟨w.heap.size + 1 + 1, 0, none⟩ = false := K3.out.frozen 0
  have p1 : wz.frozen? ⟨w.heap.size + 1 + 1, 1, none⟩ = false := K3.out.frozen 1
  have p2 : wz.frozen? ⟨w.heap.size + 1 + 1, 2, none⟩ = false := K3.out.frozen 2
  go_wp2
  refine bodyPost_ret (v := .agg #[.bool b8, .slice A8 n8 c8, .slice D8 m8 k8]) (by simp [results, Tryd.results47, go_sem, K3c0, K3c1, K3c2, p0, p1, p2]) rfl ?_
  exact opq_end hR ⟨_, rfl, (by (repeat (first | exact b0 | exact Below.refl _ _ | refine Below.setCell ?_ (by first | (simp; done) | (simp; omega)) _ | refine Below.alloc ?_ (by first | (simp; done) | (simp; omega)) _))), R8.out.only K3.out (by decide) ((((Only.refl _ _).set _ _).set _ _).set _ _)⟩
set_option maxHeartbeats 1000000 in
theorem rCmp_P {w : World} {v v' : Value} {p q : Rat} (h : RArg w v p) (h' : RArg w v' q) (hT : Tab w) :
    Calls Tryd.prog 43 #[v, v'] w fun e w' => ∃ u, e = .returned u ∧ Below w.heap.size w w' ∧ u = .int .i64 (cmpQ p q) := by
  refine opq fun R hR => ?_
  obtain ⟨b1, A1, n1, c1, D1, m1, k1, rfl⟩ := h.slice
  obtain ⟨b2, A2, n2, c2, D2, m2, k2, rfl⟩ := h'.slice
  have S1 := hide h.size
  have S2 := hide h'.size
  replace h := hide h
  replace h' := hide h'
  have T := hide hT
  clear hT
  go_enter Tryd.func43, Tryd.ntmps43
  have b0 := hide (Below.refl w.heap.size w)
  have K1 := hide (Blk.new_at w (w.heap.size) (by simp) 44 #[.bool b1, .slice A1 n1 c1, .slice D1 m1 k1])
  have y := (Below.refl w.heap.size w).alloc (Nat.le_refl _) (.cells #[.bool b1, .slice A1 n1 c1, .slice D1 m1 k1] 44)
  replace b0 := hide (below_tr b0.out y)
  clear y
  have K2 := hide (Blk.new_at (w.alloc (.cells #[.bool b1, .slice A1 n1 c1, .slice D1 m1 k1] 44)) (w.heap.size + 1) (by simp) 44 #[.bool b2, .slice A2 n2 c2, .slice D2 m2 k2])
  have y := (Below.refl (w.alloc (.cells #[.bool b1, .slice A1 n1 c1, .slice D1 m1 k1] 44)).heap.size (w.alloc (.cells #[.bool b1, .slice A1 n1 c1, .slice D1 m1 k1] 44))).alloc (Nat.le_refl _) (.cells #[.bool b2, .slice A2 n2 c2, .slice D2 m2 k2] 44)
  replace K1 := hide (K1.out.below' y)
  replace b0 := hide (below_tr b0.out y)
  clear y
  go_wp2_with fail
  refine (rcross_P (h.out.below b0.out) (h'.out.below b0.out) (T.out.below b0.out)).mono ?_
  rintro e w1 ⟨b3, A3, n3, c3, b4, A4, n4, c4, D5, m5, k5, rfl, d0, i1, i2, j3⟩
  replace K1 := hide (K1.out.below' d0)
  replace K2 := hide (K2.out.below' d0)
  replace b0 := hide (below_tr b0.out d0)
  have I1 := hide (i1)
  have I2 := hide (i2)
  have N3 := hide (j3)
  clear d0
  clear i1 i2 j3
  have K4 := hide (Blk.new_at w1 (w1.heap.size) (by simp) 91 #[.bool b3, .slice A3 n3 c3, .bool b4, .slice A4 n4 c4])
  have y := (Below.refl w1.heap.size w1).alloc (Nat.le_refl _) (.cells #[.bool b3, .slice A3 n3 c3, .bool b4, .slice A4 n4 c4] 91)
  replace K1 := hide (K1.out.below' y)
  replace K2 := hide (K2.out.below' y)
  replace I1 := hide (I1.out.below y)
  replace I2 := hide (I2.out.below y)
  replace N3 := hide (N3.out.below y)
  replace b0 := hide (below_tr b0.out y)
  clear y
  have X := hide (H_cross S1.out S2.out (Nat.le_refl _))
  go_wp2_with fail
  refine (iCmp_eq (ICan.arg I1.out (L_up X.out.1 (by decide))) (ICan.arg I2.out (L_up X.out.2.1 (by decide))) (cmpQ_cross p q)).mono ?_
  rintro e w2 ⟨_, rfl, d0, rfl⟩
  replace K1 := hide (K1.out.below' d0)
  replace K2 := hide (K2.out.below' d0)
  replace I1 := hide (I1.out.below d0)
  replace I2 := hide (I2.out.below d0)
  replace N3 := hide (N3.out.below d0)
  replace K4 := hide (K4.out.below' d0)
  replace b0 := hide (below_tr b0.out d0)
  clear d0
  go_wp2
  exact opq_end hR ⟨_, rfl, b0.out, rfl⟩
theorem field_Rat0 {w : World} {a b c : Value} : (Instr.field 44 (.agg #[a, b, c]) 0).run Tryd.prog w = .ok (.agg #[a, b]) w := by simp [Instr.field, asAgg, go_sem]
set_option maxHeartbeats 1000000 in
theorem rSign_P {w : World} {v : Value} {q : Rat} (h : RArg w v q) (hT : Tab w) :
    Calls Tryd.prog 56 #[v] w fun e w' => ∃ u, e = .returned u ∧ Below w.heap.size w w' ∧ u = .int .i64 (cmpQ q 0) := by
  refine opq fun R hR => ?_
  obtain ⟨b1, A1, n1, c1, D1, m1, k1, rfl⟩ := h.slice
  have S := hide h.size
  replace h := hide h
  have T := hide hT
  clear hT
  go_enter Tryd.func56, Tryd.ntmps56
  have b0 := hide (Below.refl w.heap.size w)
  have K1 := hide (Blk.new_at w (w.heap.size) (by simp) 44 #[.bool b1, .slice A1 n1 c1, .slice D1 m1 k1])
  have y := (Below.refl w.heap.size w).alloc (Nat.le_refl _) (.cells #[.bool b1, .slice A1 n1 c1, .slice D1 m1 k1] 44)
  replace b0 := hide (below_tr b0.out y)
  clear y
  go_wp2_with fail
  refine (rof_P h.out b0.out (T.out.below b0.out) w.heap.size b0.out.size).mono ?_
  rintro e w1 ⟨v8, rfl, d0, r8⟩
  replace K1 := hide (K1.out.below' d0)
  replace b0 := hide (below_tr b0.out d0)
  clear d0
  have C := hide (r8.can b0.out)
  clear r8
  obtain ⟨b8, A8, n8, c8, D8, m8, k8, rfl⟩ := C.out.slice
  have fl := field_Rat0 (w := w1) (a := .bool b8) (b := .slice A8 n8 c8) (c := .slice D8 m8 k8)
  go_wp2_with fail
  refine (iSign_P (ICan.arg C.out.num (L_up S.out.1 (by decide))) _ (cmpQ_zero q)).mono ?_
  rintro e w2 ⟨_, rfl, d0, rfl⟩
  replace K1 := hide (K1.out.below' d0)
  replace C := hide (C.out.below d0)
  replace b0 := hide (below_tr b0.out d0)
  clear d0
  go_wp2
  exact opq_end hR ⟨_, rfl, b0.out, rfl⟩
end Go.Proofs.YtfpnhggbfakdkaaDoor

/- rats: Div, Floor, Text; SameRat; the laws' of, same, great. -/
set_option linter.unusedVariables false
set_option linter.unusedSimpArgs false
set_option maxRecDepth 100000
namespace Go.Proofs.YtfpnhggbfakdkaaDoor
open Go.RowKit

set_option maxHeartbeats 2000000 in
theorem rDiv_ok {w : World} {v1 : Value} {q1 : Rat} (h1 : RCan w v1 q1) (s1 : H q1 100000000000) {v2 : Value} {q2 : Rat} (h2 : RCan w v2 q2) (s2 : H q2 100000000000) (hT : Tab w) (hq : q2 ≠ 0) :
    Calls Tryd.prog 40 #[v1, v2] w fun e w' => ∃ u, e = .returned (.tuple #[u, .int .i64 0]) ∧ Below w.heap.size w w' ∧ RatR (q1 / q2) w.heap.size w' u := by
  refine opq fun R hR => ?_
  obtain ⟨b1, A1, n1, c1, D1, m1, k1, rfl⟩ := h1.slice
  have S1 := hide s1
  replace h1 := hide h1
  clear s1
  obtain ⟨b2, A2, n2, c2, D2, m2, k2, rfl⟩ := h2.slice
  have S2 := hide s2
  replace h2 := hide h2
  clear s2
  have T := hide hT
  clear hT
  replace hq := hide hq
  have X := hide (H_cross S1.out S2.out (Nat.le_refl _))
  go_enter Tryd.func40, Tryd.ntmps40
  have b0 := hide (Below.refl w.heap.size w)
  have K1 := hide (Blk.new_at w (w.heap.size) (by simp) 44 #[.bool b1, .slice A1 n1 c1, .slice D1 m1 k1])
  have y := (Below.refl w.heap.size w).alloc (Nat.le_refl _) (.cells #[.bool b1, .slice A1 n1 c1, .slice D1 m1 k1] 44)
  replace b0 := hide (below_tr b0.out y)
  clear y
  have K2 := hide (Blk.new_at (w.alloc (.cells #[.bool b1, .slice A1 n1 c1, .slice D1 m1 k1] 44)) (w.heap.size + 1) (by simp) 44 #[.bool b2, .slice A2 n2 c2, .slice D2 m2 k2])
  have y := (Below.refl (w.alloc (.cells #[.bool b1, .slice A1 n1 c1, .slice D1 m1 k1] 44)).heap.size (w.alloc (.cells #[.bool b1, .slice A1 n1 c1, .slice D1 m1 k1] 44))).alloc (Nat.le_refl _) (.cells #[.bool b2, .slice A2 n2 c2, .slice D2 m2 k2] 44)
  replace K1 := hide (K1.out.below' y)
  replace b0 := hide (below_tr b0.out y)
  clear y
  have K3 := hide (Blk.new_at ((w.alloc (.cells #[.bool b1, .slice A1 n1 c1, .slice D1 m1 k1] 44)).alloc (.cells #[.bool b2, .slice A2 n2 c2, .slice D2 m2 k2] 44)) (w.heap.size + 1 + 1) (by simp) 44 #[.bool false, .slice none 0 0, .slice none 0 0])
  have y := (Below.refl ((w.alloc (.cells #[.bool b1, .slice A1 n1 c1, .slice D1 m1 k1] 44)).alloc (.cells #[.bool b2, .slice A2 n2 c2, .slice D2 m2 k2] 44)).heap.size ((w.alloc (.cells #[.bool b1, .slice A1 n1 c1, .slice D1 m1 k1] 44)).alloc (.cells #[.bool b2, .slice A2 n2 c2, .slice D2 m2 k2] 44))).alloc (Nat.le_refl _) (.cells #[.bool false, .slice none 0 0, .slice none 0 0] 44)
  replace K1 := hide (K1.out.below' y)
  replace K2 := hide (K2.out.below' y)
  replace b0 := hide (below_tr b0.out y)
  clear y
  have K1c0 : (((w.alloc (.cells #[.bool b1, .slice A1 n1 c1, .slice D1 m1 k1] 44)).alloc (.cells #[.bool b2, .slice A2 n2 c2, .slice D2 m2 k2] 44)).alloc (.cells #[.bool false, .slice none 0 0, .slice none 0 0] 44)).cell? ⟨w.heap.size, 0, none⟩ = some (.bool b1) := K1.out.at_ 0 rfl
  have K1c1 : (((w.alloc (.cells #[.bool b1, .slice A1 n1 c1, .slice D1 m1 k1] 44)).alloc (.cells #[.bool b2, .slice A2 n2 c2, .slice D2 m2 k2] 44)).alloc (.cells #[.bool false, .slice none 0 0, .slice none 0 0] 44)).cell? ⟨w.heap.size, 1, none⟩ = some (.slice A1 n1 c1) := K1.out.at_ 1 rfl
  have K1c2 : (((w.alloc (.cells #[.bool b1, .slice A1 n1 c1, .slice D1 m1 k1] 44)).alloc (.cells #[.bool b2, .slice A2 n2 c2, .slice D2 m2 k2] 44)).alloc (.cells #[.bool false, .slice none 0 0, .slice none 0 0] 44)).cell? ⟨w.heap.size, 2, none⟩ = some (.slice D1 m1 k1) := K1.out.at_ 2 rfl
  have K2c0 : (((w.alloc (.cells #[.bool b1, .slice A1 n1 c1, .slice D1 m1 k1] 44)).alloc (.cells #[.bool b2, .slice A2 n2 c2, .slice D2 m2 k2] 44)).alloc (.cells #[.bool false, .slice none 0 0, .slice none 0 0] 44)).cell? ⟨w.heap.size + 1, 0, none⟩ = some (.bool b2) := K2.out.at_ 0 rfl
  have K2c1 : (((w.alloc (.cells #[.bool b1, .slice A1 n1 c1, .slice D1 m1 k1] 44)).alloc (.cells #[.bool b2, .slice A2 n2 c2, .slice D2 m2 k2] 44)).alloc (.cells #[.bool false, .slice none 0 0, .slice none 0 0] 44)).cell? ⟨w.heap.size + 1, 1, none⟩ = some (.slice A2 n2 c2) := K2.out.at_ 1 rfl
  have K2c2 : (((w.alloc (.cells #[.bool b1, .slice A1 n1 c1, .slice D1 m1 k1] 44)).alloc (.cells #[.bool b2, .slice A2 n2 c2, .slice D2 m2 k2] 44)).alloc (.cells #[.bool false, .slice none 0 0, .slice none 0 0] 44)).cell? ⟨w.heap.size + 1, 2, none⟩ = some (.slice D2 m2 k2) := K2.out.at_ 2 rfl
  go_wp2_with fail
  refine (rCheck_P ((h1.out.below b0.out).prt (S1.out.up (by decide))) (T.out.below b0.out) true (rok_self _)).mono ?_
  rintro e w1 ⟨_, rfl, d0, rfl⟩
  replace K1 := hide (K1.out.below' d0)
  replace K2 := hide (K2.out.below' d0)
  replace K3 := hide (K3.out.below' d0)
  replace b0 := hide (below_tr b0.out d0)
  clear d0
  clear K1c0 K1c1 K1c2 K2c0 K2c1 K2c2
  have K1c0 : w1.cell? ⟨w.heap.size, 0, none⟩ = some (.bool b1) := K1.out.at_ 0 rfl
  have K1c1 : w1.cell? ⟨w.heap.size, 1, none⟩ = some (.slice A1 n1 c1) := K1.out.at_ 1 rfl
  have K1c2 : w1.cell? ⟨w.heap.size, 2, none⟩ = some (.slice D1 m1 k1) := K1.out.at_ 2 rfl
  have K2c0 : w1.cell? ⟨w.heap.size + 1, 0, none⟩ = some (.bool b2) := K2.out.at_ 0 rfl
  have K2c1 : w1.cell? ⟨w.heap.size + 1, 1, none⟩ = some (.slice A2 n2 c2) := K2.out.at_ 1 rfl
  have K2c2 : w1.cell? ⟨w.heap.size + 1, 2, none⟩ = some (.slice D2 m2 k2) := K2.out.at_ 2 rfl
  go_wp2_with fail
  refine (rCheck_P ((h2.out.below b0.out).prt (S2.out.up (by decide))) (T.out.below b0.out) true (rok_self _)).mono ?_
  rintro e w2 ⟨_, rfl, d0, rfl⟩
  replace K1 := hide (K1.out.below' d0)
  replace K2 := hide (K2.out.below' d0)
  replace K3 := hide (K3.out.below' d0)
  replace b0 := hide (below_tr b0.out d0)
  clear d0
  clear K1c0 K1c1 K1c2 K2c0 K2c1 K2c2
  have K1c0 : w2.cell? ⟨w.heap.size, 0, none⟩ = some (.bool b1) := K1.out.at_ 0 rfl
  have K1c1 : w2.cell? ⟨w.heap.size, 1, none⟩ = some (.slice A1 n1 c1) := K1.out.at_ 1 rfl
  have K1c2 : w2.cell? ⟨w.heap.size, 2, none⟩ = some (.slice D1 m1 k1) := K1.out.at_ 2 rfl
  have K2c0 : w2.cell? ⟨w.heap.size + 1, 0, none⟩ = some (.bool b2) := K2.out.at_ 0 rfl
  have K2c1 : w2.cell? ⟨w.heap.size + 1, 1, none⟩ = some (.slice A2 n2 c2) := K2.out.at_ 1 rfl
  have K2c2 : w2.cell? ⟨w.heap.size + 1, 2, none⟩ = some (.slice D2 m2 k2) := K2.out.at_ 2 rfl
  go_wp2_with fail
  refine (rcross_P ((h1.out.below b0.out).arg S1.out) ((h2.out.below b0.out).arg S2.out) (T.out.below b0.out)).mono ?_
  rintro e w3 ⟨b3, A3, n3, c3, b4, A4, n4, c4, D5, m5, k5, rfl, d0, i1, i2, _⟩
  replace K1 := hide (K1.out.below' d0)
  replace K2 := hide (K2.out.below' d0)
  replace K3 := hide (K3.out.below' d0)
  replace b0 := hide (below_tr b0.out d0)
  have I1 := hide (i1)
  have I2 := hide (i2)
  clear d0
  clear i1 i2
  clear K1c0 K1c1 K1c2 K2c0 K2c1 K2c2
  have K4 := hide (Blk.new_at w3 (w3.heap.size) (by simp) 91 #[.bool b3, .slice A3 n3 c3, .bool b4, .slice A4 n4 c4])
  have y := (Below.refl w3.heap.size w3).alloc (Nat.le_refl _) (.cells #[.bool b3, .slice A3 n3 c3, .bool b4, .slice A4 n4 c4] 91)
  replace K1 := hide (K1.out.below' y)
  replace K2 := hide (K2.out.below' y)
  replace K3 := hide (K3.out.below' y)
  replace I1 := hide (I1.out.below y)
  replace I2 := hide (I2.out.below y)
  replace b0 := hide (below_tr b0.out y)
  clear y
  have hn : Hid (q2.num * (q1.den : Int) ≠ 0) := Int.mul_ne_zero (fun e => hq.out (Rat.num_eq_zero.1 e)) (by have := q1.den_nz; omega)
  go_wp2_with fail
  refine (rMake_ok I1.out I2.out (L_up X.out.1 (by decide)) (L_up X.out.2.1 (by decide)) hn.out (T.out.below b0.out)).mono ?_
  rintro e w4 ⟨v8, rfl, d0, r8⟩
  have bz := b0.out.size
  replace K1 := hide (K1.out.below' d0)
  replace K2 := hide (K2.out.below' d0)
  replace K3 := hide (K3.out.below' d0)
  replace I1 := hide (I1.out.below d0)
  replace I2 := hide (I2.out.below d0)
  replace K4 := hide (K4.out.below' d0)
  replace b0 := hide (below_tr b0.out d0)
  have R8 := hide (r8.mono (B' := w.heap.size) bz)
  clear d0 bz
  clear r8
  obtain ⟨b8, A8, n8, c8, D8, m8, k8, rfl⟩ := R8.out.slice
  have K3c0 : w4.cell? ⟨w.heap.size + 1 + 1, 0, none⟩ = some (.bool false) := K3.out.at_ 0 rfl
  have K3c1 : w4.cell? ⟨w.heap.size + 1 + 1, 1, none⟩ = some (.slice none 0 0) := K3.out.at_ 1 rfl
  have K3c2 : w4.cell? ⟨w.heap.size + 1 + 1, 2, none⟩ = some (.slice none 0 0) := K3.out.at_ 2 rfl
  have p0 : w4.frozen? ⟨w.heap.size + 1 + 1, 0, none⟩ = false := K3.out.frozen 0
  have p1 : w4.frozen? ⟨w.heap.size + 1 + 1, 1, none⟩ = false := K3.out.frozen 1
  have p2 : w4.frozen? ⟨w.heap.size + 1 + 1, 2, none⟩ = false := K3.out.frozen 2
  go_wp2
  refine bodyPost_ret (v := .tuple #[.agg #[.bool b8, .slice A8 n8 c8, .slice D8 m8 k8], .int .i64 0]) (by simp [results, Tryd.results40, go_sem, K3c0, K3c1, K3c2, p0, p1, p2]) rfl ?_
  exact opq_end hR ⟨_, rfl, (by (repeat (first | exact b0 | exact Below.refl _ _ | refine Below.setCell ?_ (by first | (simp; done) | (simp; omega)) _ | refine Below.alloc ?_ (by first | (simp; done) | (simp; omega)) _))), (by rw [← div_cross]; exact R8.out.only K3.out (by decide) ((((Only.refl _ _).set _ _).set _ _).set _ _))⟩
abbrev GR : Type := (Option Addr × Nat × Nat) × (Option Addr × Nat × Nat)
end Go.Proofs.YtfpnhggbfakdkaaDoor

/- rats: Floor, Text; great of one, two, three. -/
set_option linter.unusedVariables false
set_option linter.unusedSimpArgs false
set_option maxRecDepth 100000
namespace Go.Proofs.YtfpnhggbfakdkaaDoor
open Go.RowKit

theorem NatR.len {N B : Nat} {w : World} {A : Option Addr} {n c : Nat} (h : NatR N B w (.slice A n c)) : n = 0 ↔ N = 0 := by
  obtain ⟨A', c', e, _⟩ := h
  cases e
  exact is_zero_len
/-- A fraction's text. -/
def rtxt (q : Rat) : List Nat := itxt q.num ++ (if q.den = 1 then [] else 47 :: txt q.den)
end Go.Proofs.YtfpnhggbfakdkaaDoor
