/- rats: contracts of Check, Of, lowest, Make, cross, Add, Sub, Mul, Cmp, Sign, Whole, Div, Floor, Text. -/
import Derived.Test.YtkefmeddnncacaaGreatDoorIA
import Derived.Test.YtkefmeddnncacaaGreatDoorFz
/- rats: words; is1. -/
set_option linter.unusedVariables false
set_option linter.unusedSimpArgs false
set_option maxRecDepth 100000
namespace Go.Proofs.YtkefmeddnncacaaGreatDoor
open Go.RowKit

abbrev TR : TypeId := 27
/-- A fraction as it is told: a sign and parts above, parts below, not too many. -/
def RPrt (w : World) (v : Value) (b : Bool) (xs ys : List Nat) : Prop := ∃ u d, v = .agg #[.bool b, u, d] ∧ Prt w u xs ∧ Prt w d ys
/-- The value reads as the fraction q, in lowest terms. -/
def RCan (w : World) (v : Value) (q : Rat) : Prop := ∃ u d, v = .agg #[.bool (decide (q.num < 0)), u, d] ∧ Can w u q.num.natAbs ∧ Can w d q.den
/-- .. in memory of its own from block B on. -/
def RatR (q : Rat) (B : Nat) (w : World) (v : Value) : Prop := ∃ u d, v = .agg #[.bool (decide (q.num < 0)), u, d] ∧ NatR q.num.natAbs B w u ∧ NatR q.den B w d ∧ Sep u d
/-- A fraction of whatever kind, not too long, that counts as q. -/
def RArg (w : World) (v : Value) (q : Rat) : Prop := ∃ b xs ys, RPrt w v b xs ys ∧ xs.length ≤ 100000000000 ∧ ys.length ≤ 100000000000 ∧ rv b xs ys = q
theorem RPrt.below {w w' : World} {v : Value} {b : Bool} {xs ys : List Nat} (h : RPrt w v b xs ys) (hb : Below w.heap.size w w') : RPrt w' v b xs ys := by
  obtain ⟨u, d, e, h1, h2⟩ := h
  exact ⟨u, d, e, h1.below hb, h2.below hb⟩
theorem RCan.below {w w' : World} {v : Value} {q : Rat} (h : RCan w v q) (hb : Below w.heap.size w w') : RCan w' v q := by
  obtain ⟨u, d, e, h1, h2⟩ := h
  exact ⟨u, d, e, h1.below hb, h2.below hb⟩
theorem RatR.below {q : Rat} {B : Nat} {w w' : World} {v : Value} (h : RatR q B w v) (hb : Below w.heap.size w w') : RatR q B w' v := by
  obtain ⟨u, d, e, h1, h2, h3⟩ := h
  exact ⟨u, d, e, h1.below hb, h2.below hb, h3⟩
theorem RArg.below {w w' : World} {v : Value} {q : Rat} (h : RArg w v q) (hb : Below w.heap.size w w') : RArg w' v q := by
  obtain ⟨b, xs, ys, h1, h2⟩ := h
  exact ⟨b, xs, ys, h1.below hb, h2⟩
theorem RatR.mono {q : Rat} {B B' : Nat} {w : World} {v : Value} (h : RatR q B w v) (hB : B' ≤ B) : RatR q B' w v := by
  obtain ⟨u, d, e, h1, h2, h3⟩ := h
  exact ⟨u, d, e, h1.mono hB, h2.mono hB, h3⟩
theorem RatR.can {q : Rat} {B : Nat} {w : World} {v : Value} (h : RatR q B w v) : RCan w v q := by
  obtain ⟨u, d, e, h1, h2, h3⟩ := h
  exact ⟨u, d, e, h1.can, h2.can⟩
theorem RatR.only {q : Rat} {B g : Nat} {w W : World} {v : Value} {t : TypeId} {cs : Array Value} (h : RatR q B w v) (hb : Blk w g t cs) (ht : T32 ≠ t) (F : Only g w W) : RatR q B W v := by
  obtain ⟨u, d, e, h1, h2, h3⟩ := h
  exact ⟨u, d, e, h1.only hb ht F, h2.only hb ht F, h3⟩
theorem Can.slice {w : World} {v : Value} {N : Nat} (h : Can w v N) : ∃ A n c, v = .slice A n c := by
  obtain ⟨A, c, q, _⟩ := h; exact ⟨A, _, c, q⟩
theorem Prt.slice {w : World} {v : Value} {xs : List Nat} (h : Prt w v xs) : ∃ A n c, v = .slice A n c ∧ xs.length = n := by
  obtain ⟨A, n, c, e, h1, h2, h3, h4⟩ := h; exact ⟨A, n, c, e, h3.1⟩
theorem NatR.slice {N B : Nat} {w : World} {v : Value} (h : NatR N B w v) : ∃ A n c, v = .slice A n c := h.can.slice
theorem RCan.slice {w : World} {v : Value} {q : Rat} (h : RCan w v q) : ∃ b A n c D m k, v = .agg #[.bool b, .slice A n c, .slice D m k] := by
  obtain ⟨u, d, e, h1, h2⟩ := h
  obtain ⟨A, n, c, rfl⟩ := h1.slice
  obtain ⟨D, m, k, rfl⟩ := h2.slice
  exact ⟨_, A, n, c, D, m, k, e⟩
theorem RatR.slice {w : World} {v : Value} {q : Rat} {B : Nat} (h : RatR q B w v) : ∃ b A n c D m k, v = .agg #[.bool b, .slice A n c, .slice D m k] := h.can.slice
theorem RArg.slice {w : World} {v : Value} {q : Rat} (h : RArg w v q) : ∃ b A n c D m k, v = .agg #[.bool b, .slice A n c, .slice D m k] := by
  obtain ⟨b, xs, ys, ⟨u, d, e, h1, h2⟩, _⟩ := h
  obtain ⟨A, n, c, rfl, _⟩ := h1.slice
  obtain ⟨D, m, k, rfl, _⟩ := h2.slice
  exact ⟨b, A, n, c, D, m, k, e⟩
theorem RArg.size {w : World} {v : Value} {q : Rat} (h : RArg w v q) : H q 100000000000 := by
  obtain ⟨b, xs, ys, ⟨u, d, e, h1, h2⟩, l1, l2, rfl⟩ := h
  exact H_rv h1.is32 h2.is32 l1 l2 (by decide)
theorem RPrt.can {w : World} {v : Value} {b : Bool} {xs ys : List Nat} (h : RPrt w v b xs ys) (hr : rok b xs ys = true) : RCan w v (rv b xs ys) := by
  obtain ⟨u, d, rfl, h1, h2⟩ := h
  obtain ⟨e1, e2⟩ := rv_ok hr
  obtain ⟨p1, p2, p3, p4⟩ := rok_parts hr
  refine ⟨u, d, by rw [e1, iok_neg p1], ?_, ?_⟩
  · rw [e1, iok_abs p1]; exact h1.can (iok_chk p1)
  · rw [e2]; exact h2.can p2
theorem RCan.prt {w : World} {v : Value} {q : Rat} (h : RCan w v q) (hl : H q 4398046511104) : RPrt w v (decide (q.num < 0)) (limbs q.num.natAbs) (limbs q.den) := by
  obtain ⟨u, d, e, h1, h2⟩ := h
  exact ⟨u, d, e, h1.prt hl.1, h2.prt hl.2⟩
theorem RCan.arg {w : World} {v : Value} {q : Rat} (h : RCan w v q) (hl : H q 100000000000) : RArg w v q :=
  ⟨_, _, _, h.prt (hl.up (by decide)), hl.1, hl.2, rv_self q⟩
theorem RCan.num {w : World} {b : Bool} {u d : Value} {q : Rat} (h : RCan w (.agg #[.bool b, u, d]) q) : ICan w (.agg #[.bool b, u]) q.num := by
  obtain ⟨u', d', e, h1, h2⟩ := h
  cases e
  exact ⟨u, rfl, h1⟩
theorem RCan.den {w : World} {b : Bool} {u d : Value} {q : Rat} (h : RCan w (.agg #[.bool b, u, d]) q) : Can w d q.den := by
  obtain ⟨u', d', e, h1, h2⟩ := h
  cases e
  exact h2
def Fact.rat (q : Rat) : Fact := ⟨fun v w => RCan w v q, fun _ _ _ h hb => h.below hb⟩
def Fact.ratR (q : Rat) (B : Nat) : Fact := ⟨fun v w => RatR q B w v, fun _ _ _ h hb => h.below hb⟩
def Fact.rarg0 (w : World) (q : Rat) : Fact := ⟨fun v _ => RArg w v q, fun _ _ _ h _ => h⟩
def Fact.rat0 (w : World) (q : Rat) : Fact := ⟨fun v _ => RCan w v q, fun _ _ _ h _ => h⟩

/-! ### contracts of what lies below, in one form -/
theorem iCheck_P {w : World} {v : Value} {b : Bool} {xs : List Nat} (h : IPrt w v b xs) (r : Bool) (hr : iok b xs = r) :
    Calls Tryz.prog 88 #[v] w fun e w' => ∃ u, e = .returned u ∧ Below w.heap.size w w' ∧ u = .bool r :=
  (iCheck_ok h).mono fun e w' ⟨h1, h2⟩ => ⟨_, h1, h2.out, by rw [hr]⟩
theorem nCheck_P {w : World} {v : Value} {xs : List Nat} (h : Prt w v xs) (r : Bool) (hr : chk xs = r) :
    Calls Tryz.prog 89 #[v] w fun e w' => ∃ u, e = .returned u ∧ Below w.heap.size w w' ∧ u = .bool r :=
  (Check_prt h).mono fun e w' ⟨h1, h2⟩ => ⟨_, h1, h2 ▸ Below.refl _ _, by rw [hr]⟩
theorem nGcd_P {w : World} {v v' : Value} {M N : Nat} (h : Arg w v M) (h' : Arg w v' N) (hT : Tab w) :
    Calls Tryz.prog 91 #[v, v'] w fun e w' => ∃ u, e = .returned u ∧ Below w.heap.size w w' ∧ NatR (Nat.gcd M N) w.heap.size w' u :=
  (Gcd_arg h h' hT).mono fun e w' ⟨u, e1, h1, h2⟩ => ⟨u, e1, h2.out, h1.out⟩
theorem nDiv_P {w : World} {v v' : Value} {M N : Nat} (h : Can w v M) (h' : Can w v' N) (s : L M ≤ 4398046511104) (s' : L N ≤ 4398046511104) (hl : N ≠ 0) :
    Calls Tryz.prog 70 #[v, v'] w fun e w' => ∃ q t, e = .returned (.tuple #[q, t, .int .i64 0]) ∧ Below w.heap.size w w' ∧ NatR (M / N) w.heap.size w' q ∧ NatR (M % N) w.heap.size w' t :=
  (Div_pos h h' s s' hl).mono fun e w' ⟨q, t, e1, h1, h2, h3, h4⟩ => ⟨q, t, e1, h4.out, h1.out, h2.out⟩
set_option maxHeartbeats 400000 in
theorem is1_P {w : World} {v : Value} {N : Nat} (h : Can w v N) (r : Bool) (hr : decide (N = 1) = r) :
    Calls Tryz.prog 90 #[v] w fun e w' => ∃ u, e = .returned u ∧ Below w.heap.size w w' ∧ u = .bool r := by
  refine opq fun R hR => ?_
  subst hr
  obtain ⟨A, c, rfl, l, rd⟩ := h
  by_cases h1 : (limbs N).length = 1
  · have hs : N < 4294967296 := by have := (@limbs_length_le N 1).1 (by omega); simpa using this
    have hp : 0 < N := by
      rcases Nat.eq_zero_or_pos N with h0 | h0
      · subst h0; rw [limbs_zero] at h1; simp at h1
      · exact h0
    have e := limbs_small hp hs
    rw [e] at rd ⊢
    obtain ⟨ad, rfl, hl, hc⟩ := rd.2.2 (by simp)
    have h0 := hc 0 (by simp)
    simp only [List.getD_cons_zero] at h0
    rw [show ad.add 0 = ad from by unfold Addr.add; split <;> simp_all] at h0
    clear hc rd l e h1
    by_cases hN : N = 1
    · subst hN
      show Calls _ _ #[.slice (some ad) 1 c] _ _
      go_enter Tryz.func90, Tryz.ntmps90
      go_wp2
      exact opq_end hR ⟨_, rfl, Below.refl _ _, rfl⟩
    · have e1 : Hid (decide (N = 1) = false) := by show _ = _; simpa using hN
      have e2 : ((N : Int) == 1) = false := by simp; omega
      show Calls _ _ #[.slice (some ad) 1 c] _ _
      go_enter Tryz.func90, Tryz.ntmps90
      go_wp2
      exact opq_end hR ⟨_, rfl, Below.refl _ _, by first | (rw [e1.out]; done) | (rw [e1.out]; rfl)⟩
  · have e1 : Hid (decide (N = 1) = false) := by
      show _ = _
      rw [decide_eq_false_iff_not]
      intro e; subst e
      exact h1 (by rw [limbs_small (by omega) (by omega)]; rfl)
    have e2 : (((limbs N).length : Int) == 1) = false := by
      simp only [beq_eq_false_iff_ne, ne_eq]
      omega
    clear rd l
    generalize (limbs N).length = n at *
    go_enter Tryz.func90, Tryz.ntmps90
    go_wp2
    exact opq_end hR ⟨_, rfl, Below.refl _ _, by first | (rw [e1.out]; done) | (rw [e1.out]; rfl)⟩
end Go.Proofs.YtkefmeddnncacaaGreatDoor

/- rats: Check, Of, of, lowest, Make. -/
set_option linter.unusedVariables false
set_option linter.unusedSimpArgs false
set_option maxRecDepth 100000
namespace Go.Proofs.YtkefmeddnncacaaGreatDoor
open Go.RowKit

set_option maxHeartbeats 1000000 in
theorem rCheck_P {w : World} {v : Value} {b : Bool} {xs ys : List Nat} (h : RPrt w v b xs ys) (hT : Tab w) (r : Bool) (hr : rok b xs ys = r) :
    Calls Tryz.prog 14 #[v] w fun e w' => ∃ u, e = .returned u ∧ Below w.heap.size w w' ∧ u = .bool r := by
  refine opq fun R hR => ?_
  obtain ⟨u, d, rfl, U, V⟩ := h
  obtain ⟨A, n, c, rfl, _⟩ := U.slice
  obtain ⟨D, m, k, rfl, lm⟩ := V.slice
  have em : Hid (ys.isEmpty = decide (m = 0)) := by
    show _ = _
    rw [Bool.eq_iff_iff, List.isEmpty_iff, decide_eq_true_eq, ← lm]
    exact List.length_eq_zero_iff.symm
  clear lm
  replace U := hide U
  replace V := hide V
  have T := hide hT
  clear hT
  replace hr := hide hr
  go_enter Tryz.func14, Tryz.ntmps14
  have b0 := hide (Below.refl w.heap.size w)
  have K := hide (Blk.new_at w (w.heap.size) (by simp) 27 #[.bool b, .slice A n c, .slice D m k])
  have y := (Below.refl w.heap.size w).alloc (Nat.le_refl _) (.cells #[.bool b, .slice A n c, .slice D m k] 27)
  replace b0 := hide (below_tr b0.out y)
  clear y
  replace U := hide (U.out.below b0.out)
  replace V := hide (V.out.below b0.out)
  replace T := hide (T.out.below b0.out)
  have Kc0 : (w.alloc (.cells #[.bool b, .slice A n c, .slice D m k] 27)).cell? ⟨w.heap.size, 0, none⟩ = some (.bool b) := K.out.at_ 0 rfl
  have Kc1 : (w.alloc (.cells #[.bool b, .slice A n c, .slice D m k] 27)).cell? ⟨w.heap.size, 1, none⟩ = some (.slice A n c) := K.out.at_ 1 rfl
  have Kc2 : (w.alloc (.cells #[.bool b, .slice A n c, .slice D m k] 27)).cell? ⟨w.heap.size, 2, none⟩ = some (.slice D m k) := K.out.at_ 2 rfl
  cases p1 : iok b xs
  case false =>
    go_wp2_with fail
    refine (iCheck_P (b := b) ⟨_, rfl, U.out⟩ false p1).mono ?_
    rintro e w1 ⟨_, rfl, d0, rfl⟩
    replace K := hide (K.out.below' d0)
    replace U := hide (U.out.below d0)
    replace V := hide (V.out.below d0)
    replace T := hide (T.out.below d0)
    replace b0 := hide (below_tr b0.out d0)
    clear d0
    clear Kc0 Kc1 Kc2
    have Kc0 : w1.cell? ⟨w.heap.size, 0, none⟩ = some (.bool b) := K.out.at_ 0 rfl
    have Kc1 : w1.cell? ⟨w.heap.size, 1, none⟩ = some (.slice A n c) := K.out.at_ 1 rfl
    have Kc2 : w1.cell? ⟨w.heap.size, 2, none⟩ = some (.slice D m k) := K.out.at_ 2 rfl
    replace p1 := hide p1
    go_wp2
    exact opq_end hR ⟨_, rfl, b0.out, by rw [← hr.out]; simp [rok, p1.out]⟩
  case true =>
    go_wp2_with fail
    refine (iCheck_P (b := b) ⟨_, rfl, U.out⟩ true p1).mono ?_
    rintro e w1 ⟨_, rfl, d0, rfl⟩
    replace K := hide (K.out.below' d0)
    replace U := hide (U.out.below d0)
    replace V := hide (V.out.below d0)
    replace T := hide (T.out.below d0)
    replace b0 := hide (below_tr b0.out d0)
    clear d0
    clear Kc0 Kc1 Kc2
    have Kc0 : w1.cell? ⟨w.heap.size, 0, none⟩ = some (.bool b) := K.out.at_ 0 rfl
    have Kc1 : w1.cell? ⟨w.heap.size, 1, none⟩ = some (.slice A n c) := K.out.at_ 1 rfl
    have Kc2 : w1.cell? ⟨w.heap.size, 2, none⟩ = some (.slice D m k) := K.out.at_ 2 rfl
    replace p1 := hide p1
    cases p2 : chk ys
    case false =>
      go_wp2_with fail
      refine (nCheck_P V.out false p2).mono ?_
      rintro e w2 ⟨_, rfl, d0, rfl⟩
      replace K := hide (K.out.below' d0)
      replace U := hide (U.out.below d0)
      replace V := hide (V.out.below d0)
      replace T := hide (T.out.below d0)
      replace b0 := hide (below_tr b0.out d0)
      clear d0
      clear Kc0 Kc1 Kc2
      have Kc0 : w2.cell? ⟨w.heap.size, 0, none⟩ = some (.bool b) := K.out.at_ 0 rfl
      have Kc1 : w2.cell? ⟨w.heap.size, 1, none⟩ = some (.slice A n c) := K.out.at_ 1 rfl
      have Kc2 : w2.cell? ⟨w.heap.size, 2, none⟩ = some (.slice D m k) := K.out.at_ 2 rfl
      replace p2 := hide p2
      go_wp2
      exact opq_end hR ⟨_, rfl, b0.out, by rw [← hr.out]; simp [rok, p2.out]⟩
    case true =>
      go_wp2_with fail
      refine (nCheck_P V.out true p2).mono ?_
      rintro e w2 ⟨_, rfl, d0, rfl⟩
      replace K := hide (K.out.below' d0)
      replace U := hide (U.out.below d0)
      replace V := hide (V.out.below d0)
      replace T := hide (T.out.below d0)
      replace b0 := hide (below_tr b0.out d0)
      clear d0
      clear Kc0 Kc1 Kc2
      have Kc0 : w2.cell? ⟨w.heap.size, 0, none⟩ = some (.bool b) := K.out.at_ 0 rfl
      have Kc1 : w2.cell? ⟨w.heap.size, 1, none⟩ = some (.slice A n c) := K.out.at_ 1 rfl
      have Kc2 : w2.cell? ⟨w.heap.size, 2, none⟩ = some (.slice D m k) := K.out.at_ 2 rfl
      replace p2 := hide p2
      by_cases p3 : m = 0
      case pos =>
        subst p3
        go_wp2
        exact opq_end hR ⟨_, rfl, b0.out, by rw [← hr.out]; simp [rok, em.out]⟩
      have p4 : 0 < m := by omega
      have e3 : Hid (ys.isEmpty = false) := by show _ = _; rw [em.out]; simpa using p3
      clear p3 em
      go_wp2_with fail
      refine (nGcd_P U.out.arg V.out.arg T.out).mono ?_
      rintro e w3 ⟨gv, rfl, d0, gr⟩
      replace K := hide (K.out.below' d0)
      replace U := hide (U.out.below d0)
      replace V := hide (V.out.below d0)
      replace T := hide (T.out.below d0)
      replace b0 := hide (below_tr b0.out d0)
      have G := hide (gr.can)
      clear d0
      clear Kc0 Kc1 Kc2
      have Kc0 : w3.cell? ⟨w.heap.size, 0, none⟩ = some (.bool b) := K.out.at_ 0 rfl
      have Kc1 : w3.cell? ⟨w.heap.size, 1, none⟩ = some (.slice A n c) := K.out.at_ 1 rfl
      have Kc2 : w3.cell? ⟨w.heap.size, 2, none⟩ = some (.slice D m k) := K.out.at_ 2 rfl
      clear gr
      obtain ⟨Ag, ng, cg, rfl⟩ := G.out.slice
      go_wp2_with fail
      refine (is1_P G.out _ rfl).mono ?_
      rintro e w4 ⟨_, rfl, d0, rfl⟩
      replace K := hide (K.out.below' d0)
      replace U := hide (U.out.below d0)
      replace V := hide (V.out.below d0)
      replace T := hide (T.out.below d0)
      replace G := hide (G.out.below d0)
      replace b0 := hide (below_tr b0.out d0)
      clear d0
      clear Kc0 Kc1 Kc2
      have Kc0 : w4.cell? ⟨w.heap.size, 0, none⟩ = some (.bool b) := K.out.at_ 0 rfl
      have Kc1 : w4.cell? ⟨w.heap.size, 1, none⟩ = some (.slice A n c) := K.out.at_ 1 rfl
      have Kc2 : w4.cell? ⟨w.heap.size, 2, none⟩ = some (.slice D m k) := K.out.at_ 2 rfl
      have ef : decide (Nat.gcd (nv xs) (nv ys) = 1) = r := by rw [← hr.out]; simp only [rok, p1.out, p2.out, e3.out, Bool.true_and, Bool.not_false]
      go_wp2
      exact opq_end hR ⟨_, rfl, b0.out, rfl⟩
/-- Parts that are written out, in memory of its own. -/
theorem litR_at (w : World) (g : Nat) (hg : w.heap.size = g) (xs : List Nat) (N : Nat) (hN : val xs = N) (h : Is32 xs) (hc : chk xs = true) (hl : xs.length ≤ 1000) (B : Nat) (hB : B ≤ g) (cs : Array Value) (hcs : cellsOf .u32 xs = cs) : NatR N B (w.alloc (.cells cs T32)) (.slice (some ⟨g, 0, none⟩) xs.length xs.length) := by
  subst hg hN hcs
  have e := limbs_val_chk h hc
  have k := Blk.new w T32 (cellsOf .u32 xs)
  refine ⟨_, xs.length, by rw [e], ?_, .inr ⟨_, _, rfl, hB, k, by rw [cellsOf_size]; exact Nat.le_refl _⟩, by rw [e]; exact Nat.le_refl _⟩
  rw [e]
  have := k.rd xs.length (Nat.le_refl _) (by omega)
  rwa [List.take_length] at this
set_option maxHeartbeats 1000000 in
theorem rOf_P (w : World) (n : Int) (h0 : -9223372036854775808 ≤ n) (h1 : n < 9223372036854775808) :
    Calls Tryz.prog 149 #[.int .i64 n] w fun e w' => ∃ u, e = .returned u ∧ Below w.heap.size w w' ∧ RatR (n : Rat) w.heap.size w' u := by
  refine opq fun R hR => ?_
  go_enter Tryz.func149, Tryz.ntmps149
  have b0 := hide (Below.refl w.heap.size w)
  have K := hide (Blk.new_at w (w.heap.size) (by simp) 27 #[.bool false, .slice none 0 0, .slice none 0 0])
  have y := (Below.refl w.heap.size w).alloc (Nat.le_refl _) (.cells #[.bool false, .slice none 0 0, .slice none 0 0] 27)
  replace b0 := hide (below_tr b0.out y)
  clear y
  go_wp2_with fail
  refine (iOf_ok _ n h0 h1).mono ?_
  rintro e w1 ⟨v9, rfl, d0, r9⟩
  replace K := hide (K.out.below' d0)
  replace b0 := hide (below_tr b0.out d0)
  have R9 := hide (r9.mono (B' := w.heap.size) (by simp))
  clear d0
  clear r9
  obtain ⟨b9, A9, n9, c9, rfl⟩ := R9.out.slice
  have x0 := hide (litR_at w1 (w1.heap.size) (by simp) [1] 1 rfl (is32d (by decide)) (by decide) (by decide) w.heap.size b0.out.size #[.int .u32 1] rfl)
  have xs0 : Hid (Sep (.slice A9 n9 c9) (.slice (some ⟨w1.heap.size, 0, none⟩) 1 1)) := by
    obtain ⟨u, e, hn⟩ := R9.out
    cases e
    exact hn.sep (litR_at w1 (w1.heap.size) (by simp) [1] 1 rfl (is32d (by decide)) (by decide) (by decide) _ (Nat.le_refl _) #[.int .u32 1] rfl)
  have y := (Below.refl w1.heap.size w1).alloc (Nat.le_refl _) (.cells #[.int .u32 1] T32)
  replace K := hide (K.out.below' y)
  replace R9 := hide (R9.out.below y)
  replace b0 := hide (below_tr b0.out y)
  clear y
  have Q : Hid (RatR (n : Rat) w.heap.size (w1.alloc (.cells #[.int .u32 1] T32)) (.agg #[.bool b9, .slice A9 n9 c9, .slice (some ⟨w1.heap.size, 0, none⟩) 1 1])) := by
    obtain ⟨u, e, hn⟩ := R9.out
    cases e
    exact ⟨_, _, rfl, hn, x0.out, xs0.out⟩
  have Kc0 : (w1.alloc (.cells #[.int .u32 1] T32)).cell? ⟨w.heap.size, 0, none⟩ = some (.bool false) := K.out.at_ 0 rfl
  have Kc1 : (w1.alloc (.cells #[.int .u32 1] T32)).cell? ⟨w.heap.size, 1, none⟩ = some (.slice none 0 0) := K.out.at_ 1 rfl
  have Kc2 : (w1.alloc (.cells #[.int .u32 1] T32)).cell? ⟨w.heap.size, 2, none⟩ = some (.slice none 0 0) := K.out.at_ 2 rfl
  have p0 : (w1.alloc (.cells #[.int .u32 1] T32)).frozen? ⟨w.heap.size, 0, none⟩ = false := K.out.frozen 0
  have p1 : (w1.alloc (.cells #[.int .u32 1] T32)).frozen? ⟨w.heap.size, 1, none⟩ = false := K.out.frozen 1
  have p2 : (w1.alloc (.cells #[.int .u32 1] T32)).frozen? ⟨w.heap.size, 2, none⟩ = false := K.out.frozen 2
  go_wp2
  refine bodyPost_ret (v := .agg #[.bool b9, .slice A9 n9 c9, .slice (some ⟨w1.heap.size, 0, none⟩) 1 1]) (by simp [results, Tryz.results149, go_sem, Kc0, Kc1, Kc2, p0, p1, p2]) rfl ?_
  exact opq_end hR ⟨_, rfl, (by (repeat (first | exact b0 | exact Below.refl _ _ | refine Below.setCell ?_ (by first | (simp; done) | (simp; omega)) _ | refine Below.alloc ?_ (by first | (simp; done) | (simp; omega)) _))), Q.out.only K.out (by decide) ((((Only.refl _ _).set _ _).set _ _).set _ _)⟩
end Go.Proofs.YtkefmeddnncacaaGreatDoor

/- rats: lowest, of, Make. -/
set_option linter.unusedVariables false
set_option linter.unusedSimpArgs false
set_option maxRecDepth 100000
namespace Go.Proofs.YtkefmeddnncacaaGreatDoor
open Go.RowKit

theorem low_num {z : Int} {d : Nat} (hd : d ≠ 0) : (mkRat z d).num.natAbs = z.natAbs / Nat.gcd z.natAbs d ∧ (mkRat z d).den = d / Nat.gcd z.natAbs d ∧ decide ((mkRat z d).num < 0) = decide (z < 0) := ⟨mk_num_abs hd, mk_den hd, mk_neg hd⟩
theorem low_pos {z : Int} {d : Nat} (hz : z < 0) : 0 < z.natAbs / Nat.gcd z.natAbs d := by
  have h0 : 0 < z.natAbs := by omega
  exact Nat.div_pos (Nat.gcd_le_left _ h0) (Nat.gcd_pos_of_pos_left _ h0)
theorem ratR_mk {q : Rat} {B : Nat} {w : World} {u d : Value} {b : Bool} {N M : Nat} (h : NatR N B w u) (h' : NatR M B w d) (hs : Sep u d) (e1 : q.num.natAbs = N) (e2 : q.den = M) (e3 : decide (q.num < 0) = b) : RatR q B w (.agg #[.bool b, u, d]) := by
  subst e1 e2 e3
  exact ⟨u, d, rfl, h, h', hs⟩
set_option maxHeartbeats 1000000 in
theorem rlowest_P {w : World} {v v' : Value} {z : Int} {d : Nat} (h : ICan w v z) (h' : Can w v' d) (s : L z.natAbs ≤ 4398046511104) (s' : L d ≤ 4398046511104) (hd : d ≠ 0) (hT : Tab w) :
    Calls Tryz.prog 80 #[v, v'] w fun e w' => ∃ u, e = .returned u ∧ Below w.heap.size w w' ∧ RatR (mkRat z d) w.heap.size w' u := by
  refine opq fun R hR => ?_
  obtain ⟨u, rfl, U⟩ := h
  obtain ⟨A, n, c, rfl⟩ := U.slice
  obtain ⟨D, m, k, rfl⟩ := h'.slice
  replace U := hide U
  have V := hide h'
  have T := hide hT
  have HE := hide (low_num (z := z) hd)
  have hg : Hid (Nat.gcd z.natAbs d ≠ 0) := Nat.ne_of_gt (Nat.gcd_pos_of_pos_right _ (Nat.pos_of_ne_zero hd))
  have sg : Hid (L (Nat.gcd z.natAbs d) ≤ 4398046511104) := L_gcd s s'
  have hp : Hid (z < 0 → 0 < z.natAbs / Nat.gcd z.natAbs d) := low_pos
  replace s := hide s
  replace s' := hide s'
  clear hT h' hd
  obtain ⟨b, hb⟩ : ∃ b, Hid (decide (z < 0) = b) := ⟨_, rfl⟩
  rw [hb.out]
  go_enter Tryz.func80, Tryz.ntmps80
  have b0 := hide (Below.refl w.heap.size w)
  have K1 := hide (Blk.new_at w (w.heap.size) (by simp) 25 #[.bool b, .slice A n c])
  have y := (Below.refl w.heap.size w).alloc (Nat.le_refl _) (.cells #[.bool b, .slice A n c] 25)
  replace U := hide (U.out.below y)
  replace V := hide (V.out.below y)
  replace T := hide (T.out.below y)
  replace b0 := hide (below_tr b0.out y)
  clear y
  have K2 := hide (Blk.new_at (w.alloc (.cells #[.bool b, .slice A n c] 25)) (w.heap.size + 1) (by simp) 27 #[.bool false, .slice none 0 0, .slice none 0 0])
  have y := (Below.refl (w.alloc (.cells #[.bool b, .slice A n c] 25)).heap.size (w.alloc (.cells #[.bool b, .slice A n c] 25))).alloc (Nat.le_refl _) (.cells #[.bool false, .slice none 0 0, .slice none 0 0] 27)
  replace U := hide (U.out.below y)
  replace V := hide (V.out.below y)
  replace T := hide (T.out.below y)
  replace K1 := hide (K1.out.below' y)
  replace b0 := hide (below_tr b0.out y)
  clear y
  have K1c0 : ((w.alloc (.cells #[.bool b, .slice A n c] 25)).alloc (.cells #[.bool false, .slice none 0 0, .slice none 0 0] 27)).cell? ⟨w.heap.size, 0, none⟩ = some (.bool b) := K1.out.at_ 0 rfl
  have K1c1 : ((w.alloc (.cells #[.bool b, .slice A n c] 25)).alloc (.cells #[.bool false, .slice none 0 0, .slice none 0 0] 27)).cell? ⟨w.heap.size, 1, none⟩ = some (.slice A n c) := K1.out.at_ 1 rfl
  go_wp2_with fail
  refine (nGcd_P (U.out.arg s.out) (V.out.arg s'.out) T.out).mono ?_
  rintro e w1 ⟨gv, rfl, d0, gr⟩
  replace U := hide (U.out.below d0)
  replace V := hide (V.out.below d0)
  replace T := hide (T.out.below d0)
  replace K1 := hide (K1.out.below' d0)
  replace K2 := hide (K2.out.below' d0)
  replace b0 := hide (below_tr b0.out d0)
  have G := hide (gr.can)
  clear d0
  clear gr
  obtain ⟨Ag, ng, cg, rfl⟩ := G.out.slice
  clear K1c0 K1c1
  have K1c0 : w1.cell? ⟨w.heap.size, 0, none⟩ = some (.bool b) := K1.out.at_ 0 rfl
  have K1c1 : w1.cell? ⟨w.heap.size, 1, none⟩ = some (.slice A n c) := K1.out.at_ 1 rfl
  go_wp2_with fail
  refine (nDiv_P U.out G.out s.out sg.out hg.out).mono ?_
  rintro e w2 ⟨qv, tv, rfl, d0, qr, _⟩
  have bz := b0.out.size
  replace U := hide (U.out.below d0)
  replace V := hide (V.out.below d0)
  replace T := hide (T.out.below d0)
  replace K1 := hide (K1.out.below' d0)
  replace K2 := hide (K2.out.below' d0)
  replace G := hide (G.out.below d0)
  replace b0 := hide (below_tr b0.out d0)
  have N1 := hide (qr.mono (B' := w.heap.size) bz)
  clear d0 bz
  clear qr
  obtain ⟨An, nn, cn, rfl⟩ := N1.out.slice
  clear K1c0 K1c1
  have K1c0 : w2.cell? ⟨w.heap.size, 0, none⟩ = some (.bool b) := K1.out.at_ 0 rfl
  have K1c1 : w2.cell? ⟨w.heap.size, 1, none⟩ = some (.slice A n c) := K1.out.at_ 1 rfl
  have B1 := hide (show w.heap.size ≤ w2.heap.size from b0.out.size)
  go_wp2_with fail
  refine (nDiv_P V.out G.out s'.out sg.out hg.out).mono ?_
  rintro e w3 ⟨qv2, tv2, rfl, d0, qr2, _⟩
  have SS := hide (N1.out.sep qr2)
  replace U := hide (U.out.below d0)
  replace V := hide (V.out.below d0)
  replace T := hide (T.out.below d0)
  replace K1 := hide (K1.out.below' d0)
  replace K2 := hide (K2.out.below' d0)
  replace G := hide (G.out.below d0)
  replace N1 := hide (N1.out.below d0)
  replace b0 := hide (below_tr b0.out d0)
  have N2 := hide (qr2.mono B1.out)
  clear d0 qr2
  obtain ⟨Ad, nd, cd, rfl⟩ := N2.out.slice
  clear K1c0 K1c1
  have K1c0 : w3.cell? ⟨w.heap.size, 0, none⟩ = some (.bool b) := K1.out.at_ 0 rfl
  have K1c1 : w3.cell? ⟨w.heap.size, 1, none⟩ = some (.slice A n c) := K1.out.at_ 1 rfl
  have K2c0 : w3.cell? ⟨w.heap.size + 1, 0, none⟩ = some (.bool false) := K2.out.at_ 0 rfl
  have K2c1 : w3.cell? ⟨w.heap.size + 1, 1, none⟩ = some (.slice none 0 0) := K2.out.at_ 1 rfl
  have K2c2 : w3.cell? ⟨w.heap.size + 1, 2, none⟩ = some (.slice none 0 0) := K2.out.at_ 2 rfl
  have Q := hide (ratR_mk N1.out N2.out SS.out HE.out.1 HE.out.2.1 (HE.out.2.2.trans hb.out))
  clear U V G T N2 SS HE hg sg s s'
  cases b
  case false =>
    clear N1 hp hb
    have p0 : w3.frozen? ⟨w.heap.size + 1, 0, none⟩ = false := K2.out.frozen 0
    have p1 : w3.frozen? ⟨w.heap.size + 1, 1, none⟩ = false := K2.out.frozen 1
    have p2 : w3.frozen? ⟨w.heap.size + 1, 2, none⟩ = false := K2.out.frozen 2
    go_wp2
    refine bodyPost_ret (v := .agg #[.bool false, .slice An nn cn, .slice Ad nd cd]) (by simp [results, Tryz.results80, go_sem, K2c0, K2c1, K2c2, p0, p1, p2]) rfl ?_
    exact opq_end hR ⟨_, rfl, (by (repeat (first | exact b0 | exact Below.refl _ _ | refine Below.setCell ?_ (by first | (simp; done) | (simp; omega)) _ | refine Below.alloc ?_ (by first | (simp; done) | (simp; omega)) _))), Q.out.only K2.out (by decide) ((((Only.refl _ _).set _ _).set _ _).set _ _)⟩
  case true =>
    have hn : 0 < nn := by
      obtain ⟨A', c', e, _⟩ := N1.out
      cases e
      have h0 := hp.out (of_decide_eq_true hb.out)
      have := @is_zero_len (z.natAbs / Nat.gcd z.natAbs d)
      omega
    clear N1 hp hb
    have p0 : w3.frozen? ⟨w.heap.size + 1, 0, none⟩ = false := K2.out.frozen 0
    have p1 : w3.frozen? ⟨w.heap.size + 1, 1, none⟩ = false := K2.out.frozen 1
    have p2 : w3.frozen? ⟨w.heap.size + 1, 2, none⟩ = false := K2.out.frozen 2
    go_wp2
    refine bodyPost_ret (v := .agg #[.bool true, .slice An nn cn, .slice Ad nd cd]) (by simp [results, Tryz.results80, go_sem, K2c0, K2c1, K2c2, p0, p1, p2]) rfl ?_
    exact opq_end hR ⟨_, rfl, (by (repeat (first | exact b0 | exact Below.refl _ _ | refine Below.setCell ?_ (by first | (simp; done) | (simp; omega)) _ | refine Below.alloc ?_ (by first | (simp; done) | (simp; omega)) _))), Q.out.only K2.out (by decide) ((((Only.refl _ _).set _ _).set _ _).set _ _)⟩
/-- What is read in the world ahead, or lies in memory of the call's own. -/
def ROld (w0 : World) (q : Rat) (B : Nat) (w : World) (u : Value) : Prop := RCan w0 u q ∨ RatR q B w u
theorem ROld.below {w0 w w' : World} {q : Rat} {B : Nat} {u : Value} (h : ROld w0 q B w u) (hb : Below w.heap.size w w') : ROld w0 q B w' u := h.imp id fun h => h.below hb
theorem ROld.mono {w0 w : World} {q : Rat} {B B' : Nat} {u : Value} (h : ROld w0 q B w u) (hB : B' ≤ B) : ROld w0 q B' w u := h.imp id fun h => h.mono hB
theorem ROld.can {w0 w : World} {q : Rat} {B : Nat} {u : Value} (h : ROld w0 q B w u) (hb : Below w0.heap.size w0 w) : RCan w u q := h.elim (fun h => h.below hb) fun h => h.can
theorem ROld.only {w0 w W : World} {q : Rat} {B g : Nat} {u : Value} {t : TypeId} {cs : Array Value} (h : ROld w0 q B w u) (hb : Blk w g t cs) (ht : T32 ≠ t) (F : Only g w W) : ROld w0 q B W u := h.imp id fun h => h.only hb ht F
theorem ROld.slice {w0 w : World} {q : Rat} {B : Nat} {v : Value} (h : ROld w0 q B w v) : ∃ b A n c D m k, v = .agg #[.bool b, .slice A n c, .slice D m k] := h.elim (fun h => h.slice) fun h => h.slice
def Fact.rold (w0 : World) (q : Rat) (B : Nat) : Fact := ⟨fun v w => ROld w0 q B w v, fun _ _ _ h hb => h.below hb⟩
set_option maxHeartbeats 1000000 in
theorem rof_P {w W : World} {v : Value} {q : Rat} (h : RArg w v q) (hb : Below w.heap.size w W) (hT : Tab W) (B : Nat) (hB : B ≤ W.heap.size) :
    Calls Tryz.prog 69 #[v] W fun e w' => ∃ u, e = .returned u ∧ Below W.heap.size W w' ∧ ROld w q B w' u := by
  refine opq fun R hR => ?_
  obtain ⟨b, xs, ys, h1, h2, h3, rfl⟩ := h
  have H1 := hide h1
  have HP := hide (h1.below hb)
  have T := hide hT
  have hB' := hide hB
  obtain ⟨u, d, rfl, U, V⟩ := h1
  obtain ⟨A, n, c, rfl, _⟩ := U.slice
  obtain ⟨D, m, k, rfl, _⟩ := V.slice
  clear h2 h3 hb hT U V hB
  go_enter Tryz.func69, Tryz.ntmps69
  cases hr : rok b xs ys
  case false =>
    have b0 := hide (Below.refl W.heap.size W)
    have K1 := hide (Blk.new_at W (W.heap.size) (by simp) 27 #[.bool b, .slice A n c, .slice D m k])
    have y := (Below.refl W.heap.size W).alloc (Nat.le_refl _) (.cells #[.bool b, .slice A n c, .slice D m k] 27)
    replace HP := hide (HP.out.below y)
    replace T := hide (T.out.below y)
    replace b0 := hide (below_tr b0.out y)
    clear y
    have K2 := hide (Blk.new_at (W.alloc (.cells #[.bool b, .slice A n c, .slice D m k] 27)) (W.heap.size + 1) (by simp) 27 #[.bool false, .slice none 0 0, .slice none 0 0])
    have y := (Below.refl (W.alloc (.cells #[.bool b, .slice A n c, .slice D m k] 27)).heap.size (W.alloc (.cells #[.bool b, .slice A n c, .slice D m k] 27))).alloc (Nat.le_refl _) (.cells #[.bool false, .slice none 0 0, .slice none 0 0] 27)
    replace HP := hide (HP.out.below y)
    replace T := hide (T.out.below y)
    replace K1 := hide (K1.out.below' y)
    replace b0 := hide (below_tr b0.out y)
    clear y
    have K1c0 : ((W.alloc (.cells #[.bool b, .slice A n c, .slice D m k] 27)).alloc (.cells #[.bool false, .slice none 0 0, .slice none 0 0] 27)).cell? ⟨W.heap.size, 0, none⟩ = some (.bool b) := K1.out.at_ 0 rfl
    have K1c1 : ((W.alloc (.cells #[.bool b, .slice A n c, .slice D m k] 27)).alloc (.cells #[.bool false, .slice none 0 0, .slice none 0 0] 27)).cell? ⟨W.heap.size, 1, none⟩ = some (.slice A n c) := K1.out.at_ 1 rfl
    have K1c2 : ((W.alloc (.cells #[.bool b, .slice A n c, .slice D m k] 27)).alloc (.cells #[.bool false, .slice none 0 0, .slice none 0 0] 27)).cell? ⟨W.heap.size, 2, none⟩ = some (.slice D m k) := K1.out.at_ 2 rfl
    have K2c0 : ((W.alloc (.cells #[.bool b, .slice A n c, .slice D m k] 27)).alloc (.cells #[.bool false, .slice none 0 0, .slice none 0 0] 27)).cell? ⟨W.heap.size + 1, 0, none⟩ = some (.bool false) := K2.out.at_ 0 rfl
    have K2c1 : ((W.alloc (.cells #[.bool b, .slice A n c, .slice D m k] 27)).alloc (.cells #[.bool false, .slice none 0 0, .slice none 0 0] 27)).cell? ⟨W.heap.size + 1, 1, none⟩ = some (.slice none 0 0) := K2.out.at_ 1 rfl
    have K2c2 : ((W.alloc (.cells #[.bool b, .slice A n c, .slice D m k] 27)).alloc (.cells #[.bool false, .slice none 0 0, .slice none 0 0] 27)).cell? ⟨W.heap.size + 1, 2, none⟩ = some (.slice none 0 0) := K2.out.at_ 2 rfl
    go_wp2_with fail
    refine (rCheck_P HP.out T.out false hr).mono ?_
    rintro e w1 ⟨_, rfl, d0, rfl⟩
    replace HP := hide (HP.out.below d0)
    replace T := hide (T.out.below d0)
    replace K1 := hide (K1.out.below' d0)
    replace K2 := hide (K2.out.below' d0)
    replace b0 := hide (below_tr b0.out d0)
    clear d0
    clear K1c0 K1c1 K1c2 K2c0 K2c1 K2c2
    have K1c0 : w1.cell? ⟨W.heap.size, 0, none⟩ = some (.bool b) := K1.out.at_ 0 rfl
    have K1c1 : w1.cell? ⟨W.heap.size, 1, none⟩ = some (.slice A n c) := K1.out.at_ 1 rfl
    have K1c2 : w1.cell? ⟨W.heap.size, 2, none⟩ = some (.slice D m k) := K1.out.at_ 2 rfl
    have K2c0 : w1.cell? ⟨W.heap.size + 1, 0, none⟩ = some (.bool false) := K2.out.at_ 0 rfl
    have K2c1 : w1.cell? ⟨W.heap.size + 1, 1, none⟩ = some (.slice none 0 0) := K2.out.at_ 1 rfl
    have K2c2 : w1.cell? ⟨W.heap.size + 1, 2, none⟩ = some (.slice none 0 0) := K2.out.at_ 2 rfl
    clear T HP
    have ez : Hid (rv b xs ys = 0) := rv_no hr
    clear H1 hr
    go_wp2_with fail
    refine (rOf_P _ 0 (by decide) (by decide)).mono ?_
    rintro e w2 ⟨v9, rfl, d0, r9⟩
    have bz := b0.out.size
    replace K1 := hide (K1.out.below' d0)
    replace K2 := hide (K2.out.below' d0)
    replace b0 := hide (below_tr b0.out d0)
    have R9 := hide (r9.mono (B' := B) (Nat.le_trans hB'.out bz))
    clear d0 bz
    clear r9
    obtain ⟨b9, A9, n9, c9, D9, m9, k9, rfl⟩ := R9.out.slice
    clear K1c0 K1c1 K1c2 K2c0 K2c1 K2c2
    have K2c0 : w2.cell? ⟨W.heap.size + 1, 0, none⟩ = some (.bool false) := K2.out.at_ 0 rfl
    have K2c1 : w2.cell? ⟨W.heap.size + 1, 1, none⟩ = some (.slice none 0 0) := K2.out.at_ 1 rfl
    have K2c2 : w2.cell? ⟨W.heap.size + 1, 2, none⟩ = some (.slice none 0 0) := K2.out.at_ 2 rfl
    have p0 : w2.frozen? ⟨W.heap.size + 1, 0, none⟩ = false := K2.out.frozen 0
    have p1 : w2.frozen? ⟨W.heap.size + 1, 1, none⟩ = false := K2.out.frozen 1
    have p2 : w2.frozen? ⟨W.heap.size + 1, 2, none⟩ = false := K2.out.frozen 2
    go_wp2
    refine bodyPost_ret (v := .agg #[.bool b9, .slice A9 n9 c9, .slice D9 m9 k9]) (by simp [results, Tryz.results69, go_sem, K2c0, K2c1, K2c2, p0, p1, p2]) rfl ?_
    exact opq_end hR ⟨_, rfl, (by (repeat (first | exact b0 | exact Below.refl _ _ | refine Below.setCell ?_ (by first | (simp; done) | (simp; omega)) _ | refine Below.alloc ?_ (by first | (simp; done) | (simp; omega)) _))), (by rw [ez.out]; exact Or.inr (R9.out.only K2.out (by decide) ((((Only.refl _ _).set _ _).set _ _).set _ _)))⟩
  case true =>
    have b0 := hide (Below.refl W.heap.size W)
    have K1 := hide (Blk.new_at W (W.heap.size) (by simp) 27 #[.bool b, .slice A n c, .slice D m k])
    have y := (Below.refl W.heap.size W).alloc (Nat.le_refl _) (.cells #[.bool b, .slice A n c, .slice D m k] 27)
    replace HP := hide (HP.out.below y)
    replace T := hide (T.out.below y)
    replace b0 := hide (below_tr b0.out y)
    clear y
    have K2 := hide (Blk.new_at (W.alloc (.cells #[.bool b, .slice A n c, .slice D m k] 27)) (W.heap.size + 1) (by simp) 27 #[.bool false, .slice none 0 0, .slice none 0 0])
    have y := (Below.refl (W.alloc (.cells #[.bool b, .slice A n c, .slice D m k] 27)).heap.size (W.alloc (.cells #[.bool b, .slice A n c, .slice D m k] 27))).alloc (Nat.le_refl _) (.cells #[.bool false, .slice none 0 0, .slice none 0 0] 27)
    replace HP := hide (HP.out.below y)
    replace T := hide (T.out.below y)
    replace K1 := hide (K1.out.below' y)
    replace b0 := hide (below_tr b0.out y)
    clear y
    have K1c0 : ((W.alloc (.cells #[.bool b, .slice A n c, .slice D m k] 27)).alloc (.cells #[.bool false, .slice none 0 0, .slice none 0 0] 27)).cell? ⟨W.heap.size, 0, none⟩ = some (.bool b) := K1.out.at_ 0 rfl
    have K1c1 : ((W.alloc (.cells #[.bool b, .slice A n c, .slice D m k] 27)).alloc (.cells #[.bool false, .slice none 0 0, .slice none 0 0] 27)).cell? ⟨W.heap.size, 1, none⟩ = some (.slice A n c) := K1.out.at_ 1 rfl
    have K1c2 : ((W.alloc (.cells #[.bool b, .slice A n c, .slice D m k] 27)).alloc (.cells #[.bool false, .slice none 0 0, .slice none 0 0] 27)).cell? ⟨W.heap.size, 2, none⟩ = some (.slice D m k) := K1.out.at_ 2 rfl
    have K2c0 : ((W.alloc (.cells #[.bool b, .slice A n c, .slice D m k] 27)).alloc (.cells #[.bool false, .slice none 0 0, .slice none 0 0] 27)).cell? ⟨W.heap.size + 1, 0, none⟩ = some (.bool false) := K2.out.at_ 0 rfl
    have K2c1 : ((W.alloc (.cells #[.bool b, .slice A n c, .slice D m k] 27)).alloc (.cells #[.bool false, .slice none 0 0, .slice none 0 0] 27)).cell? ⟨W.heap.size + 1, 1, none⟩ = some (.slice none 0 0) := K2.out.at_ 1 rfl
    have K2c2 : ((W.alloc (.cells #[.bool b, .slice A n c, .slice D m k] 27)).alloc (.cells #[.bool false, .slice none 0 0, .slice none 0 0] 27)).cell? ⟨W.heap.size + 1, 2, none⟩ = some (.slice none 0 0) := K2.out.at_ 2 rfl
    go_wp2_with fail
    refine (rCheck_P HP.out T.out true hr).mono ?_
    rintro e w1 ⟨_, rfl, d0, rfl⟩
    replace HP := hide (HP.out.below d0)
    replace T := hide (T.out.below d0)
    replace K1 := hide (K1.out.below' d0)
    replace K2 := hide (K2.out.below' d0)
    replace b0 := hide (below_tr b0.out d0)
    clear d0
    clear K1c0 K1c1 K1c2 K2c0 K2c1 K2c2
    have K1c0 : w1.cell? ⟨W.heap.size, 0, none⟩ = some (.bool b) := K1.out.at_ 0 rfl
    have K1c1 : w1.cell? ⟨W.heap.size, 1, none⟩ = some (.slice A n c) := K1.out.at_ 1 rfl
    have K1c2 : w1.cell? ⟨W.heap.size, 2, none⟩ = some (.slice D m k) := K1.out.at_ 2 rfl
    have K2c0 : w1.cell? ⟨W.heap.size + 1, 0, none⟩ = some (.bool false) := K2.out.at_ 0 rfl
    have K2c1 : w1.cell? ⟨W.heap.size + 1, 1, none⟩ = some (.slice none 0 0) := K2.out.at_ 1 rfl
    have K2c2 : w1.cell? ⟨W.heap.size + 1, 2, none⟩ = some (.slice none 0 0) := K2.out.at_ 2 rfl
    clear T HP
    have Q := hide (H1.out.can hr)
    clear H1 hr
    have p0 : w1.frozen? ⟨W.heap.size + 1, 0, none⟩ = false := K2.out.frozen 0
    have p1 : w1.frozen? ⟨W.heap.size + 1, 1, none⟩ = false := K2.out.frozen 1
    have p2 : w1.frozen? ⟨W.heap.size + 1, 2, none⟩ = false := K2.out.frozen 2
    go_wp2
    refine bodyPost_ret (v := .agg #[.bool b, .slice A n c, .slice D m k]) (by simp [results, Tryz.results69, go_sem, K2c0, K2c1, K2c2, p0, p1, p2]) rfl ?_
    exact opq_end hR ⟨_, rfl, (by (repeat (first | exact b0 | exact Below.refl _ _ | refine Below.setCell ?_ (by first | (simp; done) | (simp; omega)) _ | refine Below.alloc ?_ (by first | (simp; done) | (simp; omega)) _))), (Or.inl Q.out)⟩
theorem ICan.nat {w : World} {b : Bool} {u : Value} {z : Int} (h : ICan w (.agg #[.bool b, u]) z) : Can w u z.natAbs ∧ decide (z < 0) = b := by
  obtain ⟨u', e, h1⟩ := h
  cases e
  exact ⟨h1, rfl⟩
end Go.Proofs.YtkefmeddnncacaaGreatDoor

/- rats: cross. -/
set_option linter.unusedVariables false
set_option linter.unusedSimpArgs false
set_option maxRecDepth 100000
namespace Go.Proofs.YtkefmeddnncacaaGreatDoor
open Go.RowKit

section
variable {w : World} {g : Nat}
theorem fa_Rat0_ {i : Nat} : (Instr.fieldAt 27 (.pointer (some ⟨g, i, none⟩)) 0).run Tryz.prog w = .ok (.pointer (some ⟨g, i, none⟩)) w := by simp [go_sem]
theorem fa_Rat1_ {i : Nat} : (Instr.fieldAt 27 (.pointer (some ⟨g, i, none⟩)) 1).run Tryz.prog w = .ok (.pointer (some ⟨g, i + 2, none⟩)) w := by simp [go_sem]
theorem ld_Int_ {i : Nat} {b u : Value} (h0 : w.cell? ⟨g, i, none⟩ = some b) (h1 : w.cell? ⟨g, i + 1, none⟩ = some u) : (Instr.loadAt 25 (.pointer (some ⟨g, i, none⟩))).run Tryz.prog w = .ok (.agg #[b, u]) w := by
  simp [go_sem, h0, h1]
theorem ld_Rat_ {i : Nat} {b u d : Value} (h0 : w.cell? ⟨g, i, none⟩ = some b) (h1 : w.cell? ⟨g, i + 1, none⟩ = some u) (h2 : w.cell? ⟨g, i + 2, none⟩ = some d) : (Instr.loadAt 27 (.pointer (some ⟨g, i, none⟩))).run Tryz.prog w = .ok (.agg #[b, u, d]) w := by
  simp [go_sem, h0, h1, h2]
end
def Fact.ints2 (x y : Int) (B : Nat) : Fact := ⟨fun v w => ∃ b1 A1 n1 c1 b2 A2 n2 c2, v = .agg #[.bool b1, .slice A1 n1 c1, .bool b2, .slice A2 n2 c2] ∧ IntR x B w (.agg #[.bool b1, .slice A1 n1 c1]) ∧ IntR y B w (.agg #[.bool b2, .slice A2 n2 c2]),
  fun _ _ _ ⟨b1, A1, n1, c1, b2, A2, n2, c2, e, h1, h2⟩ hb => ⟨b1, A1, n1, c1, b2, A2, n2, c2, e, h1.below hb, h2.below hb⟩⟩
end Go.Proofs.YtkefmeddnncacaaGreatDoor

/- rats: with, Add, Sub, Mul, Cmp, Sign. -/
set_option linter.unusedVariables false
set_option linter.unusedSimpArgs false
set_option maxRecDepth 100000
namespace Go.Proofs.YtkefmeddnncacaaGreatDoor
open Go.RowKit

theorem field_Rat1 {w : World} {a b c : Value} : (Instr.field 27 (.agg #[a, b, c]) 1).run Tryz.prog w = .ok c w := by simp [Instr.field, asAgg, go_sem]
set_option maxHeartbeats 1000000 in
theorem rWhole_P {w : World} {v : Value} {q : Rat} (h : RArg w v q) (hT : Tab w) :
    Calls Tryz.prog 16 #[v] w fun e w' => ∃ u, e = .returned u ∧ Below w.heap.size w w' ∧ u = .bool (decide (q.den = 1)) := by
  refine opq fun R hR => ?_
  obtain ⟨b1, A1, n1, c1, D1, m1, k1, rfl⟩ := h.slice
  have S := hide h.size
  replace h := hide h
  have T := hide hT
  clear hT
  go_enter Tryz.func16, Tryz.ntmps16
  have b0 := hide (Below.refl w.heap.size w)
  have K1 := hide (Blk.new_at w (w.heap.size) (by simp) 27 #[.bool b1, .slice A1 n1 c1, .slice D1 m1 k1])
  have y := (Below.refl w.heap.size w).alloc (Nat.le_refl _) (.cells #[.bool b1, .slice A1 n1 c1, .slice D1 m1 k1] 27)
  replace b0 := hide (below_tr b0.out y)
  clear y
  go_wp2_with fail
  refine (rof_P h.out b0.out (T.out.below b0.out) w.heap.size b0.out.size).mono ?_
  rintro e w1 ⟨v8, rfl, d0, r8⟩
  replace K1 := hide (K1.out.below' d0)
  replace b0 := hide (below_tr b0.out d0)
  clear d0
  have C := hide (r8.can b0.out)
  clear r8
  obtain ⟨b8, A8, n8, c8, D8, m8, k8, rfl⟩ := C.out.slice
  have fl := field_Rat1 (w := w1) (a := .bool b8) (b := .slice A8 n8 c8) (c := .slice D8 m8 k8)
  go_wp2_with fail
  refine (is1_P C.out.den _ rfl).mono ?_
  rintro e w2 ⟨_, rfl, d0, rfl⟩
  replace K1 := hide (K1.out.below' d0)
  replace C := hide (C.out.below d0)
  replace b0 := hide (below_tr b0.out d0)
  clear d0
  go_wp2
  exact opq_end hR ⟨_, rfl, b0.out, rfl⟩
end Go.Proofs.YtkefmeddnncacaaGreatDoor

/- rats: Div, Floor, Text; SameRat; the laws' of, same, great. -/
set_option linter.unusedVariables false
set_option linter.unusedSimpArgs false
set_option maxRecDepth 100000
namespace Go.Proofs.YtkefmeddnncacaaGreatDoor
open Go.RowKit

theorem nSame_P {w : World} {v v' : Value} {M N : Nat} (h : Can w v M) (h' : Can w v' N) :
    Calls Tryz.prog 96 #[v, v'] w fun e w' => ∃ u, e = .returned u ∧ Below w.heap.size w w' ∧ u = .bool (decide (M = N)) :=
  (Same_can h h').mono fun e w' ⟨h1, h2⟩ => ⟨_, h1, h2.out, rfl⟩
abbrev GR : Type := (Option Addr × Nat × Nat) × (Option Addr × Nat × Nat)
theorem rany_step {l : List GR} {p : GR → Bool} {i : Nat} {x : GR} (h : (l.take i).any p = false) (hx : l[i]? = some x) (hp : p x = false) : (l.take (i + 1)).any p = false := by
  obtain ⟨hi, e⟩ := List.getElem?_eq_some_iff.1 hx
  rw [List.take_succ_eq_append_getElem hi, List.any_append, h, e]
  simp [hp]
theorem wrap_add_lens {n m : Nat} (hn : n ≤ 70368744177664) (hm : m ≤ 70368744177664) : wrap64 ((n : Int) + m) = ((n + m : Nat) : Int) := by unfold wrap64; omega
set_option maxHeartbeats 1000000 in
theorem rgreat_ok (w : World) (g K : Nat) (hK : K ≤ 1000) (l : List GR) (hc : ∀ (j : Nat) x, l[j]? = some x → w.cell? ⟨g, j * 3 + 1, none⟩ = some (.slice x.1.1 x.1.2.1 x.1.2.2) ∧ w.cell? ⟨g, j * 3 + 2, none⟩ = some (.slice x.2.1 x.2.2.1 x.2.2.2)) (hs : ∀ x ∈ l, x.1.2.1 ≤ 70368744177664 ∧ x.2.2.1 ≤ 70368744177664) (hl : l.length ≤ 1000) :
    Calls Tryz.prog 9 #[.int .i64 (K : Nat), .slice (some ⟨g, 0, none⟩) l.length l.length] w fun e w' => e = .returned (.bool (l.any fun x => decide (K < x.1.2.1 + x.2.2.1))) ∧ Hid (Below w.heap.size w w') := by
  refine opq fun R hR => ?_
  have HC := hide hc
  have HS := hide hs
  clear hc hs
  go_enter Tryz.func9, Tryz.ntmps9
  go_wp2
  go_loopw [5] (fun iv wr => ∃ i : Nat, i ≤ l.length ∧ iv = .int .i64 (i : Nat) ∧ Hid (Below w.heap.size w wr) ∧ Hid ((l.take i).any (fun x => decide (K < x.1.2.1 + x.2.2.1)) = false)) (fun iv _ => l.length - (intOf iv).toNat)
  case atStart => exact ⟨0, by omega, rfl, Below.refl _ _, rfl⟩
  case round =>
    obtain ⟨i, hi, rfl, B, hs⟩ := hrel
    by_cases hlt : i < l.length
    · obtain ⟨⟨⟨a, n, c⟩, ⟨d, m, k⟩⟩, hx⟩ : ∃ y, l[i]? = some y := ⟨_, List.getElem?_eq_getElem hlt⟩
      obtain ⟨hc1, hc2⟩ := HC.out i _ hx
      replace hc1 := cell_below B.out hc1
      replace hc2 := cell_below B.out hc2
      obtain ⟨q1, q2⟩ := HS.out _ (List.mem_of_getElem? hx)
      have e1 := wrap_add_lens q1 q2
      have S1 := hide (fun hp => rany_step hs.out hx hp)
      have S2 : Hid (K < n + m → l.any (fun x => decide (K < x.1.2.1 + x.2.2.1)) = true) := fun q => List.any_eq_true.2 ⟨_, List.mem_of_getElem? hx, by simpa using q⟩
      clear hx
      by_cases hn : K < n + m
      · have S3 := hide (S2.out hn)
        clear S1 S2
        go_wp2
        go_quiet (fail)
        go_wp2
        exact opq_end hR ⟨ret_bool S3.out.symm, below_drewN B.out _⟩
      · have S3 := hide (S1.out (by simpa using hn))
        clear S1 S2
        go_wp2
        go_quiet (fail)
        go_wp2
        go_roundw
        case rel => exact ⟨i + 1, by omega, by go_num, below_drewN B.out _, S3⟩
        case measure => simp [intOf]; omega
    · obtain rfl : i = l.length := by omega
      have e := hs.out
      rw [List.take_length] at e
      have E := hide e
      clear e
      go_wp2
      exact opq_end hR ⟨ret_bool E.out.symm, B⟩
end Go.Proofs.YtkefmeddnncacaaGreatDoor

/- rats: Floor, Text; great of one, two, three. -/
set_option linter.unusedVariables false
set_option linter.unusedSimpArgs false
set_option maxRecDepth 100000
namespace Go.Proofs.YtkefmeddnncacaaGreatDoor
open Go.RowKit

theorem rgreat1 {w : World} {b1 : Bool} {A1 D1 : Option Addr} {n1 c1 m1 k1 : Nat} {t : TypeId} {g : Nat} (hg : w.heap.size = g) (K : Nat) (hK : K ≤ 1000) (l1 : n1 ≤ 70368744177664) (l1' : m1 ≤ 70368744177664) (r : Bool) (hr : decide (K < n1 + m1) = r) :
    Calls Tryz.prog 9 #[.int .i64 (K : Nat), .slice (some ⟨g, 0, none⟩) 1 1] (w.alloc (.cells #[.bool b1, .slice A1 n1 c1, .slice D1 m1 k1] t)) fun e w' => ∃ u, e = .returned u ∧ Below (w.alloc (.cells #[.bool b1, .slice A1 n1 c1, .slice D1 m1 k1] t)).heap.size (w.alloc (.cells #[.bool b1, .slice A1 n1 c1, .slice D1 m1 k1] t)) w' ∧ u = .bool r := by
  subst hg
  have B := Blk.new w t #[.bool b1, .slice A1 n1 c1, .slice D1 m1 k1]
  have := rgreat_ok (w.alloc (.cells #[.bool b1, .slice A1 n1 c1, .slice D1 m1 k1] t)) w.heap.size K hK [((A1, n1, c1), (D1, m1, k1))] (fun j x hx => by
    rw [B.cell, B.cell]
    match j, hx with
    | 0, hx => cases hx; exact ⟨rfl, rfl⟩) (by
    intro x hx
    simp only [List.mem_cons, List.not_mem_nil, or_false] at hx
    rcases hx with rfl
    · exact ⟨l1, l1'⟩) (by simp)
  exact this.mono fun e w' ⟨h1, h2⟩ => ⟨_, h1, h2.out, by rw [← hr]; simp⟩
theorem floor_nn {q : Rat} (h : decide (q.num < 0) = false) : q.floor = ((q.num.natAbs / q.den : Nat) : Int) := by
  rw [floor_parts, if_neg (by simpa using h)]
theorem floor_n0 {q : Rat} (h : decide (q.num < 0) = true) (h0 : q.num.natAbs % q.den = 0) : q.floor = -((q.num.natAbs / q.den : Nat) : Int) := by
  rw [floor_parts, if_pos (by simpa using h), if_pos h0]
theorem floor_n1 {q : Rat} (h : decide (q.num < 0) = true) (h0 : q.num.natAbs % q.den ≠ 0) : q.floor = -((q.num.natAbs / q.den : Nat) : Int) - 1 := by
  rw [floor_parts, if_pos (by simpa using h), if_neg h0]
theorem intR_of_nat {N B : Nat} {w : World} {u : Value} (h : NatR N B w u) (z : Int) (hz : z = (N : Int)) : IntR z B w (.agg #[.bool false, u]) := by
  subst hz
  exact ⟨u, by rw [decide_eq_false (by omega)], by rw [Int.natAbs_natCast]; exact h⟩
theorem intR_of_neg {N B : Nat} {w : World} {u : Value} (h : NatR N B w u) (z : Int) (hz : z = -(N : Int)) (hN : 0 < N) : IntR z B w (.agg #[.bool true, u]) := by
  subst hz
  exact ⟨u, by rw [decide_eq_true (by omega)], by rw [Int.natAbs_neg, Int.natAbs_natCast]; exact h⟩
theorem NatR.len {N B : Nat} {w : World} {A : Option Addr} {n c : Nat} (h : NatR N B w (.slice A n c)) : n = 0 ↔ N = 0 := by
  obtain ⟨A', c', e, _⟩ := h
  cases e
  exact is_zero_len
theorem iOf_C (w : World) (n : Int) (h0 : -9223372036854775808 ≤ n) (h1 : n < 9223372036854775808) :
    Calls Tryz.prog 72 #[.int .i64 n] w fun e w' => ∃ u, e = .returned u ∧ Below w.heap.size w w' ∧ ICan w' u n :=
  (iOf_ok w n h0 h1).mono fun e w' ⟨u, h1, h2, h3⟩ => ⟨u, h1, h2, h3.can⟩
theorem fn_iOf (args : Array Value) (w : World) : (callFunc 72 args).run Tryz.prog w = .ok (.enter 72 args) w := callFunc_enter Tryz.func72 (by kernel_rfl) rfl args w
theorem iSub_R {w : World} {v v' : Value} {x y : Int} (B : Nat) (hB : B ≤ w.heap.size) (h : IArg w v x) (h' : IArg w v' y) :
    Calls Tryz.prog 71 #[v, v'] w fun e w' => ∃ u, e = .returned u ∧ Below w.heap.size w w' ∧ IntR (x - y) B w' u :=
  (iSub_ok h h').mono fun e w' ⟨u, h1, h2, h3⟩ => ⟨u, h1, h2, h3.mono hB⟩
set_option maxHeartbeats 2000000 in
theorem rFloor_P {w : World} {v : Value} {q : Rat} (h : RArg w v q) (hT : Tab w) :
    Calls Tryz.prog 11 #[v] w fun e w' => ∃ u, e = .returned u ∧ Below w.heap.size w w' ∧ IntR q.floor w.heap.size w' u := by
  refine opq fun R hR => ?_
  obtain ⟨b1, A1, n1, c1, D1, m1, k1, rfl⟩ := h.slice
  have S := hide h.size
  replace h := hide h
  have T := hide hT
  clear hT
  have hd := hide q.den_nz
  go_enter Tryz.func11, Tryz.ntmps11
  have b0 := hide (Below.refl w.heap.size w)
  have K1 := hide (Blk.new_at w (w.heap.size) (by simp) 27 #[.bool b1, .slice A1 n1 c1, .slice D1 m1 k1])
  have y := (Below.refl w.heap.size w).alloc (Nat.le_refl _) (.cells #[.bool b1, .slice A1 n1 c1, .slice D1 m1 k1] 27)
  replace b0 := hide (below_tr b0.out y)
  clear y
  have K2 := hide (Blk.new_at (w.alloc (.cells #[.bool b1, .slice A1 n1 c1, .slice D1 m1 k1] 27)) (w.heap.size + 1) (by simp) 25 #[.bool false, .slice none 0 0])
  have y := (Below.refl (w.alloc (.cells #[.bool b1, .slice A1 n1 c1, .slice D1 m1 k1] 27)).heap.size (w.alloc (.cells #[.bool b1, .slice A1 n1 c1, .slice D1 m1 k1] 27))).alloc (Nat.le_refl _) (.cells #[.bool false, .slice none 0 0] 25)
  replace K1 := hide (K1.out.below' y)
  replace b0 := hide (below_tr b0.out y)
  clear y
  go_wp2_with fail
  refine (rof_P h.out b0.out (T.out.below b0.out) w.heap.size b0.out.size).mono ?_
  rintro e w1 ⟨v8, rfl, d0, r8⟩
  replace K1 := hide (K1.out.below' d0)
  replace K2 := hide (K2.out.below' d0)
  replace b0 := hide (below_tr b0.out d0)
  have P1 := hide (r8)
  clear d0
  clear r8
  obtain ⟨b8, A8, n8, c8, D8, m8, k8, rfl⟩ := P1.out.slice
  have f0 : w1.frozen? ⟨w.heap.size, 0, none⟩ = false := K1.out.frozen 0
  have f1 : w1.frozen? ⟨w.heap.size, 1, none⟩ = false := K1.out.frozen 1
  have f2 : w1.frozen? ⟨w.heap.size, 2, none⟩ = false := K1.out.frozen 2
  have K1c0 : w1.cell? ⟨w.heap.size, 0, none⟩ = some (.bool b1) := K1.out.at_ 0 rfl
  have K1c1 : w1.cell? ⟨w.heap.size, 1, none⟩ = some (.slice A1 n1 c1) := K1.out.at_ 1 rfl
  have K1c2 : w1.cell? ⟨w.heap.size, 2, none⟩ = some (.slice D1 m1 k1) := K1.out.at_ 2 rfl
  go_wp2_with fail
  clear K1c0 K1c1 K1c2
  clear f0 f1 f2
  have F : Only (w.heap.size) w1 (((w1.setCell ⟨w.heap.size, 0, none⟩ (.bool b8)).setCell ⟨w.heap.size, 1, none⟩ (.slice A8 n8 c8)).setCell ⟨w.heap.size, 2, none⟩ (.slice D8 m8 k8)) := ((((Only.refl _ _).set _ _).set _ _).set _ _)
  replace P1 := hide (P1.out.only K1.out (by decide) F)
  replace K2 := hide (((K2.out.far (p := ⟨w.heap.size, 0, none⟩) (by first | (simp; done) | (simp; omega)) (.bool b8)).far (p := ⟨w.heap.size, 1, none⟩) (by first | (simp; done) | (simp; omega)) (.slice A8 n8 c8)).far (p := ⟨w.heap.size, 2, none⟩) (by first | (simp; done) | (simp; omega)) (.slice D8 m8 k8))
  have by_ : Hid (Below w.heap.size w (((w1.setCell ⟨w.heap.size, 0, none⟩ (.bool b8)).setCell ⟨w.heap.size, 1, none⟩ (.slice A8 n8 c8)).setCell ⟨w.heap.size, 2, none⟩ (.slice D8 m8 k8))) := (((b0.out.setCell (p := ⟨w.heap.size, 0, none⟩) (by first | exact Nat.le_refl _ | (simp; done) | (simp; omega)) (.bool b8)).setCell (p := ⟨w.heap.size, 1, none⟩) (by first | exact Nat.le_refl _ | (simp; done) | (simp; omega)) (.slice A8 n8 c8)).setCell (p := ⟨w.heap.size, 2, none⟩) (by first | exact Nat.le_refl _ | (simp; done) | (simp; omega)) (.slice D8 m8 k8))
  replace K1 : Hid (Blk (((w1.setCell ⟨w.heap.size, 0, none⟩ (.bool b8)).setCell ⟨w.heap.size, 1, none⟩ (.slice A8 n8 c8)).setCell ⟨w.heap.size, 2, none⟩ (.slice D8 m8 k8)) (w.heap.size) 27 #[.bool b8, .slice A8 n8 c8, .slice D8 m8 k8]) := (((K1.out.set_ 0 (.bool b8)).set_ 1 (.slice A8 n8 c8)).set_ 2 (.slice D8 m8 k8))
  replace b0 := by_
  clear by_ F
  obtain ⟨V1_2, hV⟩ : ∃ V, (((w1.setCell ⟨w.heap.size, 0, none⟩ (.bool b8)).setCell ⟨w.heap.size, 1, none⟩ (.slice A8 n8 c8)).setCell ⟨w.heap.size, 2, none⟩ (.slice D8 m8 k8)) = V := ⟨_, rfl⟩
  rw [hV] at K1 K2 P1 b0
  rw [hV]
  clear hV
  have C := hide (P1.out.can b0.out)
  clear P1
  refine (nDiv_P C.out.num.nat.1 C.out.den (L_up S.out.1 (by decide)) (L_up S.out.2 (by decide)) hd.out).mono ?_
  rintro e w2 ⟨qv, rv_, rfl, d0, qr, rr⟩
  have bz := b0.out.size
  replace K1 := hide (K1.out.below' d0)
  replace K2 := hide (K2.out.below' d0)
  replace C := hide (C.out.below d0)
  replace b0 := hide (below_tr b0.out d0)
  have N1 := hide (qr.mono (B' := w.heap.size) bz)
  have N2 := hide (rr)
  clear d0 bz
  clear qr rr
  obtain ⟨Aq, nq, cq, rfl⟩ := N1.out.slice
  obtain ⟨Ar, nr, cr, rfl⟩ := N2.out.slice
  have lq := hide N1.out.len
  have lr := hide N2.out.len
  have hb := hide C.out.num.nat.2
  clear N2 C
  cases b8
  case false =>
    have Q := hide (intR_of_nat N1.out q.floor (floor_nn hb.out))
    clear N1 lq lr hb
    have K1c0 : w2.cell? ⟨w.heap.size, 0, none⟩ = some (.bool false) := K1.out.at_ 0 rfl
    have K1c1 : w2.cell? ⟨w.heap.size, 1, none⟩ = some (.slice A8 n8 c8) := K1.out.at_ 1 rfl
    have K1c2 : w2.cell? ⟨w.heap.size, 2, none⟩ = some (.slice D8 m8 k8) := K1.out.at_ 2 rfl
    have K6 := hide (Blk.new_at w2 (w2.heap.size) (by simp) 25 #[.bool false, .slice Aq nq cq])
    have y := (Below.refl w2.heap.size w2).alloc (Nat.le_refl _) (.cells #[.bool false, .slice Aq nq cq] 25)
    replace K1 := hide (K1.out.below' y)
    replace K2 := hide (K2.out.below' y)
    replace Q := hide (Q.out.below y)
    replace b0 := hide (below_tr b0.out y)
    clear y
    have K1d0 : (w2.alloc (.cells #[.bool false, .slice Aq nq cq] 25)).cell? ⟨w.heap.size, 0, none⟩ = some (.bool false) := K1.out.at_ 0 rfl
    have K1d1 : (w2.alloc (.cells #[.bool false, .slice Aq nq cq] 25)).cell? ⟨w.heap.size, 1, none⟩ = some (.slice A8 n8 c8) := K1.out.at_ 1 rfl
    have K1d2 : (w2.alloc (.cells #[.bool false, .slice Aq nq cq] 25)).cell? ⟨w.heap.size, 2, none⟩ = some (.slice D8 m8 k8) := K1.out.at_ 2 rfl
    have K2c0 : (w2.alloc (.cells #[.bool false, .slice Aq nq cq] 25)).cell? ⟨w.heap.size + 1, 0, none⟩ = some (.bool false) := K2.out.at_ 0 rfl
    have K2c1 : (w2.alloc (.cells #[.bool false, .slice Aq nq cq] 25)).cell? ⟨w.heap.size + 1, 1, none⟩ = some (.slice none 0 0) := K2.out.at_ 1 rfl
    have p0 : (w2.alloc (.cells #[.bool false, .slice Aq nq cq] 25)).frozen? ⟨w.heap.size + 1, 0, none⟩ = false := K2.out.frozen 0
    have p1 : (w2.alloc (.cells #[.bool false, .slice Aq nq cq] 25)).frozen? ⟨w.heap.size + 1, 1, none⟩ = false := K2.out.frozen 1
    go_wp2
    refine bodyPost_ret (v := .agg #[.bool false, .slice Aq nq cq]) (by simp [results, Tryz.results11, go_sem, K2c0, K2c1, p0, p1]) rfl ?_
    exact opq_end hR ⟨_, rfl, (by (repeat (first | exact b0 | exact Below.refl _ _ | refine Below.setCell ?_ (by first | (simp; done) | (simp; omega)) _ | refine Below.alloc ?_ (by first | (simp; done) | (simp; omega)) _))), Q.out.only K2.out (by decide) (((Only.refl _ _).set _ _).set _ _)⟩
  case true =>
    by_cases hr : nr = 0
    case pos =>
      subst hr
      have hq : 0 < nq := by
        have h1 := lr.out.1 rfl
        have h2 : q.num < 0 := by simpa using hb.out
        have h3 := Nat.div_add_mod q.num.natAbs q.den
        rcases Nat.eq_zero_or_pos nq with h0 | h0
        · have h4 := lq.out.1 h0
          rw [h1, h4] at h3
          omega
        · exact h0
      have Q := hide (intR_of_neg N1.out q.floor (floor_n0 hb.out (lr.out.1 rfl)) (Nat.pos_of_ne_zero (fun e => by have := lq.out.2 e; omega)))
      clear N1 lq lr hb
      have K1c0 : w2.cell? ⟨w.heap.size, 0, none⟩ = some (.bool true) := K1.out.at_ 0 rfl
      have K1c1 : w2.cell? ⟨w.heap.size, 1, none⟩ = some (.slice A8 n8 c8) := K1.out.at_ 1 rfl
      have K1c2 : w2.cell? ⟨w.heap.size, 2, none⟩ = some (.slice D8 m8 k8) := K1.out.at_ 2 rfl
      have K6 := hide (Blk.new_at w2 (w2.heap.size) (by simp) 25 #[.bool true, .slice Aq nq cq])
      have y := (Below.refl w2.heap.size w2).alloc (Nat.le_refl _) (.cells #[.bool true, .slice Aq nq cq] 25)
      replace K1 := hide (K1.out.below' y)
      replace K2 := hide (K2.out.below' y)
      replace Q := hide (Q.out.below y)
      replace b0 := hide (below_tr b0.out y)
      clear y
      have K1d0 : (w2.alloc (.cells #[.bool true, .slice Aq nq cq] 25)).cell? ⟨w.heap.size, 0, none⟩ = some (.bool true) := K1.out.at_ 0 rfl
      have K1d1 : (w2.alloc (.cells #[.bool true, .slice Aq nq cq] 25)).cell? ⟨w.heap.size, 1, none⟩ = some (.slice A8 n8 c8) := K1.out.at_ 1 rfl
      have K1d2 : (w2.alloc (.cells #[.bool true, .slice Aq nq cq] 25)).cell? ⟨w.heap.size, 2, none⟩ = some (.slice D8 m8 k8) := K1.out.at_ 2 rfl
      have K2c0 : (w2.alloc (.cells #[.bool true, .slice Aq nq cq] 25)).cell? ⟨w.heap.size + 1, 0, none⟩ = some (.bool false) := K2.out.at_ 0 rfl
      have K2c1 : (w2.alloc (.cells #[.bool true, .slice Aq nq cq] 25)).cell? ⟨w.heap.size + 1, 1, none⟩ = some (.slice none 0 0) := K2.out.at_ 1 rfl
      have p0 : (w2.alloc (.cells #[.bool true, .slice Aq nq cq] 25)).frozen? ⟨w.heap.size + 1, 0, none⟩ = false := K2.out.frozen 0
      have p1 : (w2.alloc (.cells #[.bool true, .slice Aq nq cq] 25)).frozen? ⟨w.heap.size + 1, 1, none⟩ = false := K2.out.frozen 1
      go_wp2
      refine bodyPost_ret (v := .agg #[.bool true, .slice Aq nq cq]) (by simp [results, Tryz.results11, go_sem, K2c0, K2c1, p0, p1]) rfl ?_
      exact opq_end hR ⟨_, rfl, (by (repeat (first | exact b0 | exact Below.refl _ _ | refine Below.setCell ?_ (by first | (simp; done) | (simp; omega)) _ | refine Below.alloc ?_ (by first | (simp; done) | (simp; omega)) _))), Q.out.only K2.out (by decide) (((Only.refl _ _).set _ _).set _ _)⟩
    have hr' : 0 < nr := by omega
    have ez : Hid (q.floor = -((q.num.natAbs / q.den : Nat) : Int) - 1) := floor_n1 hb.out (fun e => hr (lr.out.2 e))
    have sz : Hid (L (-((q.num.natAbs / q.den : Nat) : Int)).natAbs ≤ 1000000000000) := by
      show _ ≤ _
      rw [Int.natAbs_neg, Int.natAbs_natCast]
      exact L_up (L_div S.out.1) (by decide)
    by_cases hq : nq = 0
    case pos =>
      subst hq
      have Q : Hid (IntR (-((q.num.natAbs / q.den : Nat) : Int)) w.heap.size w2 (.agg #[.bool false, .slice Aq 0 cq])) := intR_of_nat N1.out _ (by rw [lq.out.1 rfl]; rfl)
      generalize -((q.num.natAbs / q.den : Nat) : Int) = z at *
      clear N1 lq lr hb hr
      have K1c0 : w2.cell? ⟨w.heap.size, 0, none⟩ = some (.bool true) := K1.out.at_ 0 rfl
      have K1c1 : w2.cell? ⟨w.heap.size, 1, none⟩ = some (.slice A8 n8 c8) := K1.out.at_ 1 rfl
      have K1c2 : w2.cell? ⟨w.heap.size, 2, none⟩ = some (.slice D8 m8 k8) := K1.out.at_ 2 rfl
      have K6 := hide (Blk.new_at w2 (w2.heap.size) (by simp) 25 #[.bool false, .slice Aq 0 cq])
      have y := (Below.refl w2.heap.size w2).alloc (Nat.le_refl _) (.cells #[.bool false, .slice Aq 0 cq] 25)
      replace K1 := hide (K1.out.below' y)
      replace K2 := hide (K2.out.below' y)
      replace Q := hide (Q.out.below y)
      replace b0 := hide (below_tr b0.out y)
      clear y
      have K1d0 : (w2.alloc (.cells #[.bool false, .slice Aq 0 cq] 25)).cell? ⟨w.heap.size, 0, none⟩ = some (.bool true) := K1.out.at_ 0 rfl
      have K1d1 : (w2.alloc (.cells #[.bool false, .slice Aq 0 cq] 25)).cell? ⟨w.heap.size, 1, none⟩ = some (.slice A8 n8 c8) := K1.out.at_ 1 rfl
      have K1d2 : (w2.alloc (.cells #[.bool false, .slice Aq 0 cq] 25)).cell? ⟨w.heap.size, 2, none⟩ = some (.slice D8 m8 k8) := K1.out.at_ 2 rfl
      go_wp2
      clear K1c0 K1c1 K1c2
      clear K1d0 K1d1 K1d2
      obtain ⟨V2_2, hV⟩ : ∃ V, (w2.alloc (.cells #[.bool false, .slice Aq 0 cq] 25)) = V := ⟨_, rfl⟩
      rw [hV] at K1 K2 Q K6 b0
      rw [hV]
      clear hV
      refine wp_region_facts 3 (fun w' => Below V2_2.heap.size V2_2 w') [(37, (.int0 V2_2 z)), (38, (.int 1)), (39, (.intR (z - 1) w.heap.size))] [false, false, false, false, false, false, false, false, false, false, false, false, false, false, false, false, false, false, false, false, false, false, false, false, false, false, false, false, false, false, false, false, false, false, false, false, false, true, true, true, false] mixed (by kernel_rfl) (by kernel_rfl) (by kernel_rfl) (fun _ _ h hb => h.trans (hb.mono h.size)) ((Below.refl _ _).drew) ⟨?_, ?_, ?_, trivial⟩ ?_
      · exact .load (.agg #[.bool false, .slice Aq 0 cq]) (.inl rfl) rfl rfl (fun a w' hC hs hl => by rw [show a.eval (.tmp 6) = (.pointer (some ⟨w2.heap.size, 0, none⟩) : Value) from (hs 6 (by kernel_rfl))]; exact ⟨ld_Int_ ((K6.out.below' hC).at_ 0 rfl) ((K6.out.below' hC).at_ 1 rfl), Q.out.can⟩)
      · exact .call (.inl rfl) rfl rfl fn_iOf (fun a w' hC hs hl => iOf_C w' 1 (by decide) (by decide))
      · exact .call (.inl rfl) rfl rfl fn_iSub (fun a w' hC hs hl => iSub_R w.heap.size (Nat.le_trans b0.out.size hC.size) (ICan.arg (ICan.below (hl 37 (by kernel_rfl) (by kernel_rfl)) hC) sz.out) (ICan.arg (hl 38 (by kernel_rfl) (by kernel_rfl)) (show L 1 ≤ 1000000000000 from L_up (L_small (by decide)) (by decide))))
      intro f w9 hC hF _
      have R9 : IntR (z - 1) w.heap.size w9 (f 39) := hF 39 (by kernel_rfl)
      clear hF
      simp only [patch, List.drop]
      obtain ⟨b9, A9, n9, c9, e9⟩ := R9.slice
      replace R9 := hide R9
      generalize f 39 = v9 at *
      generalize f 38 = y38 at *
      generalize f 37 = y37 at *
      subst e9
      replace K1 := hide (K1.out.below' hC)
      replace K2 := hide (K2.out.below' hC)
      replace Q := hide (Q.out.below hC)
      replace K6 := hide (K6.out.below' hC)
      replace b0 := hide (b0.out.trans (hC.mono b0.out.size))
      clear hC
      have K2c0 : w9.cell? ⟨w.heap.size + 1, 0, none⟩ = some (.bool false) := K2.out.at_ 0 rfl
      have K2c1 : w9.cell? ⟨w.heap.size + 1, 1, none⟩ = some (.slice none 0 0) := K2.out.at_ 1 rfl
      have p0 : w9.frozen? ⟨w.heap.size + 1, 0, none⟩ = false := K2.out.frozen 0
      have p1 : w9.frozen? ⟨w.heap.size + 1, 1, none⟩ = false := K2.out.frozen 1
      go_wp2
      refine bodyPost_ret (v := .agg #[.bool b9, .slice A9 n9 c9]) (by simp [results, Tryz.results11, go_sem, K2c0, K2c1, p0, p1]) rfl ?_
      exact opq_end hR ⟨_, rfl, (by (repeat (first | exact b0 | exact Below.refl _ _ | refine Below.setCell ?_ (by first | (simp; done) | (simp; omega)) _ | refine Below.alloc ?_ (by first | (simp; done) | (simp; omega)) _))), (by rw [ez.out]; exact R9.out.only K2.out (by decide) (((Only.refl _ _).set _ _).set _ _))⟩
    have hq' : 0 < nq := by omega
    have Q : Hid (IntR (-((q.num.natAbs / q.den : Nat) : Int)) w.heap.size w2 (.agg #[.bool true, .slice Aq nq cq])) := intR_of_neg N1.out _ rfl (Nat.pos_of_ne_zero (fun e => hq (lq.out.2 e)))
    generalize -((q.num.natAbs / q.den : Nat) : Int) = z at *
    clear N1 lq lr hb hr hq
    have K1c0 : w2.cell? ⟨w.heap.size, 0, none⟩ = some (.bool true) := K1.out.at_ 0 rfl
    have K1c1 : w2.cell? ⟨w.heap.size, 1, none⟩ = some (.slice A8 n8 c8) := K1.out.at_ 1 rfl
    have K1c2 : w2.cell? ⟨w.heap.size, 2, none⟩ = some (.slice D8 m8 k8) := K1.out.at_ 2 rfl
    have K6 := hide (Blk.new_at w2 (w2.heap.size) (by simp) 25 #[.bool true, .slice Aq nq cq])
    have y := (Below.refl w2.heap.size w2).alloc (Nat.le_refl _) (.cells #[.bool true, .slice Aq nq cq] 25)
    replace K1 := hide (K1.out.below' y)
    replace K2 := hide (K2.out.below' y)
    replace Q := hide (Q.out.below y)
    replace b0 := hide (below_tr b0.out y)
    clear y
    have K1d0 : (w2.alloc (.cells #[.bool true, .slice Aq nq cq] 25)).cell? ⟨w.heap.size, 0, none⟩ = some (.bool true) := K1.out.at_ 0 rfl
    have K1d1 : (w2.alloc (.cells #[.bool true, .slice Aq nq cq] 25)).cell? ⟨w.heap.size, 1, none⟩ = some (.slice A8 n8 c8) := K1.out.at_ 1 rfl
    have K1d2 : (w2.alloc (.cells #[.bool true, .slice Aq nq cq] 25)).cell? ⟨w.heap.size, 2, none⟩ = some (.slice D8 m8 k8) := K1.out.at_ 2 rfl
    go_wp2
    clear K1c0 K1c1 K1c2
    clear K1d0 K1d1 K1d2
    obtain ⟨V2_2, hV⟩ : ∃ V, (w2.alloc (.cells #[.bool true, .slice Aq nq cq] 25)) = V := ⟨_, rfl⟩
    rw [hV] at K1 K2 Q K6 b0
    rw [hV]
    clear hV
    refine wp_region_facts 3 (fun w' => Below V2_2.heap.size V2_2 w') [(37, (.int0 V2_2 z)), (38, (.int 1)), (39, (.intR (z - 1) w.heap.size))] [false, false, false, false, false, false, false, false, false, false, false, false, false, false, false, false, false, false, false, false, false, false, false, false, false, false, false, false, false, false, false, false, false, false, false, false, false, true, true, true, false] mixed (by kernel_rfl) (by kernel_rfl) (by kernel_rfl) (fun _ _ h hb => h.trans (hb.mono h.size)) ((Below.refl _ _).drew) ⟨?_, ?_, ?_, trivial⟩ ?_
    · exact .load (.agg #[.bool true, .slice Aq nq cq]) (.inl rfl) rfl rfl (fun a w' hC hs hl => by rw [show a.eval (.tmp 6) = (.pointer (some ⟨w2.heap.size, 0, none⟩) : Value) from (hs 6 (by kernel_rfl))]; exact ⟨ld_Int_ ((K6.out.below' hC).at_ 0 rfl) ((K6.out.below' hC).at_ 1 rfl), Q.out.can⟩)
    · exact .call (.inl rfl) rfl rfl fn_iOf (fun a w' hC hs hl => iOf_C w' 1 (by decide) (by decide))
    · exact .call (.inl rfl) rfl rfl fn_iSub (fun a w' hC hs hl => iSub_R w.heap.size (Nat.le_trans b0.out.size hC.size) (ICan.arg (ICan.below (hl 37 (by kernel_rfl) (by kernel_rfl)) hC) sz.out) (ICan.arg (hl 38 (by kernel_rfl) (by kernel_rfl)) (show L 1 ≤ 1000000000000 from L_up (L_small (by decide)) (by decide))))
    intro f w9 hC hF _
    have R9 : IntR (z - 1) w.heap.size w9 (f 39) := hF 39 (by kernel_rfl)
    clear hF
    simp only [patch, List.drop]
    obtain ⟨b9, A9, n9, c9, e9⟩ := R9.slice
    replace R9 := hide R9
    generalize f 39 = v9 at *
    generalize f 38 = y38 at *
    generalize f 37 = y37 at *
    subst e9
    replace K1 := hide (K1.out.below' hC)
    replace K2 := hide (K2.out.below' hC)
    replace Q := hide (Q.out.below hC)
    replace K6 := hide (K6.out.below' hC)
    replace b0 := hide (b0.out.trans (hC.mono b0.out.size))
    clear hC
    have K2c0 : w9.cell? ⟨w.heap.size + 1, 0, none⟩ = some (.bool false) := K2.out.at_ 0 rfl
    have K2c1 : w9.cell? ⟨w.heap.size + 1, 1, none⟩ = some (.slice none 0 0) := K2.out.at_ 1 rfl
    have p0 : w9.frozen? ⟨w.heap.size + 1, 0, none⟩ = false := K2.out.frozen 0
    have p1 : w9.frozen? ⟨w.heap.size + 1, 1, none⟩ = false := K2.out.frozen 1
    go_wp2
    refine bodyPost_ret (v := .agg #[.bool b9, .slice A9 n9 c9]) (by simp [results, Tryz.results11, go_sem, K2c0, K2c1, p0, p1]) rfl ?_
    exact opq_end hR ⟨_, rfl, (by (repeat (first | exact b0 | exact Below.refl _ _ | refine Below.setCell ?_ (by first | (simp; done) | (simp; omega)) _ | refine Below.alloc ?_ (by first | (simp; done) | (simp; omega)) _))), (by rw [ez.out]; exact R9.out.only K2.out (by decide) (((Only.refl _ _).set _ _).set _ _))⟩
/-- A fraction's text. -/
def rtxt (q : Rat) : List Nat := itxt q.num ++ (if q.den = 1 then [] else 47 :: txt q.den)
theorem itxt_len {z : Int} {k : Nat} (h : L z.natAbs ≤ k) : (itxt z).length ≤ 10 * k + 2 := by
  unfold itxt
  have := txt_len h
  split
  · simp only [List.length_cons]; omega
  · omega
set_option maxHeartbeats 2000000 in
theorem rText_P {w : World} {v : Value} {q : Rat} (h : RArg w v q) (hl : H q 1000000) (hT : Tab w) :
    Calls Tryz.prog 20 #[v] w fun e w' => ∃ u, e = .returned u ∧ Below w.heap.size w w' ∧ u = vstr (bts (rtxt q)) := by
  refine opq fun R hR => ?_
  obtain ⟨b1, A1, n1, c1, D1, m1, k1, rfl⟩ := h.slice
  have S := hide hl
  replace h := hide h
  have T := hide hT
  clear hT hl
  have e1 : Hid (q.den = 1 → bts (rtxt q) = bts (itxt q.num)) := fun e => by rw [rtxt, if_pos e, List.append_nil]
  have e2 : Hid (q.den ≠ 1 → bts (rtxt q) = bts (itxt q.num) ++ 47 :: bts (txt q.den)) := fun e => by rw [rtxt, if_neg e, bts_append]; rfl
  have t1 : (bts (itxt q.num)).length ≤ 10000002 := by rw [bts, List.length_map]; exact itxt_len S.out.1
  have t2 : (bts (txt q.den)).length ≤ 10000001 := by rw [bts, List.length_map]; exact txt_len S.out.2
  go_enter Tryz.func20, Tryz.ntmps20
  have b0 := hide (Below.refl w.heap.size w)
  have K1 := hide (Blk.new_at w (w.heap.size) (by simp) 27 #[.bool b1, .slice A1 n1 c1, .slice D1 m1 k1])
  have y := (Below.refl w.heap.size w).alloc (Nat.le_refl _) (.cells #[.bool b1, .slice A1 n1 c1, .slice D1 m1 k1] 27)
  replace b0 := hide (below_tr b0.out y)
  clear y
  go_wp2_with fail
  refine (rof_P h.out b0.out (T.out.below b0.out) w.heap.size b0.out.size).mono ?_
  rintro e w1 ⟨v8, rfl, d0, r8⟩
  replace K1 := hide (K1.out.below' d0)
  replace b0 := hide (below_tr b0.out d0)
  have P1 := hide (r8)
  clear d0
  clear r8
  obtain ⟨b8, A8, n8, c8, D8, m8, k8, rfl⟩ := P1.out.slice
  have f0 : w1.frozen? ⟨w.heap.size, 0, none⟩ = false := K1.out.frozen 0
  have f1 : w1.frozen? ⟨w.heap.size, 1, none⟩ = false := K1.out.frozen 1
  have f2 : w1.frozen? ⟨w.heap.size, 2, none⟩ = false := K1.out.frozen 2
  have K1c0 : w1.cell? ⟨w.heap.size, 0, none⟩ = some (.bool b1) := K1.out.at_ 0 rfl
  have K1c1 : w1.cell? ⟨w.heap.size, 1, none⟩ = some (.slice A1 n1 c1) := K1.out.at_ 1 rfl
  have K1c2 : w1.cell? ⟨w.heap.size, 2, none⟩ = some (.slice D1 m1 k1) := K1.out.at_ 2 rfl
  go_wp2_with fail
  clear K1c0 K1c1 K1c2
  clear f0 f1 f2
  have F : Only (w.heap.size) w1 (((w1.setCell ⟨w.heap.size, 0, none⟩ (.bool b8)).setCell ⟨w.heap.size, 1, none⟩ (.slice A8 n8 c8)).setCell ⟨w.heap.size, 2, none⟩ (.slice D8 m8 k8)) := ((((Only.refl _ _).set _ _).set _ _).set _ _)
  replace P1 := hide (P1.out.only K1.out (by decide) F)
  have by_ : Hid (Below w.heap.size w (((w1.setCell ⟨w.heap.size, 0, none⟩ (.bool b8)).setCell ⟨w.heap.size, 1, none⟩ (.slice A8 n8 c8)).setCell ⟨w.heap.size, 2, none⟩ (.slice D8 m8 k8))) := (((b0.out.setCell (p := ⟨w.heap.size, 0, none⟩) (by first | exact Nat.le_refl _ | (simp; done) | (simp; omega)) (.bool b8)).setCell (p := ⟨w.heap.size, 1, none⟩) (by first | exact Nat.le_refl _ | (simp; done) | (simp; omega)) (.slice A8 n8 c8)).setCell (p := ⟨w.heap.size, 2, none⟩) (by first | exact Nat.le_refl _ | (simp; done) | (simp; omega)) (.slice D8 m8 k8))
  replace K1 : Hid (Blk (((w1.setCell ⟨w.heap.size, 0, none⟩ (.bool b8)).setCell ⟨w.heap.size, 1, none⟩ (.slice A8 n8 c8)).setCell ⟨w.heap.size, 2, none⟩ (.slice D8 m8 k8)) (w.heap.size) 27 #[.bool b8, .slice A8 n8 c8, .slice D8 m8 k8]) := (((K1.out.set_ 0 (.bool b8)).set_ 1 (.slice A8 n8 c8)).set_ 2 (.slice D8 m8 k8))
  replace b0 := by_
  clear by_ F
  obtain ⟨V1_2, hV⟩ : ∃ V, (((w1.setCell ⟨w.heap.size, 0, none⟩ (.bool b8)).setCell ⟨w.heap.size, 1, none⟩ (.slice A8 n8 c8)).setCell ⟨w.heap.size, 2, none⟩ (.slice D8 m8 k8)) = V := ⟨_, rfl⟩
  rw [hV] at K1 P1 b0
  rw [hV]
  clear hV
  have C := hide (P1.out.can b0.out)
  clear P1
  refine (iText_ok (C.out.num.arg (L_up S.out.1 (by decide))) S.out.1).mono ?_
  rintro e w2 ⟨rfl, d0⟩
  replace K1 := hide (K1.out.below' d0.out)
  replace C := hide (C.out.below d0.out)
  replace b0 := hide (below_tr b0.out d0.out)
  clear d0
  have K1c0 : w2.cell? ⟨w.heap.size, 0, none⟩ = some (.bool b8) := K1.out.at_ 0 rfl
  have K1c1 : w2.cell? ⟨w.heap.size, 1, none⟩ = some (.slice A8 n8 c8) := K1.out.at_ 1 rfl
  have K1c2 : w2.cell? ⟨w.heap.size, 2, none⟩ = some (.slice D8 m8 k8) := K1.out.at_ 2 rfl
  by_cases hq : q.den = 1
  case pos =>
    have ef := hide (e1.out hq)
    clear e1 e2 t2
    go_wp2_with fail
    refine (is1_P C.out.den true (by simpa using hq)).mono ?_
    rintro e w3 ⟨_, rfl, d0, rfl⟩
    replace K1 := hide (K1.out.below' d0)
    replace C := hide (C.out.below d0)
    replace b0 := hide (below_tr b0.out d0)
    clear d0
    clear K1c0 K1c1 K1c2
    have K1c0 : w3.cell? ⟨w.heap.size, 0, none⟩ = some (.bool b8) := K1.out.at_ 0 rfl
    have K1c1 : w3.cell? ⟨w.heap.size, 1, none⟩ = some (.slice A8 n8 c8) := K1.out.at_ 1 rfl
    have K1c2 : w3.cell? ⟨w.heap.size, 2, none⟩ = some (.slice D8 m8 k8) := K1.out.at_ 2 rfl
    generalize bts (itxt q.num) = t at *
    go_wp2
    exact opq_end hR ⟨_, rfl, b0.out, by first | (rw [ef.out]; done) | (rw [ef.out]; rfl)⟩
  have ef := hide (e2.out hq)
  clear e1 e2
  go_wp2_with fail
  refine (is1_P C.out.den false (by simpa using hq)).mono ?_
  rintro e w3 ⟨_, rfl, d0, rfl⟩
  replace K1 := hide (K1.out.below' d0)
  replace C := hide (C.out.below d0)
  replace b0 := hide (below_tr b0.out d0)
  clear d0
  clear K1c0 K1c1 K1c2
  have K1c0 : w3.cell? ⟨w.heap.size, 0, none⟩ = some (.bool b8) := K1.out.at_ 0 rfl
  have K1c1 : w3.cell? ⟨w.heap.size, 1, none⟩ = some (.slice A8 n8 c8) := K1.out.at_ 1 rfl
  have K1c2 : w3.cell? ⟨w.heap.size, 2, none⟩ = some (.slice D8 m8 k8) := K1.out.at_ 2 rfl
  go_wp2_with fail
  refine (Text_can C.out.den S.out.2).mono ?_
  rintro e w4 ⟨rfl, d0⟩
  replace K1 := hide (K1.out.below' d0.out)
  replace C := hide (C.out.below d0.out)
  replace b0 := hide (below_tr b0.out d0.out)
  clear d0
  generalize bts (itxt q.num) = t at *
  generalize bts (txt q.den) = t' at *
  go_wp2
  exact opq_end hR ⟨_, rfl, b0.out, by first | (rw [ef.out]; done) | (rw [ef.out]; rfl)⟩
end Go.Proofs.YtkefmeddnncacaaGreatDoor
