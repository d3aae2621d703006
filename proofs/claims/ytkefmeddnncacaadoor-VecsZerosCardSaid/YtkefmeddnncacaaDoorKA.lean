/- rats: contracts of Check, Of, lowest, Make, cross, Add, Sub, Mul, Cmp, Sign, Whole, Div, Floor, Text. -/
import Derived.Test.YtkefmeddnncacaaDoorIA
import Derived.Test.YtkefmeddnncacaaDoorFz
/- rats: words; is1. -/
set_option linter.unusedVariables false
set_option linter.unusedSimpArgs false
set_option maxRecDepth 100000
namespace Go.Proofs.YtkefmeddnncacaaDoor
open Go.RowKit

abbrev TR : TypeId := 51
/-- A fraction as it is told: a sign and parts above, parts below, not too many. -/
def RPrt (w : World) (v : Value) (b : Bool) (xs ys : List Nat) : Prop := ∃ u d, v = .agg #[.bool b, u, d] ∧ Prt w u xs ∧ Prt w d ys
/-- The value reads as the fraction q, in lowest terms. -/
def RCan (w : World) (v : Value) (q : Rat) : Prop := ∃ u d, v = .agg #[.bool (decide (q.num < 0)), u, d] ∧ Can w u q.num.natAbs ∧ Can w d q.den
/-- .. in memory of its own from block B on. -/
def RatR (q : Rat) (B : Nat) (w : World) (v : Value) : Prop := ∃ u d, v = .agg #[.bool (decide (q.num < 0)), u, d] ∧ NatR q.num.natAbs B w u ∧ NatR q.den B w d ∧ Sep u d
/-- A fraction of whatever kind, not too long, that counts as q. -/
def RArg (w : World) (v : Value) (q : Rat) : Prop := ∃ b xs ys, RPrt w v b xs ys ∧ xs.length ≤ 100000000000 ∧ ys.length ≤ 100000000000 ∧ rv b xs ys = q
theorem RPrt.below {w w' : World} {v : Value} {b : Bool} {xs ys : List Nat} (h : RPrt w v b xs ys) (hb : Below w.heap.size w w') : RPrt w' v b xs ys := by
  obtain ⟨u, d, e, h1, h2⟩ := h
  exact ⟨u, d, e, h1.below hb, h2.below hb⟩
theorem RCan.below {w w' : World} {v : Value} {q : Rat} (h : RCan w v q) (hb : Below w.heap.size w w') : RCan w' v q := by
  obtain ⟨u, d, e, h1, h2⟩ := h
  exact ⟨u, d, e, h1.below hb, h2.below hb⟩
theorem RatR.below {q : Rat} {B : Nat} {w w' : World} {v : Value} (h : RatR q B w v) (hb : Below w.heap.size w w') : RatR q B w' v := by
  obtain ⟨u, d, e, h1, h2, h3⟩ := h
  exact ⟨u, d, e, h1.below hb, h2.below hb, h3⟩
theorem RArg.below {w w' : World} {v : Value} {q : Rat} (h : RArg w v q) (hb : Below w.heap.size w w') : RArg w' v q := by
  obtain ⟨b, xs, ys, h1, h2⟩ := h
  exact ⟨b, xs, ys, h1.below hb, h2⟩
theorem RatR.mono {q : Rat} {B B' : Nat} {w : World} {v : Value} (h : RatR q B w v) (hB : B' ≤ B) : RatR q B' w v := by
  obtain ⟨u, d, e, h1, h2, h3⟩ := h
  exact ⟨u, d, e, h1.mono hB, h2.mono hB, h3⟩
theorem RatR.can {q : Rat} {B : Nat} {w : World} {v : Value} (h : RatR q B w v) : RCan w v q := by
  obtain ⟨u, d, e, h1, h2, h3⟩ := h
  exact ⟨u, d, e, h1.can, h2.can⟩
theorem RatR.only {q : Rat} {B g : Nat} {w W : World} {v : Value} {t : TypeId} {cs : Array Value} (h : RatR q B w v) (hb : Blk w g t cs) (ht : T32 ≠ t) (F : Only g w W) : RatR q B W v := by
  obtain ⟨u, d, e, h1, h2, h3⟩ := h
  exact ⟨u, d, e, h1.only hb ht F, h2.only hb ht F, h3⟩
theorem Can.slice {w : World} {v : Value} {N : Nat} (h : Can w v N) : ∃ A n c, v = .slice A n c := by
  obtain ⟨A, c, q, _⟩ := h; exact ⟨A, _, c, q⟩
theorem Prt.slice {w : World} {v : Value} {xs : List Nat} (h : Prt w v xs) : ∃ A n c, v = .slice A n c ∧ xs.length = n := by
  obtain ⟨A, n, c, e, h1, h2, h3, h4⟩ := h; exact ⟨A, n, c, e, h3.1⟩
theorem NatR.slice {N B : Nat} {w : World} {v : Value} (h : NatR N B w v) : ∃ A n c, v = .slice A n c := h.can.slice
theorem RCan.slice {w : World} {v : Value} {q : Rat} (h : RCan w v q) : ∃ b A n c D m k, v = .agg #[.bool b, .slice A n c, .slice D m k] := by
  obtain ⟨u, d, e, h1, h2⟩ := h
  obtain ⟨A, n, c, rfl⟩ := h1.slice
  obtain ⟨D, m, k, rfl⟩ := h2.slice
  exact ⟨_, A, n, c, D, m, k, e⟩
theorem RatR.slice {w : World} {v : Value} {q : Rat} {B : Nat} (h : RatR q B w v) : ∃ b A n c D m k, v = .agg #[.bool b, .slice A n c, .slice D m k] := h.can.slice
theorem RArg.slice {w : World} {v : Value} {q : Rat} (h : RArg w v q) : ∃ b A n c D m k, v = .agg #[.bool b, .slice A n c, .slice D m k] := by
  obtain ⟨b, xs, ys, ⟨u, d, e, h1, h2⟩, _⟩ := h
  obtain ⟨A, n, c, rfl, _⟩ := h1.slice
  obtain ⟨D, m, k, rfl, _⟩ := h2.slice
  exact ⟨b, A, n, c, D, m, k, e⟩
theorem RArg.size {w : World} {v : Value} {q : Rat} (h : RArg w v q) : H q 100000000000 := by
  obtain ⟨b, xs, ys, ⟨u, d, e, h1, h2⟩, l1, l2, rfl⟩ := h
  exact H_rv h1.is32 h2.is32 l1 l2 (by decide)
theorem RPrt.can {w : World} {v : Value} {b : Bool} {xs ys : List Nat} (h : RPrt w v b xs ys) (hr : rok b xs ys = true) : RCan w v (rv b xs ys) := by
  obtain ⟨u, d, rfl, h1, h2⟩ := h
  obtain ⟨e1, e2⟩ := rv_ok hr
  obtain ⟨p1, p2, p3, p4⟩ := rok_parts hr
  refine ⟨u, d, by rw [e1, iok_neg p1], ?_, ?_⟩
  · rw [e1, iok_abs p1]; exact h1.can (iok_chk p1)
  · rw [e2]; exact h2.can p2
theorem RCan.prt {w : World} {v : Value} {q : Rat} (h : RCan w v q) (hl : H q 4398046511104) : RPrt w v (decide (q.num < 0)) (limbs q.num.natAbs) (limbs q.den) := by
  obtain ⟨u, d, e, h1, h2⟩ := h
  exact ⟨u, d, e, h1.prt hl.1, h2.prt hl.2⟩
theorem RCan.num {w : World} {b : Bool} {u d : Value} {q : Rat} (h : RCan w (.agg #[.bool b, u, d]) q) : ICan w (.agg #[.bool b, u]) q.num := by
  obtain ⟨u', d', e, h1, h2⟩ := h
  cases e
  exact ⟨u, rfl, h1⟩
theorem RCan.den {w : World} {b : Bool} {u d : Value} {q : Rat} (h : RCan w (.agg #[.bool b, u, d]) q) : Can w d q.den := by
  obtain ⟨u', d', e, h1, h2⟩ := h
  cases e
  exact h2
def Fact.rat (q : Rat) : Fact := ⟨fun v w => RCan w v q, fun _ _ _ h hb => h.below hb⟩
def Fact.ratR (q : Rat) (B : Nat) : Fact := ⟨fun v w => RatR q B w v, fun _ _ _ h hb => h.below hb⟩
def Fact.rarg0 (w : World) (q : Rat) : Fact := ⟨fun v _ => RArg w v q, fun _ _ _ h _ => h⟩
def Fact.rat0 (w : World) (q : Rat) : Fact := ⟨fun v _ => RCan w v q, fun _ _ _ h _ => h⟩

/-! ### contracts of what lies below, in one form -/
end Go.Proofs.YtkefmeddnncacaaDoor

/- rats: Check, Of, of, lowest, Make. -/
set_option linter.unusedVariables false
set_option linter.unusedSimpArgs false
set_option maxRecDepth 100000
namespace Go.Proofs.YtkefmeddnncacaaDoor
open Go.RowKit

/-- Parts that are written out, in memory of its own. -/
theorem litR_at (w : World) (g : Nat) (hg : w.heap.size = g) (xs : List Nat) (N : Nat) (hN : val xs = N) (h : Is32 xs) (hc : chk xs = true) (hl : xs.length ≤ 1000) (B : Nat) (hB : B ≤ g) (cs : Array Value) (hcs : cellsOf .u32 xs = cs) : NatR N B (w.alloc (.cells cs T32)) (.slice (some ⟨g, 0, none⟩) xs.length xs.length) := by
  subst hg hN hcs
  have e := limbs_val_chk h hc
  have k := Blk.new w T32 (cellsOf .u32 xs)
  refine ⟨_, xs.length, by rw [e], ?_, .inr ⟨_, _, rfl, hB, k, by rw [cellsOf_size]; exact Nat.le_refl _⟩, by rw [e]; exact Nat.le_refl _⟩
  rw [e]
  have := k.rd xs.length (Nat.le_refl _) (by omega)
  rwa [List.take_length] at this
set_option maxHeartbeats 1000000 in
theorem rOf_P (w : World) (n : Int) (h0 : -9223372036854775808 ≤ n) (h1 : n < 9223372036854775808) :
    Calls Tryd.prog 39 #[.int .i64 n] w fun e w' => ∃ u, e = .returned u ∧ Below w.heap.size w w' ∧ RatR (n : Rat) w.heap.size w' u := by
  refine opq fun R hR => ?_
  go_enter Tryd.func39, Tryd.ntmps39
  have b0 := hide (Below.refl w.heap.size w)
  have K := hide (Blk.new_at w (w.heap.size) (by simp) 51 #[.bool false, .slice none 0 0, .slice none 0 0])
  have y := (Below.refl w.heap.size w).alloc (Nat.le_refl _) (.cells #[.bool false, .slice none 0 0, .slice none 0 0] 51)
  replace b0 := hide (below_tr b0.out y)
  clear y
  go_wp2_with fail
  refine (iOf_ok _ n h0 h1).mono ?_
  rintro e w1 ⟨v9, rfl, d0, r9⟩
  replace K := hide (K.out.below' d0)
  replace b0 := hide (below_tr b0.out d0)
  have R9 := hide (r9.mono (B' := w.heap.size) (by simp))
  clear d0
  clear r9
  obtain ⟨b9, A9, n9, c9, rfl⟩ := R9.out.slice
  have x0 := hide (litR_at w1 (w1.heap.size) (by simp) [1] 1 rfl (is32d (by decide)) (by decide) (by decide) w.heap.size b0.out.size #[.int .u32 1] rfl)
  have xs0 : Hid (Sep (.slice A9 n9 c9) (.slice (some ⟨w1.heap.size, 0, none⟩) 1 1)) := by
    obtain ⟨u, e, hn⟩ := R9.out
    cases e
    exact hn.sep (litR_at w1 (w1.heap.size) (by simp) [1] 1 rfl (is32d (by decide)) (by decide) (by decide) _ (Nat.le_refl _) #[.int .u32 1] rfl)
  have y := (Below.refl w1.heap.size w1).alloc (Nat.le_refl _) (.cells #[.int .u32 1] T32)
  replace K := hide (K.out.below' y)
  replace R9 := hide (R9.out.below y)
  replace b0 := hide (below_tr b0.out y)
  clear y
  have Q : Hid (RatR (n : Rat) w.heap.size (w1.alloc (.cells #[.int .u32 1] T32)) (.agg #[.bool b9, .slice A9 n9 c9, .slice (some ⟨w1.heap.size, 0, none⟩) 1 1])) := by
    obtain ⟨u, e, hn⟩ := R9.out
    cases e
    exact ⟨_, _, rfl, hn, x0.out, xs0.out⟩
  have Kc0 : (w1.alloc (.cells #[.int .u32 1] T32)).cell? ⟨w.heap.size, 0, none⟩ = some (.bool false) := K.out.at_ 0 rfl
  have Kc1 : (w1.alloc (.cells #[.int .u32 1] T32)).cell? ⟨w.heap.size, 1, none⟩ = some (.slice none 0 0) := K.out.at_ 1 rfl
  have Kc2 : (w1.alloc (.cells #[.int .u32 1] T32)).cell? ⟨w.heap.size, 2, none⟩ = some (.slice none 0 0) := K.out.at_ 2 rfl
  have p0 : (w1.alloc (.cells #[.int .u32 1] T32)).frozen? ⟨w.heap.size, 0, none⟩ = false := K.out.frozen 0
  have p1 : (w1.alloc (.cells #[.int .u32 1] T32)).frozen? ⟨w.heap.size, 1, none⟩ = false := K.out.frozen 1
  have p2 : (w1.alloc (.cells #[.int .u32 1] T32)).frozen? ⟨w.heap.size, 2, none⟩ = false := K.out.frozen 2
  go_wp2
  refine bodyPost_ret (v := .agg #[.bool b9, .slice A9 n9 c9, .slice (some ⟨w1.heap.size, 0, none⟩) 1 1]) (by simp [results, Tryd.results39, go_sem, Kc0, Kc1, Kc2, p0, p1, p2]) rfl ?_
  exact opq_end hR ⟨_, rfl, (by (repeat (first | exact b0 | exact Below.refl _ _ | refine Below.setCell ?_ (by first | (simp; done) | (simp; omega)) _ | refine Below.alloc ?_ (by first | (simp; done) | (simp; omega)) _))), Q.out.only K.out (by decide) ((((Only.refl _ _).set _ _).set _ _).set _ _)⟩
end Go.Proofs.YtkefmeddnncacaaDoor

/- rats: lowest, of, Make. -/
set_option linter.unusedVariables false
set_option linter.unusedSimpArgs false
set_option maxRecDepth 100000
namespace Go.Proofs.YtkefmeddnncacaaDoor
open Go.RowKit

/-- What is read in the world ahead, or lies in memory of the call's own. -/
def ROld (w0 : World) (q : Rat) (B : Nat) (w : World) (u : Value) : Prop := RCan w0 u q ∨ RatR q B w u
theorem ROld.below {w0 w w' : World} {q : Rat} {B : Nat} {u : Value} (h : ROld w0 q B w u) (hb : Below w.heap.size w w') : ROld w0 q B w' u := h.imp id fun h => h.below hb
theorem ROld.mono {w0 w : World} {q : Rat} {B B' : Nat} {u : Value} (h : ROld w0 q B w u) (hB : B' ≤ B) : ROld w0 q B' w u := h.imp id fun h => h.mono hB
theorem ROld.can {w0 w : World} {q : Rat} {B : Nat} {u : Value} (h : ROld w0 q B w u) (hb : Below w0.heap.size w0 w) : RCan w u q := h.elim (fun h => h.below hb) fun h => h.can
theorem ROld.only {w0 w W : World} {q : Rat} {B g : Nat} {u : Value} {t : TypeId} {cs : Array Value} (h : ROld w0 q B w u) (hb : Blk w g t cs) (ht : T32 ≠ t) (F : Only g w W) : ROld w0 q B W u := h.imp id fun h => h.only hb ht F
theorem ROld.slice {w0 w : World} {q : Rat} {B : Nat} {v : Value} (h : ROld w0 q B w v) : ∃ b A n c D m k, v = .agg #[.bool b, .slice A n c, .slice D m k] := h.elim (fun h => h.slice) fun h => h.slice
def Fact.rold (w0 : World) (q : Rat) (B : Nat) : Fact := ⟨fun v w => ROld w0 q B w v, fun _ _ _ h hb => h.below hb⟩
theorem ICan.nat {w : World} {b : Bool} {u : Value} {z : Int} (h : ICan w (.agg #[.bool b, u]) z) : Can w u z.natAbs ∧ decide (z < 0) = b := by
  obtain ⟨u', e, h1⟩ := h
  cases e
  exact ⟨h1, rfl⟩
end Go.Proofs.YtkefmeddnncacaaDoor

/- rats: cross. -/
set_option linter.unusedVariables false
set_option linter.unusedSimpArgs false
set_option maxRecDepth 100000
namespace Go.Proofs.YtkefmeddnncacaaDoor
open Go.RowKit

section
variable {w : World} {g : Nat}
end
def Fact.ints2 (x y : Int) (B : Nat) : Fact := ⟨fun v w => ∃ b1 A1 n1 c1 b2 A2 n2 c2, v = .agg #[.bool b1, .slice A1 n1 c1, .bool b2, .slice A2 n2 c2] ∧ IntR x B w (.agg #[.bool b1, .slice A1 n1 c1]) ∧ IntR y B w (.agg #[.bool b2, .slice A2 n2 c2]),
  fun _ _ _ ⟨b1, A1, n1, c1, b2, A2, n2, c2, e, h1, h2⟩ hb => ⟨b1, A1, n1, c1, b2, A2, n2, c2, e, h1.below hb, h2.below hb⟩⟩
end Go.Proofs.YtkefmeddnncacaaDoor

/- rats: with, Add, Sub, Mul, Cmp, Sign. -/
set_option linter.unusedVariables false
set_option linter.unusedSimpArgs false
set_option maxRecDepth 100000
namespace Go.Proofs.YtkefmeddnncacaaDoor
open Go.RowKit

end Go.Proofs.YtkefmeddnncacaaDoor

/- rats: Div, Floor, Text; SameRat; the laws' of, same, great. -/
set_option linter.unusedVariables false
set_option linter.unusedSimpArgs false
set_option maxRecDepth 100000
namespace Go.Proofs.YtkefmeddnncacaaDoor
open Go.RowKit

theorem rat_eq_iff {p q : Rat} : p = q ↔ p.num = q.num ∧ p.den = q.den := ⟨fun e => by subst e; exact ⟨rfl, rfl⟩, fun ⟨h1, h2⟩ => Rat.ext h1 h2⟩
theorem nSame_P {w : World} {v v' : Value} {M N : Nat} (h : Can w v M) (h' : Can w v' N) :
    Calls Tryd.prog 112 #[v, v'] w fun e w' => ∃ u, e = .returned u ∧ Below w.heap.size w w' ∧ u = .bool (decide (M = N)) :=
  (Same_can h h').mono fun e w' ⟨h1, h2⟩ => ⟨_, h1, h2.out, rfl⟩
set_option maxHeartbeats 1000000 in
theorem rSame_P {w : World} {v1 v2 : Value} {p q : Rat} (h1 : RCan w v1 p) (h2 : RCan w v2 q) :
    Calls Tryd.prog 37 #[v1, v2] w fun e w' => ∃ u, e = .returned u ∧ Below w.heap.size w w' ∧ u = .bool (decide (p = q)) := by
  refine opq fun R hR => ?_
  obtain ⟨b1, A1, n1, c1, D1, m1, k1, rfl⟩ := h1.slice
  obtain ⟨b2, A2, n2, c2, D2, m2, k2, rfl⟩ := h2.slice
  replace h1 := hide h1
  replace h2 := hide h2
  have ei : Hid (decide (p = q) = (decide (p.num = q.num) && decide (p.den = q.den))) := by
    show _ = _
    rw [Bool.eq_iff_iff]; simp [rat_eq_iff]
  go_enter Tryd.func37, Tryd.ntmps37
  have b0 := hide (Below.refl w.heap.size w)
  have K1 := hide (Blk.new_at w (w.heap.size) (by simp) 51 #[.bool b1, .slice A1 n1 c1, .slice D1 m1 k1])
  have y := (Below.refl w.heap.size w).alloc (Nat.le_refl _) (.cells #[.bool b1, .slice A1 n1 c1, .slice D1 m1 k1] 51)
  replace h1 := hide (h1.out.below y)
  replace h2 := hide (h2.out.below y)
  replace b0 := hide (below_tr b0.out y)
  clear y
  have K2 := hide (Blk.new_at (w.alloc (.cells #[.bool b1, .slice A1 n1 c1, .slice D1 m1 k1] 51)) (w.heap.size + 1) (by simp) 51 #[.bool b2, .slice A2 n2 c2, .slice D2 m2 k2])
  have y := (Below.refl (w.alloc (.cells #[.bool b1, .slice A1 n1 c1, .slice D1 m1 k1] 51)).heap.size (w.alloc (.cells #[.bool b1, .slice A1 n1 c1, .slice D1 m1 k1] 51))).alloc (Nat.le_refl _) (.cells #[.bool b2, .slice A2 n2 c2, .slice D2 m2 k2] 51)
  replace h1 := hide (h1.out.below y)
  replace h2 := hide (h2.out.below y)
  replace K1 := hide (K1.out.below' y)
  replace b0 := hide (below_tr b0.out y)
  clear y
  have K1c0 : ((w.alloc (.cells #[.bool b1, .slice A1 n1 c1, .slice D1 m1 k1] 51)).alloc (.cells #[.bool b2, .slice A2 n2 c2, .slice D2 m2 k2] 51)).cell? ⟨w.heap.size, 0, none⟩ = some (.bool b1) := K1.out.at_ 0 rfl
  have K1c1 : ((w.alloc (.cells #[.bool b1, .slice A1 n1 c1, .slice D1 m1 k1] 51)).alloc (.cells #[.bool b2, .slice A2 n2 c2, .slice D2 m2 k2] 51)).cell? ⟨w.heap.size, 1, none⟩ = some (.slice A1 n1 c1) := K1.out.at_ 1 rfl
  have K1c2 : ((w.alloc (.cells #[.bool b1, .slice A1 n1 c1, .slice D1 m1 k1] 51)).alloc (.cells #[.bool b2, .slice A2 n2 c2, .slice D2 m2 k2] 51)).cell? ⟨w.heap.size, 2, none⟩ = some (.slice D1 m1 k1) := K1.out.at_ 2 rfl
  have K2c0 : ((w.alloc (.cells #[.bool b1, .slice A1 n1 c1, .slice D1 m1 k1] 51)).alloc (.cells #[.bool b2, .slice A2 n2 c2, .slice D2 m2 k2] 51)).cell? ⟨w.heap.size + 1, 0, none⟩ = some (.bool b2) := K2.out.at_ 0 rfl
  have K2c1 : ((w.alloc (.cells #[.bool b1, .slice A1 n1 c1, .slice D1 m1 k1] 51)).alloc (.cells #[.bool b2, .slice A2 n2 c2, .slice D2 m2 k2] 51)).cell? ⟨w.heap.size + 1, 1, none⟩ = some (.slice A2 n2 c2) := K2.out.at_ 1 rfl
  have K2c2 : ((w.alloc (.cells #[.bool b1, .slice A1 n1 c1, .slice D1 m1 k1] 51)).alloc (.cells #[.bool b2, .slice A2 n2 c2, .slice D2 m2 k2] 51)).cell? ⟨w.heap.size + 1, 2, none⟩ = some (.slice D2 m2 k2) := K2.out.at_ 2 rfl
  go_wp2_with fail
  refine (iSame_ok h1.out.num h2.out.num).mono ?_
  rintro e w1 ⟨_, rfl, d0, rfl⟩
  replace h1 := hide (h1.out.below d0)
  replace h2 := hide (h2.out.below d0)
  replace K1 := hide (K1.out.below' d0)
  replace K2 := hide (K2.out.below' d0)
  replace b0 := hide (below_tr b0.out d0)
  clear d0
  clear K1c0 K1c1 K1c2 K2c0 K2c1 K2c2
  have K1c0 : w1.cell? ⟨w.heap.size, 0, none⟩ = some (.bool b1) := K1.out.at_ 0 rfl
  have K1c1 : w1.cell? ⟨w.heap.size, 1, none⟩ = some (.slice A1 n1 c1) := K1.out.at_ 1 rfl
  have K1c2 : w1.cell? ⟨w.heap.size, 2, none⟩ = some (.slice D1 m1 k1) := K1.out.at_ 2 rfl
  have K2c0 : w1.cell? ⟨w.heap.size + 1, 0, none⟩ = some (.bool b2) := K2.out.at_ 0 rfl
  have K2c1 : w1.cell? ⟨w.heap.size + 1, 1, none⟩ = some (.slice A2 n2 c2) := K2.out.at_ 1 rfl
  have K2c2 : w1.cell? ⟨w.heap.size + 1, 2, none⟩ = some (.slice D2 m2 k2) := K2.out.at_ 2 rfl
  cases e0 : decide (p.num = q.num)
  case false =>
    replace e0 := hide e0
    have ef : Hid (decide (p = q) = false) := by show _ = _; rw [ei.out, e0.out]; rfl
    clear ei e0
    go_wp2
    exact opq_end hR ⟨_, rfl, b0.out, by first | (rw [ef.out]; done) | (rw [ef.out]; rfl)⟩
  case true =>
    have ef : Hid (decide (p = q) = decide (p.den = q.den)) := by show _ = _; rw [ei.out, e0]; rfl
    clear ei e0
    go_wp2_with fail
    refine (nSame_P h1.out.den h2.out.den).mono ?_
    rintro e w2 ⟨_, rfl, d0, rfl⟩
    replace h1 := hide (h1.out.below d0)
    replace h2 := hide (h2.out.below d0)
    replace K1 := hide (K1.out.below' d0)
    replace K2 := hide (K2.out.below' d0)
    replace b0 := hide (below_tr b0.out d0)
    clear d0
    rw [← ef.out]
    go_wp2
    exact opq_end hR ⟨_, rfl, b0.out, rfl⟩
abbrev GR : Type := (Option Addr × Nat × Nat) × (Option Addr × Nat × Nat)
end Go.Proofs.YtkefmeddnncacaaDoor

/- rats: Floor, Text; great of one, two, three. -/
set_option linter.unusedVariables false
set_option linter.unusedSimpArgs false
set_option maxRecDepth 100000
namespace Go.Proofs.YtkefmeddnncacaaDoor
open Go.RowKit

theorem NatR.len {N B : Nat} {w : World} {A : Option Addr} {n c : Nat} (h : NatR N B w (.slice A n c)) : n = 0 ↔ N = 0 := by
  obtain ⟨A', c', e, _⟩ := h
  cases e
  exact is_zero_len
/-- A fraction's text. -/
def rtxt (q : Rat) : List Nat := itxt q.num ++ (if q.den = 1 then [] else 47 :: txt q.den)
end Go.Proofs.YtkefmeddnncacaaDoor
