/- the laws of ints: some answers that the document fixes; small, same, great. -/
import Derived.Test.YtcdejccbamjdoaaDoorNE
import Derived.Test.YtcdejccbamjdoaaDoorIh
set_option linter.unusedVariables false
set_option linter.unusedSimpArgs false
set_option maxRecDepth 100000
namespace Go.Proofs.YtcdejccbamjdoaaDoor
open Go.RowKit

theorem back64_in {z : Int} (h0 : -9223372036854775808 ≤ z) (h1 : z < 9223372036854775808) : back64 z = #[.int .i64 z, .int .i64 0] := by unfold back64; rw [if_pos ⟨h0, h1⟩]
theorem back64_out {z : Int} (h : ¬(-9223372036854775808 ≤ z ∧ z < 9223372036854775808)) : back64 z = #[.int .i64 0, .int .i64 3] := by unfold back64; rw [if_neg h]
theorem Z_64 {z : Int} (h0 : -9223372036854775808 ≤ z) (h1 : z < 9223372036854775808) : L z.natAbs ≤ 2 := L_le.2 (by show z.natAbs < 18446744073709551616; omega)
set_option maxHeartbeats 400000 in
theorem ismall_ok {w : World} {v : Value} {z : Int} (h : ICan w v z) (hl : L z.natAbs ≤ 1000000000000) (h0 : -9223372036854775808 ≤ z) (h1 : z < 9223372036854775808) :
    Calls Tryd.prog 31 #[v] w fun e w' => ∃ u, e = .returned u ∧ Below w.heap.size w w' ∧ u = .int .i64 z := by
  refine opq fun R hR => ?_
  have H := hide h
  obtain ⟨b, A, n, c, rfl⟩ := h.slice
  clear h
  have B0 := hide ((Below.refl w.heap.size w).alloc (Nat.le_refl _) (.cells #[.bool b, .slice A n c] 25))
  have HB := hide (iBack_ok (H.out.below B0.out) hl)
  rw [back64_in h0 h1] at HB
  go_enter Tryd.func31, Tryd.ntmps31
  go_wp2_with fail
  refine HB.out.mono ?_
  rintro e w1 ⟨rfl, d1⟩
  have B1 := hide (below_tr B0.out d1.out)
  clear d1 HB
  go_wp2
  exact opq_end hR ⟨_, rfl, B1.out, rfl⟩
set_option maxHeartbeats 400000 in
theorem isame_ok {w : World} {v v' : Value} {x y : Int} (h : ICan w v x) (h' : ICan w v' y) :
    Calls Tryd.prog 21 #[v, v'] w fun e w' => ∃ u, e = .returned u ∧ Below w.heap.size w w' ∧ u = .bool (decide (x = y)) := by
  refine opq fun R hR => ?_
  have H := hide h
  have H' := hide h'
  obtain ⟨b1, A1, n1, c1, rfl⟩ := h.slice
  obtain ⟨b2, A2, n2, c2, rfl⟩ := h'.slice
  clear h h'
  have B0 := hide (((Below.refl w.heap.size w).alloc (Nat.le_refl _) (.cells #[.bool b1, .slice A1 n1 c1] 25)).alloc (by simp) (.cells #[.bool b2, .slice A2 n2 c2] 25))
  go_enter Tryd.func21, Tryd.ntmps21
  go_wp2_with fail
  refine (iSame_ok (H.out.below B0.out) (H'.out.below B0.out)).mono ?_
  rintro e w1 ⟨v, rfl, d1, rfl⟩
  have B1 := hide (B0.out.trans (d1.mono B0.out.size))
  clear d1
  go_wp2
  exact opq_end hR ⟨_, rfl, B1.out, rfl⟩
theorem isame_yes {w : World} {v v' : Value} {x y : Int} (h : ICan w v x) (h' : ICan w v' y) (e : x = y) :
    Calls Tryd.prog 21 #[v, v'] w fun e w' => ∃ u, e = .returned u ∧ Below w.heap.size w w' ∧ u = .bool true :=
  (isame_ok h h').mono fun e' w' ⟨u, h1, h2, h3⟩ => ⟨u, h1, h2, by rw [h3]; simp [e]⟩
theorem isame_no {w : World} {v v' : Value} {x y : Int} (h : ICan w v x) (h' : ICan w v' y) (e : x ≠ y) :
    Calls Tryd.prog 21 #[v, v'] w fun e w' => ∃ u, e = .returned u ∧ Below w.heap.size w w' ∧ u = .bool false :=
  (isame_ok h h').mono fun e' w' ⟨u, h1, h2, h3⟩ => ⟨u, h1, h2, by rw [h3]; simp [e]⟩
theorem iParse_yes {w : World} {s : ByteArray} (hs : s.size ≤ 9223372036854775807) (z : Int) (h1 : isNum (isgn (byt s)).2 = true) (h2 : (isgn (byt s)).2.length ≤ 200) (h3 : ¬((isgn (byt s)).1 = true ∧ num (isgn (byt s)).2 = 0)) (hz : sgn (isgn (byt s)).1 (num (isgn (byt s)).2) = z) :
    Calls Tryd.prog 29 #[.string s] w fun e w' => ∃ v, e = .returned (.tuple #[v, .int .i64 0]) ∧ Below w.heap.size w w' ∧ IntR z w.heap.size w' v :=
  (iParse_ok w s hs).mono fun e w' ⟨h4, h5⟩ => by
    rw [if_pos h1, if_pos h2, if_neg h3, hz] at h4
    obtain ⟨v, e1, h6⟩ := h4
    exact ⟨v, e1, h5.out, h6⟩
theorem iParse_form {w : World} {s : ByteArray} (hs : s.size ≤ 9223372036854775807) (h1 : isNum (isgn (byt s)).2 = false ∨ ((isgn (byt s)).2.length ≤ 200 ∧ (isgn (byt s)).1 = true ∧ num (isgn (byt s)).2 = 0)) :
    Calls Tryd.prog 29 #[.string s] w fun e w' => e = .returned (.tuple #[.agg #[.bool false, .slice none 0 0], .int .i64 4]) ∧ Below w.heap.size w w' :=
  (iParse_ok w s hs).mono fun e w' ⟨h4, h5⟩ => by
    refine ⟨?_, h5.out⟩
    rcases h1 with h1 | ⟨h2, h3⟩
    · rw [if_neg (by rw [h1]; decide)] at h4; exact h4
    · by_cases h1 : isNum (isgn (byt s)).2 = true
      · rw [if_pos h1, if_pos h2, if_pos h3] at h4; exact h4
      · rw [if_neg h1] at h4; exact h4
theorem iParse_limit {w : World} {s : ByteArray} (hs : s.size ≤ 9223372036854775807) (h1 : isNum (isgn (byt s)).2 = true) (h2 : 200 < (isgn (byt s)).2.length) :
    Calls Tryd.prog 29 #[.string s] w fun e w' => e = .returned (.tuple #[.agg #[.bool false, .slice none 0 0], .int .i64 3]) ∧ Below w.heap.size w w' :=
  (iParse_ok w s hs).mono fun e w' ⟨h4, h5⟩ => by
    rw [if_pos h1, if_neg (by omega)] at h4
    exact ⟨h4, h5.out⟩
theorem int_one {z : Int} {B : Nat} {w : World} {v : Value} (h : IntR z B w v) (h0 : 0 < z.natAbs) (h1 : z.natAbs < 4294967296) : ∃ g c, v = .agg #[.bool (decide (z < 0)), .slice (some ⟨g, 0, none⟩) 1 c] ∧ 1 ≤ c ∧ w.cell? ⟨g, 0, none⟩ = some (.int .u32 (z.natAbs : Int)) ∧ g < w.heap.size := by
  obtain ⟨u, rfl, A, c, rfl, r, f, l⟩ := h
  have e := limbs_small h0 h1
  rw [e] at r l ⊢
  rcases f with f | ⟨g, cs, e1, hB, hk, hc⟩
  · simp at l; omega
  · subst e1
    obtain ⟨ad, e2, hl, hcl⟩ := r.2.2 (by simp)
    cases e2
    refine ⟨g, c, rfl, l, ?_, hl⟩
    have := hcl 0 (by simp)
    rw [add0] at this
    exact this
theorem iBack_in {w : World} {v : Value} {z : Int} (h : ICan w v z) (hl : L z.natAbs ≤ 1000000000000) (h0 : -9223372036854775808 ≤ z) (h1 : z < 9223372036854775808) :
    Calls Tryd.prog 47 #[v] w fun e w' => e = .returned (.tuple #[.int .i64 z, .int .i64 0]) ∧ Below w.heap.size w w' :=
  (iBack_ok h hl).mono fun e w' ⟨h2, h3⟩ => ⟨by rw [h2, back64_in h0 h1], h3.out⟩
theorem iBack_out {w : World} {v : Value} {z : Int} (h : ICan w v z) (hl : L z.natAbs ≤ 1000000000000) (h0 : z < -9223372036854775808 ∨ 9223372036854775807 < z) :
    Calls Tryd.prog 47 #[v] w fun e w' => e = .returned (.tuple #[.int .i64 0, .int .i64 3]) ∧ Below w.heap.size w w' :=
  (iBack_ok h hl).mono fun e w' ⟨h2, h3⟩ => ⟨by rw [h2, back64_out (by omega)], h3.out⟩
theorem ican_lit {w : World} {u : Value} {N : Nat} (h : Can w u N) (z : Int) (hz : z = (N : Int)) : ICan w (.agg #[.bool false, u]) z := by
  subst hz
  refine ⟨u, ?_, by rw [Int.natAbs_natCast]; exact h⟩
  rw [decide_eq_false (by omega)]
theorem big_lit : L (9223372036854775808 : Int).natAbs ≤ 1000000000000 := by
  have : (9223372036854775808 : Int).natAbs = 9223372036854775808 := rfl
  rw [this]
  exact L_up (L_le.2 (show (9223372036854775808 : Nat) < 4294967296 ^ 2 by decide)) (by decide)
theorem Blk.new_at (w : World) (g : Nat) (hg : w.heap.size = g) (t : TypeId) (cs : Array Value) : Blk (w.alloc (.cells cs t)) g t cs := by subst hg; exact Blk.new w t cs
theorem lit_at (w : World) (g : Nat) (hg : w.heap.size = g) (xs : List Nat) (N : Nat) (hN : val xs = N) (h : Is32 xs) (hc : chk xs = true) (hl : xs.length ≤ 1000) : Can (w.alloc (.cells (cellsOf .u32 xs) T32)) (.slice (some ⟨g, 0, none⟩) xs.length xs.length) N := by subst hg; exact lit w xs N hN h hc hl
/-- A cell of a block. -/
def CellAt (w : World) (a : Addr) (v : Value) : Prop := w.cell? a = some v
theorem CellAt.below {w w' : World} {a : Addr} {v : Value} (h : CellAt w a v) (hb : Below w.heap.size w w') : CellAt w' a v := cell_below hb h
set_option maxHeartbeats 1000000 in
theorem ialive_ok (w : World) :
    Calls Tryd.prog 17 #[] w fun e w' => e = .returned (.bool true) ∧ Hid (Below w.heap.size w w') := by
  refine opq fun R hR => ?_
  go_enter Tryd.func17, Tryd.ntmps17
  have b0 := hide (Below.refl w.heap.size w)
  go_wp2_with fail
  refine (iOf_ok w (-5) (by decide) (by decide)).mono ?_
  rintro e w1 ⟨va, rfl, d0, ra⟩
  replace b0 := hide (below_tr b0.out d0)
  clear d0
  obtain ⟨ga, ca, rfl, la, xa, ha⟩ := int_one ra (by decide) (by decide)
  have CA := hide (show CellAt w1 ⟨ga, 0, none⟩ (.int .u32 5) from xa)
  clear ra xa
  rw [show decide ((-5 : Int) < 0) = true from rfl]
  have KA := hide (Blk.new_at w1 (w1.heap.size) (by simp) 25 #[.bool true, .slice (some ⟨ga, 0, none⟩) 1 ca])
  have y := (Below.refl w1.heap.size w1).alloc (Nat.le_refl _) (.cells #[.bool true, .slice (some ⟨ga, 0, none⟩) 1 ca] 25)
  replace CA := hide (CA.out.below y)
  replace b0 := hide (below_tr b0.out y)
  clear y
  have x0 := hide (lit_at (w1.alloc (.cells #[.bool true, .slice (some ⟨ga, 0, none⟩) 1 ca] 25)) (w1.heap.size + 1) (by simp) [0, 2147483648] 9223372036854775808 rfl (is32d (by decide)) (by decide) (by decide))
  have y := (Below.refl (w1.alloc (.cells #[.bool true, .slice (some ⟨ga, 0, none⟩) 1 ca] 25)).heap.size (w1.alloc (.cells #[.bool true, .slice (some ⟨ga, 0, none⟩) 1 ca] 25))).alloc (Nat.le_refl _) (.cells (cellsOf .u32 [0, 2147483648]) T32)
  replace CA := hide (CA.out.below y)
  replace KA := hide (KA.out.below' y)
  replace b0 := hide (below_tr b0.out y)
  clear y
  go_wp2_with fail
  refine (iBack_out (z := 9223372036854775808) (ican_lit x0.out 9223372036854775808 rfl) big_lit (.inr (by omega))).mono ?_
  rintro e w2 ⟨rfl, d0⟩
  replace CA := hide (CA.out.below d0)
  replace KA := hide (KA.out.below' d0)
  replace x0 := hide (x0.out.below d0)
  replace b0 := hide (below_tr b0.out d0)
  clear d0
  clear x0
  go_wp2_with fail
  refine (iParse_yes (s := ⟨#[45, 49, 50]⟩) (by decide) (-12) (by decide) (by decide) (by decide) (by decide)).mono ?_
  rintro e w3 ⟨vb, rfl, d0, rb⟩
  replace CA := hide (CA.out.below d0)
  replace KA := hide (KA.out.below' d0)
  replace b0 := hide (below_tr b0.out d0)
  have b := hide (rb.can)
  clear d0
  obtain ⟨bb, Ab, nb, cb, rfl⟩ := rb.slice
  clear rb
  have KB := hide (Blk.new_at w3 (w3.heap.size) (by simp) 25 #[.bool bb, .slice Ab nb cb])
  have y := (Below.refl w3.heap.size w3).alloc (Nat.le_refl _) (.cells #[.bool bb, .slice Ab nb cb] 25)
  replace CA := hide (CA.out.below y)
  replace KA := hide (KA.out.below' y)
  replace b := hide (b.out.below y)
  replace b0 := hide (below_tr b0.out y)
  clear y
  go_wp2_with fail
  refine (iParse_form (s := ⟨#[45, 48]⟩) (by decide) (.inr (by decide))).mono ?_
  rintro e w4 ⟨rfl, d0⟩
  replace CA := hide (CA.out.below d0)
  replace KA := hide (KA.out.below' d0)
  replace b := hide (b.out.below d0)
  replace KB := hide (KB.out.below' d0)
  replace b0 := hide (below_tr b0.out d0)
  clear d0
  have y := (Below.refl w4.heap.size w4).alloc (Nat.le_refl _) (.cells #[.bool false, .slice none 0 0] 25)
  replace CA := hide (CA.out.below y)
  replace KA := hide (KA.out.below' y)
  replace b := hide (b.out.below y)
  replace KB := hide (KB.out.below' y)
  replace b0 := hide (below_tr b0.out y)
  clear y
  go_wp2_with fail
  refine (iParse_form (s := ⟨#[43, 49]⟩) (by decide) (.inl (by decide))).mono ?_
  rintro e w5 ⟨rfl, d0⟩
  replace CA := hide (CA.out.below d0)
  replace KA := hide (KA.out.below' d0)
  replace b := hide (b.out.below d0)
  replace KB := hide (KB.out.below' d0)
  replace b0 := hide (below_tr b0.out d0)
  clear d0
  have y := (Below.refl w5.heap.size w5).alloc (Nat.le_refl _) (.cells #[.bool false, .slice none 0 0] 25)
  replace CA := hide (CA.out.below y)
  replace KA := hide (KA.out.below' y)
  replace b := hide (b.out.below y)
  replace KB := hide (KB.out.below' y)
  replace b0 := hide (below_tr b0.out y)
  clear y
  have p0 := KA.out.at_ 0 rfl
  have p1 := KA.out.at_ 1 rfl
  have p2 : World.cell? _ _ = some (Value.int .u32 5) := CA.out
  go_wp2_with fail
  have cc := hide (iCheck_ok (w := (w5.alloc (.cells #[.bool false, .slice none 0 0] 25))) (b := true) (xs := []) ⟨_, rfl, prt_nil _⟩)
  rw [show iok true [] = false from rfl] at cc
  refine cc.out.mono ?_
  clear cc
  rintro e w6 ⟨rfl, d0⟩
  replace CA := hide (CA.out.below d0.out)
  replace KA := hide (KA.out.below' d0.out)
  replace b := hide (b.out.below d0.out)
  replace KB := hide (KB.out.below' d0.out)
  replace b0 := hide (below_tr b0.out d0.out)
  clear d0
  clear p0 p1 p2
  clear KA CA
  go_wp2_with fail
  refine (iOf_ok w6 (-9223372036854775808) (by omega) (by omega)).mono ?_
  rintro e w7 ⟨vx, rfl, d0, rx⟩
  replace b := hide (b.out.below d0)
  replace KB := hide (KB.out.below' d0)
  replace b0 := hide (below_tr b0.out d0)
  have x := hide (rx.can)
  clear d0
  clear rx
  go_wp2_with fail
  refine (ismall_ok (z := -9223372036854775808) x.out (L_up (Z_64 (z := -9223372036854775808) (by omega) (by omega)) (by decide)) (by omega) (by omega)).mono ?_
  rintro e w8 ⟨_, rfl, d0, rfl⟩
  replace b := hide (b.out.below d0)
  replace KB := hide (KB.out.below' d0)
  replace x := hide (x.out.below d0)
  replace b0 := hide (below_tr b0.out d0)
  clear d0
  clear x
  go_wp2_with fail
  refine (iOf_ok w8 (5) (by omega) (by omega)).mono ?_
  rintro e w9 ⟨vx, rfl, d0, rx⟩
  replace b := hide (b.out.below d0)
  replace KB := hide (KB.out.below' d0)
  replace b0 := hide (below_tr b0.out d0)
  have x := hide (rx.can)
  clear d0
  clear rx
  go_wp2_with fail
  refine (iOf_ok w9 (-7) (by omega) (by omega)).mono ?_
  rintro e w10 ⟨vy, rfl, d0, ry⟩
  replace b := hide (b.out.below d0)
  replace KB := hide (KB.out.below' d0)
  replace x := hide (x.out.below d0)
  replace b0 := hide (below_tr b0.out d0)
  have y := hide (ry.can)
  clear d0
  clear ry
  go_wp2_with fail
  refine (iAdd_ok (x.out.arg (L_up (Z_64 (z := 5) (by omega) (by omega)) (by decide))) (y.out.arg (L_up (Z_64 (z := -7) (by omega) (by omega)) (by decide)))).mono ?_
  rintro e w11 ⟨vz, rfl, d0, rz⟩
  replace b := hide (b.out.below d0)
  replace KB := hide (KB.out.below' d0)
  replace x := hide (x.out.below d0)
  replace y := hide (y.out.below d0)
  replace b0 := hide (below_tr b0.out d0)
  have z := hide (rz.can)
  clear d0
  clear rz
  clear x y
  replace z := hide (show ICan _ _ (-2) from z.out)
  go_wp2_with fail
  refine (ismall_ok (z := -2) z.out (L_up (Z_64 (z := -2) (by omega) (by omega)) (by decide)) (by omega) (by omega)).mono ?_
  rintro e w12 ⟨_, rfl, d0, rfl⟩
  replace b := hide (b.out.below d0)
  replace KB := hide (KB.out.below' d0)
  replace z := hide (z.out.below d0)
  replace b0 := hide (below_tr b0.out d0)
  clear d0
  clear z
  go_wp2_with fail
  refine (iOf_ok w12 (5) (by omega) (by omega)).mono ?_
  rintro e w13 ⟨vx, rfl, d0, rx⟩
  replace b := hide (b.out.below d0)
  replace KB := hide (KB.out.below' d0)
  replace b0 := hide (below_tr b0.out d0)
  have x := hide (rx.can)
  clear d0
  clear rx
  go_wp2_with fail
  refine (iOf_ok w13 (-7) (by omega) (by omega)).mono ?_
  rintro e w14 ⟨vy, rfl, d0, ry⟩
  replace b := hide (b.out.below d0)
  replace KB := hide (KB.out.below' d0)
  replace x := hide (x.out.below d0)
  replace b0 := hide (below_tr b0.out d0)
  have y := hide (ry.can)
  clear d0
  clear ry
  go_wp2_with fail
  refine (iSub_ok (x.out.arg (L_up (Z_64 (z := 5) (by omega) (by omega)) (by decide))) (y.out.arg (L_up (Z_64 (z := -7) (by omega) (by omega)) (by decide)))).mono ?_
  rintro e w15 ⟨vz, rfl, d0, rz⟩
  replace b := hide (b.out.below d0)
  replace KB := hide (KB.out.below' d0)
  replace x := hide (x.out.below d0)
  replace y := hide (y.out.below d0)
  replace b0 := hide (below_tr b0.out d0)
  have z := hide (rz.can)
  clear d0
  clear rz
  clear x y
  replace z := hide (show ICan _ _ (12) from z.out)
  go_wp2_with fail
  refine (ismall_ok (z := 12) z.out (L_up (Z_64 (z := 12) (by omega) (by omega)) (by decide)) (by omega) (by omega)).mono ?_
  rintro e w16 ⟨_, rfl, d0, rfl⟩
  replace b := hide (b.out.below d0)
  replace KB := hide (KB.out.below' d0)
  replace z := hide (z.out.below d0)
  replace b0 := hide (below_tr b0.out d0)
  clear d0
  clear z
  go_wp2_with fail
  refine (iOf_ok w16 (-3) (by omega) (by omega)).mono ?_
  rintro e w17 ⟨vx, rfl, d0, rx⟩
  replace b := hide (b.out.below d0)
  replace KB := hide (KB.out.below' d0)
  replace b0 := hide (below_tr b0.out d0)
  have x := hide (rx.can)
  clear d0
  clear rx
  go_wp2_with fail
  refine (iOf_ok w17 (4) (by omega) (by omega)).mono ?_
  rintro e w18 ⟨vy, rfl, d0, ry⟩
  replace b := hide (b.out.below d0)
  replace KB := hide (KB.out.below' d0)
  replace x := hide (x.out.below d0)
  replace b0 := hide (below_tr b0.out d0)
  have y := hide (ry.can)
  clear d0
  clear ry
  go_wp2_with fail
  refine (iMul_ok (x.out.arg (L_up (Z_64 (z := -3) (by omega) (by omega)) (by decide))) (y.out.arg (L_up (Z_64 (z := 4) (by omega) (by omega)) (by decide)))).mono ?_
  rintro e w19 ⟨vz, rfl, d0, rz⟩
  replace b := hide (b.out.below d0)
  replace KB := hide (KB.out.below' d0)
  replace x := hide (x.out.below d0)
  replace y := hide (y.out.below d0)
  replace b0 := hide (below_tr b0.out d0)
  have z := hide (rz.can)
  clear d0
  clear rz
  clear x y
  replace z := hide (show ICan _ _ (-12) from z.out)
  go_wp2_with fail
  refine (ismall_ok (z := -12) z.out (L_up (Z_64 (z := -12) (by omega) (by omega)) (by decide)) (by omega) (by omega)).mono ?_
  rintro e w20 ⟨_, rfl, d0, rfl⟩
  replace b := hide (b.out.below d0)
  replace KB := hide (KB.out.below' d0)
  replace z := hide (z.out.below d0)
  replace b0 := hide (below_tr b0.out d0)
  clear d0
  clear z
  go_wp2_with fail
  refine (iOf_ok w20 (-1) (by omega) (by omega)).mono ?_
  rintro e w21 ⟨vx, rfl, d0, rx⟩
  replace b := hide (b.out.below d0)
  replace KB := hide (KB.out.below' d0)
  replace b0 := hide (below_tr b0.out d0)
  have x := hide (rx.can)
  clear d0
  clear rx
  go_wp2_with fail
  have cc := hide (iSign_ok (x.out.arg (L_up (Z_64 (z := -1) (by omega) (by omega)) (by decide))))
  rw [show cmpI (-1) 0 = -1 from rfl] at cc
  refine cc.out.mono ?_
  clear cc
  rintro e w22 ⟨_, rfl, d0, rfl⟩
  replace b := hide (b.out.below d0)
  replace KB := hide (KB.out.below' d0)
  replace x := hide (x.out.below d0)
  replace b0 := hide (below_tr b0.out d0)
  clear d0
  clear x
  have p0 := KB.out.at_ 0 rfl
  have p1 := KB.out.at_ 1 rfl
  go_wp2_with fail
  have cc := hide (iText_ok (b.out.arg (L_up (Z_64 (z := -12) (by omega) (by omega)) (by decide))) (L_up (Z_64 (z := -12) (by decide) (by decide)) (by decide)))
  rw [show bts (itxt (-12)) = [45, 49, 50] from by decide +kernel] at cc
  refine cc.out.mono ?_
  clear cc
  rintro e w23 ⟨rfl, d0⟩
  replace b := hide (b.out.below d0.out)
  replace KB := hide (KB.out.below' d0.out)
  replace b0 := hide (below_tr b0.out d0.out)
  clear d0
  clear p0 p1
  clear b KB
  go_wp2
  exact opq_end hR ⟨rfl, b0⟩
end Go.Proofs.YtcdejccbamjdoaaDoor
