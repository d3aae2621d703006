/- the laws of nats: NatsUndone. -/
import Derived.Test.YtcdejccbamjdoaaDoorOc
import Derived.Test.YtcdejccbamjdoaaDoorSc
set_option linter.unusedVariables false
set_option linter.unusedSimpArgs false
set_option maxRecDepth 100000
namespace Go.Proofs.YtcdejccbamjdoaaDoor
open Go.RowKit

theorem Same_no {w : World} {v v' : Value} {M N : Nat} (h : Can w v M) (h' : Can w v' N) (e : M ≠ N) :
    Calls Tryd.prog 33 #[v, v'] w fun e w' => e = .returned (.bool false) ∧ Hid (Below w.heap.size w w') :=
  (Same_can h h').mono fun e' w' ⟨h1, h2⟩ => ⟨by rw [h1]; simp [e], h2⟩
theorem L_64 {N : Nat} (h : N < 18446744073709551616) : L N ≤ 2 := L_le.2 h
theorem Of_can (w : World) (x : Nat) (hx : x < 18446744073709551616) :
    Calls Tryd.prog 44 #[.int .u64 (x : Nat)] w fun e w' => ∃ v, e = .returned v ∧ Hid (NatR x w.heap.size w' v) ∧ Hid (Below w.heap.size w w') := Of_ok w x hx
theorem great2 {w : World} {A1 A2 : Option Addr} {n1 k1 n2 k2 : Nat} {t : TypeId} :
    Calls Tryd.prog 39 #[.slice (some ⟨w.heap.size, 0, none⟩) 2 2] (w.alloc (.cells #[.slice A1 n1 k1, .slice A2 n2 k2] t)) fun e w' => e = .returned (.bool (decide (300 < n1) || decide (300 < n2))) ∧ w.alloc (.cells #[.slice A1 n1 k1, .slice A2 n2 k2] t) = w' := by
  have B := Blk.new w t #[.slice A1 n1 k1, .slice A2 n2 k2]
  have := great_ok (w.alloc (.cells #[.slice A1 n1 k1, .slice A2 n2 k2] t)) w.heap.size [(A1, n1, k1), (A2, n2, k2)] (fun j x hx => by
    rw [B.cell]
    match j, hx with
    | 0, hx => cases hx; rfl
    | 1, hx => cases hx; rfl) (by simp)
  simpa using this
set_option maxHeartbeats 8000000 in
theorem NatsUndone_ok (w : World) (A1 : Option Addr) (n1 k1 : Nat) (xs1 : List Nat) (A2 : Option Addr) (n2 k2 : Nat) (xs2 : List Nat) (h1 : Rd w A1 n1 xs1) (i1 : Is32 xs1) (l1 : n1 ≤ k1) (h2 : Rd w A2 n2 xs2) (i2 : Is32 xs2) (l2 : n2 ≤ k2) (hT : Tab w) :
    Calls Tryd.prog 11 #[.slice A1 n1 k1, .slice A2 n2 k2] w fun e w' => e = .returned (.bool true) ∧ Hid (Below w.heap.size w w') := by
  refine opq fun R hR => ?_
  have T := hide hT
  have b0 := hide (Below.refl w.heap.size w)
  have m1 := h1.2.1
  replace h1 := hide h1
  replace i1 := hide i1
  have m2 := h2.2.1
  replace h2 := hide h2
  replace i2 := hide i2
  go_enter Tryd.func11, Tryd.ntmps11
  have q1 := hide (fun w1 (hb : Below w.heap.size w w1) => Check_ok w1 A1 n1 k1 xs1 (h1.out.below hb))
  have q2 := hide (fun w1 (hb : Below w.heap.size w w1) => Check_ok w1 A2 n2 k2 xs2 (h2.out.below hb))
  go_wp2_with fail
  refine (alive_ok w T.out).mono ?_
  rintro e w1 ⟨rfl, d1⟩
  have b1 := hide (below_tr b0.out d1.out)
  clear b0 d1
  by_cases gg : 300 < n1 ∨ 300 < n2
  case pos =>
    have GG := hide (great2 (w := w1) (A1 := A1) (A2 := A2) (n1 := n1) (k1 := k1) (n2 := n2) (k2 := k2) (t := 23))
    rw [show (decide (300 < n1) || decide (300 < n2)) = true from by simp; omega] at GG
    have z1 := hide (b1.out.alloc b1.out.size (.cells #[.slice A1 n1 k1, .slice A2 n2 k2] 23))
    have z2 := hide ((Below.refl w1.heap.size w1).alloc (Nat.le_refl _) (.cells #[.slice A1 n1 k1, .slice A2 n2 k2] 23))
    go_wp2_with fail
    refine (GG.out).mono ?_
    rintro e w' ⟨rfl, rfl⟩
    clear GG
    clear z2 b1
    go_wp2_with fail
    refine (alive_ok _ (T.out.below z1.out)).mono ?_
    rintro e wz ⟨rfl, dz⟩
    go_wp2
    exact opq_end hR ⟨rfl, below_tr z1.out dz.out⟩
  have GG := hide (great2 (w := w1) (A1 := A1) (A2 := A2) (n1 := n1) (k1 := k1) (n2 := n2) (k2 := k2) (t := 23))
  rw [show (decide (300 < n1) || decide (300 < n2)) = false from by simp; omega] at GG
  have z1 := hide (b1.out.alloc b1.out.size (.cells #[.slice A1 n1 k1, .slice A2 n2 k2] 23))
  have z2 := hide ((Below.refl w1.heap.size w1).alloc (Nat.le_refl _) (.cells #[.slice A1 n1 k1, .slice A2 n2 k2] 23))
  go_wp2_with fail
  refine (GG.out).mono ?_
  rintro e w' ⟨rfl, rfl⟩
  clear GG
  clear z2 b1
  by_cases g1 : chk xs1 = false
  case pos =>
    have qq := q1.out _ z1.out
    rw [g1] at qq
    replace qq := hide qq
    go_wp2_with fail
    refine (qq.out).mono ?_
    rintro e w' ⟨rfl, rfl⟩
    go_wp2_with fail
    refine (alive_ok _ (T.out.below z1.out)).mono ?_
    rintro e wz ⟨rfl, dz⟩
    go_wp2
    exact opq_end hR ⟨rfl, below_tr z1.out dz.out⟩
  replace g1 : chk xs1 = true := by simpa using g1
  have qq := q1.out _ z1.out
  rw [g1] at qq
  replace qq := hide qq
  go_wp2_with fail
  refine (qq.out).mono ?_
  rintro e w' ⟨rfl, rfl⟩
  clear qq
  by_cases g2 : chk xs2 = false
  case pos =>
    have qq := q2.out _ z1.out
    rw [g2] at qq
    replace qq := hide qq
    go_wp2_with fail
    refine (qq.out).mono ?_
    rintro e w' ⟨rfl, rfl⟩
    go_wp2_with fail
    refine (alive_ok _ (T.out.below z1.out)).mono ?_
    rintro e wz ⟨rfl, dz⟩
    go_wp2
    exact opq_end hR ⟨rfl, below_tr z1.out dz.out⟩
  replace g2 : chk xs2 = true := by simpa using g2
  have qq := q2.out _ z1.out
  rw [g2] at qq
  replace qq := hide qq
  go_wp2_with fail
  refine (qq.out).mono ?_
  rintro e w' ⟨rfl, rfl⟩
  clear qq
  have a := hide (can_of (h1.out.below z1.out) i1.out g1 l1)
  have La : Hid (L (val xs1) ≤ 300) := L_up (L_val i1.out) (by rw [h1.out.1]; omega)
  clear h1 i1 g1 q1
  have b := hide (can_of (h2.out.below z1.out) i2.out g2 l2)
  have Lb : Hid (L (val xs2) ≤ 300) := L_up (L_val i2.out) (by rw [h2.out.1]; omega)
  clear h2 i2 g2 q2
  generalize val xs1 = x at *
  generalize val xs2 = y at *
  clear gg
  rcases Nat.lt_trichotomy x y with hc | hc | hc
  case inl =>
    replace hc := hide hc
    go_wp2_with fail
    refine (Add_arg (a.out.arg (Nat.le_trans La.out (by decide))) (b.out.arg (Nat.le_trans Lb.out (by decide)))).mono ?_
    rintro e w2 ⟨sv, rfl, sr, d1⟩
    have b2 := hide (below_tr z1.out d1.out)
    replace a := hide (a.out.below d1.out)
    replace b := hide (b.out.below d1.out)
    clear z1 d1
    have s := hide (sr.out.can)
    clear sr
    have Ls : Hid (L (x + y) ≤ 301) := L_add2 La.out Lb.out (by decide)
    go_wp2_with fail
    refine (Sub_ge s.out b.out (Nat.le_trans Ls.out (by decide)) (Nat.le_trans Lb.out (by decide)) (Nat.le_add_left _ _)).mono ?_
    rintro e w3 ⟨Xv, rfl, Xr, d1⟩
    have b3 := hide (below_tr b2.out d1.out)
    replace a := hide (a.out.below d1.out)
    replace b := hide (b.out.below d1.out)
    replace s := hide (s.out.below d1.out)
    clear b2 d1
    have X := hide (Xr.out.can)
    clear Xr
    have LX : Hid (L ((x + y) - y) ≤ 301) := L_sub Ls.out
    clear s
    go_wp2_with fail
    refine (Sub_lt a.out b.out (Nat.le_trans La.out (by decide)) (Nat.le_trans Lb.out (by decide)) hc.out).mono ?_
    rintro e w4 ⟨rfl, d1⟩
    have b4 := hide (below_tr b3.out d1.out)
    replace a := hide (a.out.below d1.out)
    replace b := hide (b.out.below d1.out)
    replace X := hide (X.out.below d1.out)
    clear b3 d1
    go_wp2_with fail
    refine (Sub_ge b.out a.out (Nat.le_trans Lb.out (by decide)) (Nat.le_trans La.out (by decide)) (Nat.le_of_lt hc.out)).mono ?_
    rintro e w5 ⟨zv, rfl, zr, d1⟩
    have b5 := hide (below_tr b4.out d1.out)
    replace a := hide (a.out.below d1.out)
    replace b := hide (b.out.below d1.out)
    replace X := hide (X.out.below d1.out)
    clear b4 d1
    have z := hide (zr.out.can)
    clear zr
    have Lz : Hid (L (y - x) ≤ 300) := L_sub Lb.out
    have c1 := hide (Cmp_arg (a.out.arg (Nat.le_trans La.out (by decide))) (b.out.arg (Nat.le_trans Lb.out (by decide))))
    rw [show cmpN x y = -1 from cmpN_lt hc.out] at c1
    go_wp2_with fail
    refine (c1.out).mono ?_
    rintro e w6 ⟨rfl, d1⟩
    have b6 := hide (below_tr b5.out d1.out)
    replace a := hide (a.out.below d1.out)
    replace b := hide (b.out.below d1.out)
    replace X := hide (X.out.below d1.out)
    replace z := hide (z.out.below d1.out)
    clear b5 d1
    clear c1
    go_wp2_with fail
    refine (Same_yes X.out a.out (Nat.add_sub_cancel _ _)).mono ?_
    rintro e w7 ⟨rfl, d1⟩
    have b7 := hide (below_tr b6.out d1.out)
    replace a := hide (a.out.below d1.out)
    replace b := hide (b.out.below d1.out)
    replace X := hide (X.out.below d1.out)
    replace z := hide (z.out.below d1.out)
    clear b6 d1
    clear X
    have c1 := hide (Cmp_arg (b.out.arg (Nat.le_trans Lb.out (by decide))) (a.out.arg (Nat.le_trans La.out (by decide))))
    rw [show cmpN y x = 1 from cmpN_gt hc.out] at c1
    go_wp2_with fail
    refine (c1.out).mono ?_
    rintro e w8 ⟨rfl, d1⟩
    have b8 := hide (below_tr b7.out d1.out)
    replace a := hide (a.out.below d1.out)
    replace b := hide (b.out.below d1.out)
    replace z := hide (z.out.below d1.out)
    clear b7 d1
    clear c1
    go_wp2_with fail
    refine (Same_no a.out b.out (Nat.ne_of_lt hc.out)).mono ?_
    rintro e w9 ⟨rfl, d1⟩
    have b9 := hide (below_tr b8.out d1.out)
    replace a := hide (a.out.below d1.out)
    replace b := hide (b.out.below d1.out)
    replace z := hide (z.out.below d1.out)
    clear b8 d1
    go_wp2_with fail
    refine (Add_arg (z.out.arg (Nat.le_trans Lz.out (by decide))) (a.out.arg (Nat.le_trans La.out (by decide)))).mono ?_
    rintro e w10 ⟨uv, rfl, ur, d1⟩
    have b10 := hide (below_tr b9.out d1.out)
    replace a := hide (a.out.below d1.out)
    replace b := hide (b.out.below d1.out)
    replace z := hide (z.out.below d1.out)
    clear b9 d1
    have u := hide (ur.out.can)
    clear ur
    have Lu : Hid (L ((y - x) + x) ≤ 301) := L_add2 Lz.out La.out (by decide)
    go_wp2_with fail
    refine (Same_yes u.out b.out (Nat.sub_add_cancel (Nat.le_of_lt hc.out))).mono ?_
    rintro e w11 ⟨rfl, d1⟩
    have b11 := hide (below_tr b10.out d1.out)
    replace a := hide (a.out.below d1.out)
    replace b := hide (b.out.below d1.out)
    replace z := hide (z.out.below d1.out)
    replace u := hide (u.out.below d1.out)
    clear b10 d1
    clear u z
    go_wp2
    exact opq_end hR ⟨rfl, b11⟩
  case inr.inl =>
    subst hc
    go_wp2_with fail
    refine (Add_arg (a.out.arg (Nat.le_trans La.out (by decide))) (b.out.arg (Nat.le_trans Lb.out (by decide)))).mono ?_
    rintro e w2 ⟨sv, rfl, sr, d1⟩
    have b2 := hide (below_tr z1.out d1.out)
    replace a := hide (a.out.below d1.out)
    replace b := hide (b.out.below d1.out)
    clear z1 d1
    have s := hide (sr.out.can)
    clear sr
    have Ls : Hid (L (x + x) ≤ 301) := L_add2 La.out Lb.out (by decide)
    go_wp2_with fail
    refine (Sub_ge s.out b.out (Nat.le_trans Ls.out (by decide)) (Nat.le_trans Lb.out (by decide)) (Nat.le_add_left _ _)).mono ?_
    rintro e w3 ⟨Xv, rfl, Xr, d1⟩
    have b3 := hide (below_tr b2.out d1.out)
    replace a := hide (a.out.below d1.out)
    replace b := hide (b.out.below d1.out)
    replace s := hide (s.out.below d1.out)
    clear b2 d1
    have X := hide (Xr.out.can)
    clear Xr
    have LX : Hid (L ((x + x) - x) ≤ 301) := L_sub Ls.out
    clear s
    go_wp2_with fail
    refine (Sub_ge a.out b.out (Nat.le_trans La.out (by decide)) (Nat.le_trans Lb.out (by decide)) (Nat.le_refl _)).mono ?_
    rintro e w4 ⟨y'v, rfl, y'r, d1⟩
    have b4 := hide (below_tr b3.out d1.out)
    replace a := hide (a.out.below d1.out)
    replace b := hide (b.out.below d1.out)
    replace X := hide (X.out.below d1.out)
    clear b3 d1
    have y' := hide (y'r.out.can)
    clear y'r
    have Ly' : Hid (L (x - x) ≤ 300) := L_sub La.out
    go_wp2_with fail
    refine (Sub_ge b.out a.out (Nat.le_trans Lb.out (by decide)) (Nat.le_trans La.out (by decide)) (Nat.le_refl _)).mono ?_
    rintro e w5 ⟨zv, rfl, zr, d1⟩
    have b5 := hide (below_tr b4.out d1.out)
    replace a := hide (a.out.below d1.out)
    replace b := hide (b.out.below d1.out)
    replace X := hide (X.out.below d1.out)
    replace y' := hide (y'.out.below d1.out)
    clear b4 d1
    have z := hide (zr.out.can)
    clear zr
    have Lz : Hid (L (x - x) ≤ 300) := L_sub Lb.out
    have c1 := hide (Cmp_arg (a.out.arg (Nat.le_trans La.out (by decide))) (b.out.arg (Nat.le_trans Lb.out (by decide))))
    rw [show cmpN x x = 0 from cmpN_eq _] at c1
    go_wp2_with fail
    refine (c1.out).mono ?_
    rintro e w6 ⟨rfl, d1⟩
    have b6 := hide (below_tr b5.out d1.out)
    replace a := hide (a.out.below d1.out)
    replace b := hide (b.out.below d1.out)
    replace X := hide (X.out.below d1.out)
    replace y' := hide (y'.out.below d1.out)
    replace z := hide (z.out.below d1.out)
    clear b5 d1
    clear c1
    go_wp2_with fail
    refine (Same_yes X.out a.out (Nat.add_sub_cancel _ _)).mono ?_
    rintro e w7 ⟨rfl, d1⟩
    have b7 := hide (below_tr b6.out d1.out)
    replace a := hide (a.out.below d1.out)
    replace b := hide (b.out.below d1.out)
    replace X := hide (X.out.below d1.out)
    replace y' := hide (y'.out.below d1.out)
    replace z := hide (z.out.below d1.out)
    clear b6 d1
    clear X
    have c1 := hide (Cmp_arg (b.out.arg (Nat.le_trans Lb.out (by decide))) (a.out.arg (Nat.le_trans La.out (by decide))))
    rw [show cmpN x x = 0 from cmpN_eq _] at c1
    go_wp2_with fail
    refine (c1.out).mono ?_
    rintro e w8 ⟨rfl, d1⟩
    have b8 := hide (below_tr b7.out d1.out)
    replace a := hide (a.out.below d1.out)
    replace b := hide (b.out.below d1.out)
    replace y' := hide (y'.out.below d1.out)
    replace z := hide (z.out.below d1.out)
    clear b7 d1
    clear c1
    go_wp2_with fail
    refine (Same_yes a.out b.out (rfl)).mono ?_
    rintro e w9 ⟨rfl, d1⟩
    have b9 := hide (below_tr b8.out d1.out)
    replace a := hide (a.out.below d1.out)
    replace b := hide (b.out.below d1.out)
    replace y' := hide (y'.out.below d1.out)
    replace z := hide (z.out.below d1.out)
    clear b8 d1
    go_wp2_with fail
    refine (Add_arg (y'.out.arg (Nat.le_trans Ly'.out (by decide))) (b.out.arg (Nat.le_trans Lb.out (by decide)))).mono ?_
    rintro e w10 ⟨uv, rfl, ur, d1⟩
    have b10 := hide (below_tr b9.out d1.out)
    replace a := hide (a.out.below d1.out)
    replace b := hide (b.out.below d1.out)
    replace y' := hide (y'.out.below d1.out)
    replace z := hide (z.out.below d1.out)
    clear b9 d1
    have u := hide (ur.out.can)
    clear ur
    have Lu : Hid (L ((x - x) + x) ≤ 301) := L_add2 Ly'.out Lb.out (by decide)
    go_wp2_with fail
    refine (Same_yes u.out a.out (Nat.sub_add_cancel (Nat.le_refl _))).mono ?_
    rintro e w11 ⟨rfl, d1⟩
    have b11 := hide (below_tr b10.out d1.out)
    replace a := hide (a.out.below d1.out)
    replace b := hide (b.out.below d1.out)
    replace y' := hide (y'.out.below d1.out)
    replace z := hide (z.out.below d1.out)
    replace u := hide (u.out.below d1.out)
    clear b10 d1
    clear u
    rw [Nat.sub_self] at z
    obtain ⟨Az0, cz0, rfl, _⟩ := z.out
    rw [limbs_zero]
    clear z
    go_wp2
    exact opq_end hR ⟨rfl, b11⟩
  case inr.inr =>
    replace hc := hide hc
    go_wp2_with fail
    refine (Add_arg (a.out.arg (Nat.le_trans La.out (by decide))) (b.out.arg (Nat.le_trans Lb.out (by decide)))).mono ?_
    rintro e w2 ⟨sv, rfl, sr, d1⟩
    have b2 := hide (below_tr z1.out d1.out)
    replace a := hide (a.out.below d1.out)
    replace b := hide (b.out.below d1.out)
    clear z1 d1
    have s := hide (sr.out.can)
    clear sr
    have Ls : Hid (L (x + y) ≤ 301) := L_add2 La.out Lb.out (by decide)
    go_wp2_with fail
    refine (Sub_ge s.out b.out (Nat.le_trans Ls.out (by decide)) (Nat.le_trans Lb.out (by decide)) (Nat.le_add_left _ _)).mono ?_
    rintro e w3 ⟨Xv, rfl, Xr, d1⟩
    have b3 := hide (below_tr b2.out d1.out)
    replace a := hide (a.out.below d1.out)
    replace b := hide (b.out.below d1.out)
    replace s := hide (s.out.below d1.out)
    clear b2 d1
    have X := hide (Xr.out.can)
    clear Xr
    have LX : Hid (L ((x + y) - y) ≤ 301) := L_sub Ls.out
    clear s
    go_wp2_with fail
    refine (Sub_ge a.out b.out (Nat.le_trans La.out (by decide)) (Nat.le_trans Lb.out (by decide)) (Nat.le_of_lt hc.out)).mono ?_
    rintro e w4 ⟨y'v, rfl, y'r, d1⟩
    have b4 := hide (below_tr b3.out d1.out)
    replace a := hide (a.out.below d1.out)
    replace b := hide (b.out.below d1.out)
    replace X := hide (X.out.below d1.out)
    clear b3 d1
    have y' := hide (y'r.out.can)
    clear y'r
    have Ly' : Hid (L (x - y) ≤ 300) := L_sub La.out
    go_wp2_with fail
    refine (Sub_lt b.out a.out (Nat.le_trans Lb.out (by decide)) (Nat.le_trans La.out (by decide)) hc.out).mono ?_
    rintro e w5 ⟨rfl, d1⟩
    have b5 := hide (below_tr b4.out d1.out)
    replace a := hide (a.out.below d1.out)
    replace b := hide (b.out.below d1.out)
    replace X := hide (X.out.below d1.out)
    replace y' := hide (y'.out.below d1.out)
    clear b4 d1
    have c1 := hide (Cmp_arg (a.out.arg (Nat.le_trans La.out (by decide))) (b.out.arg (Nat.le_trans Lb.out (by decide))))
    rw [show cmpN x y = 1 from cmpN_gt hc.out] at c1
    go_wp2_with fail
    refine (c1.out).mono ?_
    rintro e w6 ⟨rfl, d1⟩
    have b6 := hide (below_tr b5.out d1.out)
    replace a := hide (a.out.below d1.out)
    replace b := hide (b.out.below d1.out)
    replace X := hide (X.out.below d1.out)
    replace y' := hide (y'.out.below d1.out)
    clear b5 d1
    clear c1
    go_wp2_with fail
    refine (Same_yes X.out a.out (Nat.add_sub_cancel _ _)).mono ?_
    rintro e w7 ⟨rfl, d1⟩
    have b7 := hide (below_tr b6.out d1.out)
    replace a := hide (a.out.below d1.out)
    replace b := hide (b.out.below d1.out)
    replace X := hide (X.out.below d1.out)
    replace y' := hide (y'.out.below d1.out)
    clear b6 d1
    clear X
    have c1 := hide (Cmp_arg (b.out.arg (Nat.le_trans Lb.out (by decide))) (a.out.arg (Nat.le_trans La.out (by decide))))
    rw [show cmpN y x = -1 from cmpN_lt hc.out] at c1
    go_wp2_with fail
    refine (c1.out).mono ?_
    rintro e w8 ⟨rfl, d1⟩
    have b8 := hide (below_tr b7.out d1.out)
    replace a := hide (a.out.below d1.out)
    replace b := hide (b.out.below d1.out)
    replace y' := hide (y'.out.below d1.out)
    clear b7 d1
    clear c1
    go_wp2_with fail
    refine (Same_no a.out b.out (Nat.ne_of_gt hc.out)).mono ?_
    rintro e w9 ⟨rfl, d1⟩
    have b9 := hide (below_tr b8.out d1.out)
    replace a := hide (a.out.below d1.out)
    replace b := hide (b.out.below d1.out)
    replace y' := hide (y'.out.below d1.out)
    clear b8 d1
    go_wp2_with fail
    refine (Add_arg (y'.out.arg (Nat.le_trans Ly'.out (by decide))) (b.out.arg (Nat.le_trans Lb.out (by decide)))).mono ?_
    rintro e w10 ⟨uv, rfl, ur, d1⟩
    have b10 := hide (below_tr b9.out d1.out)
    replace a := hide (a.out.below d1.out)
    replace b := hide (b.out.below d1.out)
    replace y' := hide (y'.out.below d1.out)
    clear b9 d1
    have u := hide (ur.out.can)
    clear ur
    have Lu : Hid (L ((x - y) + y) ≤ 301) := L_add2 Ly'.out Lb.out (by decide)
    go_wp2_with fail
    refine (Same_yes u.out a.out (Nat.sub_add_cancel (Nat.le_of_lt hc.out))).mono ?_
    rintro e w11 ⟨rfl, d1⟩
    have b11 := hide (below_tr b10.out d1.out)
    replace a := hide (a.out.below d1.out)
    replace b := hide (b.out.below d1.out)
    replace y' := hide (y'.out.below d1.out)
    replace u := hide (u.out.below d1.out)
    clear b10 d1
    clear u
    go_wp2
    exact opq_end hR ⟨rfl, b11⟩
end Go.Proofs.YtcdejccbamjdoaaDoor
