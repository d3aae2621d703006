/- the laws of nats: NatsGreatest. -/
import Derived.Test.YtcdejccbamjdoaaDoorOb
set_option linter.unusedVariables false
set_option linter.unusedSimpArgs false
set_option maxRecDepth 100000
namespace Go.Proofs.YtcdejccbamjdoaaDoor
open Go.RowKit

set_option maxHeartbeats 8000000 in
theorem NatsGreatest_ok (w : World) (A1 : Option Addr) (n1 k1 : Nat) (xs1 : List Nat) (A2 : Option Addr) (n2 k2 : Nat) (xs2 : List Nat) (A3 : Option Addr) (n3 k3 : Nat) (xs3 : List Nat) (h1 : Rd w A1 n1 xs1) (i1 : Is32 xs1) (l1 : n1 ≤ k1) (h2 : Rd w A2 n2 xs2) (i2 : Is32 xs2) (l2 : n2 ≤ k2) (h3 : Rd w A3 n3 xs3) (i3 : Is32 xs3) (l3 : n3 ≤ k3) (hT : Tab w) :
    Calls Tryd.prog 12 #[.slice A1 n1 k1, .slice A2 n2 k2, .slice A3 n3 k3] w fun e w' => e = .returned (.bool true) ∧ Hid (Below w.heap.size w w') := by
  refine opq fun R hR => ?_
  have T := hide hT
  have b0 := hide (Below.refl w.heap.size w)
  have m1 := h1.2.1
  replace h1 := hide h1
  replace i1 := hide i1
  have m2 := h2.2.1
  replace h2 := hide h2
  replace i2 := hide i2
  have m3 := h3.2.1
  replace h3 := hide h3
  replace i3 := hide i3
  go_enter Tryd.func12, Tryd.ntmps12
  by_cases gn1 : 40 < n1
  · go_wp2_with fail
    refine (alive_ok w T.out).mono ?_
    rintro e w1 ⟨rfl, d1⟩
    have T1 := hide (T.out.below d1.out)
    go_wp2_with fail
    refine (alive_ok _ T1.out).mono ?_
    rintro e w2 ⟨rfl, d2⟩
    go_wp2
    exact opq_end hR ⟨rfl, below_tr d1.out d2.out⟩
  by_cases gn2 : 40 < n2
  · go_wp2_with fail
    refine (alive_ok w T.out).mono ?_
    rintro e w1 ⟨rfl, d1⟩
    have T1 := hide (T.out.below d1.out)
    go_wp2_with fail
    refine (alive_ok _ T1.out).mono ?_
    rintro e w2 ⟨rfl, d2⟩
    go_wp2
    exact opq_end hR ⟨rfl, below_tr d1.out d2.out⟩
  by_cases gn3 : 10 < n3
  · go_wp2_with fail
    refine (alive_ok w T.out).mono ?_
    rintro e w1 ⟨rfl, d1⟩
    have T1 := hide (T.out.below d1.out)
    go_wp2_with fail
    refine (alive_ok _ T1.out).mono ?_
    rintro e w2 ⟨rfl, d2⟩
    go_wp2
    exact opq_end hR ⟨rfl, below_tr d1.out d2.out⟩
  by_cases g1 : chk xs1 = false
  · go_wp2_with fail
    refine (alive_ok w T.out).mono ?_
    rintro e w1 ⟨rfl, d1⟩
    have T1 := hide (T.out.below d1.out)
    have q1 := hide (Check_ok w1 A1 n1 k1 xs1 (h1.out.below d1.out))
    rw [g1] at q1
    go_wp2_with fail
    refine q1.out.mono ?_
    rintro e w' ⟨rfl, rfl⟩
    go_wp2_with fail
    refine (alive_ok _ T1.out).mono ?_
    rintro e w2 ⟨rfl, d2⟩
    go_wp2
    exact opq_end hR ⟨rfl, below_tr d1.out d2.out⟩
  replace g1 : chk xs1 = true := by simpa using g1
  by_cases g2 : chk xs2 = false
  · go_wp2_with fail
    refine (alive_ok w T.out).mono ?_
    rintro e w1 ⟨rfl, d1⟩
    have T1 := hide (T.out.below d1.out)
    have q1 := hide (Check_ok w1 A1 n1 k1 xs1 (h1.out.below d1.out))
    rw [g1] at q1
    go_wp2_with fail
    refine q1.out.mono ?_
    rintro e w' ⟨rfl, rfl⟩
    have q2 := hide (Check_ok w1 A2 n2 k2 xs2 (h2.out.below d1.out))
    rw [g2] at q2
    go_wp2_with fail
    refine q2.out.mono ?_
    rintro e w' ⟨rfl, rfl⟩
    go_wp2_with fail
    refine (alive_ok _ T1.out).mono ?_
    rintro e w2 ⟨rfl, d2⟩
    go_wp2
    exact opq_end hR ⟨rfl, below_tr d1.out d2.out⟩
  replace g2 : chk xs2 = true := by simpa using g2
  by_cases g3 : chk xs3 = false
  · go_wp2_with fail
    refine (alive_ok w T.out).mono ?_
    rintro e w1 ⟨rfl, d1⟩
    have T1 := hide (T.out.below d1.out)
    have q1 := hide (Check_ok w1 A1 n1 k1 xs1 (h1.out.below d1.out))
    rw [g1] at q1
    go_wp2_with fail
    refine q1.out.mono ?_
    rintro e w' ⟨rfl, rfl⟩
    have q2 := hide (Check_ok w1 A2 n2 k2 xs2 (h2.out.below d1.out))
    rw [g2] at q2
    go_wp2_with fail
    refine q2.out.mono ?_
    rintro e w' ⟨rfl, rfl⟩
    have q3 := hide (Check_ok w1 A3 n3 k3 xs3 (h3.out.below d1.out))
    rw [g3] at q3
    go_wp2_with fail
    refine q3.out.mono ?_
    rintro e w' ⟨rfl, rfl⟩
    go_wp2_with fail
    refine (alive_ok _ T1.out).mono ?_
    rintro e w2 ⟨rfl, d2⟩
    go_wp2
    exact opq_end hR ⟨rfl, below_tr d1.out d2.out⟩
  replace g3 : chk xs3 = true := by simpa using g3
  have a := hide (can_of h1.out i1.out g1 l1)
  have La := hide (Nat.le_trans (L_le.2 (val_lt i1.out)) (show xs1.length ≤ 40 by rw [h1.out.1]; omega))
  have e1 : Hid ((limbs (val xs1)).length = n1) := by show _ = _; rw [limbs_val_chk i1.out g1, h1.out.1]
  have z1 : Hid (val xs1 = 0 ↔ n1 = 0) := by rw [← e1.out]; exact is_zero_len.symm
  have q1 := hide (fun w1 (hb : Below w.heap.size w w1) => Check_ok w1 A1 n1 k1 xs1 (h1.out.below hb))
  rw [g1] at q1
  clear h1 i1 g1 e1
  have b := hide (can_of h2.out i2.out g2 l2)
  have Lb := hide (Nat.le_trans (L_le.2 (val_lt i2.out)) (show xs2.length ≤ 40 by rw [h2.out.1]; omega))
  have e2 : Hid ((limbs (val xs2)).length = n2) := by show _ = _; rw [limbs_val_chk i2.out g2, h2.out.1]
  have z2 : Hid (val xs2 = 0 ↔ n2 = 0) := by rw [← e2.out]; exact is_zero_len.symm
  have q2 := hide (fun w1 (hb : Below w.heap.size w w1) => Check_ok w1 A2 n2 k2 xs2 (h2.out.below hb))
  rw [g2] at q2
  clear h2 i2 g2 e2
  have c := hide (can_of h3.out i3.out g3 l3)
  have Lc := hide (Nat.le_trans (L_le.2 (val_lt i3.out)) (show xs3.length ≤ 10 by rw [h3.out.1]; omega))
  have e3 : Hid ((limbs (val xs3)).length = n3) := by show _ = _; rw [limbs_val_chk i3.out g3, h3.out.1]
  have z3 : Hid (val xs3 = 0 ↔ n3 = 0) := by rw [← e3.out]; exact is_zero_len.symm
  have q3 := hide (fun w1 (hb : Below w.heap.size w w1) => Check_ok w1 A3 n3 k3 xs3 (h3.out.below hb))
  rw [g3] at q3
  clear h3 i3 g3 e3
  generalize val xs1 = x at *
  generalize val xs2 = y at *
  generalize val xs3 = z at *
  have zg : Hid (Nat.gcd x y = 0 ↔ n1 = 0 ∧ n2 = 0) := by rw [← z1.out, ← z2.out]; exact Nat.gcd_eq_zero_iff
  clear z1 z2 z3
  by_cases hz : n1 = 0 ∧ n2 = 0
  case pos =>
    obtain ⟨rfl, rfl⟩ := hz
    have gz := hide (zg.out.2 ⟨rfl, rfl⟩)
    clear zg gn1 gn2
    go_wp2_with fail
    refine (alive_ok w T.out).mono ?_
    rintro e w1 ⟨rfl, d1⟩
    have b1 := hide (below_tr b0.out d1.out)
    have a' := hide (a.out.below d1.out)
    clear a
    have a := a'
    clear a'
    have b' := hide (b.out.below d1.out)
    clear b
    have b := b'
    clear b'
    have c' := hide (c.out.below d1.out)
    clear c
    have c := c'
    clear c'
    clear b0 d1
    go_wp2_with fail
    refine (q1.out _ b1.out).mono ?_
    rintro e w' ⟨rfl, rfl⟩
    go_wp2_with fail
    refine (q2.out _ b1.out).mono ?_
    rintro e w' ⟨rfl, rfl⟩
    go_wp2_with fail
    refine (q3.out _ b1.out).mono ?_
    rintro e w' ⟨rfl, rfl⟩
    go_wp2_with fail
    refine (Gcd_arg (a.out.arg (Nat.le_trans La.out (by decide))) (b.out.arg (Nat.le_trans Lb.out (by decide))) (T.out.below b1.out)).mono ?_
    rintro e w2 ⟨gv, rfl, gr, d1⟩
    have b2 := hide (below_tr b1.out d1.out)
    have a' := hide (a.out.below d1.out)
    clear a
    have a := a'
    clear a'
    have b' := hide (b.out.below d1.out)
    clear b
    have b := b'
    clear b'
    have c' := hide (c.out.below d1.out)
    clear c
    have c := c'
    clear c'
    clear b1 d1
    have g := hide (gr.out.can)
    clear gr
    go_wp2_with fail
    refine (Gcd_arg (b.out.arg (Nat.le_trans Lb.out (by decide))) (a.out.arg (Nat.le_trans La.out (by decide))) (T.out.below b2.out)).mono ?_
    rintro e w3 ⟨tv, rfl, tr, d1⟩
    have b3 := hide (below_tr b2.out d1.out)
    have a' := hide (a.out.below d1.out)
    clear a
    have a := a'
    clear a'
    have b' := hide (b.out.below d1.out)
    clear b
    have b := b'
    clear b'
    have c' := hide (c.out.below d1.out)
    clear c
    have c := c'
    clear c'
    have g' := hide (g.out.below d1.out)
    clear g
    have g := g'
    clear g'
    clear b2 d1
    have t := hide (tr.out.can)
    clear tr
    go_wp2_with fail
    refine (Same_yes t.out g.out (Nat.gcd_comm _ _)).mono ?_
    rintro e w4 ⟨rfl, d1⟩
    have b4 := hide (below_tr b3.out d1.out)
    have a' := hide (a.out.below d1.out)
    clear a
    have a := a'
    clear a'
    have b' := hide (b.out.below d1.out)
    clear b
    have b := b'
    clear b'
    have c' := hide (c.out.below d1.out)
    clear c
    have c := c'
    clear c'
    have g' := hide (g.out.below d1.out)
    clear g
    have g := g'
    clear g'
    have t' := hide (t.out.below d1.out)
    clear t
    have t := t'
    clear t'
    clear b3 d1
    clear t
    go_wp2_with fail
    refine (Mul_arg (a.out.arg (Nat.le_trans La.out (by decide))) (c.out.arg (Nat.le_trans Lc.out (by decide)))).mono ?_
    rintro e w5 ⟨acv, rfl, acr, d1⟩
    have b5 := hide (below_tr b4.out d1.out)
    have a' := hide (a.out.below d1.out)
    clear a
    have a := a'
    clear a'
    have b' := hide (b.out.below d1.out)
    clear b
    have b := b'
    clear b'
    have c' := hide (c.out.below d1.out)
    clear c
    have c := c'
    clear c'
    have g' := hide (g.out.below d1.out)
    clear g
    have g := g'
    clear g'
    clear b4 d1
    have ac := hide (acr.out.can)
    clear acr
    go_wp2_with fail
    refine (Mul_arg (b.out.arg (Nat.le_trans Lb.out (by decide))) (c.out.arg (Nat.le_trans Lc.out (by decide)))).mono ?_
    rintro e w6 ⟨bcv, rfl, bcr, d1⟩
    have b6 := hide (below_tr b5.out d1.out)
    have a' := hide (a.out.below d1.out)
    clear a
    have a := a'
    clear a'
    have b' := hide (b.out.below d1.out)
    clear b
    have b := b'
    clear b'
    have c' := hide (c.out.below d1.out)
    clear c
    have c := c'
    clear c'
    have g' := hide (g.out.below d1.out)
    clear g
    have g := g'
    clear g'
    have ac' := hide (ac.out.below d1.out)
    clear ac
    have ac := ac'
    clear ac'
    clear b5 d1
    have bc := hide (bcr.out.can)
    clear bcr
    go_wp2_with fail
    refine (Gcd_arg (ac.out.arg (Nat.le_trans (L_mul La.out Lc.out) (by decide))) (bc.out.arg (Nat.le_trans (L_mul Lb.out Lc.out) (by decide))) (T.out.below b6.out)).mono ?_
    rintro e w7 ⟨tv, rfl, tr, d1⟩
    have b7 := hide (below_tr b6.out d1.out)
    have a' := hide (a.out.below d1.out)
    clear a
    have a := a'
    clear a'
    have b' := hide (b.out.below d1.out)
    clear b
    have b := b'
    clear b'
    have c' := hide (c.out.below d1.out)
    clear c
    have c := c'
    clear c'
    have g' := hide (g.out.below d1.out)
    clear g
    have g := g'
    clear g'
    have ac' := hide (ac.out.below d1.out)
    clear ac
    have ac := ac'
    clear ac'
    have bc' := hide (bc.out.below d1.out)
    clear bc
    have bc := bc'
    clear bc'
    clear b6 d1
    have t := hide (tr.out.can)
    clear tr
    clear ac bc
    go_wp2_with fail
    refine (Mul_arg (g.out.arg (Nat.le_trans (L_gcd La.out Lb.out) (by decide))) (c.out.arg (Nat.le_trans Lc.out (by decide)))).mono ?_
    rintro e w8 ⟨uv, rfl, ur, d1⟩
    have b8 := hide (below_tr b7.out d1.out)
    have a' := hide (a.out.below d1.out)
    clear a
    have a := a'
    clear a'
    have b' := hide (b.out.below d1.out)
    clear b
    have b := b'
    clear b'
    have c' := hide (c.out.below d1.out)
    clear c
    have c := c'
    clear c'
    have g' := hide (g.out.below d1.out)
    clear g
    have g := g'
    clear g'
    have t' := hide (t.out.below d1.out)
    clear t
    have t := t'
    clear t'
    clear b7 d1
    have u := hide (ur.out.can)
    clear ur
    go_wp2_with fail
    refine (Same_yes t.out u.out (Nat.gcd_mul_right _ _ _)).mono ?_
    rintro e w9 ⟨rfl, d1⟩
    have b9 := hide (below_tr b8.out d1.out)
    have a' := hide (a.out.below d1.out)
    clear a
    have a := a'
    clear a'
    have b' := hide (b.out.below d1.out)
    clear b
    have b := b'
    clear b'
    have c' := hide (c.out.below d1.out)
    clear c
    have c := c'
    clear c'
    have g' := hide (g.out.below d1.out)
    clear g
    have g := g'
    clear g'
    have t' := hide (t.out.below d1.out)
    clear t
    have t := t'
    clear t'
    have u' := hide (u.out.below d1.out)
    clear u
    have u := u'
    clear u'
    clear b8 d1
    clear t u
    go_wp2_with fail
    refine (Gcd_arg (a.out.arg (Nat.le_trans La.out (by decide))) (arg_nil _) (T.out.below b9.out)).mono ?_
    rintro e w10 ⟨tv, rfl, tr, d1⟩
    have b10 := hide (below_tr b9.out d1.out)
    have a' := hide (a.out.below d1.out)
    clear a
    have a := a'
    clear a'
    have b' := hide (b.out.below d1.out)
    clear b
    have b := b'
    clear b'
    have c' := hide (c.out.below d1.out)
    clear c
    have c := c'
    clear c'
    have g' := hide (g.out.below d1.out)
    clear g
    have g := g'
    clear g'
    clear b9 d1
    have t := hide (tr.out.can)
    clear tr
    go_wp2_with fail
    refine (Same_yes t.out a.out (Nat.gcd_zero_right _)).mono ?_
    rintro e w11 ⟨rfl, d1⟩
    have b11 := hide (below_tr b10.out d1.out)
    have a' := hide (a.out.below d1.out)
    clear a
    have a := a'
    clear a'
    have b' := hide (b.out.below d1.out)
    clear b
    have b := b'
    clear b'
    have c' := hide (c.out.below d1.out)
    clear c
    have c := c'
    clear c'
    have g' := hide (g.out.below d1.out)
    clear g
    have g := g'
    clear g'
    have t' := hide (t.out.below d1.out)
    clear t
    have t := t'
    clear t'
    clear b10 d1
    clear t
    rw [gz.out] at g
    obtain ⟨A0, c0, rfl, _⟩ := g.out
    rw [limbs_zero]
    clear g gz
    go_wp2
    exact opq_end hR ⟨rfl, b11⟩
  have gz : Hid (Nat.gcd x y ≠ 0) := fun q => hz (zg.out.1 q)
  clear zg hz
  go_wp2_with fail
  refine (alive_ok w T.out).mono ?_
  rintro e w1 ⟨rfl, d1⟩
  have b1 := hide (below_tr b0.out d1.out)
  have a' := hide (a.out.below d1.out)
  clear a
  have a := a'
  clear a'
  have b' := hide (b.out.below d1.out)
  clear b
  have b := b'
  clear b'
  have c' := hide (c.out.below d1.out)
  clear c
  have c := c'
  clear c'
  clear b0 d1
  go_wp2_with fail
  refine (q1.out _ b1.out).mono ?_
  rintro e w' ⟨rfl, rfl⟩
  go_wp2_with fail
  refine (q2.out _ b1.out).mono ?_
  rintro e w' ⟨rfl, rfl⟩
  go_wp2_with fail
  refine (q3.out _ b1.out).mono ?_
  rintro e w' ⟨rfl, rfl⟩
  go_wp2_with fail
  refine (Gcd_arg (a.out.arg (Nat.le_trans La.out (by decide))) (b.out.arg (Nat.le_trans Lb.out (by decide))) (T.out.below b1.out)).mono ?_
  rintro e w2 ⟨gv, rfl, gr, d1⟩
  have b2 := hide (below_tr b1.out d1.out)
  have a' := hide (a.out.below d1.out)
  clear a
  have a := a'
  clear a'
  have b' := hide (b.out.below d1.out)
  clear b
  have b := b'
  clear b'
  have c' := hide (c.out.below d1.out)
  clear c
  have c := c'
  clear c'
  clear b1 d1
  have g := hide (gr.out.can)
  clear gr
  go_wp2_with fail
  refine (Gcd_arg (b.out.arg (Nat.le_trans Lb.out (by decide))) (a.out.arg (Nat.le_trans La.out (by decide))) (T.out.below b2.out)).mono ?_
  rintro e w3 ⟨tv, rfl, tr, d1⟩
  have b3 := hide (below_tr b2.out d1.out)
  have a' := hide (a.out.below d1.out)
  clear a
  have a := a'
  clear a'
  have b' := hide (b.out.below d1.out)
  clear b
  have b := b'
  clear b'
  have c' := hide (c.out.below d1.out)
  clear c
  have c := c'
  clear c'
  have g' := hide (g.out.below d1.out)
  clear g
  have g := g'
  clear g'
  clear b2 d1
  have t := hide (tr.out.can)
  clear tr
  go_wp2_with fail
  refine (Same_yes t.out g.out (Nat.gcd_comm _ _)).mono ?_
  rintro e w4 ⟨rfl, d1⟩
  have b4 := hide (below_tr b3.out d1.out)
  have a' := hide (a.out.below d1.out)
  clear a
  have a := a'
  clear a'
  have b' := hide (b.out.below d1.out)
  clear b
  have b := b'
  clear b'
  have c' := hide (c.out.below d1.out)
  clear c
  have c := c'
  clear c'
  have g' := hide (g.out.below d1.out)
  clear g
  have g := g'
  clear g'
  have t' := hide (t.out.below d1.out)
  clear t
  have t := t'
  clear t'
  clear b3 d1
  clear t
  go_wp2_with fail
  refine (Mul_arg (a.out.arg (Nat.le_trans La.out (by decide))) (c.out.arg (Nat.le_trans Lc.out (by decide)))).mono ?_
  rintro e w5 ⟨acv, rfl, acr, d1⟩
  have b5 := hide (below_tr b4.out d1.out)
  have a' := hide (a.out.below d1.out)
  clear a
  have a := a'
  clear a'
  have b' := hide (b.out.below d1.out)
  clear b
  have b := b'
  clear b'
  have c' := hide (c.out.below d1.out)
  clear c
  have c := c'
  clear c'
  have g' := hide (g.out.below d1.out)
  clear g
  have g := g'
  clear g'
  clear b4 d1
  have ac := hide (acr.out.can)
  clear acr
  go_wp2_with fail
  refine (Mul_arg (b.out.arg (Nat.le_trans Lb.out (by decide))) (c.out.arg (Nat.le_trans Lc.out (by decide)))).mono ?_
  rintro e w6 ⟨bcv, rfl, bcr, d1⟩
  have b6 := hide (below_tr b5.out d1.out)
  have a' := hide (a.out.below d1.out)
  clear a
  have a := a'
  clear a'
  have b' := hide (b.out.below d1.out)
  clear b
  have b := b'
  clear b'
  have c' := hide (c.out.below d1.out)
  clear c
  have c := c'
  clear c'
  have g' := hide (g.out.below d1.out)
  clear g
  have g := g'
  clear g'
  have ac' := hide (ac.out.below d1.out)
  clear ac
  have ac := ac'
  clear ac'
  clear b5 d1
  have bc := hide (bcr.out.can)
  clear bcr
  go_wp2_with fail
  refine (Gcd_arg (ac.out.arg (Nat.le_trans (L_mul La.out Lc.out) (by decide))) (bc.out.arg (Nat.le_trans (L_mul Lb.out Lc.out) (by decide))) (T.out.below b6.out)).mono ?_
  rintro e w7 ⟨tv, rfl, tr, d1⟩
  have b7 := hide (below_tr b6.out d1.out)
  have a' := hide (a.out.below d1.out)
  clear a
  have a := a'
  clear a'
  have b' := hide (b.out.below d1.out)
  clear b
  have b := b'
  clear b'
  have c' := hide (c.out.below d1.out)
  clear c
  have c := c'
  clear c'
  have g' := hide (g.out.below d1.out)
  clear g
  have g := g'
  clear g'
  have ac' := hide (ac.out.below d1.out)
  clear ac
  have ac := ac'
  clear ac'
  have bc' := hide (bc.out.below d1.out)
  clear bc
  have bc := bc'
  clear bc'
  clear b6 d1
  have t := hide (tr.out.can)
  clear tr
  clear ac bc
  go_wp2_with fail
  refine (Mul_arg (g.out.arg (Nat.le_trans (L_gcd La.out Lb.out) (by decide))) (c.out.arg (Nat.le_trans Lc.out (by decide)))).mono ?_
  rintro e w8 ⟨uv, rfl, ur, d1⟩
  have b8 := hide (below_tr b7.out d1.out)
  have a' := hide (a.out.below d1.out)
  clear a
  have a := a'
  clear a'
  have b' := hide (b.out.below d1.out)
  clear b
  have b := b'
  clear b'
  have c' := hide (c.out.below d1.out)
  clear c
  have c := c'
  clear c'
  have g' := hide (g.out.below d1.out)
  clear g
  have g := g'
  clear g'
  have t' := hide (t.out.below d1.out)
  clear t
  have t := t'
  clear t'
  clear b7 d1
  have u := hide (ur.out.can)
  clear ur
  go_wp2_with fail
  refine (Same_yes t.out u.out (Nat.gcd_mul_right _ _ _)).mono ?_
  rintro e w9 ⟨rfl, d1⟩
  have b9 := hide (below_tr b8.out d1.out)
  have a' := hide (a.out.below d1.out)
  clear a
  have a := a'
  clear a'
  have b' := hide (b.out.below d1.out)
  clear b
  have b := b'
  clear b'
  have c' := hide (c.out.below d1.out)
  clear c
  have c := c'
  clear c'
  have g' := hide (g.out.below d1.out)
  clear g
  have g := g'
  clear g'
  have t' := hide (t.out.below d1.out)
  clear t
  have t := t'
  clear t'
  have u' := hide (u.out.below d1.out)
  clear u
  have u := u'
  clear u'
  clear b8 d1
  clear t u
  go_wp2_with fail
  refine (Gcd_arg (a.out.arg (Nat.le_trans La.out (by decide))) (arg_nil _) (T.out.below b9.out)).mono ?_
  rintro e w10 ⟨tv, rfl, tr, d1⟩
  have b10 := hide (below_tr b9.out d1.out)
  have a' := hide (a.out.below d1.out)
  clear a
  have a := a'
  clear a'
  have b' := hide (b.out.below d1.out)
  clear b
  have b := b'
  clear b'
  have c' := hide (c.out.below d1.out)
  clear c
  have c := c'
  clear c'
  have g' := hide (g.out.below d1.out)
  clear g
  have g := g'
  clear g'
  clear b9 d1
  have t := hide (tr.out.can)
  clear tr
  go_wp2_with fail
  refine (Same_yes t.out a.out (Nat.gcd_zero_right _)).mono ?_
  rintro e w11 ⟨rfl, d1⟩
  have b11 := hide (below_tr b10.out d1.out)
  have a' := hide (a.out.below d1.out)
  clear a
  have a := a'
  clear a'
  have b' := hide (b.out.below d1.out)
  clear b
  have b := b'
  clear b'
  have c' := hide (c.out.below d1.out)
  clear c
  have c := c'
  clear c'
  have g' := hide (g.out.below d1.out)
  clear g
  have g := g'
  clear g'
  have t' := hide (t.out.below d1.out)
  clear t
  have t := t'
  clear t'
  clear b10 d1
  clear t
  obtain ⟨A0, c0, rfl, _⟩ := g.out
  have t0 : (((limbs (Nat.gcd x y)).length : Int) == 0) = false := by rw [beq_nat0, decide_eq_false_iff_not]; exact fun q => gz.out (is_zero_len.1 q)
  have gd1 := hide (Nat.mod_eq_zero_of_dvd (Nat.gcd_dvd_left x y))
  have gd2 := hide (Nat.mod_eq_zero_of_dvd (Nat.gcd_dvd_right x y))
  go_wp2_with fail
  refine (Div_pos a.out g.out (Nat.le_trans La.out (by decide)) (Nat.le_trans (L_gcd La.out Lb.out) (by decide)) gz.out).mono ?_
  rintro e w12 ⟨pv, rv, rfl, pr, rr, _, d1⟩
  have b12 := hide (below_tr b11.out d1.out)
  have a' := hide (a.out.below d1.out)
  clear a
  have a := a'
  clear a'
  have b' := hide (b.out.below d1.out)
  clear b
  have b := b'
  clear b'
  have c' := hide (c.out.below d1.out)
  clear c
  have c := c'
  clear c'
  have g' := hide (g.out.below d1.out)
  clear g
  have g := g'
  clear g'
  clear b11 d1
  have p := hide (pr.out.can)
  have r := hide (rr.out.can)
  clear pr rr
  go_wp2_with fail
  refine (Div_pos b.out g.out (Nat.le_trans Lb.out (by decide)) (Nat.le_trans (L_gcd La.out Lb.out) (by decide)) gz.out).mono ?_
  rintro e w13 ⟨qv, sv, rfl, qr, sr, _, d1⟩
  have b13 := hide (below_tr b12.out d1.out)
  have a' := hide (a.out.below d1.out)
  clear a
  have a := a'
  clear a'
  have b' := hide (b.out.below d1.out)
  clear b
  have b := b'
  clear b'
  have c' := hide (c.out.below d1.out)
  clear c
  have c := c'
  clear c'
  have g' := hide (g.out.below d1.out)
  clear g
  have g := g'
  clear g'
  have p' := hide (p.out.below d1.out)
  clear p
  have p := p'
  clear p'
  have r' := hide (r.out.below d1.out)
  clear r
  have r := r'
  clear r'
  clear b12 d1
  have q := hide (qr.out.can)
  have s := hide (sr.out.can)
  clear qr sr
  rw [gd1.out] at r
  rw [gd2.out] at s
  obtain ⟨A4, c4, rfl, _⟩ := r.out
  obtain ⟨A5, c5, rfl, _⟩ := s.out
  rw [limbs_zero]
  clear r s
  go_wp2_with fail
  refine (Gcd_arg (p.out.arg (Nat.le_trans (Nat.le_trans (L_mono (Nat.div_le_self x (Nat.gcd x y))) La.out) (by decide))) (q.out.arg (Nat.le_trans (Nat.le_trans (L_mono (Nat.div_le_self y (Nat.gcd x y))) Lb.out) (by decide))) (T.out.below b13.out)).mono ?_
  rintro e w14 ⟨tv, rfl, tr, d1⟩
  have b14 := hide (below_tr b13.out d1.out)
  have a' := hide (a.out.below d1.out)
  clear a
  have a := a'
  clear a'
  have b' := hide (b.out.below d1.out)
  clear b
  have b := b'
  clear b'
  have c' := hide (c.out.below d1.out)
  clear c
  have c := c'
  clear c'
  have g' := hide (g.out.below d1.out)
  clear g
  have g := g'
  clear g'
  have p' := hide (p.out.below d1.out)
  clear p
  have p := p'
  clear p'
  have q' := hide (q.out.below d1.out)
  clear q
  have q := q'
  clear q'
  clear b13 d1
  have t := hide (tr.out.can)
  clear tr
  have x0 := hide (lit w14 [1] 1 rfl (is32d (by decide)) (by decide) (by decide))
  have y0 := hide (Below.refl w14.heap.size w14)
  have y1 := hide (y0.out.alloc y0.out.size (.cells (cellsOf .u32 [1]) T32))
  have a' := hide (a.out.below y1.out)
  clear a
  have a := a'
  clear a'
  have b' := hide (b.out.below y1.out)
  clear b
  have b := b'
  clear b'
  have c' := hide (c.out.below y1.out)
  clear c
  have c := c'
  clear c'
  have g' := hide (g.out.below y1.out)
  clear g
  have g := g'
  clear g'
  have p' := hide (p.out.below y1.out)
  clear p
  have p := p'
  clear p'
  have q' := hide (q.out.below y1.out)
  clear q
  have q := q'
  clear q'
  have t' := hide (t.out.below y1.out)
  clear t
  have t := t'
  clear t'
  have b14' := hide (below_tr b14.out y1.out)
  clear b14
  have b14 := b14'
  clear b14'
  clear y0 y1
  go_wp2_with fail
  refine (Same_yes t.out x0.out (by rw [Nat.gcd_div (Nat.gcd_dvd_left _ _) (Nat.gcd_dvd_right _ _), Nat.div_self (Nat.pos_of_ne_zero gz.out)])).mono ?_
  rintro e w15 ⟨rfl, d1⟩
  have b15 := hide (below_tr b14.out d1.out)
  clear x0
  have a' := hide (a.out.below d1.out)
  clear a
  have a := a'
  clear a'
  have b' := hide (b.out.below d1.out)
  clear b
  have b := b'
  clear b'
  have c' := hide (c.out.below d1.out)
  clear c
  have c := c'
  clear c'
  have g' := hide (g.out.below d1.out)
  clear g
  have g := g'
  clear g'
  have p' := hide (p.out.below d1.out)
  clear p
  have p := p'
  clear p'
  have q' := hide (q.out.below d1.out)
  clear q
  have q := q'
  clear q'
  have t' := hide (t.out.below d1.out)
  clear t
  have t := t'
  clear t'
  clear b14 d1
  go_wp2
  exact opq_end hR ⟨rfl, b15⟩
end Go.Proofs.YtcdejccbamjdoaaDoor
