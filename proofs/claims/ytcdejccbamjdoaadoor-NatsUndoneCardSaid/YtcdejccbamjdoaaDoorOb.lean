/- the laws of nats: NatsOften. -/
import Derived.Test.YtcdejccbamjdoaaDoorOa
set_option linter.unusedVariables false
set_option linter.unusedSimpArgs false
set_option maxRecDepth 100000
namespace Go.Proofs.YtcdejccbamjdoaaDoor
open Go.RowKit

set_option maxHeartbeats 8000000 in
theorem NatsOften_ok (w : World) (A1 : Option Addr) (n1 k1 : Nat) (xs1 : List Nat) (A2 : Option Addr) (n2 k2 : Nat) (xs2 : List Nat) (h1 : Rd w A1 n1 xs1) (i1 : Is32 xs1) (l1 : n1 ≤ k1) (h2 : Rd w A2 n2 xs2) (i2 : Is32 xs2) (l2 : n2 ≤ k2) (hT : Tab w) :
    Calls Tryd.prog 10 #[.slice A1 n1 k1, .slice A2 n2 k2] w fun e w' => e = .returned (.bool true) ∧ Hid (Below w.heap.size w w') := by
  refine opq fun R hR => ?_
  have T := hide hT
  have b0 := hide (Below.refl w.heap.size w)
  have m1 := h1.2.1
  replace h1 := hide h1
  replace i1 := hide i1
  have m2 := h2.2.1
  replace h2 := hide h2
  replace i2 := hide i2
  go_enter Tryd.func10, Tryd.ntmps10
  by_cases gn1 : 100 < n1
  · go_wp2_with fail
    refine (alive_ok w T.out).mono ?_
    rintro e w1 ⟨rfl, d1⟩
    have T1 := hide (T.out.below d1.out)
    go_wp2_with fail
    refine (alive_ok _ T1.out).mono ?_
    rintro e w2 ⟨rfl, d2⟩
    go_wp2
    exact opq_end hR ⟨rfl, below_tr d1.out d2.out⟩
  by_cases gn2 : 100 < n2
  · go_wp2_with fail
    refine (alive_ok w T.out).mono ?_
    rintro e w1 ⟨rfl, d1⟩
    have T1 := hide (T.out.below d1.out)
    go_wp2_with fail
    refine (alive_ok _ T1.out).mono ?_
    rintro e w2 ⟨rfl, d2⟩
    go_wp2
    exact opq_end hR ⟨rfl, below_tr d1.out d2.out⟩
  by_cases g1 : chk xs1 = false
  · go_wp2_with fail
    refine (alive_ok w T.out).mono ?_
    rintro e w1 ⟨rfl, d1⟩
    have T1 := hide (T.out.below d1.out)
    have q1 := hide (Check_ok w1 A1 n1 k1 xs1 (h1.out.below d1.out))
    rw [g1] at q1
    go_wp2_with fail
    refine q1.out.mono ?_
    rintro e w' ⟨rfl, rfl⟩
    go_wp2_with fail
    refine (alive_ok _ T1.out).mono ?_
    rintro e w2 ⟨rfl, d2⟩
    go_wp2
    exact opq_end hR ⟨rfl, below_tr d1.out d2.out⟩
  replace g1 : chk xs1 = true := by simpa using g1
  by_cases g2 : chk xs2 = false
  · go_wp2_with fail
    refine (alive_ok w T.out).mono ?_
    rintro e w1 ⟨rfl, d1⟩
    have T1 := hide (T.out.below d1.out)
    have q1 := hide (Check_ok w1 A1 n1 k1 xs1 (h1.out.below d1.out))
    rw [g1] at q1
    go_wp2_with fail
    refine q1.out.mono ?_
    rintro e w' ⟨rfl, rfl⟩
    have q2 := hide (Check_ok w1 A2 n2 k2 xs2 (h2.out.below d1.out))
    rw [g2] at q2
    go_wp2_with fail
    refine q2.out.mono ?_
    rintro e w' ⟨rfl, rfl⟩
    go_wp2_with fail
    refine (alive_ok _ T1.out).mono ?_
    rintro e w2 ⟨rfl, d2⟩
    go_wp2
    exact opq_end hR ⟨rfl, below_tr d1.out d2.out⟩
  replace g2 : chk xs2 = true := by simpa using g2
  have a := hide (can_of h1.out i1.out g1 l1)
  have b := hide (can_of h2.out i2.out g2 l2)
  have La := hide (Nat.le_trans (L_le.2 (val_lt i1.out)) (show xs1.length ≤ 100 by rw [h1.out.1]; omega))
  have Lb := hide (Nat.le_trans (L_le.2 (val_lt i2.out)) (show xs2.length ≤ 100 by rw [h2.out.1]; omega))
  have e1 : Hid ((limbs (val xs1)).length = n1) := by show _ = _; rw [limbs_val_chk i1.out g1, h1.out.1]
  have e2 : Hid ((limbs (val xs2)).length = n2) := by show _ = _; rw [limbs_val_chk i2.out g2, h2.out.1]
  have y0 : Hid (val xs2 = 0 ↔ n2 = 0) := by rw [← e2.out]; exact is_zero_len.symm
  have q1 := hide (fun w1 (hb : Below w.heap.size w w1) => Check_ok w1 A1 n1 k1 xs1 (h1.out.below hb))
  have q2 := hide (fun w1 (hb : Below w.heap.size w w1) => Check_ok w1 A2 n2 k2 xs2 (h2.out.below hb))
  rw [g1] at q1
  rw [g2] at q2
  clear h1 h2 i1 i2 g1 g2 e1 e2
  generalize val xs1 = x at *
  generalize val xs2 = y at *
  go_wp2_with fail
  refine (alive_ok w T.out).mono ?_
  rintro e w1 ⟨rfl, d1⟩
  have b1 := hide (below_tr b0.out d1.out)
  have a' := hide (a.out.below d1.out)
  clear a
  have a := a'
  clear a'
  have b' := hide (b.out.below d1.out)
  clear b
  have b := b'
  clear b'
  clear b0 d1
  go_wp2_with fail
  refine (q1.out _ b1.out).mono ?_
  rintro e w' ⟨rfl, rfl⟩
  go_wp2_with fail
  refine (q2.out _ b1.out).mono ?_
  rintro e w' ⟨rfl, rfl⟩
  by_cases hz : n2 = 0
  case pos =>
    have yz := hide (y0.out.2 hz)
    clear y0
    subst hz
    clear gn2
    go_wp2_with fail
    refine (Div_zero a.out b.out (Nat.le_trans La.out (by decide)) (Nat.le_trans Lb.out (by decide)) yz.out).mono ?_
    rintro e w2 ⟨rfl, d1⟩
    have b2 := hide (below_tr b1.out d1.out)
    have a' := hide (a.out.below d1.out)
    clear a
    have a := a'
    clear a'
    have b' := hide (b.out.below d1.out)
    clear b
    have b := b'
    clear b'
    clear b1 d1
    go_wp2
    exact opq_end hR ⟨rfl, b2⟩
  have t0 : ((n2 : Int) == 0) = false := by rw [beq_nat0]; simpa using hz
  have ny : Hid (y ≠ 0) := fun q => hz (y0.out.1 q)
  clear y0
  go_wp2_with fail
  refine (Div_pos a.out b.out (Nat.le_trans La.out (by decide)) (Nat.le_trans Lb.out (by decide)) ny.out).mono ?_
  rintro e w2 ⟨qv, rv, rfl, qr, rr, _, d1⟩
  have b2 := hide (below_tr b1.out d1.out)
  have a' := hide (a.out.below d1.out)
  clear a
  have a := a'
  clear a'
  have b' := hide (b.out.below d1.out)
  clear b
  have b := b'
  clear b'
  clear b1 d1
  have q := hide (qr.out.can)
  have r := hide (rr.out.can)
  clear qr rr
  go_wp2_with fail
  refine (Mul_arg (a.out.arg (Nat.le_trans La.out (by decide))) (b.out.arg (Nat.le_trans Lb.out (by decide)))).mono ?_
  rintro e w3 ⟨mv, rfl, mr, d1⟩
  have b3 := hide (below_tr b2.out d1.out)
  have a' := hide (a.out.below d1.out)
  clear a
  have a := a'
  clear a'
  have b' := hide (b.out.below d1.out)
  clear b
  have b := b'
  clear b'
  have q' := hide (q.out.below d1.out)
  clear q
  have q := q'
  clear q'
  have r' := hide (r.out.below d1.out)
  clear r
  have r := r'
  clear r'
  clear b2 d1
  have m := hide (mr.out.can)
  clear mr
  have Lm := hide (L_mul La.out Lb.out)
  have Lq := hide (Nat.le_trans (L_mono (Nat.div_le_self x y)) La.out)
  have Lr := hide (Nat.le_trans (L_mono (Nat.mod_le x y)) La.out)
  go_wp2_with fail
  refine (Div_pos m.out b.out (Nat.le_trans Lm.out (by decide)) (Nat.le_trans Lb.out (by decide)) ny.out).mono ?_
  rintro e w4 ⟨pv, sv, rfl, pr, sr, _, d1⟩
  have b4 := hide (below_tr b3.out d1.out)
  have a' := hide (a.out.below d1.out)
  clear a
  have a := a'
  clear a'
  have b' := hide (b.out.below d1.out)
  clear b
  have b := b'
  clear b'
  have q' := hide (q.out.below d1.out)
  clear q
  have q := q'
  clear q'
  have r' := hide (r.out.below d1.out)
  clear r
  have r := r'
  clear r'
  have m' := hide (m.out.below d1.out)
  clear m
  have m := m'
  clear m'
  clear b3 d1
  have p := hide (pr.out.can)
  have s := hide (sr.out.can)
  clear pr sr
  clear m
  go_wp2_with fail
  refine (Check_can q.out).mono ?_
  rintro e w' ⟨rfl, rfl⟩
  go_wp2_with fail
  refine (Check_can r.out).mono ?_
  rintro e w' ⟨rfl, rfl⟩
  have c1 := hide (Cmp_arg (r.out.arg (Nat.le_trans Lr.out (by decide))) (b.out.arg (Nat.le_trans Lb.out (by decide))))
  rw [show cmpN (x % y) y = -1 from by unfold cmpN; rw [if_pos (Nat.mod_lt x (Nat.pos_of_ne_zero ny.out))]] at c1
  go_wp2_with fail
  refine (c1.out).mono ?_
  rintro e w5 ⟨rfl, d1⟩
  have b5 := hide (below_tr b4.out d1.out)
  have a' := hide (a.out.below d1.out)
  clear a
  have a := a'
  clear a'
  have b' := hide (b.out.below d1.out)
  clear b
  have b := b'
  clear b'
  have q' := hide (q.out.below d1.out)
  clear q
  have q := q'
  clear q'
  have r' := hide (r.out.below d1.out)
  clear r
  have r := r'
  clear r'
  have p' := hide (p.out.below d1.out)
  clear p
  have p := p'
  clear p'
  have s' := hide (s.out.below d1.out)
  clear s
  have s := s'
  clear s'
  clear b4 d1
  clear c1
  go_wp2_with fail
  refine (Mul_arg (q.out.arg (Nat.le_trans Lq.out (by decide))) (b.out.arg (Nat.le_trans Lb.out (by decide)))).mono ?_
  rintro e w6 ⟨mv, rfl, mr, d1⟩
  have b6 := hide (below_tr b5.out d1.out)
  have a' := hide (a.out.below d1.out)
  clear a
  have a := a'
  clear a'
  have b' := hide (b.out.below d1.out)
  clear b
  have b := b'
  clear b'
  have q' := hide (q.out.below d1.out)
  clear q
  have q := q'
  clear q'
  have r' := hide (r.out.below d1.out)
  clear r
  have r := r'
  clear r'
  have p' := hide (p.out.below d1.out)
  clear p
  have p := p'
  clear p'
  have s' := hide (s.out.below d1.out)
  clear s
  have s := s'
  clear s'
  clear b5 d1
  have m := hide (mr.out.can)
  clear mr
  go_wp2_with fail
  refine (Add_arg (m.out.arg (Nat.le_trans (L_mul Lq.out Lb.out) (by decide))) (r.out.arg (Nat.le_trans Lr.out (by decide)))).mono ?_
  rintro e w7 ⟨tv, rfl, tr, d1⟩
  have b7 := hide (below_tr b6.out d1.out)
  have a' := hide (a.out.below d1.out)
  clear a
  have a := a'
  clear a'
  have b' := hide (b.out.below d1.out)
  clear b
  have b := b'
  clear b'
  have q' := hide (q.out.below d1.out)
  clear q
  have q := q'
  clear q'
  have r' := hide (r.out.below d1.out)
  clear r
  have r := r'
  clear r'
  have p' := hide (p.out.below d1.out)
  clear p
  have p := p'
  clear p'
  have s' := hide (s.out.below d1.out)
  clear s
  have s := s'
  clear s'
  have m' := hide (m.out.below d1.out)
  clear m
  have m := m'
  clear m'
  clear b6 d1
  have t := hide (tr.out.can)
  clear tr
  clear m
  go_wp2_with fail
  refine (Same_yes t.out a.out (by rw [Nat.mul_comm]; exact Nat.div_add_mod x y)).mono ?_
  rintro e w8 ⟨rfl, d1⟩
  have b8 := hide (below_tr b7.out d1.out)
  have a' := hide (a.out.below d1.out)
  clear a
  have a := a'
  clear a'
  have b' := hide (b.out.below d1.out)
  clear b
  have b := b'
  clear b'
  have q' := hide (q.out.below d1.out)
  clear q
  have q := q'
  clear q'
  have r' := hide (r.out.below d1.out)
  clear r
  have r := r'
  clear r'
  have p' := hide (p.out.below d1.out)
  clear p
  have p := p'
  clear p'
  have s' := hide (s.out.below d1.out)
  clear s
  have s := s'
  clear s'
  have t' := hide (t.out.below d1.out)
  clear t
  have t := t'
  clear t'
  clear b7 d1
  clear t
  go_wp2_with fail
  refine (Same_yes p.out a.out (Nat.mul_div_cancel _ (Nat.pos_of_ne_zero ny.out))).mono ?_
  rintro e w9 ⟨rfl, d1⟩
  have b9 := hide (below_tr b8.out d1.out)
  have a' := hide (a.out.below d1.out)
  clear a
  have a := a'
  clear a'
  have b' := hide (b.out.below d1.out)
  clear b
  have b := b'
  clear b'
  have q' := hide (q.out.below d1.out)
  clear q
  have q := q'
  clear q'
  have r' := hide (r.out.below d1.out)
  clear r
  have r := r'
  clear r'
  have p' := hide (p.out.below d1.out)
  clear p
  have p := p'
  clear p'
  have s' := hide (s.out.below d1.out)
  clear s
  have s := s'
  clear s'
  clear b8 d1
  have e0 : x * y % y = 0 := Nat.mul_mod_left _ _
  rw [e0] at s
  obtain ⟨A0, c0, rfl, _⟩ := s.out
  rw [limbs_zero]
  clear s
  go_wp2
  exact opq_end hR ⟨rfl, b9⟩
end Go.Proofs.YtcdejccbamjdoaaDoor
