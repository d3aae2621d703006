/- the laws of nats: NatsRing. -/
import Derived.Test.YtcdejccbamjdoaaDoorND
set_option linter.unusedVariables false
set_option linter.unusedSimpArgs false
set_option maxRecDepth 100000
namespace Go.Proofs.YtcdejccbamjdoaaDoor
open Go.RowKit

set_option maxHeartbeats 8000000 in
theorem NatsRing_ok (w : World) (A1 A2 A3 : Option Addr) (n1 n2 n3 k1 k2 k3 : Nat) (xs ys zs : List Nat) (h1 : Rd w A1 n1 xs) (h2 : Rd w A2 n2 ys) (h3 : Rd w A3 n3 zs) (i1 : Is32 xs) (i2 : Is32 ys) (i3 : Is32 zs) (l1 : n1 ≤ k1) (l2 : n2 ≤ k2) (l3 : n3 ≤ k3) (hT : Tab w) :
    Calls Tryd.prog 9 #[.slice A1 n1 k1, .slice A2 n2 k2, .slice A3 n3 k3] w fun e w' => e = .returned (.bool true) ∧ Hid (Below w.heap.size w w') := by
  refine opq fun R hR => ?_
  have T := hide hT
  have b0 := hide (Below.refl w.heap.size w)
  have m1 := h1.2.1
  have m2 := h2.2.1
  have m3 := h3.2.1
  go_enter Tryd.func9, Tryd.ntmps9
  by_cases hg : n1 ≤ 100 ∧ n2 ≤ 100 ∧ n3 ≤ 100
  case neg =>
    clear h1 h2 h3 i1 i2 i3
    go_wp2_with fail
    refine (alive_ok w T.out).mono ?_
    rintro e w1 ⟨rfl, d1⟩
    have T1 := hide (T.out.below d1.out)
    by_cases g1 : 100 < n1
    · go_wp2_with fail
      refine (alive_ok w1 T1.out).mono ?_
      rintro e w2 ⟨rfl, d2⟩
      go_wp2
      exact opq_end hR ⟨rfl, below_tr d1.out d2.out⟩
    by_cases g2 : 100 < n2
    · go_wp2_with fail
      refine (alive_ok w1 T1.out).mono ?_
      rintro e w2 ⟨rfl, d2⟩
      go_wp2
      exact opq_end hR ⟨rfl, below_tr d1.out d2.out⟩
    have g3 : 100 < n3 := by omega
    go_wp2_with fail
    refine (alive_ok w1 T1.out).mono ?_
    rintro e w2 ⟨rfl, d2⟩
    go_wp2
    exact opq_end hR ⟨rfl, below_tr d1.out d2.out⟩
  obtain ⟨g1, g2, g3⟩ := hg
  have a := hide (arg_of h1 i1 l1 (by omega))
  have b := hide (arg_of h2 i2 l2 (by omega))
  have c := hide (arg_of h3 i3 l3 (by omega))
  have La := hide (Nat.le_trans (L_nv i1) (show xs.length ≤ 100 by rw [h1.1]; exact g1))
  have Lb := hide (Nat.le_trans (L_nv i2) (show ys.length ≤ 100 by rw [h2.1]; exact g2))
  have Lc := hide (Nat.le_trans (L_nv i3) (show zs.length ≤ 100 by rw [h3.1]; exact g3))
  clear h1 h2 h3 i1 i2 i3
  generalize nv xs = x at *
  generalize nv ys = y at *
  generalize nv zs = z at *
  go_wp2_with fail
  refine (alive_ok w T.out).mono ?_
  rintro e w1 ⟨rfl, d1⟩
  have b1 := hide (below_tr b0.out d1.out)
  have a' := hide (a.out.below d1.out)
  clear a
  have a := a'
  clear a'
  have b' := hide (b.out.below d1.out)
  clear b
  have b := b'
  clear b'
  have c' := hide (c.out.below d1.out)
  clear c
  have c := c'
  clear c'
  clear b0 d1
  go_wp2_with fail
  refine (Add_arg a.out b.out).mono ?_
  rintro e w2 ⟨sv, rfl, sr, d1⟩
  have b2 := hide (below_tr b1.out d1.out)
  have a' := hide (a.out.below d1.out)
  clear a
  have a := a'
  clear a'
  have b' := hide (b.out.below d1.out)
  clear b
  have b := b'
  clear b'
  have c' := hide (c.out.below d1.out)
  clear c
  have c := c'
  clear c'
  clear b1 d1
  have s := hide (sr.out.can)
  clear sr
  go_wp2_with fail
  refine (Mul_arg a.out b.out).mono ?_
  rintro e w3 ⟨pv, rfl, pr, d1⟩
  have b3 := hide (below_tr b2.out d1.out)
  have a' := hide (a.out.below d1.out)
  clear a
  have a := a'
  clear a'
  have b' := hide (b.out.below d1.out)
  clear b
  have b := b'
  clear b'
  have c' := hide (c.out.below d1.out)
  clear c
  have c := c'
  clear c'
  have s' := hide (s.out.below d1.out)
  clear s
  have s := s'
  clear s'
  clear b2 d1
  have p := hide (pr.out.can)
  clear pr
  go_wp2_with fail
  refine (Mul_arg a.out c.out).mono ?_
  rintro e w4 ⟨acv, rfl, acr, d1⟩
  have b4 := hide (below_tr b3.out d1.out)
  have a' := hide (a.out.below d1.out)
  clear a
  have a := a'
  clear a'
  have b' := hide (b.out.below d1.out)
  clear b
  have b := b'
  clear b'
  have c' := hide (c.out.below d1.out)
  clear c
  have c := c'
  clear c'
  have s' := hide (s.out.below d1.out)
  clear s
  have s := s'
  clear s'
  have p' := hide (p.out.below d1.out)
  clear p
  have p := p'
  clear p'
  clear b3 d1
  have ac := hide (acr.out.can)
  clear acr
  go_wp2_with fail
  refine (Mul_arg b.out c.out).mono ?_
  rintro e w5 ⟨bcv, rfl, bcr, d1⟩
  have b5 := hide (below_tr b4.out d1.out)
  have a' := hide (a.out.below d1.out)
  clear a
  have a := a'
  clear a'
  have b' := hide (b.out.below d1.out)
  clear b
  have b := b'
  clear b'
  have c' := hide (c.out.below d1.out)
  clear c
  have c := c'
  clear c'
  have s' := hide (s.out.below d1.out)
  clear s
  have s := s'
  clear s'
  have p' := hide (p.out.below d1.out)
  clear p
  have p := p'
  clear p'
  have ac' := hide (ac.out.below d1.out)
  clear ac
  have ac := ac'
  clear ac'
  clear b4 d1
  have bc := hide (bcr.out.can)
  clear bcr
  go_wp2_with fail
  refine (Add_arg (ac.out.arg (Nat.le_trans (L_mul La.out Lc.out) (by decide))) (bc.out.arg (Nat.le_trans (L_mul Lb.out Lc.out) (by decide)))).mono ?_
  rintro e w6 ⟨bov, rfl, bor, d1⟩
  have b6 := hide (below_tr b5.out d1.out)
  have a' := hide (a.out.below d1.out)
  clear a
  have a := a'
  clear a'
  have b' := hide (b.out.below d1.out)
  clear b
  have b := b'
  clear b'
  have c' := hide (c.out.below d1.out)
  clear c
  have c := c'
  clear c'
  have s' := hide (s.out.below d1.out)
  clear s
  have s := s'
  clear s'
  have p' := hide (p.out.below d1.out)
  clear p
  have p := p'
  clear p'
  have ac' := hide (ac.out.below d1.out)
  clear ac
  have ac := ac'
  clear ac'
  have bc' := hide (bc.out.below d1.out)
  clear bc
  have bc := bc'
  clear bc'
  clear b5 d1
  have bo := hide (bor.out.can)
  clear bor
  clear ac bc
  go_wp2_with fail
  refine (Check_can s.out).mono ?_
  rintro e w' ⟨rfl, rfl⟩
  go_wp2_with fail
  refine (Check_can p.out).mono ?_
  rintro e w' ⟨rfl, rfl⟩
  go_wp2_with fail
  refine (Add_arg b.out a.out).mono ?_
  rintro e w7 ⟨tv, rfl, tr, d1⟩
  have b7 := hide (below_tr b6.out d1.out)
  have a' := hide (a.out.below d1.out)
  clear a
  have a := a'
  clear a'
  have b' := hide (b.out.below d1.out)
  clear b
  have b := b'
  clear b'
  have c' := hide (c.out.below d1.out)
  clear c
  have c := c'
  clear c'
  have s' := hide (s.out.below d1.out)
  clear s
  have s := s'
  clear s'
  have p' := hide (p.out.below d1.out)
  clear p
  have p := p'
  clear p'
  have bo' := hide (bo.out.below d1.out)
  clear bo
  have bo := bo'
  clear bo'
  clear b6 d1
  have t := hide (tr.out.can)
  clear tr
  go_wp2_with fail
  refine (Same_yes s.out t.out (Nat.add_comm _ _)).mono ?_
  rintro e w8 ⟨rfl, d1⟩
  have b8 := hide (below_tr b7.out d1.out)
  have a' := hide (a.out.below d1.out)
  clear a
  have a := a'
  clear a'
  have b' := hide (b.out.below d1.out)
  clear b
  have b := b'
  clear b'
  have c' := hide (c.out.below d1.out)
  clear c
  have c := c'
  clear c'
  have s' := hide (s.out.below d1.out)
  clear s
  have s := s'
  clear s'
  have p' := hide (p.out.below d1.out)
  clear p
  have p := p'
  clear p'
  have bo' := hide (bo.out.below d1.out)
  clear bo
  have bo := bo'
  clear bo'
  have t' := hide (t.out.below d1.out)
  clear t
  have t := t'
  clear t'
  clear b7 d1
  clear t
  go_wp2_with fail
  refine (Mul_arg b.out a.out).mono ?_
  rintro e w9 ⟨tv, rfl, tr, d1⟩
  have b9 := hide (below_tr b8.out d1.out)
  have a' := hide (a.out.below d1.out)
  clear a
  have a := a'
  clear a'
  have b' := hide (b.out.below d1.out)
  clear b
  have b := b'
  clear b'
  have c' := hide (c.out.below d1.out)
  clear c
  have c := c'
  clear c'
  have s' := hide (s.out.below d1.out)
  clear s
  have s := s'
  clear s'
  have p' := hide (p.out.below d1.out)
  clear p
  have p := p'
  clear p'
  have bo' := hide (bo.out.below d1.out)
  clear bo
  have bo := bo'
  clear bo'
  clear b8 d1
  have t := hide (tr.out.can)
  clear tr
  go_wp2_with fail
  refine (Same_yes p.out t.out (Nat.mul_comm _ _)).mono ?_
  rintro e w10 ⟨rfl, d1⟩
  have b10 := hide (below_tr b9.out d1.out)
  have a' := hide (a.out.below d1.out)
  clear a
  have a := a'
  clear a'
  have b' := hide (b.out.below d1.out)
  clear b
  have b := b'
  clear b'
  have c' := hide (c.out.below d1.out)
  clear c
  have c := c'
  clear c'
  have s' := hide (s.out.below d1.out)
  clear s
  have s := s'
  clear s'
  have p' := hide (p.out.below d1.out)
  clear p
  have p := p'
  clear p'
  have bo' := hide (bo.out.below d1.out)
  clear bo
  have bo := bo'
  clear bo'
  have t' := hide (t.out.below d1.out)
  clear t
  have t := t'
  clear t'
  clear b9 d1
  clear t
  go_wp2_with fail
  refine (Add_arg (s.out.arg (Nat.le_trans (L_add La.out Lb.out) (by decide))) c.out).mono ?_
  rintro e w11 ⟨tv, rfl, tr, d1⟩
  have b11 := hide (below_tr b10.out d1.out)
  have a' := hide (a.out.below d1.out)
  clear a
  have a := a'
  clear a'
  have b' := hide (b.out.below d1.out)
  clear b
  have b := b'
  clear b'
  have c' := hide (c.out.below d1.out)
  clear c
  have c := c'
  clear c'
  have s' := hide (s.out.below d1.out)
  clear s
  have s := s'
  clear s'
  have p' := hide (p.out.below d1.out)
  clear p
  have p := p'
  clear p'
  have bo' := hide (bo.out.below d1.out)
  clear bo
  have bo := bo'
  clear bo'
  clear b10 d1
  have t := hide (tr.out.can)
  clear tr
  go_wp2_with fail
  refine (Add_arg b.out c.out).mono ?_
  rintro e w12 ⟨qv, rfl, qr, d1⟩
  have b12 := hide (below_tr b11.out d1.out)
  have a' := hide (a.out.below d1.out)
  clear a
  have a := a'
  clear a'
  have b' := hide (b.out.below d1.out)
  clear b
  have b := b'
  clear b'
  have c' := hide (c.out.below d1.out)
  clear c
  have c := c'
  clear c'
  have s' := hide (s.out.below d1.out)
  clear s
  have s := s'
  clear s'
  have p' := hide (p.out.below d1.out)
  clear p
  have p := p'
  clear p'
  have bo' := hide (bo.out.below d1.out)
  clear bo
  have bo := bo'
  clear bo'
  have t' := hide (t.out.below d1.out)
  clear t
  have t := t'
  clear t'
  clear b11 d1
  have q := hide (qr.out.can)
  clear qr
  go_wp2_with fail
  refine (Add_arg a.out (q.out.arg (Nat.le_trans (L_add Lb.out Lc.out) (by decide)))).mono ?_
  rintro e w13 ⟨rv, rfl, rr, d1⟩
  have b13 := hide (below_tr b12.out d1.out)
  have a' := hide (a.out.below d1.out)
  clear a
  have a := a'
  clear a'
  have b' := hide (b.out.below d1.out)
  clear b
  have b := b'
  clear b'
  have c' := hide (c.out.below d1.out)
  clear c
  have c := c'
  clear c'
  have s' := hide (s.out.below d1.out)
  clear s
  have s := s'
  clear s'
  have p' := hide (p.out.below d1.out)
  clear p
  have p := p'
  clear p'
  have bo' := hide (bo.out.below d1.out)
  clear bo
  have bo := bo'
  clear bo'
  have t' := hide (t.out.below d1.out)
  clear t
  have t := t'
  clear t'
  have q' := hide (q.out.below d1.out)
  clear q
  have q := q'
  clear q'
  clear b12 d1
  have r := hide (rr.out.can)
  clear rr
  go_wp2_with fail
  refine (Same_yes t.out r.out (Nat.add_assoc _ _ _)).mono ?_
  rintro e w14 ⟨rfl, d1⟩
  have b14 := hide (below_tr b13.out d1.out)
  have a' := hide (a.out.below d1.out)
  clear a
  have a := a'
  clear a'
  have b' := hide (b.out.below d1.out)
  clear b
  have b := b'
  clear b'
  have c' := hide (c.out.below d1.out)
  clear c
  have c := c'
  clear c'
  have s' := hide (s.out.below d1.out)
  clear s
  have s := s'
  clear s'
  have p' := hide (p.out.below d1.out)
  clear p
  have p := p'
  clear p'
  have bo' := hide (bo.out.below d1.out)
  clear bo
  have bo := bo'
  clear bo'
  have t' := hide (t.out.below d1.out)
  clear t
  have t := t'
  clear t'
  have q' := hide (q.out.below d1.out)
  clear q
  have q := q'
  clear q'
  have r' := hide (r.out.below d1.out)
  clear r
  have r := r'
  clear r'
  clear b13 d1
  clear t q r
  go_wp2_with fail
  refine (Mul_arg (p.out.arg (Nat.le_trans (L_mul La.out Lb.out) (by decide))) c.out).mono ?_
  rintro e w15 ⟨tv, rfl, tr, d1⟩
  have b15 := hide (below_tr b14.out d1.out)
  have a' := hide (a.out.below d1.out)
  clear a
  have a := a'
  clear a'
  have b' := hide (b.out.below d1.out)
  clear b
  have b := b'
  clear b'
  have c' := hide (c.out.below d1.out)
  clear c
  have c := c'
  clear c'
  have s' := hide (s.out.below d1.out)
  clear s
  have s := s'
  clear s'
  have p' := hide (p.out.below d1.out)
  clear p
  have p := p'
  clear p'
  have bo' := hide (bo.out.below d1.out)
  clear bo
  have bo := bo'
  clear bo'
  clear b14 d1
  have t := hide (tr.out.can)
  clear tr
  go_wp2_with fail
  refine (Mul_arg b.out c.out).mono ?_
  rintro e w16 ⟨qv, rfl, qr, d1⟩
  have b16 := hide (below_tr b15.out d1.out)
  have a' := hide (a.out.below d1.out)
  clear a
  have a := a'
  clear a'
  have b' := hide (b.out.below d1.out)
  clear b
  have b := b'
  clear b'
  have c' := hide (c.out.below d1.out)
  clear c
  have c := c'
  clear c'
  have s' := hide (s.out.below d1.out)
  clear s
  have s := s'
  clear s'
  have p' := hide (p.out.below d1.out)
  clear p
  have p := p'
  clear p'
  have bo' := hide (bo.out.below d1.out)
  clear bo
  have bo := bo'
  clear bo'
  have t' := hide (t.out.below d1.out)
  clear t
  have t := t'
  clear t'
  clear b15 d1
  have q := hide (qr.out.can)
  clear qr
  go_wp2_with fail
  refine (Mul_arg a.out (q.out.arg (Nat.le_trans (L_mul Lb.out Lc.out) (by decide)))).mono ?_
  rintro e w17 ⟨rv, rfl, rr, d1⟩
  have b17 := hide (below_tr b16.out d1.out)
  have a' := hide (a.out.below d1.out)
  clear a
  have a := a'
  clear a'
  have b' := hide (b.out.below d1.out)
  clear b
  have b := b'
  clear b'
  have c' := hide (c.out.below d1.out)
  clear c
  have c := c'
  clear c'
  have s' := hide (s.out.below d1.out)
  clear s
  have s := s'
  clear s'
  have p' := hide (p.out.below d1.out)
  clear p
  have p := p'
  clear p'
  have bo' := hide (bo.out.below d1.out)
  clear bo
  have bo := bo'
  clear bo'
  have t' := hide (t.out.below d1.out)
  clear t
  have t := t'
  clear t'
  have q' := hide (q.out.below d1.out)
  clear q
  have q := q'
  clear q'
  clear b16 d1
  have r := hide (rr.out.can)
  clear rr
  go_wp2_with fail
  refine (Same_yes t.out r.out (Nat.mul_assoc _ _ _)).mono ?_
  rintro e w18 ⟨rfl, d1⟩
  have b18 := hide (below_tr b17.out d1.out)
  have a' := hide (a.out.below d1.out)
  clear a
  have a := a'
  clear a'
  have b' := hide (b.out.below d1.out)
  clear b
  have b := b'
  clear b'
  have c' := hide (c.out.below d1.out)
  clear c
  have c := c'
  clear c'
  have s' := hide (s.out.below d1.out)
  clear s
  have s := s'
  clear s'
  have p' := hide (p.out.below d1.out)
  clear p
  have p := p'
  clear p'
  have bo' := hide (bo.out.below d1.out)
  clear bo
  have bo := bo'
  clear bo'
  have t' := hide (t.out.below d1.out)
  clear t
  have t := t'
  clear t'
  have q' := hide (q.out.below d1.out)
  clear q
  have q := q'
  clear q'
  have r' := hide (r.out.below d1.out)
  clear r
  have r := r'
  clear r'
  clear b17 d1
  clear t q r
  go_wp2_with fail
  refine (Mul_arg (s.out.arg (Nat.le_trans (L_add La.out Lb.out) (by decide))) c.out).mono ?_
  rintro e w19 ⟨tv, rfl, tr, d1⟩
  have b19 := hide (below_tr b18.out d1.out)
  have a' := hide (a.out.below d1.out)
  clear a
  have a := a'
  clear a'
  have b' := hide (b.out.below d1.out)
  clear b
  have b := b'
  clear b'
  have c' := hide (c.out.below d1.out)
  clear c
  have c := c'
  clear c'
  have s' := hide (s.out.below d1.out)
  clear s
  have s := s'
  clear s'
  have p' := hide (p.out.below d1.out)
  clear p
  have p := p'
  clear p'
  have bo' := hide (bo.out.below d1.out)
  clear bo
  have bo := bo'
  clear bo'
  clear b18 d1
  have t := hide (tr.out.can)
  clear tr
  go_wp2_with fail
  refine (Same_yes t.out bo.out (Nat.add_mul _ _ _)).mono ?_
  rintro e w20 ⟨rfl, d1⟩
  have b20 := hide (below_tr b19.out d1.out)
  have a' := hide (a.out.below d1.out)
  clear a
  have a := a'
  clear a'
  have b' := hide (b.out.below d1.out)
  clear b
  have b := b'
  clear b'
  have c' := hide (c.out.below d1.out)
  clear c
  have c := c'
  clear c'
  have s' := hide (s.out.below d1.out)
  clear s
  have s := s'
  clear s'
  have p' := hide (p.out.below d1.out)
  clear p
  have p := p'
  clear p'
  have bo' := hide (bo.out.below d1.out)
  clear bo
  have bo := bo'
  clear bo'
  have t' := hide (t.out.below d1.out)
  clear t
  have t := t'
  clear t'
  clear b19 d1
  clear t
  go_wp2_with fail
  refine (Mul_arg a.out (arg_nil _)).mono ?_
  rintro e w21 ⟨uv, rfl, ur, d1⟩
  have b21 := hide (below_tr b20.out d1.out)
  have a' := hide (a.out.below d1.out)
  clear a
  have a := a'
  clear a'
  have b' := hide (b.out.below d1.out)
  clear b
  have b := b'
  clear b'
  have c' := hide (c.out.below d1.out)
  clear c
  have c := c'
  clear c'
  have s' := hide (s.out.below d1.out)
  clear s
  have s := s'
  clear s'
  have p' := hide (p.out.below d1.out)
  clear p
  have p := p'
  clear p'
  have bo' := hide (bo.out.below d1.out)
  clear bo
  have bo := bo'
  clear bo'
  clear b20 d1
  have e0 := Nat.mul_zero x
  rw [e0] at ur
  obtain ⟨A0, c0, rfl, _⟩ := ur.out
  rw [limbs_zero]
  clear ur
  go_wp2
  exact opq_end hR ⟨rfl, b21⟩
end Go.Proofs.YtcdejccbamjdoaaDoor
