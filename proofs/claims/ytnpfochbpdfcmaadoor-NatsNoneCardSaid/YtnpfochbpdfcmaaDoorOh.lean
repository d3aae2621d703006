/- the laws of nats: NatsNone. -/
import Derived.Test.YtnpfochbpdfcmaaDoorNE
import Derived.Test.YtnpfochbpdfcmaaDoorSe
set_option linter.unusedVariables false
set_option linter.unusedSimpArgs false
set_option maxRecDepth 100000
namespace Go.Proofs.YtnpfochbpdfcmaaDoor
open Go.RowKit

theorem zalive_f {w : World} (h : Tab w) : Calls Tryd.prog 11 #[] w fun e w' => ∃ u, e = .returned u ∧ Below w.heap.size w w' ∧ u = .bool true :=
  (alive_ok w h).mono fun e w' ⟨h1, h2⟩ => ⟨_, h1, h2.out, rfl⟩
theorem ztwin_f {w : World} {A : Option Addr} {n c : Nat} {xs : List Nat} (h : Rd w A n xs) (hn : n ≤ 1000) :
    Calls Tryd.prog 14 #[.slice A n c] w fun e w' => ∃ g c', e = .returned (.slice (some ⟨g, 0, none⟩) n c') ∧ n < c' ∧ PB .u32 w' g T32 (xs ++ [77]) ∧ w.heap.size ≤ g ∧ Below w.heap.size w w' :=
  (TwinNat_ok w A n c xs h (by omega)).mono fun e w' ⟨A', c', e1, h1, h2, h3, h4, h5⟩ => by
    obtain ⟨g, c2, e2, h6, h7, h8, h9⟩ := own_pb h4.out (by omega)
    cases e2
    exact ⟨g, _, e1, h1, h9, h8, h5.out⟩
theorem odd_parts {xs : List Nat} {m : Nat} (h : xs.length = m + 1) (i : Is32 xs) : ∃ zs, ((xs ++ [77]).set m 0).take (m + 1) = zs ∧ chk zs = false ∧ Is32 zs ∧ zs.length = m + 1 := by
  obtain ⟨ys, x, rfl⟩ : ∃ ys x, xs = ys ++ [x] := ⟨xs.dropLast, xs.getLast (by intro e; simp [e] at h), (List.dropLast_concat_getLast _).symm⟩
  have hy : ys.length = m := by simpa using h
  subst hy
  have e : ((ys ++ [x] ++ [77]).set ys.length 0).take (ys.length + 1) = ys ++ [0] := by
    rw [List.append_assoc, List.set_append_right _ _ (Nat.le_refl _), Nat.sub_self, List.take_append, List.take_of_length_le (by omega)]
    simp
  refine ⟨_, rfl, ?_, ?_, ?_⟩
  · rw [e, chk_snoc]; rfl
  · rw [e]
    intro z hz
    rcases List.mem_append.1 hz with hz | hz
    · exact i z (List.mem_append_left _ hz)
    · simp at hz; omega
  · rw [e]; simp
theorem zback_f {w : World} {v : Value} {xs : List Nat} (h : Prt w v xs) (hc : chk xs = false) :
    Calls Tryd.prog 8 #[v] w fun e w' => e = .returned (.tuple #[.int .u64 0, .int .i64 1]) ∧ Below w.heap.size w w' := by
  obtain ⟨A, n, c, rfl, h1, h2, h3, h4⟩ := h
  exact (Back_ok w A n c xs h3 h4).mono fun e w' ⟨q1, q2⟩ => ⟨by rw [q1, hc]; rfl, q2⟩
theorem zsub_f {w : World} {v v' : Value} {xs ys : List Nat} (h : Prt w v xs) (h' : Prt w v' ys) (hc : chk xs = false) :
    Calls Tryd.prog 15 #[v, v'] w fun e w' => e = .returned (.tuple #[.slice none 0 0, .int .i64 1]) ∧ Below w.heap.size w w' := by
  obtain ⟨A, n, c, rfl, h1, h2, h3, h4⟩ := h
  obtain ⟨A', n', c', rfl, h1', h2', h3', h4'⟩ := h'
  exact (Sub_ok w A A' n n' c c' xs ys h3 h3' h4 h4' (by omega) (by omega) h1 h1').mono fun e w' ⟨q1, q2⟩ => ⟨by rw [if_neg (by rw [hc]; simp)] at q1; exact q1, q2⟩
theorem zdiv_f {w : World} {v v' : Value} {xs ys : List Nat} (h : Prt w v xs) (h' : Prt w v' ys) (hc : chk ys = false) :
    Calls Tryd.prog 13 #[v, v'] w fun e w' => e = .returned (.tuple #[.slice none 0 0, .slice none 0 0, .int .i64 1]) ∧ Below w.heap.size w w' := by
  obtain ⟨A, n, c, rfl, h1, h2, h3, h4⟩ := h
  obtain ⟨A', n', c', rfl, h1', h2', h3', h4'⟩ := h'
  exact (Div_ok w A A' n n' c c' xs ys h3 h3' h4 h4' (by omega) (by omega) h1 h1').mono fun e w' ⟨q1, q2⟩ => ⟨by rw [if_neg (by rw [hc]; simp)] at q1; exact q1, q2⟩
theorem zcheck_f {w : World} {v : Value} {xs : List Nat} (h : Prt w v xs) (hc : chk xs = false) :
    Calls Tryd.prog 16 #[v] w fun e w' => ∃ u, e = .returned u ∧ Below w.heap.size w w' ∧ u = .bool false :=
  (Check_prt h).mono fun e w' ⟨h1, h2⟩ => ⟨_, h1, by subst h2; exact Below.refl _ _, by rw [hc]⟩
theorem ztext_f {w : World} {v : Value} {xs : List Nat} (h : Prt w v xs) (hc : nv xs = 0) (hl : xs.length ≤ 1000) :
    Calls Tryd.prog 17 #[v] w fun e w' => ∃ u, e = .returned u ∧ Below w.heap.size w w' ∧ u = .string ⟨#[48]⟩ := by
  obtain ⟨A, n, c, rfl, h1, h2, h3, h4⟩ := h
  exact (Text_ok w A n c xs h3 h4 (by have := h3.1; omega) h1).mono fun e w' ⟨q1, q2⟩ => ⟨_, q1, q2, by rw [hc]; rfl⟩
theorem zcmp_f {w : World} {v v' : Value} {M N : Nat} (h : Arg w v M) (h' : Arg w v' N) (r : Int) (hr : cmpN M N = r) :
    Calls Tryd.prog 12 #[v, v'] w fun e w' => e = .returned (.int .i64 r) ∧ Below w.heap.size w w' := (Cmp_arg h h').mono fun e w' ⟨h1, h2⟩ => ⟨by rw [h1, hr], h2.out⟩
theorem zadd_f {w : World} {v v' : Value} {M N : Nat} (h : Arg w v M) (h' : Arg w v' N) :
    Calls Tryd.prog 9 #[v, v'] w fun e w' => ∃ A n c, e = .returned (.slice A n c) ∧ Below w.heap.size w w' ∧ Can w' (.slice A n c) (M + N) :=
  (Add_arg h h').mono fun e w' ⟨u, h1, h2, h3⟩ => by
    obtain ⟨A, c, rfl, h⟩ := h2.out.can
    exact ⟨_, _, _, h1, h3.out, A, c, rfl, h⟩
theorem zmul_f {w : World} {v v' : Value} {N : Nat} (h : Arg w v 0) (h' : Arg w v' N) :
    Calls Tryd.prog 10 #[v, v'] w fun e w' => ∃ A c, e = .returned (.slice A 0 c) ∧ Below w.heap.size w w' :=
  (Mul_arg h h').mono fun e w' ⟨u, h1, h2, h3⟩ => by
    obtain ⟨A, c, rfl, h⟩ := h2.out.can
    rw [Nat.zero_mul, show (limbs 0).length = 0 by rw [limbs_eq_nil.2 rfl]; rfl] at h1
    exact ⟨_, _, h1, h3.out⟩
theorem zgcd_f {w : World} {v v' : Value} {M N : Nat} (h : Arg w v M) (h' : Arg w v' N) (hT : Tab w) :
    Calls Tryd.prog 19 #[v, v'] w fun e w' => ∃ A n c, e = .returned (.slice A n c) ∧ Below w.heap.size w w' ∧ Can w' (.slice A n c) (Nat.gcd M N) :=
  (Gcd_arg h h' hT).mono fun e w' ⟨u, h1, h2, h3⟩ => by
    obtain ⟨A, c, rfl, h⟩ := h2.out.can
    exact ⟨_, _, _, h1, h3.out, A, c, rfl, h⟩
theorem zsame_f {w : World} {v v' : Value} {M : Nat} (h : Can w v M) (h' : Can w v' M) :
    Calls Tryd.prog 18 #[v, v'] w fun e w' => ∃ u, e = .returned u ∧ Below w.heap.size w w' ∧ u = .bool true :=
  (Same_can h h').mono fun e w' ⟨e1, e2⟩ => ⟨_, e1, e2.out, by simp⟩
set_option maxHeartbeats 4000000 in
theorem NatsNone_ok (w : World) (A1 : Option Addr) (n1 c1 : Nat) (xs : List Nat) (A2 : Option Addr) (n2 c2 : Nat) (ys : List Nat) (h1 : Rd w A1 n1 xs) (i1 : Is32 xs) (l1 : n1 ≤ c1) (h2 : Rd w A2 n2 ys) (i2 : Is32 ys) (l2 : n2 ≤ c2) (hT : Tab w) :
    Calls Tryd.prog 4 #[.slice A1 n1 c1, .slice A2 n2 c2] w fun e w' => e = .returned (.bool true) ∧ Hid (Below w.heap.size w w') := by
  refine opq fun R hR => ?_
  have T := hide hT
  have m1 := h1.2.1
  have m2 := h2.2.1
  have r := hide h1
  have xl := hide h1.1
  have k1 := hide i1
  have hq : n2 ≤ 60 → Hid (Prt w (.slice A2 n2 c2) ys) := fun h => ⟨A2, n2, c2, rfl, l2, by omega, h2, i2⟩
  replace hq := hide hq
  clear hT h1 h2 i1 i2
  go_enter Tryd.func4, Tryd.ntmps4
  have b0 := hide (Below.refl w.heap.size w)
  go_wp2_with fail
  refine (zalive_f T.out).mono ?_
  rintro e w1 ⟨_, rfl, d0, rfl⟩
  replace r := hide (r.out.below d0)
  replace b0 := hide (below_tr b0.out d0)
  clear d0
  by_cases hg : n1 ≤ 60 ∧ n2 ≤ 60 ∧ n1 ≠ 0
  case neg =>
    clear hq
    by_cases g1 : 60 < n1
    case pos =>
      go_wp2_with fail
      refine (zalive_f (T.out.below b0.out)).mono ?_
      rintro e w2 ⟨_, rfl, d0, rfl⟩
      replace r := hide (r.out.below d0)
      replace b0 := hide (below_tr b0.out d0)
      clear d0
      go_wp2
      exact opq_end hR ⟨rfl, b0⟩
    by_cases g2 : 60 < n2
    case pos =>
      go_wp2_with fail
      refine (zalive_f (T.out.below b0.out)).mono ?_
      rintro e w2 ⟨_, rfl, d0, rfl⟩
      replace r := hide (r.out.below d0)
      replace b0 := hide (below_tr b0.out d0)
      clear d0
      go_wp2
      exact opq_end hR ⟨rfl, b0⟩
    obtain rfl : n1 = 0 := by omega
    go_wp2_with fail
    refine (zalive_f (T.out.below b0.out)).mono ?_
    rintro e w2 ⟨_, rfl, d0, rfl⟩
    replace r := hide (r.out.below d0)
    replace b0 := hide (below_tr b0.out d0)
    clear d0
    go_wp2
    exact opq_end hR ⟨rfl, b0⟩
  obtain ⟨g1, g2, g3⟩ := hg
  replace hq := hide (hq.out g2)
  obtain ⟨m, rfl⟩ : ∃ m, n1 = m + 1 := ⟨n1 - 1, by omega⟩
  have q := hide (hq.out.below b0.out)
  clear hq
  obtain ⟨zs, hz, z1, z2, z3⟩ := odd_parts xl.out k1.out
  have zc := hide z1
  have zn := hide (show nv zs = 0 by simp [nv, z1])
  have zi := hide z2
  have zl := hide (show zs.length ≤ 1000 by rw [z3]; omega)
  replace hz := hide hz
  clear z1 z2 z3
  have z1 : decide ((60 : Int) < (m : Int) + 1) = false := by simp; omega
  have z2 : decide ((60 : Int) < (n2 : Int)) = false := by simp; omega
  have z3 : ((m : Int) + 1 == 0) = false := by simp; omega
  go_wp2_with fail
  refine (ztwin_f r.out (by omega)).mono ?_
  rintro e w2 ⟨g, c', rfl, hc', pb, hg, d0⟩
  have fz := pb.frozen m
  have cl := pb.cell m (by rw [List.length_append, xl.out]; simp; omega)
  replace pb := hide pb
  replace d0 := hide d0
  replace hg := hide hg
  clear r
  go_wp2_with fail
  have pz : PB .u32 (w2.setCell ⟨g, m, none⟩ (.int .u32 0)) g T32 ((xs ++ [77]).set m 0) := pb.out.set_ m 0 (by rw [List.length_append, xl.out]; simp; omega)
  have d1 : Below w1.heap.size w1 (w2.setCell ⟨g, m, none⟩ (.int .u32 0)) := d0.out.setCell hg.out _
  obtain ⟨V, hV⟩ : ∃ V, w2.setCell ⟨g, m, none⟩ (.int .u32 0) = V := ⟨_, rfl⟩
  rw [hV] at pz d1
  rw [hV]
  have rz := pz.rd (m + 1) (by rw [List.length_set, List.length_append, xl.out]; simp) (by omega)
  rw [hz.out] at rz
  have p : Hid (Prt V (.slice (some ⟨g, 0, none⟩) (m + 1) c') zs) := ⟨_, _, _, rfl, by omega, by omega, rz, zi.out⟩
  replace q := hide (q.out.below d1)
  replace b0 := hide (below_tr b0.out d1)
  clear pb pz rz hV d1 d0 hg fz cl hz
  go_wp2_with fail
  refine (zback_f p.out zc.out).mono ?_
  rintro e w3 ⟨rfl, d0⟩
  replace p := hide (p.out.below d0)
  replace q := hide (q.out.below d0)
  replace b0 := hide (below_tr b0.out d0)
  clear d0
  go_wp2_with fail
  refine (zsub_f p.out q.out zc.out).mono ?_
  rintro e w4 ⟨rfl, d0⟩
  replace p := hide (p.out.below d0)
  replace q := hide (q.out.below d0)
  replace b0 := hide (below_tr b0.out d0)
  clear d0
  go_wp2_with fail
  refine (zdiv_f q.out p.out zc.out).mono ?_
  rintro e w5 ⟨rfl, d0⟩
  replace p := hide (p.out.below d0)
  replace q := hide (q.out.below d0)
  replace b0 := hide (below_tr b0.out d0)
  clear d0
  go_wp2_with fail
  refine (zcheck_f p.out zc.out).mono ?_
  rintro e w6 ⟨_, rfl, d0, rfl⟩
  replace p := hide (p.out.below d0)
  replace q := hide (q.out.below d0)
  replace b0 := hide (below_tr b0.out d0)
  clear d0
  go_wp2_with fail
  refine (ztext_f p.out zn.out zl.out).mono ?_
  rintro e w7 ⟨_, rfl, d0, rfl⟩
  replace p := hide (p.out.below d0)
  replace q := hide (q.out.below d0)
  replace b0 := hide (below_tr b0.out d0)
  clear d0
  obtain ⟨k, hk⟩ : ∃ k : Int, cmpN 0 (nv ys) = k := ⟨_, rfl⟩
  replace hk := hide hk
  go_wp2_with fail
  refine (zcmp_f (zn.out ▸ p.out.arg) q.out.arg k hk.out).mono ?_
  rintro e w8 ⟨rfl, d0⟩
  replace p := hide (p.out.below d0)
  replace q := hide (q.out.below d0)
  replace b0 := hide (below_tr b0.out d0)
  clear d0
  go_wp2_with fail
  refine (zcmp_f (arg_nil _) q.out.arg k hk.out).mono ?_
  rintro e w9 ⟨rfl, d0⟩
  replace p := hide (p.out.below d0)
  replace q := hide (q.out.below d0)
  replace b0 := hide (below_tr b0.out d0)
  clear d0
  go_wp2_with fail
  refine (zadd_f (zn.out ▸ p.out.arg) q.out.arg).mono ?_
  rintro e w10 ⟨A3, n3, c3, rfl, d0, r3⟩
  replace p := hide (p.out.below d0)
  replace q := hide (q.out.below d0)
  replace b0 := hide (below_tr b0.out d0)
  have u := hide (r3)
  clear d0
  clear r3
  go_wp2_with fail
  refine (zadd_f (arg_nil _) q.out.arg).mono ?_
  rintro e w11 ⟨A4, n4, c4, rfl, d0, r4⟩
  replace p := hide (p.out.below d0)
  replace q := hide (q.out.below d0)
  replace u := hide (u.out.below d0)
  replace b0 := hide (below_tr b0.out d0)
  have v := hide (r4)
  clear d0
  clear r4
  go_wp2_with fail
  refine (zsame_f u.out v.out).mono ?_
  rintro e w12 ⟨_, rfl, d0, rfl⟩
  replace p := hide (p.out.below d0)
  replace q := hide (q.out.below d0)
  replace u := hide (u.out.below d0)
  replace v := hide (v.out.below d0)
  replace b0 := hide (below_tr b0.out d0)
  clear d0
  clear u v
  go_wp2_with fail
  refine (zmul_f (zn.out ▸ p.out.arg) q.out.arg).mono ?_
  rintro e w13 ⟨A5, c5, rfl, d0⟩
  replace p := hide (p.out.below d0)
  replace q := hide (q.out.below d0)
  replace b0 := hide (below_tr b0.out d0)
  clear d0
  go_wp2_with fail
  refine (zgcd_f (zn.out ▸ p.out.arg) q.out.arg (T.out.below b0.out)).mono ?_
  rintro e w14 ⟨A6, n6, c6, rfl, d0, r6⟩
  replace p := hide (p.out.below d0)
  replace q := hide (q.out.below d0)
  replace b0 := hide (below_tr b0.out d0)
  have u := hide (r6)
  clear d0
  clear r6
  go_wp2_with fail
  refine (zgcd_f (arg_nil _) q.out.arg (T.out.below b0.out)).mono ?_
  rintro e w15 ⟨A7, n7, c7, rfl, d0, r7⟩
  replace p := hide (p.out.below d0)
  replace q := hide (q.out.below d0)
  replace u := hide (u.out.below d0)
  replace b0 := hide (below_tr b0.out d0)
  have v := hide (r7)
  clear d0
  clear r7
  go_wp2_with fail
  refine (zsame_f u.out v.out).mono ?_
  rintro e w16 ⟨_, rfl, d0, rfl⟩
  replace p := hide (p.out.below d0)
  replace q := hide (q.out.below d0)
  replace u := hide (u.out.below d0)
  replace v := hide (v.out.below d0)
  replace b0 := hide (below_tr b0.out d0)
  clear d0
  clear u v
  go_wp2
  exact opq_end hR ⟨rfl, b0⟩
end Go.Proofs.YtnpfochbpdfcmaaDoor
