/- nats: Gcd. -/
import Derived.Test.YtcdejccbamjdoaaDoorNk
import Derived.Test.YtcdejccbamjdoaaDoorLm5
set_option linter.unusedVariables false
set_option linter.unusedSimpArgs false
set_option maxRecDepth 100000
namespace Go.Proofs.YtcdejccbamjdoaaDoor
open Go.RowKit

theorem sm_of_len {xs : List Nat} {n : Nat} (h32 : Is32 xs) (hl : xs.length = n) (hn : n ≤ 17592186044416) : Sm (val xs) :=
  Nat.le_trans (limbs_length_le.2 (by rw [← hl]; exact val_lt h32)) hn

set_option maxHeartbeats 2000000 in
theorem Gcd_ok (w : World) (A A' : Option Addr) (n n' c c' : Nat) (xs ys : List Nat) (h : Rd w A n xs) (h' : Rd w A' n' ys) (h32 : Is32 xs) (h32' : Is32 ys) (hn : n ≤ 8796093022208) (hn' : n' ≤ 8796093022208) (hc : n ≤ c) (hc' : n' ≤ c') (hT : Tab w) :
    Calls Tryd.prog 41 #[.slice A n c, .slice A' n' c'] w fun e w' => ∃ v, e = .returned v ∧ NatR (Nat.gcd (nv xs) (nv ys)) w.heap.size w' v ∧ Below w.heap.size w w' := by
  refine opq fun R hR => ?_
  have F1 := hide (fine_any w A n c xs h h32 hc)
  have F2 := hide (fun w1 (hb : Below w.heap.size w w1) => fine_any w1 A' n' c' ys (h'.below hb) h32' hc')
  have T := hide hT
  clear h h' h32 h32' hT
  go_enter Tryd.func41, Tryd.ntmps41
  go_wp2_with fail
  refine F1.out.mono ?_
  rintro e w' ⟨A1, n1, c1, xs1, rfl, rfl, r1, p1, q1, q2⟩
  go_wp2_with fail
  refine (clone_fine w A1 n1 c1 xs1 r1.out ⟨p1.out.1, p1.out.2.1⟩ (by omega)).mono ?_
  rintro e w1 ⟨A1', c1', rfl, N1, B1⟩
  have S1 : Hid (Sm (nv xs)) := by rw [← p1.out.2.2]; exact sm_of_len p1.out.1 r1.out.1 (by omega)
  rw [p1.out.2.2] at *
  clear F1 r1 p1
  go_wp2_with fail
  refine (F2.out w1 B1.out).mono ?_
  rintro e w' ⟨A2, n2, c2, ys1, rfl, rfl, r2, p2, q3, q4⟩
  go_wp2_with fail
  refine (clone_fine w1 A2 n2 c2 ys1 r2.out ⟨p2.out.1, p2.out.2.1⟩ (by omega)).mono ?_
  rintro e w2 ⟨A2', c2', rfl, N2, B2⟩
  have S2 : Hid (Sm (nv ys)) := by rw [← p2.out.2.2]; exact sm_of_len p2.out.1 r2.out.1 (by omega)
  rw [p2.out.2.2] at *
  clear F2 r2 p2
  have M1 := hide (N1.out.below B2.out)
  have M2 := hide (N2.out.mono B1.out.size)
  have B3 := hide (below_tr B1.out B2.out)
  have T2 := hide (T.out.below B3.out)
  clear N1 N2 B1 B2
  generalize nv xs = a at *
  generalize nv ys = b at *
  by_cases ha : a = 0
  · subst ha
    rw [limbs_zero] at *
    have e0 : Hid (Nat.gcd 0 b = b) := Nat.gcd_zero_left b
    go_wp2
    exact opq_end hR ⟨_, rfl, by rw [e0.out]; exact M2.out, B3.out⟩
  · have la : ((limbs a).length == 0) = false := by simp [limbs_eq_nil, ha]
    have la' : (((limbs a).length : Int) == 0) = false := by rw [beq_nat0]; simpa using la
    by_cases hb : b = 0
    · subst hb
      have e0 : Hid (Nat.gcd a 0 = a) := Nat.gcd_zero_right a
      rw [limbs_zero] at *
      generalize (limbs a).length = la1 at *
      go_wp2
      exact opq_end hR ⟨_, rfl, by rw [e0.out]; exact M1.out, B3.out⟩
    · have lb' : (((limbs b).length : Int) == 0) = false := by rw [beq_nat0]; simp [limbs_eq_nil, hb]
      clear la
      have C1 := hide M1.out.can
      have C2 := hide M2.out.can
      generalize (limbs a).length = la1 at *
      generalize (limbs b).length = lb1 at *
      have HA := hide ha
      have HB := hide hb
      clear ha hb
      go_wp2_with fail
      refine (noughts_can C1.out S1.out HA.out T2.out).mono ?_
      rintro e w' ⟨kn, x, rfl, rfl, hkn, ea⟩
      go_wp2_with fail
      refine (noughts_can C2.out S2.out HB.out T2.out).mono ?_
      rintro e w' ⟨km, y, rfl, rfl, hkm, eb⟩
      go_wp2_with fail
      refine (back_can kn C1.out S1.out (by omega)).mono ?_
      rintro e w3 ⟨v1, rfl, N3, B4⟩
      go_wp2_with fail
      refine (back_can km (C2.out.below B4.out) S2.out (by omega)).mono ?_
      rintro e w4 ⟨v2, rfl, N4, B5⟩
      have P1 : Hid (a / 2 ^ kn = 2 * x + 1) := div_pow_odd ea.out
      have P2 : Hid (b / 2 ^ km = 2 * y + 1) := div_pow_odd eb.out
      have W := hide (gcd_whole ea.out eb.out)
      have S3 := hide (S1.out.mono (le_of_tz ea.out))
      have S4 := hide (S2.out.mono (le_of_tz eb.out))
      have K1 := hide ((N3.out.below B5.out).mono B3.out.size)
      have K2 := hide (N4.out.mono (Nat.le_trans B3.out.size B4.out.size))
      have K3 := hide (below_tr (below_tr B3.out B4.out) B5.out)
      rw [P1.out] at K1
      rw [P2.out] at K2
      clear N3 N4 B4 B5 P1 P2 ea eb M1 M2 C1 C2 S1 S2 HA HB
      obtain ⟨mn, emn⟩ : ∃ mn, Hid (mn = min kn km) := ⟨_, hide rfl⟩
      have hmin := fun ts t => run_min_nat (P := Tryd.prog) ts t .u64 kn km mn emn.out
      have hmn : mn ≤ 562949953421312 := by rw [emn.out]; omega
      rw [← emn.out] at W
      go_wp2
      go_loopg [0, 1] (2 * x + 1 + (2 * y + 1)) (fun gk av bv wr => ∃ p q, Hid (gk = p + q) ∧ Hid (NatR p w.heap.size wr av) ∧ Hid (NatR q w.heap.size wr bv) ∧ Hid (p % 2 = 1 ∧ q % 2 = 1 ∧ Nat.gcd p q = Nat.gcd (2 * x + 1) (2 * y + 1)) ∧ Hid (Sm p) ∧ Hid (Sm q) ∧ Hid (Below w.heap.size w wr))
      case atStart => exact ⟨_, _, hide rfl, K1, K2, hide ⟨by omega, by omega, rfl⟩, S3, S4, K3⟩
      case round =>
        obtain ⟨p, q, hg, hp, hq, ho, sp, sq, hb⟩ := hrel
        have C := hide (Cmp_can hp.out.can hq.out.can sp.out sq.out)
        rcases cmpN_cases p q with ⟨hlt, ec⟩ | ⟨heq, ec⟩ | ⟨hlt, ec⟩
        · rw [ec] at C
          have L := hide hlt
          clear hlt ec
          go_wp2_with fail
          refine C.out.mono ?_
          rintro e w5 ⟨rfl, b5⟩
          have B5 := hide b5
          clear b5
          have B6 := hide (below_tr hb.out B5.out)
          go_wp2_with fail
          refine (minus_can (hq.out.can.below B5.out) (hp.out.can.below B5.out) sq.out (Nat.le_of_lt L.out)).mono ?_
          rintro e w6 ⟨u1, rfl, N6, b6⟩
          have B7 := hide (below_tr B6.out b6.out)
          have SD := hide (sq.out.mono (Nat.sub_le q p))
          have D0 : Hid (q - p ≠ 0) := Nat.sub_ne_zero_of_lt L.out
          go_wp2_with fail
          refine (noughts_can N6.out.can SD.out D0.out (T.out.below B7.out)).mono ?_
          rintro e w' ⟨kd, z, rfl, rfl, hkd, ed⟩
          go_wp2_with fail
          refine (back_can kd N6.out.can SD.out (by omega)).mono ?_
          rintro e w7 ⟨u2, rfl, N7, b7⟩
          have PD : Hid ((q - p) / 2 ^ kd = 2 * z + 1) := div_pow_odd ed.out
          have LD := hide (le_of_tz ed.out)
          have G := hide (gcd_step ho.out.1 L.out ed.out)
          rw [PD.out] at N7
          have Q1 := hide (((hp.out.below B5.out).below b6.out).below b7.out)
          have Q2 := hide (N7.out.mono B7.out.size)
          have Q3 := hide (below_tr B7.out b7.out)
          go_wp2
          go_roundg (p + (2 * z + 1))
          case measure => have := LD.out; have := hg.out; have := L.out; have := ho.out.1; have := ho.out.2.1; omega
          case rel => exact ⟨p, 2 * z + 1, hide rfl, Q1, Q2, hide ⟨ho.out.1, by omega, by rw [G.out]; exact ho.out.2.2⟩, sp, hide (SD.out.mono LD.out), Q3⟩
        · rw [ec] at C
          have G : Hid (p = Nat.gcd (2 * x + 1) (2 * y + 1)) := by rw [← ho.out.2.2, heq]; exact (Nat.gcd_self q).symm
          clear heq ec
          go_wp2_with fail
          refine C.out.mono ?_
          rintro e w5 ⟨rfl, b5⟩
          have B5 := hide b5
          clear b5
          go_wp2_with fail
          refine (shift_can mn (hp.out.can.below B5.out) sp.out (by omega)).mono ?_
          rintro e w6 ⟨u1, rfl, N6, b6⟩
          go_wp2
          refine opq_end hR ⟨_, rfl, ?_, below_tr (below_tr hb.out B5.out) b6.out⟩
          rw [W.out, ← G.out]
          exact N6.out.mono (Nat.le_trans hb.out.size B5.out.size)
        · rw [ec] at C
          have L := hide hlt
          clear hlt ec
          go_wp2_with fail
          refine C.out.mono ?_
          rintro e w5 ⟨rfl, b5⟩
          have B5 := hide b5
          clear b5
          have B6 := hide (below_tr hb.out B5.out)
          go_wp2_with fail
          refine (minus_can (hp.out.can.below B5.out) (hq.out.can.below B5.out) sp.out (Nat.le_of_lt L.out)).mono ?_
          rintro e w6 ⟨u1, rfl, N6, b6⟩
          have B7 := hide (below_tr B6.out b6.out)
          have SD := hide (sp.out.mono (Nat.sub_le p q))
          have D0 : Hid (p - q ≠ 0) := Nat.sub_ne_zero_of_lt L.out
          go_wp2_with fail
          refine (noughts_can N6.out.can SD.out D0.out (T.out.below B7.out)).mono ?_
          rintro e w' ⟨kd, z, rfl, rfl, hkd, ed⟩
          go_wp2_with fail
          refine (back_can kd N6.out.can SD.out (by omega)).mono ?_
          rintro e w7 ⟨u2, rfl, N7, b7⟩
          have PD : Hid ((p - q) / 2 ^ kd = 2 * z + 1) := div_pow_odd ed.out
          have LD := hide (le_of_tz ed.out)
          have G := hide (gcd_step ho.out.2.1 L.out ed.out)
          rw [PD.out] at N7
          have Q1 := hide (((hq.out.below B5.out).below b6.out).below b7.out)
          have Q2 := hide (N7.out.mono B7.out.size)
          have Q3 := hide (below_tr B7.out b7.out)
          go_wp2
          go_roundg (q + (2 * z + 1))
          case measure => have := LD.out; have := hg.out; have := L.out; have := ho.out.1; have := ho.out.2.1; omega
          case rel => exact ⟨q, 2 * z + 1, hide rfl, Q1, Q2, hide ⟨ho.out.2.1, by omega, by rw [G.out, Nat.gcd_comm]; exact ho.out.2.2⟩, sq, hide (SD.out.mono LD.out), Q3⟩
end Go.Proofs.YtcdejccbamjdoaaDoor
