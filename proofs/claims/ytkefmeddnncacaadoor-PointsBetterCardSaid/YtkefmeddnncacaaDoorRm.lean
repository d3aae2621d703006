/- the document's answer for nats: Gcd, Back. -/
import Derived.Test.YtkefmeddnncacaaDoorRl
set_option linter.unusedVariables false
set_option linter.unusedSimpArgs false
set_option maxRecDepth 100000
namespace Go.Proofs.YtkefmeddnncacaaDoor
open Go.RowKit

theorem kDiv_pos {w : World} {v v' : Value} {M N : Nat} (h : Can w v M) (h' : Can w v' N) (s : (limbs M).length ≤ 8796093022208) (s' : (limbs N).length ≤ 8796093022208) (hN : N ≠ 0) :
    Calls Tryd.prog 222 #[v, v'] w fun e w' => ∃ q t, e = .returned (.tuple #[q, t, .int .i64 0]) ∧ Hid (NatR (M / N) w.heap.size w' q) ∧ Hid (NatR (M % N) w.heap.size w' t) ∧ Sep q t ∧ Hid (Below w.heap.size w w') := by
  obtain ⟨A, c, rfl, l, r⟩ := h
  obtain ⟨A', c', rfl, l', r'⟩ := h'
  refine (kDiv_ok w A A' _ _ c c' _ _ r r' (is32_limbs M) (is32_limbs N) s s' l l').mono ?_
  rintro e w' ⟨h1, h2⟩
  rw [if_pos ⟨chk_limbs M, chk_limbs N⟩, if_neg (fun q => hN (limbs_eq_nil.1 q)), val_limbs, val_limbs] at h1
  obtain ⟨q, t, e1, h3, h4, h5⟩ := h1
  exact ⟨q, t, e1, h3, h4, h5, h2⟩
theorem kTwin_can {w : World} {v : Value} {N : Nat} (h : Can w v N) (s : (limbs N).length ≤ 8796093022208) :
    Calls Tryd.prog 220 #[v] w fun e w' => ∃ A n c, e = .returned (.slice A n c) ∧ NatR N w.heap.size w' (.slice A n c) ∧ Hid (Below w.heap.size w w') := by
  obtain ⟨A, c, rfl, l, r⟩ := h
  refine (twin_fine w A _ c _ r (is32_limbs N) (chk_limbs N) (by omega)).mono ?_
  rintro e w' ⟨A', n', c', e1, h1, h2⟩
  rw [val_limbs] at h1
  exact ⟨A', n', c', e1, h1, h2⟩
theorem kfit_can {w : World} {A : Option Addr} {n c : Nat} {xs : List Nat} (h : Rd w A n xs) (h32 : Is32 xs) (hc : n ≤ c) :
    Calls Tryd.prog 221 #[.slice A n c] w fun e w' => ∃ v, e = .returned v ∧ w = w' ∧ Can w v (nv xs) ∧ (limbs (nv xs)).length ≤ n :=
  (rfit_any w A n c xs h h32 hc).mono fun e w' ⟨A', n', c', ys, e1, e2, h1, h2, h3, h4⟩ => by
    have e3 := limbs_val_chk h2.out.1 h2.out.2.1
    rw [h2.out.2.2] at e3
    exact ⟨_, e1, e2, ⟨A', c', by rw [e3, h1.out.1], by rw [e3, h1.out.1]; exact h4, by rw [e3, h1.out.1]; exact h1.out⟩, by rw [e3, h1.out.1]; exact h3⟩
set_option maxHeartbeats 4000000 in
theorem kGcd_ok (w : World) (A A' : Option Addr) (n n' c c' : Nat) (xs ys : List Nat) (h : Rd w A n xs) (h' : Rd w A' n' ys) (h32 : Is32 xs) (h32' : Is32 ys) (hn : n ≤ 8796093022208) (hn' : n' ≤ 8796093022208) (hc : n ≤ c) (hc' : n' ≤ c') :
    Calls Tryd.prog 208 #[.slice A n c, .slice A' n' c'] w fun e w' => ∃ v, e = .returned v ∧ NatR (Nat.gcd (nv xs) (nv ys)) w.heap.size w' v ∧ Below w.heap.size w w' := by
  refine opq fun R hR => ?_
  have F1 := hide (kfit_can h h32 hc)
  have F2 := hide (fun W (hb : Below w.heap.size w W) => kfit_can (h'.below hb) h32' hc')
  clear h h' h32 h32'
  go_enter Tryd.func208, Tryd.ntmps208
  go_wp2_with fail
  refine F1.out.mono ?_
  rintro e w' ⟨v1, rfl, rfl, a1, l1⟩
  replace a1 := hide a1
  replace l1 := hide l1
  go_wp2_with fail
  refine (kTwin_can a1.out (by have := l1.out; omega)).mono ?_
  rintro e w1 ⟨A1, n1, c1, rfl, N1, B1⟩
  replace N1 := hide N1
  go_wp2_with fail
  refine (F2.out w1 B1.out).mono ?_
  rintro e w' ⟨v2, rfl, rfl, a2, l2⟩
  replace a2 := hide a2
  replace l2 := hide l2
  clear F1 F2
  go_wp2_with fail
  refine (kTwin_can a2.out (by have := l2.out; omega)).mono ?_
  rintro e w2 ⟨A2, n2, c2, rfl, N2, B2⟩
  have M1 := hide (N1.out.below B2.out)
  have M2 := hide (N2.mono B1.out.size)
  have B3 := hide (below_tr B1.out B2.out)
  have s1 : Hid ((limbs (nv xs)).length ≤ 8796093022208) := by have := l1.out; show _ ≤ _; omega
  have s2 : Hid ((limbs (nv ys)).length ≤ 8796093022208) := by have := l2.out; show _ ≤ _; omega
  clear N1 N2 B1 B2 a1 a2 l1 l2
  generalize nv xs = a at *
  generalize nv ys = b at *
  go_wp2
  go_loopg [0, 1] b (fun gk av bv wr => ∃ p q A n c, bv = .slice A n c ∧ Hid (gk = q) ∧ Hid (NatR p w.heap.size wr av) ∧ Hid (NatR q w.heap.size wr (.slice A n c)) ∧ Hid (Nat.gcd p q = Nat.gcd a b) ∧ Hid ((limbs p).length ≤ 8796093022208) ∧ Hid ((limbs q).length ≤ 8796093022208) ∧ Hid (Below w.heap.size w wr))
  case atStart => exact ⟨a, b, _, _, _, rfl, hide rfl, M1, M2, hide rfl, s1, s2, B3⟩
  case round =>
    obtain ⟨p, q, A3, n3, c3, rfl, hg, hp, hq, he, sp, sq, hb⟩ := hrel
    clear M1 M2 s1 s2 B3
    have ln : n3 = (limbs q).length := by
      obtain ⟨_, _, e, _⟩ := hq.out
      cases e
      rfl
    by_cases h0 : q = 0
    · have t0 : n3 = 0 := by rw [ln, h0, limbs_zero]; rfl
      have ep : Hid (p = Nat.gcd a b) := by
        have := he.out
        rw [h0, Nat.gcd_zero_right] at this
        exact this
      subst t0
      clear ln
      go_wp2
      exact opq_end hR ⟨_, rfl, by rw [← ep.out]; exact hp.out, hb.out⟩
    · have t0 : 0 < n3 := by
        rw [ln]
        rcases Nat.eq_zero_or_pos (limbs q).length with z | z
        · exact absurd (is_zero_len.1 z) h0
        · exact z
      clear ln
      go_wp2_with fail
      refine (kDiv_pos hp.out.can hq.out.can sp.out sq.out h0).mono ?_
      rintro e w5 ⟨u, t, rfl, N5, N6, _, B5⟩
      have l6 : p % q < q := Nat.mod_lt _ (by omega)
      have s6 : Hid ((limbs (p % q)).length ≤ 8796093022208) := Nat.le_trans (limbs_len_mono (Nat.le_of_lt l6)) sq.out
      have Q1 := hide (hq.out.below B5.out)
      have Q2 := hide (N6.out.mono hb.out.size)
      have Q3 := hide (below_tr hb.out B5.out)
      have G2 : Hid (Nat.gcd q (p % q) = Nat.gcd a b) := by
        show _ = _
        rw [Nat.gcd_comm, ← Nat.gcd_rec, Nat.gcd_comm]
        exact he.out
      have hg2 := hg.out
      obtain ⟨A7, c7, rfl, _⟩ := Q2.out
      clear N5 N6
      go_wp2
      go_roundg (p % q)
      case measure => omega
      case rel => exact ⟨q, p % q, _, _, _, rfl, hide rfl, Q1, Q2, G2, sq, s6, Q3⟩
end Go.Proofs.YtkefmeddnncacaaDoor
