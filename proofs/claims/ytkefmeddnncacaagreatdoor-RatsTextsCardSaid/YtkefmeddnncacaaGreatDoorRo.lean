/- the document's answer for nats: Text. -/
import Derived.Test.YtkefmeddnncacaaGreatDoorRn
import Derived.Test.YtkefmeddnncacaaGreatDoorND
set_option linter.unusedVariables false
set_option linter.unusedSimpArgs false
set_option maxRecDepth 100000
namespace Go.Proofs.YtkefmeddnncacaaGreatDoor
open Go.RowKit

theorem ksmall_can {w : World} {v : Value} {N : Nat} (b : Nat) (h : Can w v N) (s : (limbs N).length ≤ 8796093022208) (hb0 : 0 < b) (hb : b < 4294967296) :
    Calls Tryz.prog 210 #[v, .int .u32 (b : Nat)] w fun e w' => ∃ A n c, e = .returned (.tuple #[.slice A n c, .int .u32 (N % b : Nat)]) ∧ Hid (NatR (N / b) w.heap.size w' (.slice A n c)) ∧ Hid (Below w.heap.size w w') := by
  obtain ⟨A, c, rfl, l, r⟩ := h
  refine (ksmall_ok w A _ c b _ r (is32_limbs N) (by omega) hb0 hb).mono ?_
  rintro e w' ⟨u, e1, h1, h2⟩
  rw [val_limbs] at e1 h1
  obtain ⟨A', c', rfl, _⟩ := id h1
  exact ⟨_, _, _, e1, h1, h2⟩
/-- The text so far: the last m digits. -/
def DT (N m : Nat) (S : ByteArray) : Prop := S.data.toList = bts (dig m N) ∧ (m = 0 ∨ m = 1 ∨ N / 10 ^ (m - 1) ≠ 0)
theorem DT.size {N m : Nat} {S : ByteArray} (h : DT N m S) : S.size = m := by
  have : S.data.toList.length = m := by rw [h.1, bts, List.length_map, dig_length]
  simpa using this
theorem DT.next {N m : Nat} {S : ByteArray} (h : DT N m S) (hc : m = 0 ∨ N / 10 ^ m ≠ 0) {d : Nat} (hd : N / 10 ^ m % 10 = d) (T : ByteArray) (hT : T.data.toList = UInt8.ofNat (48 + d) :: S.data.toList) : DT N (m + 1) T := by
  refine ⟨?_, ?_⟩
  · rw [hT, h.1]
    show _ = bts ((48 + N / 10 ^ m % 10) :: dig m N)
    rw [hd]
    rfl
  · rcases hc with h0 | h0
    · exact .inr (.inl (by omega))
    · exact .inr (.inr (by simpa using h0))
theorem DT.fin {N m : Nat} {S : ByteArray} (h : DT N m S) (h0 : N / 10 ^ m = 0) (hm : 1 ≤ m) : S = ⟨(bts (txt N)).toArray⟩ := by
  have e := dig_txt m N h0 (by rcases h.2 with q | q | q; omega; exact .inl q; exact .inr q) hm
  have : S.data = (bts (txt N)).toArray := by
    apply Array.ext'
    rw [h.1, e]
  cases S
  rw [← this]
theorem chunk {N j i q r : Nat} (hq : N / 10 ^ (9 * j) / 1000000000 = q) (hr : N / 10 ^ (9 * j) % 1000000000 = r) (hi : i ≤ 9) : N / 10 ^ (9 * j + i) = q * 10 ^ (9 - i) + r / 10 ^ i := by
  have e : N / 10 ^ (9 * j) = q * 1000000000 + r := by
    have := Nat.div_add_mod (N / 10 ^ (9 * j)) 1000000000
    rw [hq, hr, Nat.mul_comm] at this
    omega
  rw [Nat.pow_add, ← Nat.div_div_eq_div_mul, e]
  have p : (1000000000 : Nat) = 10 ^ (9 - i) * 10 ^ i := by
    rw [← Nat.pow_add, Nat.sub_add_cancel hi]
  rw [p, ← Nat.mul_assoc, Nat.add_comm, Nat.add_mul_div_right _ _ (Nat.pow_pos (by omega)), Nat.add_comm]
theorem chunk_digit {N j i q r : Nat} (hq : N / 10 ^ (9 * j) / 1000000000 = q) (hr : N / 10 ^ (9 * j) % 1000000000 = r) (hi : i < 9) : N / 10 ^ (9 * j + i) % 10 = r / 10 ^ i % 10 := by
  rw [chunk hq hr (by omega), show 9 - i = (9 - i - 1) + 1 by omega, Nat.pow_succ, ← Nat.mul_assoc, Nat.add_comm, Nat.add_mul_mod_self_right]
theorem chunk_zero {N j i q r : Nat} (hq : N / 10 ^ (9 * j) / 1000000000 = q) (hr : N / 10 ^ (9 * j) % 1000000000 = r) (hi : i ≤ 9) : N / 10 ^ (9 * j + i) = 0 ↔ q = 0 ∧ r / 10 ^ i = 0 := by
  rw [chunk hq hr hi]
  have : 0 < 10 ^ (9 - i) := Nat.pow_pos (by omega)
  constructor
  · intro h
    have h2 := Nat.add_eq_zero_iff.1 h
    refine ⟨?_, h2.2⟩
    rcases Nat.eq_zero_or_pos q with z | z
    · exact z
    · have := Nat.mul_pos z this
      have := h2.1
      omega
  · rintro ⟨rfl, h⟩
    rw [h, Nat.zero_mul]
theorem div_zero_up {N a b : Nat} (h : N / 10 ^ a = 0) (hab : a ≤ b) : N / 10 ^ b = 0 := by
  obtain ⟨d, rfl⟩ : ∃ d, b = a + d := ⟨b - a, by omega⟩
  rw [Nat.pow_add, ← Nat.div_div_eq_div_mul, h, Nat.zero_div]
theorem dig_str (d : Nat) (hd : d < 10) (S : ByteArray) : ((⟨#[48, 49, 50, 51, 52, 53, 54, 55, 56, 57]⟩ : ByteArray).extract d (d + 1) ++ S).data.toList = UInt8.ofNat (48 + d) :: S.data.toList := by
  have e : ∀ d : Fin 10, ((⟨#[48, 49, 50, 51, 52, 53, 54, 55, 56, 57]⟩ : ByteArray).extract d.val (d.val + 1)).data.toList = [UInt8.ofNat (48 + d.val)] := by decide
  rw [ByteArray.data_append, Array.toList_append, e ⟨d, hd⟩]
  rfl
theorem DT.le {N m K : Nat} {S : ByteArray} (h : DT N m S) (hN : N < 10 ^ K) : m ≤ K + 1 := by
  rcases h.2 with q | q | q
  · omega
  · omega
  · refine Nat.le_of_not_lt fun hl => q ?_
    exact div_zero_up (a := K) (Nat.div_eq_of_lt hN) (by omega)
theorem ext_size (d : Nat) (hd : d < 10) : ((⟨#[48, 49, 50, 51, 52, 53, 54, 55, 56, 57]⟩ : ByteArray).extract d (d + 1)).size = 1 := by
  have e : ∀ d : Fin 10, ((⟨#[48, 49, 50, 51, 52, 53, 54, 55, 56, 57]⟩ : ByteArray).extract d.val (d.val + 1)).size = 1 := by decide
  exact e ⟨d, hd⟩
set_option maxHeartbeats 4000000 in
theorem kText_ok (w : World) (A : Option Addr) (n c : Nat) (xs : List Nat) (h : Rd w A n xs) (h32 : Is32 xs) (hn : n ≤ 1000000) (hc : n ≤ c) :
    Calls Tryz.prog 102 #[.slice A n c] w fun e w' => e = .returned (vstr (bts (txt (nv xs)))) ∧ Below w.heap.size w w' := by
  refine opq fun R hR => ?_
  have F1 := hide (kfit_can h h32 hc)
  have S1 : Hid (nv xs < 10 ^ (10 * n)) := by
    show _ < _
    have a : nv xs < 4294967296 ^ n := by
      unfold nv
      split
      · exact Nat.lt_of_lt_of_le (val_lt h32) (by rw [h.1]; exact Nat.le_refl _)
      · exact Nat.pow_pos (by omega)
    refine Nat.lt_of_lt_of_le a ?_
    rw [Nat.pow_mul]
    exact Nat.pow_le_pow_left (by decide) n
  clear h h32
  go_enter Tryz.func102, Tryz.ntmps102
  go_wp2_with fail
  refine F1.out.mono ?_
  rintro e w' ⟨v1, rfl, rfl, a1, l1⟩
  replace a1 := hide a1
  clear F1
  have l2 : Hid ((limbs (nv xs)).length ≤ 1000000) := by show _ ≤ _; omega
  clear l1
  generalize nv xs = N at *
  go_wp2
  go_loopg [0, 3] (N + 1) (fun gk av sv wr => ∃ j m f S A n c, av = .slice A n c ∧ sv = .string S ∧ Hid (gk = N / 10 ^ (9 * j) + f) ∧ Hid (j = 0 → f = 1) ∧ Hid (Can wr (.slice A n c) (N / 10 ^ (9 * j))) ∧ Hid (DT N m S) ∧ Hid ((N / 10 ^ (9 * j) ≠ 0 → m = 9 * j) ∧ (N / 10 ^ (9 * j) = 0 → N / 10 ^ m = 0) ∧ (0 < j → 0 < m) ∧ (j = 0 → m = 0)) ∧ Hid (Below w.heap.size w wr))
  case atStart =>
    obtain ⟨A1, c1, rfl, _⟩ := id a1.out
    exact ⟨0, 0, 1, ⟨#[]⟩, _, _, _, rfl, rfl, by show _ = _; simp, fun _ => rfl, by simpa using a1, ⟨rfl, .inl rfl⟩, hide ⟨fun _ => by omega, fun h => h, fun h => by omega, fun _ => rfl⟩, Below.refl _ _⟩
  case round =>
    obtain ⟨j, m, f, S, A2, n2, c2, rfl, rfl, hg, hf, hcan, hdt, hcs, hbel⟩ := hrel
    clear a1
    have ln : n2 = (limbs (N / 10 ^ (9 * j))).length := by
      obtain ⟨_, _, e, _⟩ := hcan.out
      cases e
      rfl
    have hsz := hdt.out.size
    have es := empty_size S
    by_cases hz : N / 10 ^ (9 * j) = 0 ∧ 0 < m
    · obtain ⟨z1, z2⟩ := hz
      have t0 : n2 = 0 := by rw [ln, z1, limbs_zero]; rfl
      have t1 : S.toList.isEmpty = false := by rw [es]; exact decide_eq_false (by omega)
      have F := hide (hdt.out.fin (hcs.out.2.1 z1) z2)
      subst t0
      clear ln es
      replace z1 := hide z1
      go_wp2
      exact opq_end hR ⟨by rw [F.out]; rfl, hbel.out⟩
    have hm : m = 9 * j := by
      by_cases q : N / 10 ^ (9 * j) = 0
      · have m0 : m = 0 := by
          rcases Nat.eq_zero_or_pos m with q2 | q2
          · exact q2
          · exact absurd ⟨q, q2⟩ hz
        have := hcs.out.2.2.1
        rcases Nat.eq_zero_or_pos j with q3 | q3
        · omega
        · have := this q3; omega
      · exact hcs.out.1 q
    have hl : Hid ((limbs (N / 10 ^ (9 * j))).length ≤ 8796093022208) := by
      have : (limbs (N / 10 ^ (9 * j))).length ≤ (limbs N).length := limbs_len_mono (Nat.div_le_self _ _)
      have := l2.out
      show _ ≤ _
      omega
    obtain ⟨q, eq⟩ : ∃ q, Hid (N / 10 ^ (9 * j) / 1000000000 = q) := ⟨_, hide rfl⟩
    obtain ⟨r, er⟩ : ∃ r, Hid (N / 10 ^ (9 * j) % 1000000000 = r) := ⟨_, hide rfl⟩
    have hcond : 0 < n2 ∨ (n2 = 0 ∧ S.toList.isEmpty = true) := by
      rcases Nat.eq_zero_or_pos n2 with z | z
      · refine .inr ⟨z, ?_⟩
        have z1 : N / 10 ^ (9 * j) = 0 := is_zero_len.1 (by rw [← ln]; exact z)
        rw [es]
        have : ¬ 0 < m := fun q => hz ⟨z1, q⟩
        exact decide_eq_true (by omega)
      · exact .inl z
    have hnext : Hid (q + 0 < N / 10 ^ (9 * j) + f ∧ q ≤ N) := by
      refine ⟨?_, by rw [← eq.out]; exact Nat.le_trans (Nat.div_le_self _ _) (Nat.div_le_self _ _)⟩
      rw [← eq.out]
      rcases Nat.eq_zero_or_pos (N / 10 ^ (9 * j)) with z | z
      · rw [z]
        have : j = 0 := by
          rcases Nat.eq_zero_or_pos j with q3 | q3
          · exact q3
          · have := hcs.out.2.2.1 q3; exact absurd ⟨z, this⟩ hz
        rw [hf.out this]
        simp
      · have := Nat.div_lt_self z (show 1 < 1000000000 by omega)
        omega
    subst hm
    replace hz := hide hz
    replace ln := hide ln
    have key : ∀ W : World, True := fun _ => trivial
    have SM := hide (ksmall_can 1000000000 hcan.out hl.out (by omega) (by omega))
    rw [eq.out, er.out] at SM
    have hr9 : r < 1000000000 := by rw [← er.out]; exact Nat.mod_lt _ (by omega)
    clear es
    rcases hcond with hn0 | ⟨hn0, hS⟩
    all_goals
      try subst hn0
      go_wp2_with fail
      refine SM.out.mono ?_
      rintro e w2 ⟨A3, n3, c3, rfl, Q3, B3⟩
      have B4 := hide (below_tr hbel.out B3.out)
      have ln3 : n3 = (limbs q).length := by
        obtain ⟨_, _, e, _⟩ := Q3.out.can
        cases e
        rfl
      have hq0 : n3 = 0 ↔ q = 0 := by rw [ln3]; exact is_zero_len
      clear SM ln3 B3
      try clear hS
      try clear hn0
      go_wp2
      go_loop [3, 5, 6] (fun sv rv iv => ∃ i S2, i ≤ 9 ∧ iv = .int .i64 (i : Nat) ∧ rv = .int .u32 ((r / 10 ^ i : Nat) : Int) ∧ sv = .string S2 ∧ Hid (DT N (9 * j + i) S2)) (fun _ _ iv => 9 - (intOf iv).toNat)
      case atStart => exact ⟨0, S, by omega, rfl, by simp, rfl, hdt⟩
      case round =>
        obtain ⟨i, S2, hi, rfl, rfl, rfl, hd2⟩ := hrel
        have hsz2 := hd2.out.size
        have es2 := empty_size S2
        have hri : r / 10 ^ i < 1000000000 := Nat.lt_of_le_of_lt (Nat.div_le_self _ _) hr9
        have hZ := hide (fun (h9 : i ≤ 9) => chunk_zero (N := N) (j := j) eq.out er.out h9)
        have hD := hide (fun (h9 : i < 9) => chunk_digit (N := N) (j := j) eq.out er.out h9)
        obtain ⟨ri, eri⟩ : ∃ ri, Hid (r / 10 ^ i = ri) := ⟨_, hide rfl⟩
        have hrn : Hid (ri / 10 = r / 10 ^ (i + 1)) := by
          show _ = _
          rw [← eri.out, Nat.pow_succ, Nat.div_div_eq_div_mul]
        rw [eri.out] at hri hZ hD ⊢
        by_cases h9 : i < 9
        case neg =>
          obtain rfl : i = 9 := by omega
          have R1 : Hid (DT N (9 * (j + 1)) S2) := by rw [show 9 * (j + 1) = 9 * j + 9 by omega]; exact hd2
          have Q4 : Hid (Can w2 (.slice A3 n3 c3) (N / 10 ^ (9 * (j + 1)))) := by
            rw [← div_nine, eq.out]; exact Q3.out.can
          have hn2 := hnext.out
          have hg2 := hg.out
          have eqq : q = N / 10 ^ (9 * (j + 1)) := by rw [← div_nine, eq.out]
          clear hZ hD hq0 es2
          go_wp2
          go_roundg (q + 0)
          case measure => omega
          case rel => exact ⟨j + 1, 9 * (j + 1), 0, S2, _, _, _, rfl, rfl, by show _ = _; rw [eqq], fun h => by omega, Q4, R1, hide ⟨fun _ => rfl, fun h => h, fun _ => by omega, fun h => by omega⟩, B4⟩
        have hD1 := hide (hD.out h9)
        have hZ1 := hZ.out (by omega)
        by_cases hgo : N / 10 ^ (9 * j + i) = 0 ∧ 0 < 9 * j + i
        · obtain ⟨z1, z2⟩ := hgo
          obtain ⟨zq, zr⟩ := hZ1.1 z1
          have t0 : n3 = 0 := hq0.2 zq
          have t2 : S2.toList.isEmpty = false := by rw [es2]; exact decide_eq_false (by omega)
          have Q4 : Hid (Can w2 (.slice A3 n3 c3) (N / 10 ^ (9 * (j + 1)))) := by
            rw [← div_nine, eq.out]; exact Q3.out.can
          have z3 : Hid (N / 10 ^ (9 * (j + 1)) = 0) := div_zero_up z1 (by omega)
          have hn2 := hnext.out
          have hg2 := hg.out
          subst zr
          subst t0
          replace z1 := hide z1
          clear hZ hD hq0 es2 hZ1 hD1
          go_wp2
          go_roundg (q + 0)
          case measure => omega
          case rel => exact ⟨j + 1, 9 * j + i, 0, S2, _, _, _, rfl, rfl, by show _ = _; rw [z3.out, zq], fun h => by omega, Q4, hd2, hide ⟨fun h => absurd z3.out h, fun _ => z1.out, fun _ => z2, fun h => by omega⟩, B4⟩
        · have hgo2 : 9 * j + i = 0 ∨ N / 10 ^ (9 * j + i) ≠ 0 := by
            rcases Nat.eq_zero_or_pos (9 * j + i) with z | z
            · exact .inl z
            · exact .inr fun h => hgo ⟨h, z⟩
          have hcs3 : 0 < n3 ∨ (n3 = 0 ∧ 0 < ri) ∨ (n3 = 0 ∧ ri = 0 ∧ S2.toList.isEmpty = true) := by
            rcases Nat.eq_zero_or_pos n3 with z | z
            · rcases Nat.eq_zero_or_pos ri with y | y
              · refine .inr (.inr ⟨z, y, ?_⟩)
                rw [es2]
                have := hZ1.2 ⟨hq0.1 z, y⟩
                refine decide_eq_true ?_
                rcases hgo2 with h | h
                · omega
                · exact absurd this h
              · exact .inr (.inl ⟨z, y⟩)
            · exact .inl z
          obtain ⟨d, ed⟩ : ∃ d, Hid (ri % 10 = d) := ⟨_, hide rfl⟩
          have hd10 : d < 10 := by rw [← ed.out]; exact Nat.mod_lt _ (by omega)
          have ed2 : (ri : Int) % 10 = (d : Int) := by have := ed.out; omega
          have er2 : (ri : Int) / 10 = ((r / 10 ^ (i + 1) : Nat) : Int) := by rw [← hrn.out]; omega
          have hd3 : Hid (N / 10 ^ (9 * j + i) % 10 = d) := by show _ = _; rw [hD1.out, ed.out]
          have NX := hide (fun T hT => hd2.out.next hgo2 hd3.out T hT)
          have hle := hd2.out.le S1.out
          clear hZ hD hq0 es2 hZ1 hD1 hgo hgo2 hd3 hd2
          have big : S2.size ≤ 10000001 := by have := hle; omega
          have esz := ext_size d hd10
          have esz0 := ext_size 0 (by omega)
          simp only [Nat.zero_add] at esz0
          rcases hcs3 with z | ⟨z, y⟩ | ⟨z, y, x⟩
          all_goals
            try subst z
            try subst y
            go_wp2
            go_round
            case rel =>
              refine ⟨i + 1, _, by omega, by go_num, ?_, rfl, ?_⟩
              · have := hrn.out
                have : r / 10 ^ (i + 1) < 4294967296 := by omega
                have e7 : ((r / 10 ^ (i + 1) : Nat) : Int) = (r : Int) / 10 ^ (i + 1) := by simp
                have e8 : (r : Int) / 10 ^ (i + 1) % 4294967296 = ((r / 10 ^ (i + 1) : Nat) : Int) := by rw [← e7]; omega
                first
                | (rw [e8])
                | (rw [← hrn.out]; rfl)
                | (congr 1; omega)
              · first
                | exact hide (NX.out _ (dig_str d hd10 S2))
                | (have d0 : d = 0 := by (have := ed.out; omega)
                   subst d0
                   exact hide (NX.out _ (dig_str 0 (by omega) S2)))
            case measure => simp [intOf]; omega
end Go.Proofs.YtkefmeddnncacaaGreatDoor
