/- the document's answer for nats: Digits, Number, Parse, Text. -/
import Derived.Test.YtkefmeddnncacaaGreatDoorRm
import Derived.Test.YtkefmeddnncacaaGreatDoorND
import Derived.Test.YtkefmeddnncacaaGreatDoorLz
import Derived.Test.YtkefmeddnncacaaGreatDoorIA
set_option linter.unusedVariables false
set_option linter.unusedSimpArgs false
set_option maxRecDepth 100000
namespace Go.Proofs.YtkefmeddnncacaaGreatDoor
open Go.RowKit

theorem kAdd_can {w : World} {v v' : Value} {M N : Nat} (h : Can w v M) (h' : Can w v' N) (s : (limbs M).length ≤ 8796093022208) (s' : (limbs N).length ≤ 8796093022208) :
    Calls Tryz.prog 98 #[v, v'] w fun e w' => ∃ u, e = .returned u ∧ NatR (M + N) w.heap.size w' u ∧ Below w.heap.size w w' := by
  obtain ⟨A, c, rfl, l, r⟩ := h
  obtain ⟨A', c', rfl, l', r'⟩ := h'
  have := rAdd_ok w A A' _ _ c c' _ _ r r' (is32_limbs M) (is32_limbs N) (by omega) (by omega) l l'
  rw [nv, if_pos (chk_limbs M), val_limbs, nv, if_pos (chk_limbs N), val_limbs] at this
  exact this
theorem kMul_can {w : World} {v v' : Value} {M N : Nat} (h : Can w v M) (h' : Can w v' N) (s : (limbs M).length ≤ 8796093022208) (s' : (limbs N).length ≤ 8796093022208) :
    Calls Tryz.prog 202 #[v, v'] w fun e w' => ∃ u, e = .returned u ∧ NatR (M * N) w.heap.size w' u ∧ Below w.heap.size w w' := by
  obtain ⟨A, c, rfl, l, r⟩ := h
  obtain ⟨A', c', rfl, l', r'⟩ := h'
  have := rMul_ok w A A' _ _ c c' _ _ r r' (is32_limbs M) (is32_limbs N) (by omega) (by omega) l l'
  rw [nv, if_pos (chk_limbs M), val_limbs, nv, if_pos (chk_limbs N), val_limbs] at this
  exact this
theorem fn_q1Mul (args : Array Value) (w : World) : (callFunc 202 args).run Tryz.prog w = .ok (.enter 202 args) w := callFunc_enter Tryz.func202 (by kernel_rfl) rfl args w
theorem fn_q1Add (args : Array Value) (w : World) : (callFunc 98 args).run Tryz.prog w = .ok (.enter 98 args) w := callFunc_enter Tryz.func98 (by kernel_rfl) rfl args w
theorem fn_q1Of (args : Array Value) (w : World) : (callFunc 203 args).run Tryz.prog w = .ok (.enter 203 args) w := callFunc_enter Tryz.func203 (by kernel_rfl) rfl args w
theorem kMul_F {w : World} {v v' : Value} {M N : Nat} (h : Can w v M) (h' : Can w v' N) (s : (limbs M).length ≤ 8796093022208) (s' : (limbs N).length ≤ 8796093022208) :
    Calls Tryz.prog 202 #[v, v'] w fun e w' => ∃ u, e = .returned u ∧ Below w.heap.size w w' ∧ Can w' u (M * N) :=
  (kMul_can h h' s s').mono fun e w' ⟨u, h1, h2, h3⟩ => ⟨u, h1, h3, h2.can⟩
theorem kAdd_F {w : World} {v v' : Value} {M N : Nat} (B : Nat) (hB : B ≤ w.heap.size) (h : Can w v M) (h' : Can w v' N) (s : (limbs M).length ≤ 8796093022208) (s' : (limbs N).length ≤ 8796093022208) :
    Calls Tryz.prog 98 #[v, v'] w fun e w' => ∃ u, e = .returned u ∧ Below w.heap.size w w' ∧ NatR (M + N) B w' u :=
  (kAdd_can h h' s s').mono fun e w' ⟨u, h1, h2, h3⟩ => ⟨u, h1, h3, h2.mono hB⟩
theorem kOf_F (w : World) (n : Nat) (hn : n < 18446744073709551616) :
    Calls Tryz.prog 203 #[.int .u64 (n : Nat)] w fun e w' => ∃ u, e = .returned u ∧ Below w.heap.size w w' ∧ Can w' u n :=
  (kOf_ok w n hn).mono fun e w' ⟨u, h1, h2, h3⟩ => ⟨u, h1, h3, h2.can⟩
theorem byt_get (s : ByteArray) (i : Nat) (h : i < s.size) : (s[i]'h).toNat = (byt s).getD i 0 := by
  rw [getD_lt (by rw [byt_length]; exact h)]
  simp [byt]
  rfl
theorem isDigs_no {l : List Nat} {i : Nat} (h : i < l.length) (hd : isDig (l.getD i 0) = false) : isDigs l = false := by
  rw [getD_lt h] at hd
  have : l.all isDig = false := List.all_eq_false.2 ⟨_, List.getElem_mem h, by simp [hd]⟩
  simp [isDigs, this]
theorem take_dig {l : List Nat} {i : Nat} (h : i < l.length) (hall : (l.take i).all isDig = true) (hd : isDig (l.getD i 0) = true) : (l.take (i + 1)).all isDig = true := by
  rw [getD_lt h] at hd
  rw [List.take_succ_eq_append_getElem h, List.all_append, hall]
  simp [hd]
set_option maxHeartbeats 2000000 in
theorem kDigits_ok (w : World) (s : ByteArray) (hs : s.size ≤ 9223372036854775807) :
    Calls Tryz.prog 83 #[.string s] w fun e w' => e = .returned (.bool (isDigs (byt s))) ∧ Below w.heap.size w w' := by
  refine opq fun R hR => ?_
  have es := hide (empty_size s)
  have hl2 := hide (byt_length s)
  have HG := hide (fun i h => byt_get s i h)
  have HN := hide (fun i (h : i < (byt s).length) => isDigs_no h)
  have HT := hide (fun i (h : i < (byt s).length) => take_dig h)
  have HE : Hid ((byt s).all isDig = true → isDigs (byt s) = !decide (s.size = 0)) := fun h => by
    unfold isDigs
    rw [h, Bool.and_true]
    congr 1
    rw [← byt_length]
    cases byt s <;> simp
  generalize byt s = l at *
  go_enter Tryz.func83, Tryz.ntmps83
  go_wp2
  go_loopw [3] (fun iv wr => ∃ i : Nat, i ≤ s.size ∧ iv = .int .i64 (i : Nat) ∧ Hid ((l.take i).all isDig = true) ∧ Hid (Below w.heap.size w wr)) (fun iv _ => s.size - (intOf iv).toNat)
  case atStart => exact ⟨0, by omega, rfl, rfl, Below.refl _ _⟩
  case round =>
    obtain ⟨i, hi, rfl, hall, hbel⟩ := hrel
    by_cases hlt : i < s.size
    · have hg := HG.out i hlt
      have h1 := hide (HN.out i (by rw [hl2.out]; exact hlt))
      have h2 := hide (HT.out i (by rw [hl2.out]; exact hlt) hall.out)
      obtain ⟨x, ex⟩ : ∃ x, Hid (l.getD i 0 = x) := ⟨_, hide rfl⟩
      rw [ex.out] at hg h1 h2
      have hx : x < 256 := by rw [← hg]; exact UInt8.toNat_lt _
      by_cases hd : isDig x = true
      · have h3 := hide (h2.out hd)
        have q1 : decide ((x : Int) < 48) = false := by simp [isDig] at hd; simp; omega
        have q2 : decide (57 < (x : Int)) = false := by simp [isDig] at hd; simp; omega
        have q3 : decide (x < 48) = false := by simp [isDig] at hd; simp; omega
        have q4 : decide (57 < x) = false := by simp [isDig] at hd; simp; omega
        clear h1 h2
        replace hd := hide hd
        go_wp2
        go_roundw
        case rel => exact ⟨i + 1, by omega, by go_num, h3, hbel⟩
        case measure => simp [intOf]; omega
      · have h3 := hide (h1.out (by simpa using hd))
        have hx2 : x < 48 ∨ 57 < x := by
          simp [isDig] at hd
          omega
        replace hd := hide hd
        clear h1 h2
        by_cases hx3 : x < 48
        · go_wp2
          exact opq_end hR ⟨ret_bool h3.out.symm, hbel.out⟩
        · have hx4 : 57 < x := by omega
          go_wp2
          exact opq_end hR ⟨ret_bool h3.out.symm, hbel.out⟩
    · obtain rfl : i = s.size := by omega
      have e1 := hide (HE.out (by have := hall.out; rwa [List.take_of_length_le (by rw [hl2.out]; exact Nat.le_refl _)] at this))
      rw [← es.out] at e1
      go_wp2
      exact opq_end hR ⟨ret_bool e1.out.symm, hbel.out⟩
set_option exponentiation.threshold 600 in
set_option maxHeartbeats 2000000 in
theorem kNumber_ok (w : World) (s : ByteArray) (hs : s.size ≤ 500) (hd : ∀ x ∈ byt s, isDig x = true) :
    Calls Tryz.prog 85 #[.string s] w fun e w' => ∃ v, e = .returned v ∧ NatR (num (byt s)) w.heap.size w' v ∧ Below w.heap.size w w' := by
  refine opq fun R hR => ?_
  have hl2 := hide (byt_length s)
  have HG := hide (fun i h => byt_get s i h)
  have HN : Hid (∀ i, num ((byt s).take i) < 10 ^ 500) := fun i => Nat.lt_of_lt_of_le (num_lt _ (fun x hx => by
    have := hd x (List.mem_of_mem_take hx)
    simp [isDig] at this
    omega)) (Nat.pow_le_pow_right (by omega) (by rw [List.length_take, byt_length]; omega))
  have HS := hide (fun i (hi : i < (byt s).length) => num_step hi)
  have HD := hide (fun i (hi : i < (byt s).length) => dig_at hd hi)
  have HE : Hid (num ((byt s).take s.size) = num (byt s)) := by
    show _ = _
    rw [List.take_of_length_le (by rw [byt_length]; exact Nat.le_refl _)]
  rw [← HE.out] at hR
  clear hd HE
  generalize byt s = l at *
  go_enter Tryz.func85, Tryz.ntmps85
  go_wp2
  go_loopw [3, 4] (fun av iv wr => ∃ i, i ≤ s.size ∧ iv = .int .i64 (i : Nat) ∧ Hid (NatR (num (l.take i)) w.heap.size wr av) ∧ Hid (Below w.heap.size w wr)) (fun _ iv _ => s.size - (intOf iv).toNat)
  case atStart => exact ⟨0, by omega, rfl, NatR.zero _ _, Below.refl _ _⟩
  case round =>
    obtain ⟨i, hi, rfl, hnat, hbel⟩ := hrel
    by_cases hlt : i < s.size
    · have hg := HG.out i hlt
      have hd := HD.out i (by rw [hl2.out]; exact hlt)
      have hs1 := hide (HS.out i (by rw [hl2.out]; exact hlt))
      have hnn := hide (HN.out i)
      obtain ⟨x, ex⟩ : ∃ x, Hid (l.getD i 0 = x) := ⟨_, hide rfl⟩
      rw [ex.out] at hg hd hs1
      generalize hN : num (l.take i) = N at *
      have hz := hbel.out.size
      have T2 := hide (can_one wr.drew 10 (by omega) (by omega))
      have b1 := hide (((Below.refl wr.heap.size wr).drew).alloc (Nat.le_refl _) (.cells (cellsOf .u32 [10]) T32))
      have sm1 : Hid ((limbs N).length ≤ 500) := limbs_length_le.2 (Nat.lt_of_lt_of_le hnn.out (Nat.pow_le_pow_left (by omega) 500))
      have sm2 : Hid ((limbs 10).length ≤ 1) := limbs_length_le.2 (by omega)
      have sm3 : Hid ((limbs (N * 10)).length ≤ 501) := limbs_length_le.2 (by
        refine Nat.lt_of_lt_of_le (Nat.mul_lt_mul_of_pos_right hnn.out (by omega)) ?_
        refine Nat.le_trans (m := 10 ^ 501) (Nat.le_of_eq (Nat.pow_succ ..).symm) ?_
        exact Nat.pow_le_pow_left (by omega) 501)
      have sm4 : Hid ((limbs (x - 48)).length ≤ 1) := limbs_length_le.2 (by omega)
      clear hN
      clear T2 b1
      go_wp2_with fail
      -- region
      refine wp_region_facts 10 (fun w' => Below wr.heap.size wr w') [(11, (.nat0 wr N)), (12, (.nat 10)), (13, (.nat (N * 10))), (14, .eq (.string s)), (15, .eq (.int .i64 (i : Nat))), (16, .eq (.int .u8 (x : Nat))), (17, .eq (.int .u8 ((x - 48 : Nat) : Int))), (18, .eq (.int .u64 ((x - 48 : Nat) : Int))), (19, (.nat (x - 48))), (20, (.natR (N * 10 + (x - 48)) wr.heap.size))] [false, false, false, false, false, false, false, false, false, false, false, true, true, true, true, true, true, true, true, true, true, false] mixed (by kernel_rfl) (by kernel_rfl) (by kernel_rfl) (fun _ _ h hb => h.trans (hb.mono h.size)) ((Below.refl _ _).drew) ⟨?_, ?_, ?_, ?_, ?_, ?_, ?_, ?_, ?_, ?_, trivial⟩ ?_
      · exact .moveC (.inl rfl) (.inl rfl) rfl (fun a w' hC hs => (show Can wr (a.eval (.tmp 3)) N from by rw [show a.eval (.tmp 3) = (u3 : Value) from (hs 3 (by kernel_rfl))]; exact hnat.out.can))
      · exact .makeW (.inl rfl) (by intro T e; cases e) rfl (fun a w' hC hs hl => ⟨_, w'.alloc (.cells #[.int .u32 10] T32), by simp [execOp, Act.eval, go_sem], (Below.refl _ _).alloc (Nat.le_refl _) _, can_one w' 10 (by omega) (by omega)⟩)
      · exact .call (.inl rfl) rfl rfl fn_q1Mul (fun a w' hC hs hl => kMul_F (Can.below (hl 11 (by kernel_rfl) (by kernel_rfl)) hC) (hl 12 (by kernel_rfl) (by kernel_rfl)) (Nat.le_trans sm1.out (by omega)) (Nat.le_trans sm2.out (by omega)))
      · exact .moveC (.inl rfl) (.inl rfl) rfl (fun a w' hC hs => (hs 0 (by kernel_rfl)))
      · exact .moveC (.inl rfl) (.inl rfl) rfl (fun a w' hC hs => (hs 4 (by kernel_rfl)))
      · exact .value (.inl rfl) (by intro T e; cases e) rfl rfl (fun a w' hC hs hl => by
          have e1 : a.eval (.tmp 14) = (.string s) := (hl 14 (by kernel_rfl) (by kernel_rfl))
          have e2 : a.eval (.tmp 15) = (.int .i64 (i : Nat)) := (hl 15 (by kernel_rfl) (by kernel_rfl))
          simp only [execOp, e1, e2]
          simp [go_sem, hlt, hg])
      · exact .value (.inl rfl) (by intro T e; cases e) rfl rfl (fun a w' hC hs hl => by
          have e0 : a.eval (.tmp 16) = (.int .u8 (x : Nat)) := (hl 16 (by kernel_rfl) (by kernel_rfl))
          simp only [execOp, e0]
          simp only [Act.eval]
          have ex2 : (x : Int) - 48 = ((x - 48 : Nat) : Int) := by omega
          have ex1 : IntKind.u8.wrap (((x - 48 : Nat) : Int)) = ((x - 48 : Nat) : Int) := by rw [IntKind.wrap_u8]; omega
          simp [go_sem, ex2, ex1])
      · exact .value (.inl rfl) (by intro T e; cases e) rfl rfl (fun a w' hC hs hl => by
          have e1 : a.eval (.tmp 17) = (.int .u8 ((x - 48 : Nat) : Int)) := (hl 17 (by kernel_rfl) (by kernel_rfl))
          simp only [execOp, e1]
          have ex1 : IntKind.u64.wrap (((x - 48 : Nat) : Int)) = ((x - 48 : Nat) : Int) := by rw [IntKind.wrap_u64]; omega
          have ex2 : (((x - 48 : Nat) : Int)) % 18446744073709551616 = ((x - 48 : Nat) : Int) := by omega
          simp [go_sem, ex1, ex2])
      · exact .call (.inl rfl) rfl rfl fn_q1Of (fun a w' hC hs hl => by
          show Calls _ _ #[a.eval (.tmp 18)] _ _
          rw [show a.eval (.tmp 18) = (.int .u64 ((x - 48 : Nat) : Int) : Value) from (hl 18 (by kernel_rfl) (by kernel_rfl))]
          exact kOf_F w' (x - 48) (by omega))
      · exact .call (.inl rfl) rfl rfl fn_q1Add (fun a w' hC hs hl => kAdd_F wr.heap.size hC.size (hl 13 (by kernel_rfl) (by kernel_rfl)) (hl 19 (by kernel_rfl) (by kernel_rfl)) (Nat.le_trans sm3.out (by omega)) (Nat.le_trans sm4.out (by omega)))
      -- end of region
      intro f w9 hC hF _
      have f3 : NatR (N * 10 + (x - 48)) wr.heap.size w9 (f 20) := hF 20 (by kernel_rfl)
      clear hF
      simp only [patch, List.drop]
      have b7 := hide (hbel.out.trans (hC.mono hbel.out.size))
      have N3 := hide (f3.mono hz)
      clear hC f3
      generalize f 20 = y3 at *
      go_wp2
      go_roundw
      case rel => exact ⟨i + 1, by omega, by go_num, by rw [hs1.out]; exact N3, b7⟩
      case measure => simp [intOf]; omega
    · obtain rfl : i = s.size := by omega
      go_wp2
      exact opq_end hR ⟨_, rfl, hnat.out, hbel.out⟩
theorem isNum_split (l : List Nat) : isNum l = (isDigs l && !(decide (1 < l.length) && l.head? == some 48)) := rfl
/-- Digits from the right, until nothing is left: the text. -/
theorem dig_txt (m N : Nat) (h0 : N / 10 ^ m = 0) (h1 : m = 1 ∨ N / 10 ^ (m - 1) ≠ 0) (hm : 1 ≤ m) : dig m N = txt N := by
  by_cases hN : N = 0
  · subst hN
    rcases h1 with h | h
    · subst h; rfl
    · simp at h
  have key : ∀ m N, N ≠ 0 → N / 10 ^ m = 0 → N / 10 ^ (m - 1) ≠ 0 → 1 ≤ m → dig m N = decs N := by
    intro m
    induction m with
    | zero => intro N _ _ _ h; omega
    | succ m ih =>
      intro N hN h0 h1 _
      rw [Nat.add_sub_cancel] at h1
      rw [dig_snoc, decs_pos hN]
      congr 1
      rcases Nat.eq_zero_or_pos m with q | q
      · subst q
        have : N / 10 = 0 := by simpa using h0
        rw [this, decs_zero]; rfl
      · have e1 : N / 10 / 10 ^ m = 0 := by rw [Nat.div_div_eq_div_mul, ← Nat.pow_succ']; exact h0
        have e2 : N / 10 / 10 ^ (m - 1) ≠ 0 := by
          rw [Nat.div_div_eq_div_mul, ← Nat.pow_succ', show (m - 1).succ = m by omega]; exact h1
        refine ih _ (fun z => ?_) e1 e2 q
        rw [z] at e2
        simp at e2
  rw [txt, if_neg hN]
  rcases h1 with h | h
  · subst h
    exact key 1 N hN h0 (by simpa using hN) (by omega)
  · exact key m N hN h0 h hm
end Go.Proofs.YtkefmeddnncacaaGreatDoor
