/- the document's answer for rats: Of, Neg, Sub, Sign, Whole, Div, Make. -/
import Derived.Test.YtfadehkagbcjaaaGreatDoorRp
set_option linter.unusedVariables false
set_option linter.unusedSimpArgs false
set_option maxRecDepth 100000
namespace Go.Proofs.YtfadehkagbcjaaaGreatDoor
open Go.RowKit

theorem fq_assayerref01_Twin (args : Array Value) (w : World) : (callFunc 131 args).run Tryz.prog w = .ok (.enter 131 args) w := callFunc_enter Tryz.func131 (by kernel_rfl) rfl args w
theorem fq_assayerref02_Neg (args : Array Value) (w : World) : (callFunc 27 args).run Tryz.prog w = .ok (.enter 27 args) w := callFunc_enter Tryz.func27 (by kernel_rfl) rfl args w
theorem fq_assayerref02_Signed (args : Array Value) (w : World) : (callFunc 126 args).run Tryz.prog w = .ok (.enter 126 args) w := callFunc_enter Tryz.func126 (by kernel_rfl) rfl args w
theorem fq_assayerref03_Add (args : Array Value) (w : World) : (callFunc 76 args).run Tryz.prog w = .ok (.enter 76 args) w := callFunc_enter Tryz.func76 (by kernel_rfl) rfl args w
theorem fq_assayerref03_Neg (args : Array Value) (w : World) : (callFunc 209 args).run Tryz.prog w = .ok (.enter 209 args) w := callFunc_enter Tryz.func209 (by kernel_rfl) rfl args w
theorem fq_assayerref03_lowest (args : Array Value) (w : World) : (callFunc 197 args).run Tryz.prog w = .ok (.enter 197 args) w := callFunc_enter Tryz.func197 (by kernel_rfl) rfl args w
set_option maxHeartbeats 1000000 in
theorem qOf_ok (w : World) (n : Int) (h0 : -9223372036854775808 ≤ n) (h1 : n < 9223372036854775808) :
    Calls Tryz.prog 106 #[.int .i64 n] w fun e w' => ∃ u, e = .returned u ∧ Below w.heap.size w w' ∧ IntR n w.heap.size w' u := by
  refine opq fun R hR => ?_
  have B0 := hide ((Below.refl w.heap.size w).alloc (Nat.le_refl _) (.cells #[.bool false, .slice none 0 0] 25))
  have K0 := hide (Blk.new w 25 #[.bool false, .slice none 0 0])
  by_cases hn : n < 0
  · have e1 : decide (n < 0) = true := by simpa using hn
    have hw : Hid (IntKind.u64.wrap (-IntKind.u64.wrap n) = (((-n).toNat : Nat) : Int)) := by show _ = _; simp only [IntKind.wrap_u64]; omega
    have hN : Hid ((-n).toNat < 18446744073709551616) := by show _ < _; omega
    have hZ : Hid (n.natAbs = (-n).toNat ∧ decide (n < 0) = (true && decide ((-n).toNat ≠ 0))) := by
      refine ⟨by omega, ?_⟩
      rw [Bool.eq_iff_iff]; simp <;> omega
    generalize (-n).toNat = N at *
    clear hn
    go_enter Tryz.func106, Tryz.ntmps106
    go_wp2_with fail
    rw [hw.out]
    refine (kOf_ok _ N hN.out).mono ?_
    rintro e w1 ⟨u, rfl, ru, d1⟩
    have RU := hide (ru.mono (B' := w.heap.size) (by simp))
    have B1 := hide (B0.out.trans (d1.mono B0.out.size))
    have K1 := hide (K0.out.below' d1)
    clear ru d1 B0 K0
    obtain ⟨Au, nu, cu, rfl⟩ := RU.out.slice
    go_wp2_with fail
    refine (qsigned_R (z := n) RU.out hZ.out.1 hZ.out.2).mono ?_
    rintro e w2 ⟨A9, n9, c9, b9, rfl, d2, r9⟩
    have R9 := hide r9
    have B9 := hide (B1.out.trans (d2.mono B1.out.size))
    have K9 := hide (K1.out.below' d2)
    have q0 := K9.out.at_ 0 rfl
    have q1 := K9.out.at_ 1 rfl
    have q2 := K9.out.frozen 0
    have q3 := K9.out.frozen 1
    clear d2 r9
    go_wp2
    refine bodyPost_ret (v := .agg #[.bool b9, .slice A9 n9 c9]) (by simp [results, Tryz.results106, go_sem, q0, q1, q2, q3]) rfl ?_
    exact opq_end hR ⟨_, rfl, (by (repeat (first | exact B9 | exact Below.refl _ _ | refine Below.setCell ?_ (by first | (simp; done) | (simp; omega)) _ | refine Below.alloc ?_ (by first | (simp; done) | (simp; omega)) _))), R9.out.only K9.out (by decide) (((Only.refl _ _).set _ _).set _ _)⟩
  · have e1 : decide (n < 0) = false := by simp; omega
    have hw := hide (pos_wrap (Int.not_lt.1 hn) h1)
    have hN : Hid (n.toNat < 18446744073709551616) := by show _ < _; omega
    have hZ : Hid (n.natAbs = n.toNat ∧ decide (n < 0) = (false && decide (n.toNat ≠ 0))) := by
      refine ⟨by omega, ?_⟩
      rw [Bool.eq_iff_iff]; simp; omega
    generalize n.toNat = N at *
    clear hn
    go_enter Tryz.func106, Tryz.ntmps106
    go_wp2_with fail
    rw [hw.out]
    refine (kOf_ok _ N hN.out).mono ?_
    rintro e w1 ⟨u, rfl, ru, d1⟩
    have RU := hide (ru.mono (B' := w.heap.size) (by simp))
    have B1 := hide (B0.out.trans (d1.mono B0.out.size))
    have K1 := hide (K0.out.below' d1)
    clear ru d1 B0 K0
    obtain ⟨Au, nu, cu, rfl⟩ := RU.out.slice
    go_wp2_with fail
    refine (qsigned_R (z := n) RU.out hZ.out.1 hZ.out.2).mono ?_
    rintro e w2 ⟨A9, n9, c9, b9, rfl, d2, r9⟩
    have R9 := hide r9
    have B9 := hide (B1.out.trans (d2.mono B1.out.size))
    have K9 := hide (K1.out.below' d2)
    have q0 := K9.out.at_ 0 rfl
    have q1 := K9.out.at_ 1 rfl
    have q2 := K9.out.frozen 0
    have q3 := K9.out.frozen 1
    clear d2 r9
    go_wp2
    refine bodyPost_ret (v := .agg #[.bool b9, .slice A9 n9 c9]) (by simp [results, Tryz.results106, go_sem, q0, q1, q2, q3]) rfl ?_
    exact opq_end hR ⟨_, rfl, (by (repeat (first | exact B9 | exact Below.refl _ _ | refine Below.setCell ?_ (by first | (simp; done) | (simp; omega)) _ | refine Below.alloc ?_ (by first | (simp; done) | (simp; omega)) _))), R9.out.only K9.out (by decide) (((Only.refl _ _).set _ _).set _ _)⟩
set_option maxHeartbeats 1000000 in
theorem krOf_P (w : World) (n : Int) (h0 : -9223372036854775808 ≤ n) (h1 : n < 9223372036854775808) :
    Calls Tryz.prog 55 #[.int .i64 n] w fun e w' => ∃ u, e = .returned u ∧ Below w.heap.size w w' ∧ RatR (n : Rat) w.heap.size w' u := by
  refine opq fun R hR => ?_
  go_enter Tryz.func55, Tryz.ntmps55
  have b0 := hide (Below.refl w.heap.size w)
  have K := hide (Blk.new_at w (w.heap.size) (by simp) 70 #[.bool false, .slice none 0 0, .slice none 0 0])
  have y := (Below.refl w.heap.size w).alloc (Nat.le_refl _) (.cells #[.bool false, .slice none 0 0, .slice none 0 0] 70)
  replace b0 := hide (below_tr b0.out y)
  clear y
  go_wp2_with fail
  refine (qOf_ok _ n h0 h1).mono ?_
  rintro e w1 ⟨v9, rfl, d0, r9⟩
  replace K := hide (K.out.below' d0)
  replace b0 := hide (below_tr b0.out d0)
  have R9 := hide (r9.mono (B' := w.heap.size) (by simp))
  clear d0
  clear r9
  obtain ⟨b9, A9, n9, c9, rfl⟩ := R9.out.slice
  have x0 := hide (litR_at w1 (w1.heap.size) (by simp) [1] 1 rfl (is32d (by decide)) (by decide) (by decide) w.heap.size b0.out.size #[.int .u32 1] rfl)
  have xs0 : Hid (Sep (.slice A9 n9 c9) (.slice (some ⟨w1.heap.size, 0, none⟩) 1 1)) := by
    obtain ⟨u, e, hn⟩ := R9.out
    cases e
    exact hn.sep (litR_at w1 (w1.heap.size) (by simp) [1] 1 rfl (is32d (by decide)) (by decide) (by decide) _ (Nat.le_refl _) #[.int .u32 1] rfl)
  have y := (Below.refl w1.heap.size w1).alloc (Nat.le_refl _) (.cells #[.int .u32 1] T32)
  replace K := hide (K.out.below' y)
  replace R9 := hide (R9.out.below y)
  replace b0 := hide (below_tr b0.out y)
  clear y
  have Q : Hid (RatR (n : Rat) w.heap.size (w1.alloc (.cells #[.int .u32 1] T32)) (.agg #[.bool b9, .slice A9 n9 c9, .slice (some ⟨w1.heap.size, 0, none⟩) 1 1])) := by
    obtain ⟨u, e, hn⟩ := R9.out
    cases e
    exact ⟨_, _, rfl, hn, x0.out, xs0.out⟩
  have Kc0 : (w1.alloc (.cells #[.int .u32 1] T32)).cell? ⟨w.heap.size, 0, none⟩ = some (.bool false) := K.out.at_ 0 rfl
  have Kc1 : (w1.alloc (.cells #[.int .u32 1] T32)).cell? ⟨w.heap.size, 1, none⟩ = some (.slice none 0 0) := K.out.at_ 1 rfl
  have Kc2 : (w1.alloc (.cells #[.int .u32 1] T32)).cell? ⟨w.heap.size, 2, none⟩ = some (.slice none 0 0) := K.out.at_ 2 rfl
  have p0 : (w1.alloc (.cells #[.int .u32 1] T32)).frozen? ⟨w.heap.size, 0, none⟩ = false := K.out.frozen 0
  have p1 : (w1.alloc (.cells #[.int .u32 1] T32)).frozen? ⟨w.heap.size, 1, none⟩ = false := K.out.frozen 1
  have p2 : (w1.alloc (.cells #[.int .u32 1] T32)).frozen? ⟨w.heap.size, 2, none⟩ = false := K.out.frozen 2
  go_wp2
  refine bodyPost_ret (v := .agg #[.bool b9, .slice A9 n9 c9, .slice (some ⟨w1.heap.size, 0, none⟩) 1 1]) (by simp [results, Tryz.results55, go_sem, Kc0, Kc1, Kc2, p0, p1, p2]) rfl ?_
  exact opq_end hR ⟨_, rfl, (by (repeat (first | exact b0 | exact Below.refl _ _ | refine Below.setCell ?_ (by first | (simp; done) | (simp; omega)) _ | refine Below.alloc ?_ (by first | (simp; done) | (simp; omega)) _))), Q.out.only K.out (by decide) ((((Only.refl _ _).set _ _).set _ _).set _ _)⟩
theorem neg_parts (p : Rat) : (-p).num = -p.num ∧ (-p).den = p.den := ⟨rfl, rfl⟩
theorem kTwin_R {w : World} {v : Value} {N : Nat} (B : Nat) (hB : B ≤ w.heap.size) (h : Can w v N) (s : L N ≤ 4398046511104) :
    Calls Tryz.prog 131 #[v] w fun e w' => ∃ u, e = .returned u ∧ Below w.heap.size w w' ∧ NatR N B w' u :=
  (kTwin_can h (Nat.le_trans s (by decide))).mono fun e w' ⟨A, n, c, h1, h2, h3⟩ => ⟨_, h1, h3.out, h2.mono hB⟩
theorem qNeg_R {w : World} {v : Value} {x : Int} (B : Nat) (hB : B ≤ w.heap.size) (h : IArg w v x) :
    Calls Tryz.prog 27 #[v] w fun e w' => ∃ u, e = .returned u ∧ Below w.heap.size w w' ∧ IntR (-x) B w' u := (qNeg_ok h).mono fun e w' ⟨u, q1, q2, q3⟩ => ⟨u, q1, q2, q3.mono hB⟩
def Fact.negR (p : Rat) (B : Nat) : Fact := ⟨fun v w => ∃ b A n c D m k, v = .agg #[.bool b, .slice A n c, .slice D m k] ∧ IntR (-p.num) B w (.agg #[.bool b, .slice A n c]) ∧ NatR p.den B w (.slice D m k), fun _ _ _ ⟨b, A, n, c, D, m, k, h1, h2, h3⟩ hb => ⟨b, A, n, c, D, m, k, h1, h2.below hb, h3.below hb⟩⟩
set_option maxHeartbeats 2000000 in
theorem krNeg_P {w : World} {v : Value} {p : Rat} (h : RArg w v p) :
    Calls Tryz.prog 209 #[v] w fun e w' => ∃ u, e = .returned u ∧ Below w.heap.size w w' ∧ RCan w' u (-p) := by
  refine opq fun R hR => ?_
  obtain ⟨b1, A1, n1, c1, D1, m1, k1, rfl⟩ := h.slice
  have S1 := hide h.size
  replace h := hide h
  go_enter Tryz.func209, Tryz.ntmps209
  have b0 := hide (Below.refl w.heap.size w)
  have K1 := hide (Blk.new_at w (w.heap.size) (by simp) 70 #[.bool b1, .slice A1 n1 c1, .slice D1 m1 k1])
  have y := (Below.refl w.heap.size w).alloc (Nat.le_refl _) (.cells #[.bool b1, .slice A1 n1 c1, .slice D1 m1 k1] 70)
  replace b0 := hide (below_tr b0.out y)
  clear y
  have K3 := hide (Blk.new_at (w.alloc (.cells #[.bool b1, .slice A1 n1 c1, .slice D1 m1 k1] 70)) (w.heap.size + 1) (by simp) 70 #[.bool false, .slice none 0 0, .slice none 0 0])
  have y := (Below.refl (w.alloc (.cells #[.bool b1, .slice A1 n1 c1, .slice D1 m1 k1] 70)).heap.size (w.alloc (.cells #[.bool b1, .slice A1 n1 c1, .slice D1 m1 k1] 70))).alloc (Nat.le_refl _) (.cells #[.bool false, .slice none 0 0, .slice none 0 0] 70)
  replace K1 := hide (K1.out.below' y)
  replace b0 := hide (below_tr b0.out y)
  clear y
  have K1c0 : ((w.alloc (.cells #[.bool b1, .slice A1 n1 c1, .slice D1 m1 k1] 70)).alloc (.cells #[.bool false, .slice none 0 0, .slice none 0 0] 70)).cell? ⟨w.heap.size, 0, none⟩ = some (.bool b1) := K1.out.at_ 0 rfl
  have K1c1 : ((w.alloc (.cells #[.bool b1, .slice A1 n1 c1, .slice D1 m1 k1] 70)).alloc (.cells #[.bool false, .slice none 0 0, .slice none 0 0] 70)).cell? ⟨w.heap.size, 1, none⟩ = some (.slice A1 n1 c1) := K1.out.at_ 1 rfl
  have K1c2 : ((w.alloc (.cells #[.bool b1, .slice A1 n1 c1, .slice D1 m1 k1] 70)).alloc (.cells #[.bool false, .slice none 0 0, .slice none 0 0] 70)).cell? ⟨w.heap.size, 2, none⟩ = some (.slice D1 m1 k1) := K1.out.at_ 2 rfl
  go_wp2_with fail
  refine (krFit_P h.out b0.out w.heap.size b0.out.size).mono ?_
  rintro e w1 ⟨v7, rfl, d0, r7⟩
  replace K1 := hide (K1.out.below' d0)
  replace K3 := hide (K3.out.below' d0)
  replace b0 := hide (below_tr b0.out d0)
  clear d0
  have P1 := hide r7
  clear r7
  obtain ⟨b7, A7, n7, c7, D7, m7, k7, rfl⟩ := P1.out.slice
  clear K1c0 K1c1 K1c2
  have K1f0 : w1.frozen? ⟨w.heap.size, 0, none⟩ = false := K1.out.frozen 0
  have K1f1 : w1.frozen? ⟨w.heap.size, 1, none⟩ = false := K1.out.frozen 1
  have K1f2 : w1.frozen? ⟨w.heap.size, 2, none⟩ = false := K1.out.frozen 2
  have K1c0 : w1.cell? ⟨w.heap.size, 0, none⟩ = some (.bool b1) := K1.out.at_ 0 rfl
  have K1c1 : w1.cell? ⟨w.heap.size, 1, none⟩ = some (.slice A1 n1 c1) := K1.out.at_ 1 rfl
  have K1c2 : w1.cell? ⟨w.heap.size, 2, none⟩ = some (.slice D1 m1 k1) := K1.out.at_ 2 rfl
  go_wp2_with fail
  clear K1c0 K1c1 K1c2
  clear K1f0 K1f1 K1f2
  have F : Only (w.heap.size) w1 (((w1.setCell ⟨w.heap.size, 0, none⟩ (.bool b7)).setCell ⟨w.heap.size, 1, none⟩ (.slice A7 n7 c7)).setCell ⟨w.heap.size, 2, none⟩ (.slice D7 m7 k7)) := ((((Only.refl _ _).set _ _).set _ _).set _ _)
  replace P1 := hide (P1.out.only K1.out (by decide) F)
  replace K3 := hide (((K3.out.far (p := ⟨w.heap.size, 0, none⟩) (by first | (simp; done) | (simp; omega)) (.bool b7)).far (p := ⟨w.heap.size, 1, none⟩) (by first | (simp; done) | (simp; omega)) (.slice A7 n7 c7)).far (p := ⟨w.heap.size, 2, none⟩) (by first | (simp; done) | (simp; omega)) (.slice D7 m7 k7))
  have by_ : Hid (Below w.heap.size w (((w1.setCell ⟨w.heap.size, 0, none⟩ (.bool b7)).setCell ⟨w.heap.size, 1, none⟩ (.slice A7 n7 c7)).setCell ⟨w.heap.size, 2, none⟩ (.slice D7 m7 k7))) := (((b0.out.setCell (p := ⟨w.heap.size, 0, none⟩) (by first | exact Nat.le_refl _ | (simp; done) | (simp; omega)) (.bool b7)).setCell (p := ⟨w.heap.size, 1, none⟩) (by first | exact Nat.le_refl _ | (simp; done) | (simp; omega)) (.slice A7 n7 c7)).setCell (p := ⟨w.heap.size, 2, none⟩) (by first | exact Nat.le_refl _ | (simp; done) | (simp; omega)) (.slice D7 m7 k7))
  replace K1 : Hid (Blk (((w1.setCell ⟨w.heap.size, 0, none⟩ (.bool b7)).setCell ⟨w.heap.size, 1, none⟩ (.slice A7 n7 c7)).setCell ⟨w.heap.size, 2, none⟩ (.slice D7 m7 k7)) (w.heap.size) 70 #[.bool b7, .slice A7 n7 c7, .slice D7 m7 k7]) := (((K1.out.set_ 0 (.bool b7)).set_ 1 (.slice A7 n7 c7)).set_ 2 (.slice D7 m7 k7))
  replace b0 := by_
  clear by_ F
  obtain ⟨V1_1, hV⟩ : ∃ V, (((w1.setCell ⟨w.heap.size, 0, none⟩ (.bool b7)).setCell ⟨w.heap.size, 1, none⟩ (.slice A7 n7 c7)).setCell ⟨w.heap.size, 2, none⟩ (.slice D7 m7 k7)) = V := ⟨_, rfl⟩
  rw [hV] at K1 K3 P1 b0
  rw [hV]
  clear hV
  have C1 := hide (P1.out.can b0.out)
  clear P1
  refine wp_region_facts 7 (fun w' => Below V1_1.heap.size V1_1 w') [(5, .eq ((.pointer (some ⟨w.heap.size, 0, none⟩) : Value))), (6, .eq (.agg #[.bool b7, .slice A7 n7 c7])), (7, (.intR (-p.num) w.heap.size)), (8, .eq ((.pointer (some ⟨w.heap.size, 2, none⟩) : Value))), (9, .eq (.slice D7 m7 k7)), (10, (.natR p.den w.heap.size)), (11, (.negR p w.heap.size))] [false, false, false, false, false, true, true, true, true, true, true, true] mixed (by kernel_rfl) (by kernel_rfl) (by kernel_rfl) (fun _ _ h hb => h.trans (hb.mono h.size)) ((Below.refl _ _).drew) ⟨?_, ?_, ?_, ?_, ?_, ?_, ?_, trivial⟩ ?_
  · exact .fieldAddr (.inl rfl) rfl rfl rfl (fun a w' hC hs hl => by rw [show a.eval (.tmp 1) = (.pointer (some ⟨w.heap.size, 0, none⟩) : Value) from (hs 1 (by kernel_rfl))]; exact fa_Rat0_)
  · exact .load (.agg #[.bool b7, .slice A7 n7 c7]) (.inl rfl) rfl rfl (fun a w' hC hs hl => by rw [show a.eval (.tmp 5) = (.pointer (some ⟨w.heap.size, 0, none⟩) : Value) from (hl 5 (by kernel_rfl) (by kernel_rfl))]; exact ⟨ld_Int_ ((K1.out.below' hC).at_ 0 rfl) ((K1.out.below' hC).at_ 1 rfl), rfl⟩)
  · exact .call (.inl rfl) rfl rfl fq_assayerref02_Neg (fun a w' hC hs hl => by
      show Calls _ _ #[a.eval (.tmp 6)] _ _
      rw [show a.eval (.tmp 6) = (.agg #[.bool b7, .slice A7 n7 c7] : Value) from (hl 6 (by kernel_rfl) (by kernel_rfl))]
      exact qNeg_R w.heap.size (Nat.le_trans b0.out.size hC.size) (ICan.arg (C1.out.num.below hC) (L_up S1.out.1 (by decide))))
  · exact .fieldAddr (.inl rfl) rfl rfl rfl (fun a w' hC hs hl => by rw [show a.eval (.tmp 1) = (.pointer (some ⟨w.heap.size, 0, none⟩) : Value) from (hs 1 (by kernel_rfl))]; exact fa_Rat1_)
  · exact .load (.slice D7 m7 k7) (.inl rfl) rfl rfl (fun a w' hC hs hl => by rw [show a.eval (.tmp 8) = (.pointer (some ⟨w.heap.size, 2, none⟩) : Value) from (hl 8 (by kernel_rfl) (by kernel_rfl))]; exact ⟨ld_Nat ((K1.out.below' hC).at_ 2 rfl), rfl⟩)
  · exact .call (.inl rfl) rfl rfl fq_assayerref01_Twin (fun a w' hC hs hl => by
      show Calls _ _ #[a.eval (.tmp 9)] _ _
      rw [show a.eval (.tmp 9) = (.slice D7 m7 k7 : Value) from (hl 9 (by kernel_rfl) (by kernel_rfl))]
      exact kTwin_R w.heap.size (Nat.le_trans b0.out.size hC.size) (C1.out.den.below hC) (L_up S1.out.2 (by decide)))
  · exact .make (.inl rfl) (by intro T e; cases e) rfl (fun a w' hC hs hl => by
      have e1 : IntR (-p.num) w.heap.size w' (a.eval (.tmp 7)) := (hl 7 (by kernel_rfl) (by kernel_rfl))
      have e2 : NatR p.den w.heap.size w' (a.eval (.tmp 10)) := (hl 10 (by kernel_rfl) (by kernel_rfl))
      obtain ⟨b1, A1, n1, c1, e3⟩ := e1.slice
      obtain ⟨D1, m1, k1, e4⟩ := e2.slice
      rw [e3] at e1
      rw [e4] at e2
      have e5 : a.tmps[7]?.getD undef = _ := (by simp [Act.eval] : _ = a.eval (.tmp 7)).trans e3
      have e6 : a.tmps[10]?.getD undef = _ := (by simp [Act.eval] : _ = a.eval (.tmp 10)).trans e4
      exact ⟨.agg #[.bool b1, .slice A1 n1 c1, .slice D1 m1 k1], by simp [execOp, Act.eval, go_sem, e5, e6], b1, A1, n1, c1, D1, m1, k1, rfl, e1, e2⟩)
  intro f w9 hC hF _
  obtain ⟨b8, A8, n8, c8, D8, m8, k8, e8, E1, E2⟩ : (Fact.negR p w.heap.size).holds (f 11) w9 := hF 11 (by kernel_rfl)
  clear hF
  simp only [patch, List.drop]
  generalize f 5 = y5 at *
  generalize f 6 = y6 at *
  generalize f 7 = y7 at *
  generalize f 8 = y8 at *
  generalize f 9 = y9 at *
  generalize f 10 = y10 at *
  generalize f 11 = y11 at *
  subst e8
  replace E1 := hide E1
  replace E2 := hide E2
  replace K1 := hide (K1.out.below' hC)
  replace K3 := hide (K3.out.below' hC)
  replace C1 := hide (C1.out.below hC)
  replace b0 := hide (b0.out.trans (hC.mono b0.out.size))
  clear hC
  have K3c0 : w9.cell? ⟨w.heap.size + 1, 0, none⟩ = some (.bool false) := K3.out.at_ 0 rfl
  have K3c1 : w9.cell? ⟨w.heap.size + 1, 1, none⟩ = some (.slice none 0 0) := K3.out.at_ 1 rfl
  have K3c2 : w9.cell? ⟨w.heap.size + 1, 2, none⟩ = some (.slice none 0 0) := K3.out.at_ 2 rfl
  have p0 : w9.frozen? ⟨w.heap.size + 1, 0, none⟩ = false := K3.out.frozen 0
  have p1 : w9.frozen? ⟨w.heap.size + 1, 1, none⟩ = false := K3.out.frozen 1
  have p2 : w9.frozen? ⟨w.heap.size + 1, 2, none⟩ = false := K3.out.frozen 2
  go_wp2
  refine bodyPost_ret (v := .agg #[.bool b8, .slice A8 n8 c8, .slice D8 m8 k8]) (by simp [results, Tryz.results209, go_sem, K3c0, K3c1, K3c2, p0, p1, p2]) rfl ?_
  exact opq_end hR ⟨_, rfl, (by (repeat (first | exact b0 | exact Below.refl _ _ | refine Below.setCell ?_ (by first | (simp; done) | (simp; omega)) _ | refine Below.alloc ?_ (by first | (simp; done) | (simp; omega)) _))), rcan_mk (-p) (E1.out.only K3.out (by decide) ((((Only.refl _ _).set _ _).set _ _).set _ _)).can (E2.out.only K3.out (by decide) ((((Only.refl _ _).set _ _).set _ _).set _ _)).can rfl rfl⟩
theorem krAdd_R {w : World} {v v' : Value} {p q : Rat} (B : Nat) (hB : B ≤ w.heap.size) (h : RArg w v p) (h' : RArg w v' q) :
    Calls Tryz.prog 76 #[v, v'] w fun e w' => ∃ u, e = .returned u ∧ Below w.heap.size w w' ∧ RatR (p + q) B w' u := (krAdd_P h h').mono fun e w' ⟨u, q1, q2, q3⟩ => ⟨u, q1, q2, q3.mono hB⟩
theorem H_neg {p : Rat} {k : Nat} (h : H p k) : H (-p) k := ⟨by show L ((-p).num).natAbs ≤ k; exact (by rw [show (-p).num = -p.num from rfl, Int.natAbs_neg]; exact h.1 : L ((-p).num).natAbs ≤ k), by show L ((-p).den) ≤ k; exact h.2⟩
set_option maxHeartbeats 2000000 in
theorem krSub_P {w : World} {v v' : Value} {p q : Rat} (h : RArg w v p) (h' : RArg w v' q) :
    Calls Tryz.prog 77 #[v, v'] w fun e w' => ∃ u, e = .returned u ∧ Below w.heap.size w w' ∧ RatR (p - q) w.heap.size w' u := by
  refine opq fun R hR => ?_
  obtain ⟨b1, A1, n1, c1, D1, m1, k1, rfl⟩ := h.slice
  obtain ⟨b2, A2, n2, c2, D2, m2, k2, rfl⟩ := h'.slice
  have S1 := hide h.size
  have S2 := hide h'.size
  replace h := hide h
  replace h' := hide h'
  have eq : Hid (p - q = p + (-q)) := Rat.sub_eq_add_neg p q
  go_enter Tryz.func77, Tryz.ntmps77
  have b0 := hide (Below.refl w.heap.size w)
  have K1 := hide (Blk.new_at w (w.heap.size) (by simp) 70 #[.bool b1, .slice A1 n1 c1, .slice D1 m1 k1])
  have y := (Below.refl w.heap.size w).alloc (Nat.le_refl _) (.cells #[.bool b1, .slice A1 n1 c1, .slice D1 m1 k1] 70)
  replace b0 := hide (below_tr b0.out y)
  clear y
  have K2 := hide (Blk.new_at (w.alloc (.cells #[.bool b1, .slice A1 n1 c1, .slice D1 m1 k1] 70)) (w.heap.size + 1) (by simp) 70 #[.bool b2, .slice A2 n2 c2, .slice D2 m2 k2])
  have y := (Below.refl (w.alloc (.cells #[.bool b1, .slice A1 n1 c1, .slice D1 m1 k1] 70)).heap.size (w.alloc (.cells #[.bool b1, .slice A1 n1 c1, .slice D1 m1 k1] 70))).alloc (Nat.le_refl _) (.cells #[.bool b2, .slice A2 n2 c2, .slice D2 m2 k2] 70)
  replace K1 := hide (K1.out.below' y)
  replace b0 := hide (below_tr b0.out y)
  clear y
  have K3 := hide (Blk.new_at ((w.alloc (.cells #[.bool b1, .slice A1 n1 c1, .slice D1 m1 k1] 70)).alloc (.cells #[.bool b2, .slice A2 n2 c2, .slice D2 m2 k2] 70)) (w.heap.size + 1 + 1) (by simp) 70 #[.bool false, .slice none 0 0, .slice none 0 0])
  have y := (Below.refl ((w.alloc (.cells #[.bool b1, .slice A1 n1 c1, .slice D1 m1 k1] 70)).alloc (.cells #[.bool b2, .slice A2 n2 c2, .slice D2 m2 k2] 70)).heap.size ((w.alloc (.cells #[.bool b1, .slice A1 n1 c1, .slice D1 m1 k1] 70)).alloc (.cells #[.bool b2, .slice A2 n2 c2, .slice D2 m2 k2] 70))).alloc (Nat.le_refl _) (.cells #[.bool false, .slice none 0 0, .slice none 0 0] 70)
  replace K1 := hide (K1.out.below' y)
  replace K2 := hide (K2.out.below' y)
  replace b0 := hide (below_tr b0.out y)
  clear y
  go_wp2
  obtain ⟨V1_0, hV⟩ : ∃ V, (((w.alloc (.cells #[.bool b1, .slice A1 n1 c1, .slice D1 m1 k1] 70)).alloc (.cells #[.bool b2, .slice A2 n2 c2, .slice D2 m2 k2] 70)).alloc (.cells #[.bool false, .slice none 0 0, .slice none 0 0] 70)) = V := ⟨_, rfl⟩
  rw [hV] at K1 K2 K3 b0
  rw [hV]
  clear hV
  refine wp_region_facts 4 (fun w' => Below V1_0.heap.size V1_0 w') [(5, .eq (.agg #[.bool b1, .slice A1 n1 c1, .slice D1 m1 k1])), (6, .eq (.agg #[.bool b2, .slice A2 n2 c2, .slice D2 m2 k2])), (7, (.rat (-q))), (8, (.ratR (p + (-q)) w.heap.size))] [false, false, false, false, false, true, true, true, true] mixed (by kernel_rfl) (by kernel_rfl) (by kernel_rfl) (fun _ _ h hb => h.trans (hb.mono h.size)) ((Below.refl _ _).drew) ⟨?_, ?_, ?_, ?_, trivial⟩ ?_
  · exact .load (.agg #[.bool b1, .slice A1 n1 c1, .slice D1 m1 k1]) (.inl rfl) rfl rfl (fun a w' hC hs hl => by rw [show a.eval (.tmp 2) = (.pointer (some ⟨w.heap.size, 0, none⟩) : Value) from (hs 2 (by kernel_rfl))]; exact ⟨ld_Rat_ ((K1.out.below' hC).at_ 0 rfl) ((K1.out.below' hC).at_ 1 rfl) ((K1.out.below' hC).at_ 2 rfl), rfl⟩)
  · exact .load (.agg #[.bool b2, .slice A2 n2 c2, .slice D2 m2 k2]) (.inl rfl) rfl rfl (fun a w' hC hs hl => by rw [show a.eval (.tmp 3) = (.pointer (some ⟨w.heap.size + 1, 0, none⟩) : Value) from (hs 3 (by kernel_rfl))]; exact ⟨ld_Rat_ ((K2.out.below' hC).at_ 0 rfl) ((K2.out.below' hC).at_ 1 rfl) ((K2.out.below' hC).at_ 2 rfl), rfl⟩)
  · exact .call (.inl rfl) rfl rfl fq_assayerref03_Neg (fun a w' hC hs hl => by
      show Calls _ _ #[a.eval (.tmp 6)] _ _
      rw [show a.eval (.tmp 6) = (.agg #[.bool b2, .slice A2 n2 c2, .slice D2 m2 k2] : Value) from (hl 6 (by kernel_rfl) (by kernel_rfl))]
      exact krNeg_P (h'.out.below (b0.out.trans (hC.mono b0.out.size))))
  · exact .call (.inl rfl) rfl rfl fq_assayerref03_Add (fun a w' hC hs hl => by
      show Calls _ _ #[a.eval (.tmp 5), a.eval (.tmp 7)] _ _
      rw [show a.eval (.tmp 5) = (.agg #[.bool b1, .slice A1 n1 c1, .slice D1 m1 k1] : Value) from (hl 5 (by kernel_rfl) (by kernel_rfl))]
      exact krAdd_R w.heap.size (Nat.le_trans b0.out.size hC.size) (h.out.below (b0.out.trans (hC.mono b0.out.size))) (RCan.arg (hl 7 (by kernel_rfl) (by kernel_rfl)) (H_neg S2.out)))
  intro f w1 hC hF _
  have R8 : RatR (p + (-q)) w.heap.size w1 (f 8) := hF 8 (by kernel_rfl)
  clear hF
  simp only [patch, List.drop]
  obtain ⟨b8, A8, n8, c8, D8, m8, k8, e8⟩ := R8.slice
  generalize f 5 = y5 at *
  generalize f 6 = y6 at *
  generalize f 7 = y7 at *
  generalize f 8 = y8 at *
  subst e8
  replace R8 := hide R8
  replace K1 := hide (K1.out.below' hC)
  replace K2 := hide (K2.out.below' hC)
  replace K3 := hide (K3.out.below' hC)
  replace b0 := hide (b0.out.trans (hC.mono b0.out.size))
  clear hC
  have K3c0 : w1.cell? ⟨w.heap.size + 1 + 1, 0, none⟩ = some (.bool false) := K3.out.at_ 0 rfl
  have K3c1 : w1.cell? ⟨w.heap.size + 1 + 1, 1, none⟩ = some (.slice none 0 0) := K3.out.at_ 1 rfl
  have K3c2 : w1.cell? ⟨w.heap.size + 1 + 1, 2, none⟩ = some (.slice none 0 0) := K3.out.at_ 2 rfl
  have p0 : w1.frozen? ⟨w.heap.size + 1 + 1, 0, none⟩ = false := K3.out.frozen 0
  have p1 : w1.frozen? ⟨w.heap.size + 1 + 1, 1, none⟩ = false := K3.out.frozen 1
  have p2 : w1.frozen? ⟨w.heap.size + 1 + 1, 2, none⟩ = false := K3.out.frozen 2
  go_wp2
  refine bodyPost_ret (v := .agg #[.bool b8, .slice A8 n8 c8, .slice D8 m8 k8]) (by simp [results, Tryz.results77, go_sem, K3c0, K3c1, K3c2, p0, p1, p2]) rfl ?_
  exact opq_end hR ⟨_, rfl, (by (repeat (first | exact b0 | exact Below.refl _ _ | refine Below.setCell ?_ (by first | (simp; done) | (simp; omega)) _ | refine Below.alloc ?_ (by first | (simp; done) | (simp; omega)) _))), (by rw [eq.out]; exact R8.out.only K3.out (by decide) ((((Only.refl _ _).set _ _).set _ _).set _ _))⟩
set_option maxHeartbeats 2000000 in
theorem krSign_P {w : World} {v : Value} {p : Rat} (h : RArg w v p) :
    Calls Tryz.prog 75 #[v] w fun e w' => ∃ u, e = .returned u ∧ Below w.heap.size w w' ∧ u = .int .i64 (cmpQ p 0) := by
  refine opq fun R hR => ?_
  obtain ⟨b1, A1, n1, c1, D1, m1, k1, rfl⟩ := h.slice
  have S1 := hide h.size
  replace h := hide h
  go_enter Tryz.func75, Tryz.ntmps75
  have b0 := hide (Below.refl w.heap.size w)
  have K1 := hide (Blk.new_at w (w.heap.size) (by simp) 70 #[.bool b1, .slice A1 n1 c1, .slice D1 m1 k1])
  have y := (Below.refl w.heap.size w).alloc (Nat.le_refl _) (.cells #[.bool b1, .slice A1 n1 c1, .slice D1 m1 k1] 70)
  replace b0 := hide (below_tr b0.out y)
  clear y
  have K1c0 : (w.alloc (.cells #[.bool b1, .slice A1 n1 c1, .slice D1 m1 k1] 70)).cell? ⟨w.heap.size, 0, none⟩ = some (.bool b1) := K1.out.at_ 0 rfl
  have K1c1 : (w.alloc (.cells #[.bool b1, .slice A1 n1 c1, .slice D1 m1 k1] 70)).cell? ⟨w.heap.size, 1, none⟩ = some (.slice A1 n1 c1) := K1.out.at_ 1 rfl
  have K1c2 : (w.alloc (.cells #[.bool b1, .slice A1 n1 c1, .slice D1 m1 k1] 70)).cell? ⟨w.heap.size, 2, none⟩ = some (.slice D1 m1 k1) := K1.out.at_ 2 rfl
  go_wp2_with fail
  refine (krFit_P h.out b0.out w.heap.size b0.out.size).mono ?_
  rintro e w1 ⟨v8, rfl, d0, r8⟩
  replace K1 := hide (K1.out.below' d0)
  replace b0 := hide (below_tr b0.out d0)
  clear d0
  have C := hide (r8.can b0.out)
  clear r8
  obtain ⟨b8, A8, n8, c8, D8, m8, k8, rfl⟩ := C.out.slice
  clear K1c0 K1c1 K1c2
  have fl := field_Rat0 (w := w1) (a := .bool b8) (b := .slice A8 n8 c8) (c := .slice D8 m8 k8)
  go_wp2_with fail
  refine (qSign_eq (ICan.arg C.out.num (L_up S1.out.1 (by decide))) (cmpQ_zero p)).mono ?_
  rintro e w2 ⟨_, rfl, d0, rfl⟩
  replace K1 := hide (K1.out.below' d0)
  replace C := hide (C.out.below d0)
  replace b0 := hide (below_tr b0.out d0)
  clear d0
  go_wp2
  exact opq_end hR ⟨_, rfl, b0.out, rfl⟩
set_option maxHeartbeats 2000000 in
theorem krWhole_P {w : World} {v : Value} {p : Rat} (h : RArg w v p) :
    Calls Tryz.prog 113 #[v] w fun e w' => ∃ u, e = .returned u ∧ Below w.heap.size w w' ∧ u = .bool (decide (p.den = 1)) := by
  refine opq fun R hR => ?_
  obtain ⟨b1, A1, n1, c1, D1, m1, k1, rfl⟩ := h.slice
  have S1 := hide h.size
  replace h := hide h
  go_enter Tryz.func113, Tryz.ntmps113
  have b0 := hide (Below.refl w.heap.size w)
  have K1 := hide (Blk.new_at w (w.heap.size) (by simp) 70 #[.bool b1, .slice A1 n1 c1, .slice D1 m1 k1])
  have y := (Below.refl w.heap.size w).alloc (Nat.le_refl _) (.cells #[.bool b1, .slice A1 n1 c1, .slice D1 m1 k1] 70)
  replace b0 := hide (below_tr b0.out y)
  clear y
  have K1c0 : (w.alloc (.cells #[.bool b1, .slice A1 n1 c1, .slice D1 m1 k1] 70)).cell? ⟨w.heap.size, 0, none⟩ = some (.bool b1) := K1.out.at_ 0 rfl
  have K1c1 : (w.alloc (.cells #[.bool b1, .slice A1 n1 c1, .slice D1 m1 k1] 70)).cell? ⟨w.heap.size, 1, none⟩ = some (.slice A1 n1 c1) := K1.out.at_ 1 rfl
  have K1c2 : (w.alloc (.cells #[.bool b1, .slice A1 n1 c1, .slice D1 m1 k1] 70)).cell? ⟨w.heap.size, 2, none⟩ = some (.slice D1 m1 k1) := K1.out.at_ 2 rfl
  go_wp2_with fail
  refine (krFit_P h.out b0.out w.heap.size b0.out.size).mono ?_
  rintro e w1 ⟨v7, rfl, d0, r7⟩
  replace K1 := hide (K1.out.below' d0)
  replace b0 := hide (below_tr b0.out d0)
  clear d0
  have P1 := hide r7
  clear r7
  obtain ⟨b7, A7, n7, c7, D7, m7, k7, rfl⟩ := P1.out.slice
  clear K1c0 K1c1 K1c2
  have K1f0 : w1.frozen? ⟨w.heap.size, 0, none⟩ = false := K1.out.frozen 0
  have K1f1 : w1.frozen? ⟨w.heap.size, 1, none⟩ = false := K1.out.frozen 1
  have K1f2 : w1.frozen? ⟨w.heap.size, 2, none⟩ = false := K1.out.frozen 2
  have K1c0 : w1.cell? ⟨w.heap.size, 0, none⟩ = some (.bool b1) := K1.out.at_ 0 rfl
  have K1c1 : w1.cell? ⟨w.heap.size, 1, none⟩ = some (.slice A1 n1 c1) := K1.out.at_ 1 rfl
  have K1c2 : w1.cell? ⟨w.heap.size, 2, none⟩ = some (.slice D1 m1 k1) := K1.out.at_ 2 rfl
  have F : Only (w.heap.size) w1 (((w1.setCell ⟨w.heap.size, 0, none⟩ (.bool b7)).setCell ⟨w.heap.size, 1, none⟩ (.slice A7 n7 c7)).setCell ⟨w.heap.size, 2, none⟩ (.slice D7 m7 k7)) := ((((Only.refl _ _).set _ _).set _ _).set _ _)
  have b1' : Hid (Below w.heap.size w (((w1.setCell ⟨w.heap.size, 0, none⟩ (.bool b7)).setCell ⟨w.heap.size, 1, none⟩ (.slice A7 n7 c7)).setCell ⟨w.heap.size, 2, none⟩ (.slice D7 m7 k7))) := (by (repeat (first | exact b0 | exact Below.refl _ _ | refine Below.setCell ?_ (by first | (simp; done) | (simp; omega)) _ | refine Below.alloc ?_ (by first | (simp; done) | (simp; omega)) _)))
  have G := hide (RCan.den ((P1.out.only K1.out (by decide) F).can b1'.out))
  clear F P1
  rcases can_is1 G.out with ⟨e1, rfl, ad, rfl, hc⟩ | ⟨e1, rfl, ad, x, rfl, hc, hx⟩ | ⟨e1, hx⟩
  · replace e1 := hide e1
    go_wp2
    exact opq_end hR ⟨_, rfl, b1'.out, by simp [e1.out]⟩
  · replace e1 := hide e1
    go_wp2
    exact opq_end hR ⟨_, rfl, b1'.out, by simp [e1.out]⟩
  · replace e1 := hide e1
    go_wp2
    exact opq_end hR ⟨_, rfl, b1'.out, by simp [e1.out]⟩
theorem div_sign {x y : Int} {b b' : Bool} (h : decide (x < 0) = b) (h' : decide (y < 0) = b') (hy : y ≠ 0) : (if y < 0 then -x else x).natAbs = x.natAbs ∧ decide ((if y < 0 then -x else x) < 0) = ((b != b') && decide (x.natAbs ≠ 0)) ∧ mkRat (if y < 0 then -x else x) y.natAbs = Rat.divInt x y ∧ y.natAbs ≠ 0 := by
  subst h h'
  rcases Int.lt_trichotomy y 0 with q | q | q
  · rw [if_pos q, make_neg q]
    refine ⟨Int.natAbs_neg x, ?_, rfl, by omega⟩
    rw [Bool.eq_iff_iff]; simp [q]; omega
  · exact absurd q hy
  · have q2 : ¬ y < 0 := by omega
    rw [if_neg q2, make_pos q]
    refine ⟨rfl, ?_, rfl, by omega⟩
    rw [Bool.eq_iff_iff]; simp [q2]; omega
theorem qsigned_C {w : World} {u : Value} {b : Bool} {N : Nat} {z : Int} (h : Can w u N) (h1 : z.natAbs = N) (h2 : decide (z < 0) = (b && decide (N ≠ 0))) :
    Calls Tryz.prog 126 #[.bool b, u] w fun e w' => ∃ v, e = .returned v ∧ Below w.heap.size w w' ∧ ICan w' v z :=
  (qsigned_P (b := b) h).mono fun e w' ⟨e1, e2⟩ => ⟨_, e1, e2, ⟨u, by rw [h2], by rw [h1]; exact h.below e2⟩⟩
theorem ICan.sign {w : World} {b : Bool} {u : Value} {z : Int} (h : ICan w (.agg #[.bool b, u]) z) : decide (z < 0) = b := h.nat.2
set_option maxHeartbeats 2000000 in
theorem krDiv_zero {w : World} {v v' : Value} {p q : Rat} (h1 : RCan w v p) (h2 : RCan w v' q) (s1 : H p 100000000000) (s2 : H q 100000000000) (hq : q = 0) :
    Calls Tryz.prog 71 #[v, v'] w fun e w' => e = .returned (.tuple #[.agg #[.bool false, .slice none 0 0, .slice none 0 0], .int .i64 10]) ∧ Below w.heap.size w w' := by
  refine opq fun R hR => ?_
  obtain ⟨b1, A1, n1, c1, D1, m1, k1, rfl⟩ := h1.slice
  obtain ⟨b2, A2, n2, c2, D2, m2, k2, rfl⟩ := h2.slice
  have S1 := hide s1
  have S2 := hide s2
  replace h1 := hide h1
  replace h2 := hide h2
  clear s1 s2
  have ln : n2 = (limbs q.num.natAbs).length := by
    obtain ⟨u, d, e, hu, _⟩ := h2.out
    cases e
    obtain ⟨A, c, e, _⟩ := hu
    cases e
    rfl
  have l0 : n2 = 0 := by rw [ln, hq]; exact is_zero_len.2 (by simp)
  subst l0
  clear ln hq
  go_enter Tryz.func71, Tryz.ntmps71
  have b0 := hide (Below.refl w.heap.size w)
  have K1 := hide (Blk.new_at w (w.heap.size) (by simp) 70 #[.bool b1, .slice A1 n1 c1, .slice D1 m1 k1])
  have y := (Below.refl w.heap.size w).alloc (Nat.le_refl _) (.cells #[.bool b1, .slice A1 n1 c1, .slice D1 m1 k1] 70)
  replace b0 := hide (below_tr b0.out y)
  clear y
  have K2 := hide (Blk.new_at (w.alloc (.cells #[.bool b1, .slice A1 n1 c1, .slice D1 m1 k1] 70)) (w.heap.size + 1) (by simp) 70 #[.bool b2, .slice A2 0 c2, .slice D2 m2 k2])
  have y := (Below.refl (w.alloc (.cells #[.bool b1, .slice A1 n1 c1, .slice D1 m1 k1] 70)).heap.size (w.alloc (.cells #[.bool b1, .slice A1 n1 c1, .slice D1 m1 k1] 70))).alloc (Nat.le_refl _) (.cells #[.bool b2, .slice A2 0 c2, .slice D2 m2 k2] 70)
  replace K1 := hide (K1.out.below' y)
  replace b0 := hide (below_tr b0.out y)
  clear y
  have K3 := hide (Blk.new_at ((w.alloc (.cells #[.bool b1, .slice A1 n1 c1, .slice D1 m1 k1] 70)).alloc (.cells #[.bool b2, .slice A2 0 c2, .slice D2 m2 k2] 70)) (w.heap.size + 1 + 1) (by simp) 70 #[.bool false, .slice none 0 0, .slice none 0 0])
  have y := (Below.refl ((w.alloc (.cells #[.bool b1, .slice A1 n1 c1, .slice D1 m1 k1] 70)).alloc (.cells #[.bool b2, .slice A2 0 c2, .slice D2 m2 k2] 70)).heap.size ((w.alloc (.cells #[.bool b1, .slice A1 n1 c1, .slice D1 m1 k1] 70)).alloc (.cells #[.bool b2, .slice A2 0 c2, .slice D2 m2 k2] 70))).alloc (Nat.le_refl _) (.cells #[.bool false, .slice none 0 0, .slice none 0 0] 70)
  replace K1 := hide (K1.out.below' y)
  replace K2 := hide (K2.out.below' y)
  replace b0 := hide (below_tr b0.out y)
  clear y
  have K1c0 : (((w.alloc (.cells #[.bool b1, .slice A1 n1 c1, .slice D1 m1 k1] 70)).alloc (.cells #[.bool b2, .slice A2 0 c2, .slice D2 m2 k2] 70)).alloc (.cells #[.bool false, .slice none 0 0, .slice none 0 0] 70)).cell? ⟨w.heap.size, 0, none⟩ = some (.bool b1) := K1.out.at_ 0 rfl
  have K1c1 : (((w.alloc (.cells #[.bool b1, .slice A1 n1 c1, .slice D1 m1 k1] 70)).alloc (.cells #[.bool b2, .slice A2 0 c2, .slice D2 m2 k2] 70)).alloc (.cells #[.bool false, .slice none 0 0, .slice none 0 0] 70)).cell? ⟨w.heap.size, 1, none⟩ = some (.slice A1 n1 c1) := K1.out.at_ 1 rfl
  have K1c2 : (((w.alloc (.cells #[.bool b1, .slice A1 n1 c1, .slice D1 m1 k1] 70)).alloc (.cells #[.bool b2, .slice A2 0 c2, .slice D2 m2 k2] 70)).alloc (.cells #[.bool false, .slice none 0 0, .slice none 0 0] 70)).cell? ⟨w.heap.size, 2, none⟩ = some (.slice D1 m1 k1) := K1.out.at_ 2 rfl
  have K2c0 : (((w.alloc (.cells #[.bool b1, .slice A1 n1 c1, .slice D1 m1 k1] 70)).alloc (.cells #[.bool b2, .slice A2 0 c2, .slice D2 m2 k2] 70)).alloc (.cells #[.bool false, .slice none 0 0, .slice none 0 0] 70)).cell? ⟨w.heap.size + 1, 0, none⟩ = some (.bool b2) := K2.out.at_ 0 rfl
  have K2c1 : (((w.alloc (.cells #[.bool b1, .slice A1 n1 c1, .slice D1 m1 k1] 70)).alloc (.cells #[.bool b2, .slice A2 0 c2, .slice D2 m2 k2] 70)).alloc (.cells #[.bool false, .slice none 0 0, .slice none 0 0] 70)).cell? ⟨w.heap.size + 1, 1, none⟩ = some (.slice A2 0 c2) := K2.out.at_ 1 rfl
  have K2c2 : (((w.alloc (.cells #[.bool b1, .slice A1 n1 c1, .slice D1 m1 k1] 70)).alloc (.cells #[.bool b2, .slice A2 0 c2, .slice D2 m2 k2] 70)).alloc (.cells #[.bool false, .slice none 0 0, .slice none 0 0] 70)).cell? ⟨w.heap.size + 1, 2, none⟩ = some (.slice D2 m2 k2) := K2.out.at_ 2 rfl
  go_wp2_with fail
  refine (krCheck_P ((h1.out.below b0.out).prt (S1.out.up (by decide))) true (rok_self _)).mono ?_
  rintro e w1 ⟨_, rfl, d0, rfl⟩
  replace K1 := hide (K1.out.below' d0)
  replace K2 := hide (K2.out.below' d0)
  replace K3 := hide (K3.out.below' d0)
  replace b0 := hide (below_tr b0.out d0)
  clear d0
  clear K1c0 K1c1 K1c2 K2c0 K2c1 K2c2
  have K1c0 : w1.cell? ⟨w.heap.size, 0, none⟩ = some (.bool b1) := K1.out.at_ 0 rfl
  have K1c1 : w1.cell? ⟨w.heap.size, 1, none⟩ = some (.slice A1 n1 c1) := K1.out.at_ 1 rfl
  have K1c2 : w1.cell? ⟨w.heap.size, 2, none⟩ = some (.slice D1 m1 k1) := K1.out.at_ 2 rfl
  have K2c0 : w1.cell? ⟨w.heap.size + 1, 0, none⟩ = some (.bool b2) := K2.out.at_ 0 rfl
  have K2c1 : w1.cell? ⟨w.heap.size + 1, 1, none⟩ = some (.slice A2 0 c2) := K2.out.at_ 1 rfl
  have K2c2 : w1.cell? ⟨w.heap.size + 1, 2, none⟩ = some (.slice D2 m2 k2) := K2.out.at_ 2 rfl
  go_wp2_with fail
  refine (krCheck_P ((h2.out.below b0.out).prt (S2.out.up (by decide))) true (rok_self _)).mono ?_
  rintro e w2 ⟨_, rfl, d0, rfl⟩
  replace K1 := hide (K1.out.below' d0)
  replace K2 := hide (K2.out.below' d0)
  replace K3 := hide (K3.out.below' d0)
  replace b0 := hide (below_tr b0.out d0)
  clear d0
  clear K1c0 K1c1 K1c2 K2c0 K2c1 K2c2
  have K1c0 : w2.cell? ⟨w.heap.size, 0, none⟩ = some (.bool b1) := K1.out.at_ 0 rfl
  have K1c1 : w2.cell? ⟨w.heap.size, 1, none⟩ = some (.slice A1 n1 c1) := K1.out.at_ 1 rfl
  have K1c2 : w2.cell? ⟨w.heap.size, 2, none⟩ = some (.slice D1 m1 k1) := K1.out.at_ 2 rfl
  have K2c0 : w2.cell? ⟨w.heap.size + 1, 0, none⟩ = some (.bool b2) := K2.out.at_ 0 rfl
  have K2c1 : w2.cell? ⟨w.heap.size + 1, 1, none⟩ = some (.slice A2 0 c2) := K2.out.at_ 1 rfl
  have K2c2 : w2.cell? ⟨w.heap.size + 1, 2, none⟩ = some (.slice D2 m2 k2) := K2.out.at_ 2 rfl
  have K3c0 : w2.cell? ⟨w.heap.size + 1 + 1, 0, none⟩ = some (.bool false) := K3.out.at_ 0 rfl
  have K3c1 : w2.cell? ⟨w.heap.size + 1 + 1, 1, none⟩ = some (.slice none 0 0) := K3.out.at_ 1 rfl
  have K3c2 : w2.cell? ⟨w.heap.size + 1 + 1, 2, none⟩ = some (.slice none 0 0) := K3.out.at_ 2 rfl
  have p0 : w2.frozen? ⟨w.heap.size + 1 + 1, 0, none⟩ = false := K3.out.frozen 0
  have p1 : w2.frozen? ⟨w.heap.size + 1 + 1, 1, none⟩ = false := K3.out.frozen 1
  have p2 : w2.frozen? ⟨w.heap.size + 1 + 1, 2, none⟩ = false := K3.out.frozen 2
  go_wp2
  refine bodyPost_ret (v := .tuple #[.agg #[.bool false, .slice none 0 0, .slice none 0 0], .int .i64 10]) (by simp [results, Tryz.results71, go_sem, K3c0, K3c1, K3c2, p0, p1, p2]) rfl ?_
  exact opq_end hR ⟨rfl, (by (repeat (first | exact b0 | exact Below.refl _ _ | refine Below.setCell ?_ (by first | (simp; done) | (simp; omega)) _ | refine Below.alloc ?_ (by first | (simp; done) | (simp; omega)) _)))⟩
set_option maxHeartbeats 2000000 in
theorem krDiv_ok {w : World} {v v' : Value} {p q : Rat} (h1 : RCan w v p) (h2 : RCan w v' q) (s1 : H p 100000000000) (s2 : H q 100000000000) (hq : q ≠ 0) :
    Calls Tryz.prog 71 #[v, v'] w fun e w' => ∃ u, e = .returned (.tuple #[u, .int .i64 0]) ∧ Below w.heap.size w w' ∧ RatR (p / q) w.heap.size w' u := by
  refine opq fun R hR => ?_
  obtain ⟨b1, A1, n1, c1, D1, m1, k1, rfl⟩ := h1.slice
  obtain ⟨b2, A2, n2, c2, D2, m2, k2, rfl⟩ := h2.slice
  have S1 := hide s1
  have S2 := hide s2
  replace h1 := hide h1
  replace h2 := hide h2
  clear s1 s2
  have ln : n2 = (limbs q.num.natAbs).length := by
    obtain ⟨u, d, e, hu, _⟩ := h2.out
    cases e
    obtain ⟨A, c, e, _⟩ := hu
    cases e
    rfl
  have l0 : 0 < n2 := by
    rw [ln]
    rcases Nat.eq_zero_or_pos (limbs q.num.natAbs).length with z | z
    · exact absurd (Rat.num_eq_zero.1 (by have := is_zero_len.1 z; omega)) hq
    · exact z
  clear ln
  replace hq := hide hq
  have X := hide (H_cross S1.out S2.out (Nat.le_refl _))
  go_enter Tryz.func71, Tryz.ntmps71
  have b0 := hide (Below.refl w.heap.size w)
  have K1 := hide (Blk.new_at w (w.heap.size) (by simp) 70 #[.bool b1, .slice A1 n1 c1, .slice D1 m1 k1])
  have y := (Below.refl w.heap.size w).alloc (Nat.le_refl _) (.cells #[.bool b1, .slice A1 n1 c1, .slice D1 m1 k1] 70)
  replace b0 := hide (below_tr b0.out y)
  clear y
  have K2 := hide (Blk.new_at (w.alloc (.cells #[.bool b1, .slice A1 n1 c1, .slice D1 m1 k1] 70)) (w.heap.size + 1) (by simp) 70 #[.bool b2, .slice A2 n2 c2, .slice D2 m2 k2])
  have y := (Below.refl (w.alloc (.cells #[.bool b1, .slice A1 n1 c1, .slice D1 m1 k1] 70)).heap.size (w.alloc (.cells #[.bool b1, .slice A1 n1 c1, .slice D1 m1 k1] 70))).alloc (Nat.le_refl _) (.cells #[.bool b2, .slice A2 n2 c2, .slice D2 m2 k2] 70)
  replace K1 := hide (K1.out.below' y)
  replace b0 := hide (below_tr b0.out y)
  clear y
  have K3 := hide (Blk.new_at ((w.alloc (.cells #[.bool b1, .slice A1 n1 c1, .slice D1 m1 k1] 70)).alloc (.cells #[.bool b2, .slice A2 n2 c2, .slice D2 m2 k2] 70)) (w.heap.size + 1 + 1) (by simp) 70 #[.bool false, .slice none 0 0, .slice none 0 0])
  have y := (Below.refl ((w.alloc (.cells #[.bool b1, .slice A1 n1 c1, .slice D1 m1 k1] 70)).alloc (.cells #[.bool b2, .slice A2 n2 c2, .slice D2 m2 k2] 70)).heap.size ((w.alloc (.cells #[.bool b1, .slice A1 n1 c1, .slice D1 m1 k1] 70)).alloc (.cells #[.bool b2, .slice A2 n2 c2, .slice D2 m2 k2] 70))).alloc (Nat.le_refl _) (.cells #[.bool false, .slice none 0 0, .slice none 0 0] 70)
  replace K1 := hide (K1.out.below' y)
  replace K2 := hide (K2.out.below' y)
  replace b0 := hide (below_tr b0.out y)
  clear y
  have K1c0 : (((w.alloc (.cells #[.bool b1, .slice A1 n1 c1, .slice D1 m1 k1] 70)).alloc (.cells #[.bool b2, .slice A2 n2 c2, .slice D2 m2 k2] 70)).alloc (.cells #[.bool false, .slice none 0 0, .slice none 0 0] 70)).cell? ⟨w.heap.size, 0, none⟩ = some (.bool b1) := K1.out.at_ 0 rfl
  have K1c1 : (((w.alloc (.cells #[.bool b1, .slice A1 n1 c1, .slice D1 m1 k1] 70)).alloc (.cells #[.bool b2, .slice A2 n2 c2, .slice D2 m2 k2] 70)).alloc (.cells #[.bool false, .slice none 0 0, .slice none 0 0] 70)).cell? ⟨w.heap.size, 1, none⟩ = some (.slice A1 n1 c1) := K1.out.at_ 1 rfl
  have K1c2 : (((w.alloc (.cells #[.bool b1, .slice A1 n1 c1, .slice D1 m1 k1] 70)).alloc (.cells #[.bool b2, .slice A2 n2 c2, .slice D2 m2 k2] 70)).alloc (.cells #[.bool false, .slice none 0 0, .slice none 0 0] 70)).cell? ⟨w.heap.size, 2, none⟩ = some (.slice D1 m1 k1) := K1.out.at_ 2 rfl
  have K2c0 : (((w.alloc (.cells #[.bool b1, .slice A1 n1 c1, .slice D1 m1 k1] 70)).alloc (.cells #[.bool b2, .slice A2 n2 c2, .slice D2 m2 k2] 70)).alloc (.cells #[.bool false, .slice none 0 0, .slice none 0 0] 70)).cell? ⟨w.heap.size + 1, 0, none⟩ = some (.bool b2) := K2.out.at_ 0 rfl
  have K2c1 : (((w.alloc (.cells #[.bool b1, .slice A1 n1 c1, .slice D1 m1 k1] 70)).alloc (.cells #[.bool b2, .slice A2 n2 c2, .slice D2 m2 k2] 70)).alloc (.cells #[.bool false, .slice none 0 0, .slice none 0 0] 70)).cell? ⟨w.heap.size + 1, 1, none⟩ = some (.slice A2 n2 c2) := K2.out.at_ 1 rfl
  have K2c2 : (((w.alloc (.cells #[.bool b1, .slice A1 n1 c1, .slice D1 m1 k1] 70)).alloc (.cells #[.bool b2, .slice A2 n2 c2, .slice D2 m2 k2] 70)).alloc (.cells #[.bool false, .slice none 0 0, .slice none 0 0] 70)).cell? ⟨w.heap.size + 1, 2, none⟩ = some (.slice D2 m2 k2) := K2.out.at_ 2 rfl
  go_wp2_with fail
  refine (krCheck_P ((h1.out.below b0.out).prt (S1.out.up (by decide))) true (rok_self _)).mono ?_
  rintro e w1 ⟨_, rfl, d0, rfl⟩
  replace K1 := hide (K1.out.below' d0)
  replace K2 := hide (K2.out.below' d0)
  replace K3 := hide (K3.out.below' d0)
  replace b0 := hide (below_tr b0.out d0)
  clear d0
  clear K1c0 K1c1 K1c2 K2c0 K2c1 K2c2
  have K1c0 : w1.cell? ⟨w.heap.size, 0, none⟩ = some (.bool b1) := K1.out.at_ 0 rfl
  have K1c1 : w1.cell? ⟨w.heap.size, 1, none⟩ = some (.slice A1 n1 c1) := K1.out.at_ 1 rfl
  have K1c2 : w1.cell? ⟨w.heap.size, 2, none⟩ = some (.slice D1 m1 k1) := K1.out.at_ 2 rfl
  have K2c0 : w1.cell? ⟨w.heap.size + 1, 0, none⟩ = some (.bool b2) := K2.out.at_ 0 rfl
  have K2c1 : w1.cell? ⟨w.heap.size + 1, 1, none⟩ = some (.slice A2 n2 c2) := K2.out.at_ 1 rfl
  have K2c2 : w1.cell? ⟨w.heap.size + 1, 2, none⟩ = some (.slice D2 m2 k2) := K2.out.at_ 2 rfl
  go_wp2_with fail
  refine (krCheck_P ((h2.out.below b0.out).prt (S2.out.up (by decide))) true (rok_self _)).mono ?_
  rintro e w2 ⟨_, rfl, d0, rfl⟩
  replace K1 := hide (K1.out.below' d0)
  replace K2 := hide (K2.out.below' d0)
  replace K3 := hide (K3.out.below' d0)
  replace b0 := hide (below_tr b0.out d0)
  clear d0
  clear K1c0 K1c1 K1c2 K2c0 K2c1 K2c2
  have K1c0 : w2.cell? ⟨w.heap.size, 0, none⟩ = some (.bool b1) := K1.out.at_ 0 rfl
  have K1c1 : w2.cell? ⟨w.heap.size, 1, none⟩ = some (.slice A1 n1 c1) := K1.out.at_ 1 rfl
  have K1c2 : w2.cell? ⟨w.heap.size, 2, none⟩ = some (.slice D1 m1 k1) := K1.out.at_ 2 rfl
  have K2c0 : w2.cell? ⟨w.heap.size + 1, 0, none⟩ = some (.bool b2) := K2.out.at_ 0 rfl
  have K2c1 : w2.cell? ⟨w.heap.size + 1, 1, none⟩ = some (.slice A2 n2 c2) := K2.out.at_ 1 rfl
  have K2c2 : w2.cell? ⟨w.heap.size + 1, 2, none⟩ = some (.slice D2 m2 k2) := K2.out.at_ 2 rfl
  go_wp2_with fail
  refine (krtimes_P (h1.out.below b0.out).num (h2.out.below b0.out).den (L_up S1.out.1 (by decide)) (L_up S2.out.2 (by decide))).mono ?_
  rintro e w3 ⟨v3, rfl, d0, r3⟩
  replace K1 := hide (K1.out.below' d0)
  replace K2 := hide (K2.out.below' d0)
  replace K3 := hide (K3.out.below' d0)
  replace b0 := hide (below_tr b0.out d0)
  have I3 := hide (r3.can)
  clear d0
  clear r3
  obtain ⟨b3, A3, n3, c3, rfl⟩ := I3.out.slice
  clear K1c0 K1c1 K1c2 K2c0 K2c1 K2c2
  have K4 := hide (Blk.new_at w3 (w3.heap.size) (by simp) 25 #[.bool b3, .slice A3 n3 c3])
  have y := (Below.refl w3.heap.size w3).alloc (Nat.le_refl _) (.cells #[.bool b3, .slice A3 n3 c3] 25)
  replace K1 := hide (K1.out.below' y)
  replace K2 := hide (K2.out.below' y)
  replace K3 := hide (K3.out.below' y)
  replace I3 := hide (I3.out.below y)
  replace b0 := hide (below_tr b0.out y)
  clear y
  have K1c0 : (w3.alloc (.cells #[.bool b3, .slice A3 n3 c3] 25)).cell? ⟨w.heap.size, 0, none⟩ = some (.bool b1) := K1.out.at_ 0 rfl
  have K1c1 : (w3.alloc (.cells #[.bool b3, .slice A3 n3 c3] 25)).cell? ⟨w.heap.size, 1, none⟩ = some (.slice A1 n1 c1) := K1.out.at_ 1 rfl
  have K1c2 : (w3.alloc (.cells #[.bool b3, .slice A3 n3 c3] 25)).cell? ⟨w.heap.size, 2, none⟩ = some (.slice D1 m1 k1) := K1.out.at_ 2 rfl
  have K2c0 : (w3.alloc (.cells #[.bool b3, .slice A3 n3 c3] 25)).cell? ⟨w.heap.size + 1, 0, none⟩ = some (.bool b2) := K2.out.at_ 0 rfl
  have K2c1 : (w3.alloc (.cells #[.bool b3, .slice A3 n3 c3] 25)).cell? ⟨w.heap.size + 1, 1, none⟩ = some (.slice A2 n2 c2) := K2.out.at_ 1 rfl
  have K2c2 : (w3.alloc (.cells #[.bool b3, .slice A3 n3 c3] 25)).cell? ⟨w.heap.size + 1, 2, none⟩ = some (.slice D2 m2 k2) := K2.out.at_ 2 rfl
  go_wp2_with fail
  refine (krtimes_P (h2.out.below b0.out).num (h1.out.below b0.out).den (L_up S2.out.1 (by decide)) (L_up S1.out.2 (by decide))).mono ?_
  rintro e w4 ⟨v4, rfl, d0, r4⟩
  replace K1 := hide (K1.out.below' d0)
  replace K2 := hide (K2.out.below' d0)
  replace K3 := hide (K3.out.below' d0)
  replace I3 := hide (I3.out.below d0)
  replace K4 := hide (K4.out.below' d0)
  replace b0 := hide (below_tr b0.out d0)
  have I4 := hide (r4.can)
  clear d0
  clear r4
  obtain ⟨b4, A4, n4, c4, rfl⟩ := I4.out.slice
  clear K1c0 K1c1 K1c2 K2c0 K2c1 K2c2
  have K5 := hide (Blk.new_at w4 (w4.heap.size) (by simp) 25 #[.bool b4, .slice A4 n4 c4])
  have y := (Below.refl w4.heap.size w4).alloc (Nat.le_refl _) (.cells #[.bool b4, .slice A4 n4 c4] 25)
  replace K1 := hide (K1.out.below' y)
  replace K2 := hide (K2.out.below' y)
  replace K3 := hide (K3.out.below' y)
  replace I3 := hide (I3.out.below y)
  replace K4 := hide (K4.out.below' y)
  replace I4 := hide (I4.out.below y)
  replace b0 := hide (below_tr b0.out y)
  clear y
  have hy : Hid (q.num * (p.den : Int) ≠ 0) := Int.mul_ne_zero (fun e => hq.out (Rat.num_eq_zero.1 e)) (by have := p.den_nz; omega)
  go_wp2_with fail
  obtain ⟨V1_4, hV⟩ : ∃ V, (w4.alloc (.cells #[.bool b4, .slice A4 n4 c4] 25)) = V := ⟨_, rfl⟩
  rw [hV] at K1 K2 K3 I3 K4 I4 K5 b0
  rw [hV]
  clear hV
  have DS := hide (div_sign (I3.out.sign) (I4.out.sign) hy.out)
  refine wp_region_facts 11 (fun w' => Below V1_4.heap.size V1_4 w') [(33, .eq ((.pointer (some ⟨w3.heap.size, 0, none⟩) : Value))), (34, .eq (.bool b3)), (35, .eq ((.pointer (some ⟨w4.heap.size, 0, none⟩) : Value))), (36, .eq (.bool b4)), (37, .eq (.bool (b3 != b4))), (38, .eq ((.pointer (some ⟨w3.heap.size, 1, none⟩) : Value))), (39, .eq (.slice A3 n3 c3)), (40, (.int (if (q.num * (p.den : Int)) < 0 then -(p.num * (q.den : Int)) else (p.num * (q.den : Int))))), (41, .eq ((.pointer (some ⟨w4.heap.size, 1, none⟩) : Value))), (42, .eq (.slice A4 n4 c4)), (43, (.ratR (mkRat (if (q.num * (p.den : Int)) < 0 then -(p.num * (q.den : Int)) else (p.num * (q.den : Int))) ((q.num * (p.den : Int))).natAbs) w.heap.size))] [false, false, false, false, false, false, false, false, false, false, false, false, false, false, false, false, false, false, false, false, false, false, false, false, false, false, false, false, false, false, false, false, false, true, true, true, true, true, true, true, true, true, true, true] mixed (by kernel_rfl) (by kernel_rfl) (by kernel_rfl) (fun _ _ h hb => h.trans (hb.mono h.size)) ((Below.refl _ _).drew) ⟨?_, ?_, ?_, ?_, ?_, ?_, ?_, ?_, ?_, ?_, ?_, trivial⟩ ?_
  · exact .fieldAddr (.inl rfl) rfl rfl rfl (fun a w' hC hs hl => by rw [show a.eval (.tmp 6) = (.pointer (some ⟨w3.heap.size, 0, none⟩) : Value) from (hs 6 (by kernel_rfl))]; exact fa_Int0_)
  · exact .load (.bool b3) (.inl rfl) rfl rfl (fun a w' hC hs hl => by rw [show a.eval (.tmp 33) = (.pointer (some ⟨w3.heap.size, 0, none⟩) : Value) from (hl 33 (by kernel_rfl) (by kernel_rfl))]; exact ⟨ld_bool ((K4.out.below' hC).at_ 0 rfl), rfl⟩)
  · exact .fieldAddr (.inl rfl) rfl rfl rfl (fun a w' hC hs hl => by rw [show a.eval (.tmp 7) = (.pointer (some ⟨w4.heap.size, 0, none⟩) : Value) from (hs 7 (by kernel_rfl))]; exact fa_Int0_)
  · exact .load (.bool b4) (.inl rfl) rfl rfl (fun a w' hC hs hl => by rw [show a.eval (.tmp 35) = (.pointer (some ⟨w4.heap.size, 0, none⟩) : Value) from (hl 35 (by kernel_rfl) (by kernel_rfl))]; exact ⟨ld_bool ((K5.out.below' hC).at_ 0 rfl), rfl⟩)
  · exact .value (.inl rfl) (by intro T e; cases e) rfl rfl (fun a w' hC hs hl => by
      have e0 : a.eval (.tmp 34) = (.bool b3) := (hl 34 (by kernel_rfl) (by kernel_rfl))
      have e1 : a.eval (.tmp 36) = (.bool b4) := (hl 36 (by kernel_rfl) (by kernel_rfl))
      simp only [execOp, e0, e1]
      skip
      cases b3 <;> cases b4 <;> simp [go_sem] <;> rfl)
  · exact .fieldAddr (.inl rfl) rfl rfl rfl (fun a w' hC hs hl => by rw [show a.eval (.tmp 6) = (.pointer (some ⟨w3.heap.size, 0, none⟩) : Value) from (hs 6 (by kernel_rfl))]; exact fa_Int1_)
  · exact .load (.slice A3 n3 c3) (.inl rfl) rfl rfl (fun a w' hC hs hl => by rw [show a.eval (.tmp 38) = (.pointer (some ⟨w3.heap.size, 1, none⟩) : Value) from (hl 38 (by kernel_rfl) (by kernel_rfl))]; exact ⟨ld_Nat ((K4.out.below' hC).at_ 1 rfl), rfl⟩)
  · exact .call (.inl rfl) rfl rfl fq_assayerref02_Signed (fun a w' hC hs hl => by
      show Calls _ _ #[a.eval (.tmp 37), a.eval (.tmp 39)] _ _
      rw [show a.eval (.tmp 37) = (.bool (b3 != b4) : Value) from (hl 37 (by kernel_rfl) (by kernel_rfl)), show a.eval (.tmp 39) = (.slice A3 n3 c3 : Value) from (hl 39 (by kernel_rfl) (by kernel_rfl))]
      exact qsigned_C (z := (if (q.num * (p.den : Int)) < 0 then -(p.num * (q.den : Int)) else (p.num * (q.den : Int)))) (I3.out.nat.1.below hC) DS.out.1 DS.out.2.1)
  · exact .fieldAddr (.inl rfl) rfl rfl rfl (fun a w' hC hs hl => by rw [show a.eval (.tmp 7) = (.pointer (some ⟨w4.heap.size, 0, none⟩) : Value) from (hs 7 (by kernel_rfl))]; exact fa_Int1_)
  · exact .load (.slice A4 n4 c4) (.inl rfl) rfl rfl (fun a w' hC hs hl => by rw [show a.eval (.tmp 41) = (.pointer (some ⟨w4.heap.size, 1, none⟩) : Value) from (hl 41 (by kernel_rfl) (by kernel_rfl))]; exact ⟨ld_Nat ((K5.out.below' hC).at_ 1 rfl), rfl⟩)
  · exact .call (.inl rfl) rfl rfl fq_assayerref03_lowest (fun a w' hC hs hl => by
      show Calls _ _ #[a.eval (.tmp 40), a.eval (.tmp 42)] _ _
      rw [show a.eval (.tmp 42) = (.slice A4 n4 c4 : Value) from (hl 42 (by kernel_rfl) (by kernel_rfl))]
      exact krlow_R w.heap.size (Nat.le_trans b0.out.size hC.size) (hl 40 (by kernel_rfl) (by kernel_rfl)) (I4.out.nat.1.below hC) (by rw [DS.out.1]; exact L_up X.out.1 (by decide)) (L_up X.out.2.1 (by decide)) DS.out.2.2.2)
  intro f w5 hC hF _
  have R8 : RatR (mkRat (if (q.num * (p.den : Int)) < 0 then -(p.num * (q.den : Int)) else (p.num * (q.den : Int))) ((q.num * (p.den : Int))).natAbs) w.heap.size w5 (f 43) := hF 43 (by kernel_rfl)
  clear hF
  simp only [patch, List.drop]
  obtain ⟨b8, A8, n8, c8, D8, m8, k8, e8⟩ := R8.slice
  generalize f 33 = y33 at *
  generalize f 34 = y34 at *
  generalize f 35 = y35 at *
  generalize f 36 = y36 at *
  generalize f 37 = y37 at *
  generalize f 38 = y38 at *
  generalize f 39 = y39 at *
  generalize f 40 = y40 at *
  generalize f 41 = y41 at *
  generalize f 42 = y42 at *
  generalize f 43 = y43 at *
  subst e8
  replace R8 := hide R8
  replace K1 := hide (K1.out.below' hC)
  replace K2 := hide (K2.out.below' hC)
  replace K3 := hide (K3.out.below' hC)
  replace I3 := hide (I3.out.below hC)
  replace K4 := hide (K4.out.below' hC)
  replace I4 := hide (I4.out.below hC)
  replace K5 := hide (K5.out.below' hC)
  replace b0 := hide (b0.out.trans (hC.mono b0.out.size))
  clear hC
  have K3c0 : w5.cell? ⟨w.heap.size + 1 + 1, 0, none⟩ = some (.bool false) := K3.out.at_ 0 rfl
  have K3c1 : w5.cell? ⟨w.heap.size + 1 + 1, 1, none⟩ = some (.slice none 0 0) := K3.out.at_ 1 rfl
  have K3c2 : w5.cell? ⟨w.heap.size + 1 + 1, 2, none⟩ = some (.slice none 0 0) := K3.out.at_ 2 rfl
  have p0 : w5.frozen? ⟨w.heap.size + 1 + 1, 0, none⟩ = false := K3.out.frozen 0
  have p1 : w5.frozen? ⟨w.heap.size + 1 + 1, 1, none⟩ = false := K3.out.frozen 1
  have p2 : w5.frozen? ⟨w.heap.size + 1 + 1, 2, none⟩ = false := K3.out.frozen 2
  go_wp2
  refine bodyPost_ret (v := .tuple #[.agg #[.bool b8, .slice A8 n8 c8, .slice D8 m8 k8], .int .i64 0]) (by simp [results, Tryz.results71, go_sem, K3c0, K3c1, K3c2, p0, p1, p2]) rfl ?_
  exact opq_end hR ⟨_, rfl, (by (repeat (first | exact b0 | exact Below.refl _ _ | refine Below.setCell ?_ (by first | (simp; done) | (simp; omega)) _ | refine Below.alloc ?_ (by first | (simp; done) | (simp; omega)) _))), (by rw [← div_cross, ← DS.out.2.2.1]; exact R8.out.only K3.out (by decide) ((((Only.refl _ _).set _ _).set _ _).set _ _))⟩
end Go.Proofs.YtfadehkagbcjaaaGreatDoor
