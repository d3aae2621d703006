/- the laws of ints: IntsAmounts. -/
import Derived.Test.YtcdejccbamjdoaaDoorJd
import Derived.Test.YtcdejccbamjdoaaDoorFree3
set_option linter.unusedVariables false
set_option linter.unusedSimpArgs false
set_option maxRecDepth 100000
namespace Go.Proofs.YtcdejccbamjdoaaDoor
open Go.RowKit

theorem nCheck_F {w : World} {A : Option Addr} {n c : Nat} {xs : List Nat} (h : Rd w A n xs) (r : Bool) (hr : chk xs = r) :
    Calls Tryd.prog 32 #[.slice A n c] w fun e w' => ∃ u, e = .returned u ∧ Below w.heap.size w w' ∧ u = .bool r :=
  (Check_ok w A n c xs h).mono fun e w' ⟨h1, h2⟩ => ⟨_, h1, h2 ▸ Below.refl _ _, by rw [hr]⟩
theorem nAdd_C {w : World} {v v' : Value} {M N : Nat} (h : Can w v M) (h' : Can w v' N) (s : L M ≤ 4398046511104) (s' : L N ≤ 4398046511104) :
    Calls Tryd.prog 34 #[v, v'] w fun e w' => ∃ u, e = .returned u ∧ Below w.heap.size w w' ∧ Can w' u (M + N) :=
  (nAdd_F 0 (Nat.zero_le _) h h' s s').mono fun e w' ⟨u, h1, h2, h3⟩ => ⟨u, h1, h2, h3.can⟩
theorem nMul_C {w : World} {v v' : Value} {M N : Nat} (h : Can w v M) (h' : Can w v' N) (s : L M ≤ 4398046511104) (s' : L N ≤ 4398046511104) :
    Calls Tryd.prog 35 #[v, v'] w fun e w' => ∃ u, e = .returned u ∧ Below w.heap.size w w' ∧ Can w' u (M * N) :=
  (nMul_F 0 (Nat.zero_le _) h h' s s').mono fun e w' ⟨u, h1, h2, h3⟩ => ⟨u, h1, h2, h3.can⟩
theorem nSame_yes {w : World} {v v' : Value} {M N : Nat} (h : Can w v M) (h' : Can w v' N) (e : M = N) :
    Calls Tryd.prog 33 #[v, v'] w fun e w' => ∃ u, e = .returned u ∧ Below w.heap.size w w' ∧ u = .bool true :=
  (Same_can h h').mono fun e' w' ⟨h1, h2⟩ => ⟨_, h1, h2.out, by simp [e]⟩
theorem nCmp_eq {w : World} {v v' : Value} {M N : Nat} (h : Can w v M) (h' : Can w v' N) (s : L M ≤ 4398046511104) (s' : L N ≤ 4398046511104) :
    Calls Tryd.prog 36 #[v, v'] w fun e w' => ∃ u, e = .returned u ∧ Below w.heap.size w w' ∧ u = .int .i64 (cmpI (M : Int) (N : Int)) :=
  (Cmp_arg (h.arg s) (h'.arg s')).mono fun e w' ⟨h1, h2⟩ => ⟨_, h1, h2.out, by congr 1; unfold cmpN cmpI; (repeat' split) <;> omega⟩
theorem fn_SameNat (args : Array Value) (w : World) : (callFunc 33 args).run Tryd.prog w = .ok (.enter 33 args) w := callFunc_enter Tryd.func33 (by kernel_rfl) rfl args w
theorem iAdd_R {w : World} {v v' : Value} {x y : Int} (B : Nat) (hB : B ≤ w.heap.size) (h : IArg w v x) (h' : IArg w v' y) : Calls Tryd.prog 18 #[v, v'] w fun e w' => ∃ u, e = .returned u ∧ Below w.heap.size w w' ∧ IntR (x + y) B w' u :=
  (iAdd_ok h h').mono fun e w' ⟨u, h1, h2, h3⟩ => ⟨u, h1, h2, h3.mono hB⟩
theorem iMul_R {w : World} {v v' : Value} {x y : Int} (B : Nat) (hB : B ≤ w.heap.size) (h : IArg w v x) (h' : IArg w v' y) : Calls Tryd.prog 19 #[v, v'] w fun e w' => ∃ u, e = .returned u ∧ Below w.heap.size w w' ∧ IntR (x * y) B w' u :=
  (iMul_ok h h').mono fun e w' ⟨u, h1, h2, h3⟩ => ⟨u, h1, h2, h3.mono hB⟩
theorem run_alloc_Int (w : World) (a : Act) (d : Option Tmp) (t : TypeId) (p : String) (e : Array Edge) (gd : Option (Nat × Bool)) : (execOp a.eval ⟨d, .alloc 25, t, p, e, gd⟩).run Tryd.prog w = .ok (.value (.pointer (some ⟨w.heap.size, 0, none⟩))) (w.alloc (.cells (Value.agg #[.bool false, .slice none 0 0]).cells 25)) := by
  simp [execOp, go_sem, Value.cells]
theorem len_pos {N : Nat} : decide (0 < (limbs N).length) = decide (0 < N) := by
  have h : L N ≤ 0 ↔ N < 1 := by rw [L_le]
  have e : L N = (limbs N).length := rfl
  rw [Bool.eq_iff_iff, decide_eq_true_eq, decide_eq_true_eq]
  omega
theorem IntR.nonneg {z : Int} {B : Nat} {w : World} {v : Value} (h : IntR z B w v) (hz : 0 ≤ z) : ∃ A n c, v = .agg #[.bool false, .slice A n c] ∧ NatR z.natAbs B w (.slice A n c) := by
  obtain ⟨u, e, r⟩ := h
  obtain ⟨A, c, e', r'⟩ := r
  subst e'
  exact ⟨A, _, c, by rw [e, show decide (z < 0) = false from by simpa using hz], A, c, rfl, r'⟩
theorem IntR.nonpos {z : Int} {B : Nat} {w : World} {v : Value} (h : IntR z B w v) (hz : z ≤ 0) : ∃ A n c, v = .agg #[.bool (decide (0 < n)), .slice A n c] ∧ NatR z.natAbs B w (.slice A n c) := by
  obtain ⟨u, e, r⟩ := h
  obtain ⟨A, c, e', r'⟩ := r
  subst e'
  refine ⟨A, _, c, ?_, A, c, rfl, r'⟩
  rw [e, len_pos, show decide (z < 0) = decide (0 < z.natAbs) from by rw [Bool.eq_iff_iff, decide_eq_true_eq, decide_eq_true_eq]; omega]
theorem ican_nat {w : World} {A : Option Addr} {n c N : Nat} (h : Can w (.slice A n c) N) : ICan w (.agg #[.bool false, .slice A n c]) (N : Int) := ican_lit h _ rfl
set_option maxHeartbeats 2000000 in
theorem IntsAmounts_ok (w : World) (A1 : Option Addr) (n1 c1 : Nat) (xs1 : List Nat) (A2 : Option Addr) (n2 c2 : Nat) (xs2 : List Nat) (h1 : Rd w A1 n1 xs1) (i1 : Is32 xs1) (l1 : n1 ≤ c1) (h2 : Rd w A2 n2 xs2) (i2 : Is32 xs2) (l2 : n2 ≤ c2) :
    Calls Tryd.prog 8 #[.slice A1 n1 c1, .slice A2 n2 c2] w fun e w' => e = .returned (.bool true) ∧ Hid (Below w.heap.size w w') := by
  refine opq fun R hR => ?_
  have m1 := h1.2.1
  replace h1 := hide h1
  replace i1 := hide i1
  have m2 := h2.2.1
  replace h2 := hide h2
  replace i2 := hide i2
  go_enter Tryd.func8, Tryd.ntmps8
  have b0 := hide (Below.refl w.heap.size w)
  go_wp2_with fail
  refine (ialive_F w).mono ?_
  rintro e w1 ⟨_, rfl, d0, rfl⟩
  replace b0 := hide (below_tr b0.out d0)
  clear d0
  by_cases g1 : 100 < n1
  case pos =>
    go_wp2_with fail
    refine (ialive_F _).mono ?_
    rintro e w2 ⟨_, rfl, d0, rfl⟩
    replace b0 := hide (below_tr b0.out d0)
    clear d0
    go_wp2
    exact opq_end hR ⟨rfl, b0⟩
  by_cases g2 : 100 < n2
  case pos =>
    go_wp2_with fail
    refine (ialive_F _).mono ?_
    rintro e w2 ⟨_, rfl, d0, rfl⟩
    replace b0 := hide (below_tr b0.out d0)
    clear d0
    go_wp2
    exact opq_end hR ⟨rfl, b0⟩
  by_cases k1 : chk xs1 = false
  case pos =>
    go_wp2_with fail
    refine (nCheck_F (h1.out.below b0.out) false k1).mono ?_
    rintro e w2 ⟨_, rfl, d0, rfl⟩
    replace b0 := hide (below_tr b0.out d0)
    clear d0
    go_wp2_with fail
    refine (ialive_F _).mono ?_
    rintro e w3 ⟨_, rfl, d0, rfl⟩
    replace b0 := hide (below_tr b0.out d0)
    clear d0
    go_wp2
    exact opq_end hR ⟨rfl, b0⟩
  replace k1 : chk xs1 = true := by simpa using k1
  go_wp2_with fail
  refine (nCheck_F (h1.out.below b0.out) true k1).mono ?_
  rintro e w2 ⟨_, rfl, d0, rfl⟩
  replace b0 := hide (below_tr b0.out d0)
  clear d0
  by_cases k2 : chk xs2 = false
  case pos =>
    go_wp2_with fail
    refine (nCheck_F (h2.out.below b0.out) false k2).mono ?_
    rintro e w3 ⟨_, rfl, d0, rfl⟩
    replace b0 := hide (below_tr b0.out d0)
    clear d0
    go_wp2_with fail
    refine (ialive_F _).mono ?_
    rintro e w4 ⟨_, rfl, d0, rfl⟩
    replace b0 := hide (below_tr b0.out d0)
    clear d0
    go_wp2
    exact opq_end hR ⟨rfl, b0⟩
  replace k2 : chk xs2 = true := by simpa using k2
  go_wp2_with fail
  refine (nCheck_F (h2.out.below b0.out) true k2).mono ?_
  rintro e w3 ⟨_, rfl, d0, rfl⟩
  replace b0 := hide (below_tr b0.out d0)
  clear d0
  have a1 := hide (can_of h1.out i1.out k1 l1)
  have S1 : Hid (L (val xs1) ≤ 100) := L_up (L_val i1.out) (by rw [h1.out.1]; omega)
  clear h1 i1 k1
  generalize val xs1 = M at *
  have e1 := hide (ican_nat a1.out)
  have T1 : Hid (L (M : Int).natAbs ≤ 100) := S1
  have a2 := hide (can_of h2.out i2.out k2 l2)
  have S2 : Hid (L (val xs2) ≤ 100) := L_up (L_val i2.out) (by rw [h2.out.1]; omega)
  clear h2 i2 k2
  generalize val xs2 = N at *
  have e2 := hide (ican_nat a2.out)
  have T2 : Hid (L (N : Int).natAbs ≤ 100) := S2
  have K5 := hide (Blk.new_at w3 (w3.heap.size) (by simp) 25 #[.bool false, .slice A1 n1 c1])
  have y := (Below.refl w3.heap.size w3).alloc (Nat.le_refl _) (.cells #[.bool false, .slice A1 n1 c1] 25)
  replace b0 := hide (below_tr b0.out y)
  clear y
  have K6 := hide (Blk.new_at (w3.alloc (.cells #[.bool false, .slice A1 n1 c1] 25)) (w3.heap.size + 1) (by simp) 25 #[.bool false, .slice A2 n2 c2])
  have y := (Below.refl (w3.alloc (.cells #[.bool false, .slice A1 n1 c1] 25)).heap.size (w3.alloc (.cells #[.bool false, .slice A1 n1 c1] 25))).alloc (Nat.le_refl _) (.cells #[.bool false, .slice A2 n2 c2] 25)
  replace K5 := hide (K5.out.below' y)
  replace b0 := hide (below_tr b0.out y)
  clear y
  have K5c0 := K5.out.at_ 0 rfl
  have K5c1 := K5.out.at_ 1 rfl
  have K6c0 := K6.out.at_ 0 rfl
  have K6c1 := K6.out.at_ 1 rfl
  go_wp2_with fail
  refine (iAdd_ok (ICan.arg (e1.out.below b0.out) (L_up T1.out (by decide))) (ICan.arg (e2.out.below b0.out) (L_up T2.out (by decide)))).mono ?_
  rintro e w4 ⟨v7, rfl, d0, r7⟩
  replace K5 := hide (K5.out.below' d0)
  replace K6 := hide (K6.out.below' d0)
  replace b0 := hide (below_tr b0.out d0)
  clear d0
  clear K5c0 K5c1 K6c0 K6c1
  obtain ⟨A7, n7, c7, rfl, r7'⟩ := r7.nonneg (by omega)
  clear r7
  have s7 := hide r7'.can
  clear r7'
  have K7 := hide (Blk.new_at w4 (w4.heap.size) (by simp) 25 #[.bool false, .slice A7 n7 c7])
  have y := (Below.refl w4.heap.size w4).alloc (Nat.le_refl _) (.cells #[.bool false, .slice A7 n7 c7] 25)
  replace K5 := hide (K5.out.below' y)
  replace K6 := hide (K6.out.below' y)
  replace s7 := hide (s7.out.below y)
  replace b0 := hide (below_tr b0.out y)
  clear y
  go_wp2
  obtain ⟨V, hV⟩ : ∃ V, (w4.alloc (.cells #[.bool false, .slice A7 n7 c7] 25)) = V := ⟨_, rfl⟩
  rw [hV] at s7 K5 K6 K7 b0 ⊢
  clear hV
  have Q1 : Hid (L ((-(M : Int))).natAbs ≤ 100) := Z_neg T1.out
  have Q2 : Hid (L ((-(N : Int))).natAbs ≤ 100) := Z_neg T2.out
  refine wp_region_facts 6 (fun w' => Below V.heap.size V w') [(40, (.int0 w (M : Int))), (41, (.int (-(M : Int)))), (42, (.int0 w (N : Int))), (43, (.int (-(N : Int)))), (44, (.intR (-(M : Int) + -(N : Int)) V.heap.size)), (8, (.var 25 #[.bool false, .slice none 0 0] V.heap.size))] [false, false, false, false, false, false, false, false, true, false, false, false, false, false, false, false, false, false, false, false, false, false, false, false, false, false, false, false, false, false, false, false, false, false, false, false, false, false, false, false, true, true, true, true, true, false, false, false, false, false, false, false, false, false, false, false, false, false, false, false, false, false, false, false, false, false, false, false, false, false, false, false, false, false, false, false, false, false, false, false, false, false, false, false, false, false, false, false, false, false, false, false, false, false, false, false, false, false, false, false, false, false, false, false, false, false, false] mixed (by kernel_rfl) (by kernel_rfl) (by kernel_rfl) (fun _ _ h hb => h.trans (hb.mono h.size)) ((Below.refl _ _).drew) ⟨?_, ?_, ?_, ?_, ?_, ?_, trivial⟩ ?_
  · exact .load (.agg #[.bool false, .slice A1 n1 c1]) (.inl rfl) rfl rfl (fun a w' hC hs hl => by rw [show a.eval (.tmp 5) = (.pointer (some ⟨w3.heap.size, 0, none⟩) : Value) from (hs 5 (by kernel_rfl))]; exact ⟨ld_Int (K5.out.below' hC), e1.out⟩)
  · exact .call (.inl rfl) rfl rfl fn_iNeg (fun a w' hC hs hl => iNeg_C (ICan.arg ((hl 40 (by kernel_rfl) (by kernel_rfl)).below (b0.out.trans (hC.mono b0.out.size))) (L_up T1.out (by decide))))
  · exact .load (.agg #[.bool false, .slice A2 n2 c2]) (.inl rfl) rfl rfl (fun a w' hC hs hl => by rw [show a.eval (.tmp 6) = (.pointer (some ⟨w3.heap.size + 1, 0, none⟩) : Value) from (hs 6 (by kernel_rfl))]; exact ⟨ld_Int (K6.out.below' hC), e2.out⟩)
  · exact .call (.inl rfl) rfl rfl fn_iNeg (fun a w' hC hs hl => iNeg_C (ICan.arg ((hl 42 (by kernel_rfl) (by kernel_rfl)).below (b0.out.trans (hC.mono b0.out.size))) (L_up T2.out (by decide))))
  · exact .call (.inl rfl) rfl rfl fn_iAdd (fun a w' hC hs hl => iAdd_R _ hC.size (ICan.arg (hl 41 (by kernel_rfl) (by kernel_rfl)) (L_up Q1.out (by decide))) (ICan.arg (hl 43 (by kernel_rfl) (by kernel_rfl)) (L_up Q2.out (by decide))))
  · exact .alloc (.agg #[.bool false, .slice none 0 0]) (.inl rfl) rfl rfl (fun a w' hC => ⟨run_alloc_Int _ _ _ _ _ _ _, _, rfl, hC.size, Blk.new _ _ _⟩)
  intro f w21 hC hF _
  have fr : IntR (-(M : Int) + -(N : Int)) V.heap.size w21 (f 44) := hF 44 (by kernel_rfl)
  have fp : ∃ g, f 8 = .pointer (some ⟨g, 0, none⟩) ∧ V.heap.size ≤ g ∧ Blk w21 g 25 #[.bool false, .slice none 0 0] := hF 8 (by kernel_rfl)
  clear hF
  simp only [patch, List.drop]
  obtain ⟨A8, n8, c8, er, q8⟩ := fr.nonpos (by omega)
  clear fr
  obtain ⟨g8, ep, lp, kp⟩ := fp
  have q8 := hide q8
  generalize f 40 = y40 at *
  generalize f 41 = y41 at *
  generalize f 42 = y42 at *
  generalize f 43 = y43 at *
  generalize f 44 = y44 at *
  generalize f 8 = y8 at *
  subst er ep
  have p0 := kp.at_ 0 rfl
  have p1 := kp.at_ 1 rfl
  have p2 := kp.frozen 0
  have p3 := kp.frozen 1
  have K8 := hide ((kp.set_ 0 (.bool (decide (0 < n8)))).set_ 1 (.slice A8 n8 c8))
  have y := hide ((hC.setCell (p := ⟨g8, 0, none⟩) lp (.bool (decide (0 < n8)))).setCell (p := ⟨g8, 1, none⟩) lp (.slice A8 n8 c8))
  have s8 := hide ((q8.out.only kp (by decide) (((Only.refl g8 w21).set 0 (.bool (decide (0 < n8)))).set 1 (.slice A8 n8 c8))).can)
  clear q8 kp
  go_wp2
  clear p0 p1 p2 p3 hC lp
  replace K5 := hide (K5.out.below' y.out)
  replace K6 := hide (K6.out.below' y.out)
  replace s7 := hide (s7.out.below y.out)
  replace K7 := hide (K7.out.below' y.out)
  replace b0 := hide (below_tr b0.out y.out)
  clear y
  obtain ⟨V8, hV⟩ : ∃ V, ((w21.setCell ⟨g8, 0, none⟩ (.bool (decide (0 < n8)))).setCell ⟨g8, 1, none⟩ (.slice A8 n8 c8)) = V := ⟨_, rfl⟩
  rw [hV] at K5 K6 s7 K7 s8 K8 b0 ⊢
  clear hV
  refine wp_region_facts 5 (fun w' => Below V8.heap.size V8 w') [(45, (.int0 w (M : Int))), (46, (.int (-(M : Int)))), (47, (.int0 w (N : Int))), (48, (.intR (-(M : Int) * (N : Int)) V8.heap.size)), (9, (.var 25 #[.bool false, .slice none 0 0] V8.heap.size))] [false, false, false, false, false, false, false, false, false, true, false, false, false, false, false, false, false, false, false, false, false, false, false, false, false, false, false, false, false, false, false, false, false, false, false, false, false, false, false, false, false, false, false, false, false, true, true, true, true, false, false, false, false, false, false, false, false, false, false, false, false, false, false, false, false, false, false, false, false, false, false, false, false, false, false, false, false, false, false, false, false, false, false, false, false, false, false, false, false, false, false, false, false, false, false, false, false, false, false, false, false, false, false, false, false, false, false] mixed (by kernel_rfl) (by kernel_rfl) (by kernel_rfl) (fun _ _ h hb => h.trans (hb.mono h.size)) ((Below.refl _ _).drew) ⟨?_, ?_, ?_, ?_, ?_, trivial⟩ ?_
  · exact .load (.agg #[.bool false, .slice A1 n1 c1]) (.inl rfl) rfl rfl (fun a w' hC hs hl => by rw [show a.eval (.tmp 5) = (.pointer (some ⟨w3.heap.size, 0, none⟩) : Value) from (hs 5 (by kernel_rfl))]; exact ⟨ld_Int (K5.out.below' hC), e1.out⟩)
  · exact .call (.inl rfl) rfl rfl fn_iNeg (fun a w' hC hs hl => iNeg_C (ICan.arg ((hl 45 (by kernel_rfl) (by kernel_rfl)).below (b0.out.trans (hC.mono b0.out.size))) (L_up T1.out (by decide))))
  · exact .load (.agg #[.bool false, .slice A2 n2 c2]) (.inl rfl) rfl rfl (fun a w' hC hs hl => by rw [show a.eval (.tmp 6) = (.pointer (some ⟨w3.heap.size + 1, 0, none⟩) : Value) from (hs 6 (by kernel_rfl))]; exact ⟨ld_Int (K6.out.below' hC), e2.out⟩)
  · exact .call (.inl rfl) rfl rfl fn_iMul (fun a w' hC hs hl => iMul_R _ hC.size (ICan.arg (hl 46 (by kernel_rfl) (by kernel_rfl)) (L_up Q1.out (by decide))) (ICan.arg ((hl 47 (by kernel_rfl) (by kernel_rfl)).below (b0.out.trans (hC.mono b0.out.size))) (L_up T2.out (by decide))))
  · exact .alloc (.agg #[.bool false, .slice none 0 0]) (.inl rfl) rfl rfl (fun a w' hC => ⟨run_alloc_Int _ _ _ _ _ _ _, _, rfl, hC.size, Blk.new _ _ _⟩)
  intro f w22 hC hF _
  have fr : IntR (-(M : Int) * (N : Int)) V8.heap.size w22 (f 48) := hF 48 (by kernel_rfl)
  have fp : ∃ g, f 9 = .pointer (some ⟨g, 0, none⟩) ∧ V8.heap.size ≤ g ∧ Blk w22 g 25 #[.bool false, .slice none 0 0] := hF 9 (by kernel_rfl)
  clear hF
  simp only [patch, List.drop]
  obtain ⟨A9, n9, c9, er, q9⟩ := fr.nonpos (by rw [Int.neg_mul]; have := Int.mul_nonneg (Int.natCast_nonneg M) (Int.natCast_nonneg N); omega)
  clear fr
  obtain ⟨g9, ep, lp, kp⟩ := fp
  have q9 := hide q9
  generalize f 45 = y45 at *
  generalize f 46 = y46 at *
  generalize f 47 = y47 at *
  generalize f 48 = y48 at *
  generalize f 9 = y9 at *
  subst er ep
  have p0 := kp.at_ 0 rfl
  have p1 := kp.at_ 1 rfl
  have p2 := kp.frozen 0
  have p3 := kp.frozen 1
  have K9 := hide ((kp.set_ 0 (.bool (decide (0 < n9)))).set_ 1 (.slice A9 n9 c9))
  have y := hide ((hC.setCell (p := ⟨g9, 0, none⟩) lp (.bool (decide (0 < n9)))).setCell (p := ⟨g9, 1, none⟩) lp (.slice A9 n9 c9))
  have s9 := hide ((q9.out.only kp (by decide) (((Only.refl g9 w22).set 0 (.bool (decide (0 < n9)))).set 1 (.slice A9 n9 c9))).can)
  clear q9 kp
  go_wp2
  clear p0 p1 p2 p3 hC lp
  replace K5 := hide (K5.out.below' y.out)
  replace K6 := hide (K6.out.below' y.out)
  replace s7 := hide (s7.out.below y.out)
  replace K7 := hide (K7.out.below' y.out)
  replace s8 := hide (s8.out.below y.out)
  replace K8 := hide (K8.out.below' y.out)
  replace b0 := hide (below_tr b0.out y.out)
  clear y
  obtain ⟨V9, hV⟩ : ∃ V, ((w22.setCell ⟨g9, 0, none⟩ (.bool (decide (0 < n9)))).setCell ⟨g9, 1, none⟩ (.slice A9 n9 c9)) = V := ⟨_, rfl⟩
  rw [hV] at K5 K6 s7 K7 s8 K8 s9 K9 b0 ⊢
  clear hV
  refine wp_region_facts 59 (fun w' => Below V9.heap.size V9 w') [(49, (.int0 w (M : Int))), (50, .eq (.bool true)), (51, .eq (.bool true)), (52, .eq ((.pointer (some ⟨w4.heap.size, 1, none⟩) : Value))), (53, (.nat ((M : Int) + (N : Int)).natAbs)), (54, (.nat M)), (55, (.nat N)), (56, (.nat (M + N))), (57, .eq (.bool true)), (58, .eq (.bool true)), (59, .eq (.bool true)), (60, .eq ((.pointer (some ⟨w4.heap.size, 0, none⟩) : Value))), (61, .eq (.bool false)), (62, .eq (.bool true)), (63, .eq (.bool true)), (64, .eq (.bool true)), (65, .eq ((.pointer (some ⟨g8, 1, none⟩) : Value))), (66, (.nat (-(M : Int) + -(N : Int)).natAbs)), (67, (.nat M)), (68, (.nat N)), (69, (.nat (M + N))), (70, .eq (.bool true)), (71, .eq (.bool true)), (72, .eq (.bool true)), (73, .eq ((.pointer (some ⟨g8, 0, none⟩) : Value))), (74, .eq (.bool (decide (0 < n8)))), (75, .eq ((.pointer (some ⟨g8, 1, none⟩) : Value))), (76, .eq (.slice A8 n8 c8)), (77, .eq (.int .i64 (n8 : Int))), (78, .eq (.bool (decide (0 < n8)))), (79, .eq (.bool true)), (80, .eq (.bool true)), (81, .eq (.bool true)), (82, .eq ((.pointer (some ⟨g9, 1, none⟩) : Value))), (83, (.nat (-(M : Int) * (N : Int)).natAbs)), (84, (.nat M)), (85, (.nat N)), (86, (.nat (M * N))), (87, .eq (.bool true)), (88, .eq (.bool true)), (89, .eq (.bool true)), (90, .eq ((.pointer (some ⟨g9, 0, none⟩) : Value))), (91, .eq (.bool (decide (0 < n9)))), (92, .eq ((.pointer (some ⟨g9, 1, none⟩) : Value))), (93, .eq (.slice A9 n9 c9)), (94, .eq (.int .i64 (n9 : Int))), (95, .eq (.bool (decide (0 < n9)))), (96, .eq (.bool true)), (97, .eq (.bool true)), (98, .eq (.bool true)), (99, (.int0 w (M : Int))), (100, (.int0 w (N : Int))), (101, .eq (.int .i64 (cmpI (M : Int) (N : Int)))), (102, (.nat M)), (103, (.nat N)), (104, .eq (.int .i64 (cmpI (M : Int) (N : Int)))), (105, .eq (.bool true)), (106, .eq (.bool true)), (4, .eq (.bool true))] [false, false, false, false, true, false, false, false, false, false, false, false, false, false, false, false, false, false, false, false, false, false, false, false, false, false, false, false, false, false, false, false, false, false, false, false, false, false, false, false, false, false, false, false, false, false, false, false, false, true, true, true, true, true, true, true, true, true, true, true, true, true, true, true, true, true, true, true, true, true, true, true, true, true, true, true, true, true, true, true, true, true, true, true, true, true, true, true, true, true, true, true, true, true, true, true, true, true, true, true, true, true, true, true, true, true, true] mixed (by kernel_rfl) (by kernel_rfl) (by kernel_rfl) (fun _ _ h hb => h.trans (hb.mono h.size)) ((Below.refl _ _).drew) ⟨?_, ?_, ?_, ?_, ?_, ?_, ?_, ?_, ?_, ?_, ?_, ?_, ?_, ?_, ?_, ?_, ?_, ?_, ?_, ?_, ?_, ?_, ?_, ?_, ?_, ?_, ?_, ?_, ?_, ?_, ?_, ?_, ?_, ?_, ?_, ?_, ?_, ?_, ?_, ?_, ?_, ?_, ?_, ?_, ?_, ?_, ?_, ?_, ?_, ?_, ?_, ?_, ?_, ?_, ?_, ?_, ?_, ?_, ?_, trivial⟩ ?_
  · exact .load (.agg #[.bool false, .slice A1 n1 c1]) (.inl rfl) rfl rfl (fun a w' hC hs hl => by rw [show a.eval (.tmp 5) = (.pointer (some ⟨w3.heap.size, 0, none⟩) : Value) from (hs 5 (by kernel_rfl))]; exact ⟨ld_Int (K5.out.below' hC), e1.out⟩)
  · exact .call (.inl rfl) rfl rfl fn_iCheck (fun a w' hC hs hl => iCheck_can ((hl 49 (by kernel_rfl) (by kernel_rfl)).below (b0.out.trans (hC.mono b0.out.size))) (L_up T1.out (by decide)))
  · exact .move (.inl rfl) (.inl rfl) rfl (by kernel_rfl) (by kernel_rfl) rfl
  · exact .fieldAddr (.inr ⟨2, true, 51, by decide, rfl, rfl, rfl⟩) rfl rfl rfl (fun a w' hC hs hl => by rw [show a.eval (.tmp 7) = (.pointer (some ⟨w4.heap.size, 0, none⟩) : Value) from (hs 7 (by kernel_rfl))]; exact fa_Int1)
  · exact .load (.slice A7 n7 c7) (.inr ⟨2, true, 51, by decide, rfl, rfl, rfl⟩) rfl rfl (fun a w' hC hs hl => by rw [show a.eval (.tmp 52) = (.pointer (some ⟨w4.heap.size, 1, none⟩) : Value) from (hl 52 (by kernel_rfl) (by kernel_rfl))]; exact ⟨ld_Nat ((K7.out.below' hC).at_ 1 rfl), s7.out.below hC⟩)
  · exact .moveC (.inr ⟨2, true, 51, by decide, rfl, rfl, rfl⟩) (.inl rfl) rfl (fun a w' hC hs => by rw [show a.eval (.tmp 0) = (.slice A1 n1 c1 : Value) from hs 0 (by kernel_rfl)]; exact a1.out.below (b0.out.trans (hC.mono b0.out.size)))
  · exact .moveC (.inr ⟨2, true, 51, by decide, rfl, rfl, rfl⟩) (.inl rfl) rfl (fun a w' hC hs => by rw [show a.eval (.tmp 1) = (.slice A2 n2 c2 : Value) from hs 1 (by kernel_rfl)]; exact a2.out.below (b0.out.trans (hC.mono b0.out.size)))
  · exact .call (.inr ⟨2, true, 51, by decide, rfl, rfl, rfl⟩) rfl rfl fn_Add (fun a w' hC hs hl => nAdd_C (hl 54 (by kernel_rfl) (by kernel_rfl)) (hl 55 (by kernel_rfl) (by kernel_rfl)) (L_up S1.out (by decide)) (L_up S2.out (by decide)))
  · exact .call (.inr ⟨2, true, 51, by decide, rfl, rfl, rfl⟩) rfl rfl fn_SameNat (fun a w' hC hs hl => nSame_yes (hl 53 (by kernel_rfl) (by kernel_rfl)) (hl 56 (by kernel_rfl) (by kernel_rfl)) (by omega))
  · exact .pick (b := true) (.inl rfl) rfl rfl (fun a w' hC hs hl => ⟨(hl 51 (by kernel_rfl) (by kernel_rfl)), (hl 57 (by kernel_rfl) (by kernel_rfl))⟩)
  · exact .move (.inl rfl) (.inl rfl) rfl (by kernel_rfl) (by kernel_rfl) rfl
  · exact .fieldAddr (.inr ⟨10, true, 59, by decide, rfl, rfl, rfl⟩) rfl rfl rfl (fun a w' hC hs hl => by rw [show a.eval (.tmp 7) = (.pointer (some ⟨w4.heap.size, 0, none⟩) : Value) from (hs 7 (by kernel_rfl))]; exact fa_Int0)
  · exact .load (.bool false) (.inr ⟨10, true, 59, by decide, rfl, rfl, rfl⟩) rfl rfl (fun a w' hC hs hl => by rw [show a.eval (.tmp 60) = (.pointer (some ⟨w4.heap.size, 0, none⟩) : Value) from (hl 60 (by kernel_rfl) (by kernel_rfl))]; exact ⟨ld_bool ((K7.out.below' hC).at_ 0 rfl), rfl⟩)
  · exact .value (.inr ⟨10, true, 59, by decide, rfl, rfl, rfl⟩) (by intro T e; cases e) rfl rfl (fun a w' hC hs hl => by
      have e0 : a.eval (.tmp 61) = (.bool false) := (hl 61 (by kernel_rfl) (by kernel_rfl))
      simp only [execOp, e0]
      skip
      simp [go_sem] <;> rfl)
  · exact .pick (b := true) (.inl rfl) rfl rfl (fun a w' hC hs hl => ⟨(hl 59 (by kernel_rfl) (by kernel_rfl)), (hl 62 (by kernel_rfl) (by kernel_rfl))⟩)
  · exact .move (.inl rfl) (.inl rfl) rfl (by kernel_rfl) (by kernel_rfl) rfl
  · exact .fieldAddr (.inr ⟨15, true, 64, by decide, rfl, rfl, rfl⟩) rfl rfl rfl (fun a w' hC hs hl => by rw [show a.eval (.tmp 8) = (.pointer (some ⟨g8, 0, none⟩) : Value) from (hs 8 (by kernel_rfl))]; exact fa_Int1)
  · exact .load (.slice A8 n8 c8) (.inr ⟨15, true, 64, by decide, rfl, rfl, rfl⟩) rfl rfl (fun a w' hC hs hl => by rw [show a.eval (.tmp 65) = (.pointer (some ⟨g8, 1, none⟩) : Value) from (hl 65 (by kernel_rfl) (by kernel_rfl))]; exact ⟨ld_Nat ((K8.out.below' hC).at_ 1 rfl), s8.out.below hC⟩)
  · exact .moveC (.inr ⟨15, true, 64, by decide, rfl, rfl, rfl⟩) (.inl rfl) rfl (fun a w' hC hs => by rw [show a.eval (.tmp 0) = (.slice A1 n1 c1 : Value) from hs 0 (by kernel_rfl)]; exact a1.out.below (b0.out.trans (hC.mono b0.out.size)))
  · exact .moveC (.inr ⟨15, true, 64, by decide, rfl, rfl, rfl⟩) (.inl rfl) rfl (fun a w' hC hs => by rw [show a.eval (.tmp 1) = (.slice A2 n2 c2 : Value) from hs 1 (by kernel_rfl)]; exact a2.out.below (b0.out.trans (hC.mono b0.out.size)))
  · exact .call (.inr ⟨15, true, 64, by decide, rfl, rfl, rfl⟩) rfl rfl fn_Add (fun a w' hC hs hl => nAdd_C (hl 67 (by kernel_rfl) (by kernel_rfl)) (hl 68 (by kernel_rfl) (by kernel_rfl)) (L_up S1.out (by decide)) (L_up S2.out (by decide)))
  · exact .call (.inr ⟨15, true, 64, by decide, rfl, rfl, rfl⟩) rfl rfl fn_SameNat (fun a w' hC hs hl => nSame_yes (hl 66 (by kernel_rfl) (by kernel_rfl)) (hl 69 (by kernel_rfl) (by kernel_rfl)) (by omega))
  · exact .pick (b := true) (.inl rfl) rfl rfl (fun a w' hC hs hl => ⟨(hl 64 (by kernel_rfl) (by kernel_rfl)), (hl 70 (by kernel_rfl) (by kernel_rfl))⟩)
  · exact .move (.inl rfl) (.inl rfl) rfl (by kernel_rfl) (by kernel_rfl) rfl
  · exact .fieldAddr (.inr ⟨23, true, 72, by decide, rfl, rfl, rfl⟩) rfl rfl rfl (fun a w' hC hs hl => by rw [show a.eval (.tmp 8) = (.pointer (some ⟨g8, 0, none⟩) : Value) from (hs 8 (by kernel_rfl))]; exact fa_Int0)
  · exact .load (.bool (decide (0 < n8))) (.inr ⟨23, true, 72, by decide, rfl, rfl, rfl⟩) rfl rfl (fun a w' hC hs hl => by rw [show a.eval (.tmp 73) = (.pointer (some ⟨g8, 0, none⟩) : Value) from (hl 73 (by kernel_rfl) (by kernel_rfl))]; exact ⟨ld_bool ((K8.out.below' hC).at_ 0 rfl), rfl⟩)
  · exact .fieldAddr (.inr ⟨23, true, 72, by decide, rfl, rfl, rfl⟩) rfl rfl rfl (fun a w' hC hs hl => by rw [show a.eval (.tmp 8) = (.pointer (some ⟨g8, 0, none⟩) : Value) from (hs 8 (by kernel_rfl))]; exact fa_Int1)
  · exact .load (.slice A8 n8 c8) (.inr ⟨23, true, 72, by decide, rfl, rfl, rfl⟩) rfl rfl (fun a w' hC hs hl => by rw [show a.eval (.tmp 75) = (.pointer (some ⟨g8, 1, none⟩) : Value) from (hl 75 (by kernel_rfl) (by kernel_rfl))]; exact ⟨ld_Nat ((K8.out.below' hC).at_ 1 rfl), rfl⟩)
  · exact .value (.inr ⟨23, true, 72, by decide, rfl, rfl, rfl⟩) (by intro T e; cases e) rfl rfl (fun a w' hC hs hl => by
      have e0 : a.eval (.tmp 76) = (.slice A8 n8 c8) := (hl 76 (by kernel_rfl) (by kernel_rfl))
      simp only [execOp, e0]
      skip
      have e9 : a.tmps[76]?.getD undef = (.slice A8 n8 c8) := by simpa [Act.eval] using e0
      simp [go_sem, e9])
  · exact .value (.inr ⟨23, true, 72, by decide, rfl, rfl, rfl⟩) (by intro T e; cases e) rfl rfl (fun a w' hC hs hl => by
      have e0 : a.eval (.tmp 77) = (.int .i64 (n8 : Int)) := (hl 77 (by kernel_rfl) (by kernel_rfl))
      simp only [execOp, e0]
      simp only [Act.eval]
      simp [go_sem])
  · exact .value (.inr ⟨23, true, 72, by decide, rfl, rfl, rfl⟩) (by intro T e; cases e) rfl rfl (fun a w' hC hs hl => by
      have e0 : a.eval (.tmp 74) = (.bool (decide (0 < n8))) := (hl 74 (by kernel_rfl) (by kernel_rfl))
      have e1 : a.eval (.tmp 78) = (.bool (decide (0 < n8))) := (hl 78 (by kernel_rfl) (by kernel_rfl))
      simp only [execOp, e0, e1]
      skip
      simp [go_sem] <;> rfl)
  · exact .pick (b := true) (.inl rfl) rfl rfl (fun a w' hC hs hl => ⟨(hl 72 (by kernel_rfl) (by kernel_rfl)), (hl 79 (by kernel_rfl) (by kernel_rfl))⟩)
  · exact .move (.inl rfl) (.inl rfl) rfl (by kernel_rfl) (by kernel_rfl) rfl
  · exact .fieldAddr (.inr ⟨32, true, 81, by decide, rfl, rfl, rfl⟩) rfl rfl rfl (fun a w' hC hs hl => by rw [show a.eval (.tmp 9) = (.pointer (some ⟨g9, 0, none⟩) : Value) from (hs 9 (by kernel_rfl))]; exact fa_Int1)
  · exact .load (.slice A9 n9 c9) (.inr ⟨32, true, 81, by decide, rfl, rfl, rfl⟩) rfl rfl (fun a w' hC hs hl => by rw [show a.eval (.tmp 82) = (.pointer (some ⟨g9, 1, none⟩) : Value) from (hl 82 (by kernel_rfl) (by kernel_rfl))]; exact ⟨ld_Nat ((K9.out.below' hC).at_ 1 rfl), s9.out.below hC⟩)
  · exact .moveC (.inr ⟨32, true, 81, by decide, rfl, rfl, rfl⟩) (.inl rfl) rfl (fun a w' hC hs => by rw [show a.eval (.tmp 0) = (.slice A1 n1 c1 : Value) from hs 0 (by kernel_rfl)]; exact a1.out.below (b0.out.trans (hC.mono b0.out.size)))
  · exact .moveC (.inr ⟨32, true, 81, by decide, rfl, rfl, rfl⟩) (.inl rfl) rfl (fun a w' hC hs => by rw [show a.eval (.tmp 1) = (.slice A2 n2 c2 : Value) from hs 1 (by kernel_rfl)]; exact a2.out.below (b0.out.trans (hC.mono b0.out.size)))
  · exact .call (.inr ⟨32, true, 81, by decide, rfl, rfl, rfl⟩) rfl rfl fn_Mul (fun a w' hC hs hl => nMul_C (hl 84 (by kernel_rfl) (by kernel_rfl)) (hl 85 (by kernel_rfl) (by kernel_rfl)) (L_up S1.out (by decide)) (L_up S2.out (by decide)))
  · exact .call (.inr ⟨32, true, 81, by decide, rfl, rfl, rfl⟩) rfl rfl fn_SameNat (fun a w' hC hs hl => nSame_yes (hl 83 (by kernel_rfl) (by kernel_rfl)) (hl 86 (by kernel_rfl) (by kernel_rfl)) (by rw [Int.natAbs_mul, Int.natAbs_neg]; rfl))
  · exact .pick (b := true) (.inl rfl) rfl rfl (fun a w' hC hs hl => ⟨(hl 81 (by kernel_rfl) (by kernel_rfl)), (hl 87 (by kernel_rfl) (by kernel_rfl))⟩)
  · exact .move (.inl rfl) (.inl rfl) rfl (by kernel_rfl) (by kernel_rfl) rfl
  · exact .fieldAddr (.inr ⟨40, true, 89, by decide, rfl, rfl, rfl⟩) rfl rfl rfl (fun a w' hC hs hl => by rw [show a.eval (.tmp 9) = (.pointer (some ⟨g9, 0, none⟩) : Value) from (hs 9 (by kernel_rfl))]; exact fa_Int0)
  · exact .load (.bool (decide (0 < n9))) (.inr ⟨40, true, 89, by decide, rfl, rfl, rfl⟩) rfl rfl (fun a w' hC hs hl => by rw [show a.eval (.tmp 90) = (.pointer (some ⟨g9, 0, none⟩) : Value) from (hl 90 (by kernel_rfl) (by kernel_rfl))]; exact ⟨ld_bool ((K9.out.below' hC).at_ 0 rfl), rfl⟩)
  · exact .fieldAddr (.inr ⟨40, true, 89, by decide, rfl, rfl, rfl⟩) rfl rfl rfl (fun a w' hC hs hl => by rw [show a.eval (.tmp 9) = (.pointer (some ⟨g9, 0, none⟩) : Value) from (hs 9 (by kernel_rfl))]; exact fa_Int1)
  · exact .load (.slice A9 n9 c9) (.inr ⟨40, true, 89, by decide, rfl, rfl, rfl⟩) rfl rfl (fun a w' hC hs hl => by rw [show a.eval (.tmp 92) = (.pointer (some ⟨g9, 1, none⟩) : Value) from (hl 92 (by kernel_rfl) (by kernel_rfl))]; exact ⟨ld_Nat ((K9.out.below' hC).at_ 1 rfl), rfl⟩)
  · exact .value (.inr ⟨40, true, 89, by decide, rfl, rfl, rfl⟩) (by intro T e; cases e) rfl rfl (fun a w' hC hs hl => by
      have e0 : a.eval (.tmp 93) = (.slice A9 n9 c9) := (hl 93 (by kernel_rfl) (by kernel_rfl))
      simp only [execOp, e0]
      skip
      have e9 : a.tmps[93]?.getD undef = (.slice A9 n9 c9) := by simpa [Act.eval] using e0
      simp [go_sem, e9])
  · exact .value (.inr ⟨40, true, 89, by decide, rfl, rfl, rfl⟩) (by intro T e; cases e) rfl rfl (fun a w' hC hs hl => by
      have e0 : a.eval (.tmp 94) = (.int .i64 (n9 : Int)) := (hl 94 (by kernel_rfl) (by kernel_rfl))
      simp only [execOp, e0]
      simp only [Act.eval]
      simp [go_sem])
  · exact .value (.inr ⟨40, true, 89, by decide, rfl, rfl, rfl⟩) (by intro T e; cases e) rfl rfl (fun a w' hC hs hl => by
      have e0 : a.eval (.tmp 91) = (.bool (decide (0 < n9))) := (hl 91 (by kernel_rfl) (by kernel_rfl))
      have e1 : a.eval (.tmp 95) = (.bool (decide (0 < n9))) := (hl 95 (by kernel_rfl) (by kernel_rfl))
      simp only [execOp, e0, e1]
      skip
      simp [go_sem] <;> rfl)
  · exact .pick (b := true) (.inl rfl) rfl rfl (fun a w' hC hs hl => ⟨(hl 89 (by kernel_rfl) (by kernel_rfl)), (hl 96 (by kernel_rfl) (by kernel_rfl))⟩)
  · exact .move (.inl rfl) (.inl rfl) rfl (by kernel_rfl) (by kernel_rfl) rfl
  · exact .load (.agg #[.bool false, .slice A1 n1 c1]) (.inr ⟨49, true, 98, by decide, rfl, rfl, rfl⟩) rfl rfl (fun a w' hC hs hl => by rw [show a.eval (.tmp 5) = (.pointer (some ⟨w3.heap.size, 0, none⟩) : Value) from (hs 5 (by kernel_rfl))]; exact ⟨ld_Int (K5.out.below' hC), e1.out⟩)
  · exact .load (.agg #[.bool false, .slice A2 n2 c2]) (.inr ⟨49, true, 98, by decide, rfl, rfl, rfl⟩) rfl rfl (fun a w' hC hs hl => by rw [show a.eval (.tmp 6) = (.pointer (some ⟨w3.heap.size + 1, 0, none⟩) : Value) from (hs 6 (by kernel_rfl))]; exact ⟨ld_Int (K6.out.below' hC), e2.out⟩)
  · exact .call (.inr ⟨49, true, 98, by decide, rfl, rfl, rfl⟩) rfl rfl fn_iCmp (fun a w' hC hs hl => iCmp_eq (ICan.arg ((hl 99 (by kernel_rfl) (by kernel_rfl)).below (b0.out.trans (hC.mono b0.out.size))) (L_up T1.out (by decide))) (ICan.arg ((hl 100 (by kernel_rfl) (by kernel_rfl)).below (b0.out.trans (hC.mono b0.out.size))) (L_up T2.out (by decide))) (rfl))
  · exact .moveC (.inr ⟨49, true, 98, by decide, rfl, rfl, rfl⟩) (.inl rfl) rfl (fun a w' hC hs => by rw [show a.eval (.tmp 0) = (.slice A1 n1 c1 : Value) from hs 0 (by kernel_rfl)]; exact a1.out.below (b0.out.trans (hC.mono b0.out.size)))
  · exact .moveC (.inr ⟨49, true, 98, by decide, rfl, rfl, rfl⟩) (.inl rfl) rfl (fun a w' hC hs => by rw [show a.eval (.tmp 1) = (.slice A2 n2 c2 : Value) from hs 1 (by kernel_rfl)]; exact a2.out.below (b0.out.trans (hC.mono b0.out.size)))
  · exact .call (.inr ⟨49, true, 98, by decide, rfl, rfl, rfl⟩) rfl rfl fn_Cmp (fun a w' hC hs hl => nCmp_eq (hl 102 (by kernel_rfl) (by kernel_rfl)) (hl 103 (by kernel_rfl) (by kernel_rfl)) (L_up S1.out (by decide)) (L_up S2.out (by decide)))
  · exact .value (.inr ⟨49, true, 98, by decide, rfl, rfl, rfl⟩) (by intro T e; cases e) rfl rfl (fun a w' hC hs hl => by
      have e0 : a.eval (.tmp 101) = (.int .i64 (cmpI (M : Int) (N : Int))) := (hl 101 (by kernel_rfl) (by kernel_rfl))
      have e1 : a.eval (.tmp 104) = (.int .i64 (cmpI (M : Int) (N : Int))) := (hl 104 (by kernel_rfl) (by kernel_rfl))
      simp only [execOp, e0, e1]
      skip
      simp [go_sem] <;> rfl)
  · exact .pick (b := true) (.inl rfl) rfl rfl (fun a w' hC hs hl => ⟨(hl 98 (by kernel_rfl) (by kernel_rfl)), (hl 105 (by kernel_rfl) (by kernel_rfl))⟩)
  · exact .move (.inl rfl) (.inr rfl) rfl (by kernel_rfl) (by kernel_rfl) rfl
  intro f w9 hC hF _
  have f6 : f 4 = .bool true := hF 4 (by kernel_rfl)
  clear hF
  simp only [patch, List.drop]
  have B9 := hide (b0.out.trans (hC.mono b0.out.size))
  clear hC
  rw [f6]
  go_wp2
  exact opq_end hR ⟨rfl, B9⟩
end Go.Proofs.YtcdejccbamjdoaaDoor
