/- rats: cross. -/
import Derived.Test.YtnpfochbpdfcmaaGreatDoorKc
import Derived.Test.YtnpfochbpdfcmaaGreatDoorFree5
set_option linter.unusedVariables false
set_option linter.unusedSimpArgs false
set_option maxRecDepth 100000
namespace Go.Proofs.YtnpfochbpdfcmaaGreatDoor
open Go.RowKit

section
variable {w : World} {g : Nat}
theorem fa_Rat0_ {i : Nat} : (Instr.fieldAt 27 (.pointer (some ⟨g, i, none⟩)) 0).run Tryz.prog w = .ok (.pointer (some ⟨g, i, none⟩)) w := by simp [go_sem]
theorem fa_Rat1_ {i : Nat} : (Instr.fieldAt 27 (.pointer (some ⟨g, i, none⟩)) 1).run Tryz.prog w = .ok (.pointer (some ⟨g, i + 2, none⟩)) w := by simp [go_sem]
theorem fa_Int0_ {i : Nat} : (Instr.fieldAt 25 (.pointer (some ⟨g, i, none⟩)) 0).run Tryz.prog w = .ok (.pointer (some ⟨g, i, none⟩)) w := by simp [go_sem]
theorem fa_Int1_ {i : Nat} : (Instr.fieldAt 25 (.pointer (some ⟨g, i, none⟩)) 1).run Tryz.prog w = .ok (.pointer (some ⟨g, i + 1, none⟩)) w := by simp [go_sem]
theorem ld_Int_ {i : Nat} {b u : Value} (h0 : w.cell? ⟨g, i, none⟩ = some b) (h1 : w.cell? ⟨g, i + 1, none⟩ = some u) : (Instr.loadAt 25 (.pointer (some ⟨g, i, none⟩))).run Tryz.prog w = .ok (.agg #[b, u]) w := by
  simp [go_sem, h0, h1]
theorem ld_Rat_ {i : Nat} {b u d : Value} (h0 : w.cell? ⟨g, i, none⟩ = some b) (h1 : w.cell? ⟨g, i + 1, none⟩ = some u) (h2 : w.cell? ⟨g, i + 2, none⟩ = some d) : (Instr.loadAt 27 (.pointer (some ⟨g, i, none⟩))).run Tryz.prog w = .ok (.agg #[b, u, d]) w := by
  simp [go_sem, h0, h1, h2]
end
theorem fn_rof (args : Array Value) (w : World) : (callFunc 49 args).run Tryz.prog w = .ok (.enter 49 args) w := callFunc_enter Tryz.func49 (by kernel_rfl) rfl args w
def Fact.ints2 (x y : Int) (B : Nat) : Fact := ⟨fun v w => ∃ b1 A1 n1 c1 b2 A2 n2 c2, v = .agg #[.bool b1, .slice A1 n1 c1, .bool b2, .slice A2 n2 c2] ∧ IntR x B w (.agg #[.bool b1, .slice A1 n1 c1]) ∧ IntR y B w (.agg #[.bool b2, .slice A2 n2 c2]),
  fun _ _ _ ⟨b1, A1, n1, c1, b2, A2, n2, c2, e, h1, h2⟩ hb => ⟨b1, A1, n1, c1, b2, A2, n2, c2, e, h1.below hb, h2.below hb⟩⟩
theorem den_L {q : Rat} {k : Nat} (h : H q k) : L ((q.den : Int)).natAbs ≤ k := by rw [Int.natAbs_natCast]; exact h.2
theorem iMul_R {w : World} {v v' : Value} {x y : Int} (B : Nat) (hB : B ≤ w.heap.size) (h : IArg w v x) (h' : IArg w v' y) :
    Calls Tryz.prog 28 #[v, v'] w fun e w' => ∃ u, e = .returned u ∧ Below w.heap.size w w' ∧ IntR (x * y) B w' u :=
  (iMul_ok h h').mono fun e w' ⟨u, h1, h2, h3⟩ => ⟨u, h1, h2, h3.mono hB⟩
set_option maxHeartbeats 1000000 in
theorem rcross_P {w : World} {v v' : Value} {p q : Rat} (h : RArg w v p) (h' : RArg w v' q) (hT : Tab w) :
    Calls Tryz.prog 76 #[v, v'] w fun e w' => ∃ b1 A1 n1 c1 b2 A2 n2 c2 D m k, e = .returned (.tuple #[.agg #[.bool b1, .slice A1 n1 c1, .bool b2, .slice A2 n2 c2], .slice D m k]) ∧ Below w.heap.size w w' ∧ ICan w' (.agg #[.bool b1, .slice A1 n1 c1]) (p.num * (q.den : Int)) ∧ ICan w' (.agg #[.bool b2, .slice A2 n2 c2]) (q.num * (p.den : Int)) ∧ Can w' (.slice D m k) (p.den * q.den) := by
  refine opq fun R hR => ?_
  obtain ⟨b1, A1, n1, c1, D1, m1, k1, rfl⟩ := h.slice
  obtain ⟨b2, A2, n2, c2, D2, m2, k2, rfl⟩ := h'.slice
  have S1 := hide h.size
  have S2 := hide h'.size
  replace h := hide h
  replace h' := hide h'
  have T := hide hT
  clear hT
  go_enter Tryz.func76, Tryz.ntmps76
  have b0 := hide (Below.refl w.heap.size w)
  have K1 := hide (Blk.new_at w (w.heap.size) (by simp) 27 #[.bool b1, .slice A1 n1 c1, .slice D1 m1 k1])
  have y := (Below.refl w.heap.size w).alloc (Nat.le_refl _) (.cells #[.bool b1, .slice A1 n1 c1, .slice D1 m1 k1] 27)
  replace b0 := hide (below_tr b0.out y)
  clear y
  have K2 := hide (Blk.new_at (w.alloc (.cells #[.bool b1, .slice A1 n1 c1, .slice D1 m1 k1] 27)) (w.heap.size + 1) (by simp) 27 #[.bool b2, .slice A2 n2 c2, .slice D2 m2 k2])
  have y := (Below.refl (w.alloc (.cells #[.bool b1, .slice A1 n1 c1, .slice D1 m1 k1] 27)).heap.size (w.alloc (.cells #[.bool b1, .slice A1 n1 c1, .slice D1 m1 k1] 27))).alloc (Nat.le_refl _) (.cells #[.bool b2, .slice A2 n2 c2, .slice D2 m2 k2] 27)
  replace K1 := hide (K1.out.below' y)
  replace b0 := hide (below_tr b0.out y)
  clear y
  have K3 := hide (Blk.new_at ((w.alloc (.cells #[.bool b1, .slice A1 n1 c1, .slice D1 m1 k1] 27)).alloc (.cells #[.bool b2, .slice A2 n2 c2, .slice D2 m2 k2] 27)) (w.heap.size + 1 + 1) (by simp) 101 #[.bool false, .slice none 0 0, .bool false, .slice none 0 0])
  have y := (Below.refl ((w.alloc (.cells #[.bool b1, .slice A1 n1 c1, .slice D1 m1 k1] 27)).alloc (.cells #[.bool b2, .slice A2 n2 c2, .slice D2 m2 k2] 27)).heap.size ((w.alloc (.cells #[.bool b1, .slice A1 n1 c1, .slice D1 m1 k1] 27)).alloc (.cells #[.bool b2, .slice A2 n2 c2, .slice D2 m2 k2] 27))).alloc (Nat.le_refl _) (.cells #[.bool false, .slice none 0 0, .bool false, .slice none 0 0] 101)
  replace K1 := hide (K1.out.below' y)
  replace K2 := hide (K2.out.below' y)
  replace b0 := hide (below_tr b0.out y)
  clear y
  go_wp2
  obtain ⟨V1_0, hV⟩ : ∃ V, (((w.alloc (.cells #[.bool b1, .slice A1 n1 c1, .slice D1 m1 k1] 27)).alloc (.cells #[.bool b2, .slice A2 n2 c2, .slice D2 m2 k2] 27)).alloc (.cells #[.bool false, .slice none 0 0, .bool false, .slice none 0 0] 101)) = V := ⟨_, rfl⟩
  rw [hV] at K1 K2 K3 b0
  rw [hV]
  clear hV
  refine wp_region_facts 4 (fun w' => Below V1_0.heap.size V1_0 w') [(6, (.rarg0 w p)), (7, (.rold w p w.heap.size)), (8, (.rarg0 w q)), (9, (.rold w q w.heap.size))] [false, false, false, false, false, false, true, true, true, true, false, false, false, false, false, false, false, false, false, false, false, false, false, false, false, false, false, false] mixed (by kernel_rfl) (by kernel_rfl) (by kernel_rfl) (fun _ _ h hb => h.trans (hb.mono h.size)) ((Below.refl _ _).drew) ⟨?_, ?_, ?_, ?_, trivial⟩ ?_
  · exact .load (.agg #[.bool b1, .slice A1 n1 c1, .slice D1 m1 k1]) (.inl rfl) rfl rfl (fun a w' hC hs hl => by rw [show a.eval (.tmp 2) = (.pointer (some ⟨w.heap.size, 0, none⟩) : Value) from (hs 2 (by kernel_rfl))]; exact ⟨ld_Rat_ ((K1.out.below' hC).at_ 0 rfl) ((K1.out.below' hC).at_ 1 rfl) ((K1.out.below' hC).at_ 2 rfl), h.out⟩)
  · exact .call (.inl rfl) rfl rfl fn_rof (fun a w' hC hs hl => rof_P (hl 6 (by kernel_rfl) (by kernel_rfl)) (b0.out.trans (hC.mono b0.out.size)) (T.out.below (b0.out.trans (hC.mono b0.out.size))) w.heap.size (Nat.le_trans b0.out.size hC.size))
  · exact .load (.agg #[.bool b2, .slice A2 n2 c2, .slice D2 m2 k2]) (.inl rfl) rfl rfl (fun a w' hC hs hl => by rw [show a.eval (.tmp 3) = (.pointer (some ⟨w.heap.size + 1, 0, none⟩) : Value) from (hs 3 (by kernel_rfl))]; exact ⟨ld_Rat_ ((K2.out.below' hC).at_ 0 rfl) ((K2.out.below' hC).at_ 1 rfl) ((K2.out.below' hC).at_ 2 rfl), h'.out⟩)
  · exact .call (.inl rfl) rfl rfl fn_rof (fun a w' hC hs hl => rof_P (hl 8 (by kernel_rfl) (by kernel_rfl)) (b0.out.trans (hC.mono b0.out.size)) (T.out.below (b0.out.trans (hC.mono b0.out.size))) w.heap.size (Nat.le_trans b0.out.size hC.size))
  intro f w1 hC hF _
  have P1 : ROld w p w.heap.size w1 (f 7) := hF 7 (by kernel_rfl)
  have P2 : ROld w q w.heap.size w1 (f 9) := hF 9 (by kernel_rfl)
  clear hF
  simp only [patch, List.drop]
  obtain ⟨b7, A7, n7, c7, D7, m7, k7, e7⟩ := P1.slice
  obtain ⟨b9, A9, n9, c9, D9, m9, k9, e9⟩ := P2.slice
  replace P1 := hide P1
  replace P2 := hide P2
  generalize f 7 = v7 at *
  generalize f 9 = v9 at *
  generalize f 6 = y6 at *
  generalize f 8 = y8 at *
  subst e7 e9
  replace K1 := hide (K1.out.below' hC)
  replace K2 := hide (K2.out.below' hC)
  replace K3 := hide (K3.out.below' hC)
  replace b0 := hide (b0.out.trans (hC.mono b0.out.size))
  clear hC
  have K1f0 : w1.frozen? ⟨w.heap.size, 0, none⟩ = false := K1.out.frozen 0
  have K1f1 : w1.frozen? ⟨w.heap.size, 1, none⟩ = false := K1.out.frozen 1
  have K1f2 : w1.frozen? ⟨w.heap.size, 2, none⟩ = false := K1.out.frozen 2
  have K2f0 : w1.frozen? ⟨w.heap.size + 1, 0, none⟩ = false := K2.out.frozen 0
  have K2f1 : w1.frozen? ⟨w.heap.size + 1, 1, none⟩ = false := K2.out.frozen 1
  have K2f2 : w1.frozen? ⟨w.heap.size + 1, 2, none⟩ = false := K2.out.frozen 2
  have K1c0 : w1.cell? ⟨w.heap.size, 0, none⟩ = some (.bool b1) := K1.out.at_ 0 rfl
  have K1c1 : w1.cell? ⟨w.heap.size, 1, none⟩ = some (.slice A1 n1 c1) := K1.out.at_ 1 rfl
  have K1c2 : w1.cell? ⟨w.heap.size, 2, none⟩ = some (.slice D1 m1 k1) := K1.out.at_ 2 rfl
  have K2c0 : w1.cell? ⟨w.heap.size + 1, 0, none⟩ = some (.bool b2) := K2.out.at_ 0 rfl
  have K2c1 : w1.cell? ⟨w.heap.size + 1, 1, none⟩ = some (.slice A2 n2 c2) := K2.out.at_ 1 rfl
  have K2c2 : w1.cell? ⟨w.heap.size + 1, 2, none⟩ = some (.slice D2 m2 k2) := K2.out.at_ 2 rfl
  go_wp2_with fail
  clear K1c0 K1c1 K1c2 K2c0 K2c1 K2c2
  clear K1f0 K1f1 K1f2 K2f0 K2f1 K2f2
  have F : Only (w.heap.size) w1 (((w1.setCell ⟨w.heap.size, 0, none⟩ (.bool b7)).setCell ⟨w.heap.size, 1, none⟩ (.slice A7 n7 c7)).setCell ⟨w.heap.size, 2, none⟩ (.slice D7 m7 k7)) := ((((Only.refl _ _).set _ _).set _ _).set _ _)
  replace P1 := hide (P1.out.only K1.out (by decide) F)
  replace P2 := hide (P2.out.only K1.out (by decide) F)
  replace K2 := hide (((K2.out.far (p := ⟨w.heap.size, 0, none⟩) (by first | (simp; done) | (simp; omega)) (.bool b7)).far (p := ⟨w.heap.size, 1, none⟩) (by first | (simp; done) | (simp; omega)) (.slice A7 n7 c7)).far (p := ⟨w.heap.size, 2, none⟩) (by first | (simp; done) | (simp; omega)) (.slice D7 m7 k7))
  replace K3 := hide (((K3.out.far (p := ⟨w.heap.size, 0, none⟩) (by first | (simp; done) | (simp; omega)) (.bool b7)).far (p := ⟨w.heap.size, 1, none⟩) (by first | (simp; done) | (simp; omega)) (.slice A7 n7 c7)).far (p := ⟨w.heap.size, 2, none⟩) (by first | (simp; done) | (simp; omega)) (.slice D7 m7 k7))
  have by_ : Hid (Below w.heap.size w (((w1.setCell ⟨w.heap.size, 0, none⟩ (.bool b7)).setCell ⟨w.heap.size, 1, none⟩ (.slice A7 n7 c7)).setCell ⟨w.heap.size, 2, none⟩ (.slice D7 m7 k7))) := (((b0.out.setCell (p := ⟨w.heap.size, 0, none⟩) (by first | exact Nat.le_refl _ | (simp; done) | (simp; omega)) (.bool b7)).setCell (p := ⟨w.heap.size, 1, none⟩) (by first | exact Nat.le_refl _ | (simp; done) | (simp; omega)) (.slice A7 n7 c7)).setCell (p := ⟨w.heap.size, 2, none⟩) (by first | exact Nat.le_refl _ | (simp; done) | (simp; omega)) (.slice D7 m7 k7))
  replace K1 : Hid (Blk (((w1.setCell ⟨w.heap.size, 0, none⟩ (.bool b7)).setCell ⟨w.heap.size, 1, none⟩ (.slice A7 n7 c7)).setCell ⟨w.heap.size, 2, none⟩ (.slice D7 m7 k7)) (w.heap.size) 27 #[.bool b7, .slice A7 n7 c7, .slice D7 m7 k7]) := (((K1.out.set_ 0 (.bool b7)).set_ 1 (.slice A7 n7 c7)).set_ 2 (.slice D7 m7 k7))
  replace b0 := by_
  clear by_ F
  have F : Only (w.heap.size + 1) (((w1.setCell ⟨w.heap.size, 0, none⟩ (.bool b7)).setCell ⟨w.heap.size, 1, none⟩ (.slice A7 n7 c7)).setCell ⟨w.heap.size, 2, none⟩ (.slice D7 m7 k7)) ((((((w1.setCell ⟨w.heap.size, 0, none⟩ (.bool b7)).setCell ⟨w.heap.size, 1, none⟩ (.slice A7 n7 c7)).setCell ⟨w.heap.size, 2, none⟩ (.slice D7 m7 k7)).setCell ⟨w.heap.size + 1, 0, none⟩ (.bool b9)).setCell ⟨w.heap.size + 1, 1, none⟩ (.slice A9 n9 c9)).setCell ⟨w.heap.size + 1, 2, none⟩ (.slice D9 m9 k9)) := ((((Only.refl _ _).set _ _).set _ _).set _ _)
  replace P1 := hide (P1.out.only K2.out (by decide) F)
  replace P2 := hide (P2.out.only K2.out (by decide) F)
  replace K1 := hide (((K1.out.far (p := ⟨w.heap.size + 1, 0, none⟩) (by first | (simp; done) | (simp; omega)) (.bool b9)).far (p := ⟨w.heap.size + 1, 1, none⟩) (by first | (simp; done) | (simp; omega)) (.slice A9 n9 c9)).far (p := ⟨w.heap.size + 1, 2, none⟩) (by first | (simp; done) | (simp; omega)) (.slice D9 m9 k9))
  replace K3 := hide (((K3.out.far (p := ⟨w.heap.size + 1, 0, none⟩) (by first | (simp; done) | (simp; omega)) (.bool b9)).far (p := ⟨w.heap.size + 1, 1, none⟩) (by first | (simp; done) | (simp; omega)) (.slice A9 n9 c9)).far (p := ⟨w.heap.size + 1, 2, none⟩) (by first | (simp; done) | (simp; omega)) (.slice D9 m9 k9))
  have by_ : Hid (Below w.heap.size w ((((((w1.setCell ⟨w.heap.size, 0, none⟩ (.bool b7)).setCell ⟨w.heap.size, 1, none⟩ (.slice A7 n7 c7)).setCell ⟨w.heap.size, 2, none⟩ (.slice D7 m7 k7)).setCell ⟨w.heap.size + 1, 0, none⟩ (.bool b9)).setCell ⟨w.heap.size + 1, 1, none⟩ (.slice A9 n9 c9)).setCell ⟨w.heap.size + 1, 2, none⟩ (.slice D9 m9 k9))) := (((b0.out.setCell (p := ⟨w.heap.size + 1, 0, none⟩) (by first | exact Nat.le_refl _ | (simp; done) | (simp; omega)) (.bool b9)).setCell (p := ⟨w.heap.size + 1, 1, none⟩) (by first | exact Nat.le_refl _ | (simp; done) | (simp; omega)) (.slice A9 n9 c9)).setCell (p := ⟨w.heap.size + 1, 2, none⟩) (by first | exact Nat.le_refl _ | (simp; done) | (simp; omega)) (.slice D9 m9 k9))
  replace K2 : Hid (Blk ((((((w1.setCell ⟨w.heap.size, 0, none⟩ (.bool b7)).setCell ⟨w.heap.size, 1, none⟩ (.slice A7 n7 c7)).setCell ⟨w.heap.size, 2, none⟩ (.slice D7 m7 k7)).setCell ⟨w.heap.size + 1, 0, none⟩ (.bool b9)).setCell ⟨w.heap.size + 1, 1, none⟩ (.slice A9 n9 c9)).setCell ⟨w.heap.size + 1, 2, none⟩ (.slice D9 m9 k9)) (w.heap.size + 1) 27 #[.bool b9, .slice A9 n9 c9, .slice D9 m9 k9]) := (((K2.out.set_ 0 (.bool b9)).set_ 1 (.slice A9 n9 c9)).set_ 2 (.slice D9 m9 k9))
  replace b0 := by_
  clear by_ F
  obtain ⟨V2_1, hV⟩ : ∃ V, ((((((w1.setCell ⟨w.heap.size, 0, none⟩ (.bool b7)).setCell ⟨w.heap.size, 1, none⟩ (.slice A7 n7 c7)).setCell ⟨w.heap.size, 2, none⟩ (.slice D7 m7 k7)).setCell ⟨w.heap.size + 1, 0, none⟩ (.bool b9)).setCell ⟨w.heap.size + 1, 1, none⟩ (.slice A9 n9 c9)).setCell ⟨w.heap.size + 1, 2, none⟩ (.slice D9 m9 k9)) = V := ⟨_, rfl⟩
  rw [hV] at K1 K2 K3 P1 P2 b0
  rw [hV]
  clear hV
  have C1 := hide (P1.out.can b0.out)
  have C2 := hide (P2.out.can b0.out)
  clear P1 P2
  refine wp_region_facts 18 (fun w' => Below V2_1.heap.size V2_1 w') [(10, .eq ((.pointer (some ⟨w.heap.size, 0, none⟩) : Value))), (11, (.int0 V2_1 p.num)), (12, .eq ((.pointer (some ⟨w.heap.size + 1, 2, none⟩) : Value))), (13, (.nat0 V2_1 q.den)), (14, (.int0 V2_1 (q.den : Int))), (15, (.intR (p.num * (q.den : Int)) w.heap.size)), (16, .eq ((.pointer (some ⟨w.heap.size + 1, 0, none⟩) : Value))), (17, (.int0 V2_1 q.num)), (18, .eq ((.pointer (some ⟨w.heap.size, 2, none⟩) : Value))), (19, (.nat0 V2_1 p.den)), (20, (.int0 V2_1 (p.den : Int))), (21, (.intR (q.num * (p.den : Int)) w.heap.size)), (22, (.ints2 (p.num * (q.den : Int)) (q.num * (p.den : Int)) w.heap.size)), (23, .eq ((.pointer (some ⟨w.heap.size, 2, none⟩) : Value))), (24, (.nat0 V2_1 p.den)), (25, .eq ((.pointer (some ⟨w.heap.size + 1, 2, none⟩) : Value))), (26, (.nat0 V2_1 q.den)), (27, (.natR (p.den * q.den) w.heap.size))] [false, false, false, false, false, false, false, false, false, false, true, true, true, true, true, true, true, true, true, true, true, true, true, true, true, true, true, true] mixed (by kernel_rfl) (by kernel_rfl) (by kernel_rfl) (fun _ _ h hb => h.trans (hb.mono h.size)) ((Below.refl _ _).drew) ⟨?_, ?_, ?_, ?_, ?_, ?_, ?_, ?_, ?_, ?_, ?_, ?_, ?_, ?_, ?_, ?_, ?_, ?_, trivial⟩ ?_
  · exact .fieldAddr (.inl rfl) rfl rfl rfl (fun a w' hC hs hl => by rw [show a.eval (.tmp 2) = (.pointer (some ⟨w.heap.size, 0, none⟩) : Value) from (hs 2 (by kernel_rfl))]; exact fa_Rat0_)
  · exact .load (.agg #[.bool b7, .slice A7 n7 c7]) (.inl rfl) rfl rfl (fun a w' hC hs hl => by rw [show a.eval (.tmp 10) = (.pointer (some ⟨w.heap.size, 0, none⟩) : Value) from (hl 10 (by kernel_rfl) (by kernel_rfl))]; exact ⟨ld_Int_ ((K1.out.below' hC).at_ 0 rfl) ((K1.out.below' hC).at_ 1 rfl), C1.out.num⟩)
  · exact .fieldAddr (.inl rfl) rfl rfl rfl (fun a w' hC hs hl => by rw [show a.eval (.tmp 3) = (.pointer (some ⟨w.heap.size + 1, 0, none⟩) : Value) from (hs 3 (by kernel_rfl))]; exact fa_Rat1_)
  · exact .load (.slice D9 m9 k9) (.inl rfl) rfl rfl (fun a w' hC hs hl => by rw [show a.eval (.tmp 12) = (.pointer (some ⟨w.heap.size + 1, 2, none⟩) : Value) from (hl 12 (by kernel_rfl) (by kernel_rfl))]; exact ⟨ld_Nat ((K2.out.below' hC).at_ 2 rfl), C2.out.den⟩)
  · exact .make (.inl rfl) (by intro T e; cases e) rfl (fun a w' hC hs hl => by
      have e0 : Can V2_1 (a.eval (.tmp 13)) q.den := (hl 13 (by kernel_rfl) (by kernel_rfl))
      obtain ⟨A, n, c, e⟩ := e0.slice
      rw [e] at e0
      have e' : a.tmps[13]?.getD undef = _ := (by simp [Act.eval] : _ = a.eval (.tmp 13)).trans e
      exact ⟨.agg #[.bool false, .slice A n c], by simp [execOp, go_sem, e'], ican_lit e0 _ rfl⟩)
  · exact .call (.inl rfl) rfl rfl fn_iMul (fun a w' hC hs hl => iMul_R w.heap.size (Nat.le_trans b0.out.size hC.size) (ICan.arg (ICan.below (hl 11 (by kernel_rfl) (by kernel_rfl)) hC) (L_up S1.out.1 (by decide))) (ICan.arg (ICan.below (hl 14 (by kernel_rfl) (by kernel_rfl)) hC) (L_up (den_L S2.out) (by decide))))
  · exact .fieldAddr (.inl rfl) rfl rfl rfl (fun a w' hC hs hl => by rw [show a.eval (.tmp 3) = (.pointer (some ⟨w.heap.size + 1, 0, none⟩) : Value) from (hs 3 (by kernel_rfl))]; exact fa_Rat0_)
  · exact .load (.agg #[.bool b9, .slice A9 n9 c9]) (.inl rfl) rfl rfl (fun a w' hC hs hl => by rw [show a.eval (.tmp 16) = (.pointer (some ⟨w.heap.size + 1, 0, none⟩) : Value) from (hl 16 (by kernel_rfl) (by kernel_rfl))]; exact ⟨ld_Int_ ((K2.out.below' hC).at_ 0 rfl) ((K2.out.below' hC).at_ 1 rfl), C2.out.num⟩)
  · exact .fieldAddr (.inl rfl) rfl rfl rfl (fun a w' hC hs hl => by rw [show a.eval (.tmp 2) = (.pointer (some ⟨w.heap.size, 0, none⟩) : Value) from (hs 2 (by kernel_rfl))]; exact fa_Rat1_)
  · exact .load (.slice D7 m7 k7) (.inl rfl) rfl rfl (fun a w' hC hs hl => by rw [show a.eval (.tmp 18) = (.pointer (some ⟨w.heap.size, 2, none⟩) : Value) from (hl 18 (by kernel_rfl) (by kernel_rfl))]; exact ⟨ld_Nat ((K1.out.below' hC).at_ 2 rfl), C1.out.den⟩)
  · exact .make (.inl rfl) (by intro T e; cases e) rfl (fun a w' hC hs hl => by
      have e0 : Can V2_1 (a.eval (.tmp 19)) p.den := (hl 19 (by kernel_rfl) (by kernel_rfl))
      obtain ⟨A, n, c, e⟩ := e0.slice
      rw [e] at e0
      have e' : a.tmps[19]?.getD undef = _ := (by simp [Act.eval] : _ = a.eval (.tmp 19)).trans e
      exact ⟨.agg #[.bool false, .slice A n c], by simp [execOp, go_sem, e'], ican_lit e0 _ rfl⟩)
  · exact .call (.inl rfl) rfl rfl fn_iMul (fun a w' hC hs hl => iMul_R w.heap.size (Nat.le_trans b0.out.size hC.size) (ICan.arg (ICan.below (hl 17 (by kernel_rfl) (by kernel_rfl)) hC) (L_up S2.out.1 (by decide))) (ICan.arg (ICan.below (hl 20 (by kernel_rfl) (by kernel_rfl)) hC) (L_up (den_L S1.out) (by decide))))
  · exact .make (.inl rfl) (by intro T e; cases e) rfl (fun a w' hC hs hl => by
      have e1 : IntR (p.num * (q.den : Int)) w.heap.size w' (a.eval (.tmp 15)) := (hl 15 (by kernel_rfl) (by kernel_rfl))
      have e2 : IntR (q.num * (p.den : Int)) w.heap.size w' (a.eval (.tmp 21)) := (hl 21 (by kernel_rfl) (by kernel_rfl))
      obtain ⟨b1, A1, n1, c1, e3⟩ := e1.slice
      obtain ⟨b2, A2, n2, c2, e4⟩ := e2.slice
      rw [e3] at e1
      rw [e4] at e2
      have e5 : a.tmps[15]?.getD undef = _ := (by simp [Act.eval] : _ = a.eval (.tmp 15)).trans e3
      have e6 : a.tmps[21]?.getD undef = _ := (by simp [Act.eval] : _ = a.eval (.tmp 21)).trans e4
      exact ⟨.agg #[.bool b1, .slice A1 n1 c1, .bool b2, .slice A2 n2 c2], by simp [execOp, go_sem, e5, e6], b1, A1, n1, c1, b2, A2, n2, c2, rfl, e1, e2⟩)
  · exact .fieldAddr (.inl rfl) rfl rfl rfl (fun a w' hC hs hl => by rw [show a.eval (.tmp 2) = (.pointer (some ⟨w.heap.size, 0, none⟩) : Value) from (hs 2 (by kernel_rfl))]; exact fa_Rat1_)
  · exact .load (.slice D7 m7 k7) (.inl rfl) rfl rfl (fun a w' hC hs hl => by rw [show a.eval (.tmp 23) = (.pointer (some ⟨w.heap.size, 2, none⟩) : Value) from (hl 23 (by kernel_rfl) (by kernel_rfl))]; exact ⟨ld_Nat ((K1.out.below' hC).at_ 2 rfl), C1.out.den⟩)
  · exact .fieldAddr (.inl rfl) rfl rfl rfl (fun a w' hC hs hl => by rw [show a.eval (.tmp 3) = (.pointer (some ⟨w.heap.size + 1, 0, none⟩) : Value) from (hs 3 (by kernel_rfl))]; exact fa_Rat1_)
  · exact .load (.slice D9 m9 k9) (.inl rfl) rfl rfl (fun a w' hC hs hl => by rw [show a.eval (.tmp 25) = (.pointer (some ⟨w.heap.size + 1, 2, none⟩) : Value) from (hl 25 (by kernel_rfl) (by kernel_rfl))]; exact ⟨ld_Nat ((K2.out.below' hC).at_ 2 rfl), C2.out.den⟩)
  · exact .call (.inl rfl) rfl rfl fn_Mul (fun a w' hC hs hl => nMul_F w.heap.size (Nat.le_trans b0.out.size hC.size) (Can.below (hl 24 (by kernel_rfl) (by kernel_rfl)) hC) (Can.below (hl 26 (by kernel_rfl) (by kernel_rfl)) hC) (L_up S1.out.2 (by decide)) (L_up S2.out.2 (by decide)))
  intro f w2 hC hF _
  obtain ⟨b5, A5, n5, c5, b6, A6, n6, c6, e5, R5, R6⟩ : (Fact.ints2 (p.num * (q.den : Int)) (q.num * (p.den : Int)) w.heap.size).holds (f 22) w2 := hF 22 (by kernel_rfl)
  have R4 : NatR (p.den * q.den) w.heap.size w2 (f 27) := hF 27 (by kernel_rfl)
  clear hF
  simp only [patch, List.drop]
  obtain ⟨D4, m4, k4, e4⟩ := R4.slice
  generalize f 10 = y10 at *
  generalize f 11 = y11 at *
  generalize f 12 = y12 at *
  generalize f 13 = y13 at *
  generalize f 14 = y14 at *
  generalize f 15 = y15 at *
  generalize f 16 = y16 at *
  generalize f 17 = y17 at *
  generalize f 18 = y18 at *
  generalize f 19 = y19 at *
  generalize f 20 = y20 at *
  generalize f 21 = y21 at *
  generalize f 22 = y22 at *
  generalize f 23 = y23 at *
  generalize f 24 = y24 at *
  generalize f 25 = y25 at *
  generalize f 26 = y26 at *
  generalize f 27 = y27 at *
  subst e5 e4
  replace R5 := hide R5
  replace R6 := hide R6
  replace R4 := hide R4
  replace K1 := hide (K1.out.below' hC)
  replace K2 := hide (K2.out.below' hC)
  replace K3 := hide (K3.out.below' hC)
  replace C1 := hide (C1.out.below hC)
  replace C2 := hide (C2.out.below hC)
  replace b0 := hide (b0.out.trans (hC.mono b0.out.size))
  clear hC
  have K3c0 : w2.cell? ⟨w.heap.size + 1 + 1, 0, none⟩ = some (.bool false) := K3.out.at_ 0 rfl
  have K3c1 : w2.cell? ⟨w.heap.size + 1 + 1, 1, none⟩ = some (.slice none 0 0) := K3.out.at_ 1 rfl
  have K3c2 : w2.cell? ⟨w.heap.size + 1 + 1, 2, none⟩ = some (.bool false) := K3.out.at_ 2 rfl
  have K3c3 : w2.cell? ⟨w.heap.size + 1 + 1, 3, none⟩ = some (.slice none 0 0) := K3.out.at_ 3 rfl
  have p0 : w2.frozen? ⟨w.heap.size + 1 + 1, 0, none⟩ = false := K3.out.frozen 0
  have p1 : w2.frozen? ⟨w.heap.size + 1 + 1, 1, none⟩ = false := K3.out.frozen 1
  have p2 : w2.frozen? ⟨w.heap.size + 1 + 1, 2, none⟩ = false := K3.out.frozen 2
  have p3 : w2.frozen? ⟨w.heap.size + 1 + 1, 3, none⟩ = false := K3.out.frozen 3
  go_wp2
  refine bodyPost_ret (v := .tuple #[.agg #[.bool b5, .slice A5 n5 c5, .bool b6, .slice A6 n6 c6], .slice D4 m4 k4]) (by simp [results, Tryz.results76, go_sem, K3c0, K3c1, K3c2, K3c3, p0, p1, p2, p3]) rfl ?_
  exact opq_end hR ⟨_, _, _, _, _, _, _, _, _, _, _, rfl, (by (repeat (first | exact b0 | exact Below.refl _ _ | refine Below.setCell ?_ (by first | (simp; done) | (simp; omega)) _ | refine Below.alloc ?_ (by first | (simp; done) | (simp; omega)) _))), (R5.out.only K3.out (by decide) (((((Only.refl _ _).set _ _).set _ _).set _ _).set _ _)).can, (R6.out.only K3.out (by decide) (((((Only.refl _ _).set _ _).set _ _).set _ _).set _ _)).can, (R4.out.only K3.out (by decide) (((((Only.refl _ _).set _ _).set _ _).set _ _).set _ _)).can⟩
end Go.Proofs.YtnpfochbpdfcmaaGreatDoor
