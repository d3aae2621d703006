/- The document's answer for vecs. -/
import Derived.Test.YtkefmeddnncacaaGreatDoorVB
import Derived.Test.YtkefmeddnncacaaGreatDoorBo
import Derived.Test.YtkefmeddnncacaaGreatDoorBp
import Derived.Deep.RegionLaw
import Derived.Test.YtkefmeddnncacaaGreatDoorFR
import Derived.Test.YtkefmeddnncacaaGreatDoorBY
/- the document's answer for vecs: Check, Zero, Scale. -/
set_option linter.unusedVariables false
set_option linter.unusedSimpArgs false
set_option maxRecDepth 100000
namespace Go.Proofs.YtkefmeddnncacaaGreatDoor
open Go.RowKit

theorem Lst.le_ {α : Type} {E : World → Value → α → Prop} {w : World} {v : Value} {qs : List α} (h : Lst E w v qs) : qs.length ≤ 140737488355328 := by
  obtain ⟨_, _, _, _, e, _, h2, _, h4, _⟩ := h
  cases e
  omega
set_option maxHeartbeats 1000000 in
theorem vkCheck_P {w : World} {v : Value} {es : List Raw} (h : Lst RRaw w v es) (r : Bool) (hr : es.all rk = r) :
    Calls Tryz.prog 39 #[v] w fun e w' => ∃ u, e = .returned u ∧ Below w.heap.size w w' ∧ u = .bool r := by
  refine opq fun R hR => ?_
  obtain ⟨A, c, rfl⟩ := h.sl
  obtain ⟨n, hn⟩ : ∃ n, Hid (es.length = n) := ⟨_, rfl⟩
  have hbn := h.le_
  rw [hn.out] at h hbn ⊢
  have L := hide h
  replace hr := hide hr
  clear h
  go_enter Tryz.func39, Tryz.ntmps39
  go_wp2
  go_loopw [3] (fun iv wr => ∃ (i : Nat), i ≤ n ∧ iv = .int .i64 (i : Nat) ∧ Hid (Below w.heap.size w wr) ∧ Hid ((es.take i).all rk = true)) (fun iv _ => n - (intOf iv).toNat)
  case atStart => exact ⟨0, by omega, rfl, Below.refl _ _, by show _ = _; simp⟩
  case round =>
    obtain ⟨i, hi, rfl, hbel, al⟩ := hrel
    by_cases hlt : i < n
    · obtain ⟨x, hx⟩ : ∃ x, es[i]? = some x := ⟨_, List.getElem?_eq_getElem (by rw [hn.out]; exact hlt)⟩
      obtain ⟨ad, b2, A2, n2, c2, D2, m2, k2, rfl, _, x0, x1, x2, X⟩ := (L.out.raw_below hbel.out).at_ tri_raw hx
      have hT := hide (show es.take (i + 1) = es.take i ++ [x] by
        rw [List.take_add_one, hx]; rfl)
      replace X := hide X
      replace hx := hide hx
      cases hk : rk x with
      | false =>
        go_wp2_with fail
        refine (krCheck_P X.out false hk).mono ?_
        rintro e w1 ⟨u, rfl, d0, rfl⟩
        have B2 := hide (below_tr hbel.out d0)
        have e0 : r = false := by
          rw [← hr.out, List.all_eq_false]
          exact ⟨x, List.mem_of_getElem? hx.out, by rw [hk]; simp⟩
        subst e0
        clear d0 x0 x1 x2
        go_wp2
        exact opq_end hR ⟨_, rfl, B2.out, rfl⟩
      | true =>
        go_wp2_with fail
        refine (krCheck_P X.out true hk).mono ?_
        rintro e w1 ⟨u, rfl, d0, rfl⟩
        have B2 := hide (below_tr hbel.out d0)
        have a2 : Hid ((es.take (i + 1)).all rk = true) := by
          show _ = _
          rw [hT.out, List.all_append, al.out]
          simp [hk]
        clear d0 x0 x1 x2 hk
        go_wp2
        go_roundw
        case rel => exact ⟨i + 1, by omega, by go_num, B2, a2⟩
        case measure => simp [intOf]; omega
    · obtain rfl : i = n := by omega
      have e0 : r = true := by
        rw [← hr.out, ← al.out, List.take_of_length_le (by rw [hn.out]; exact Nat.le_refl _)]
      subst e0
      go_wp2
      exact opq_end hR ⟨_, rfl, hbel.out, rfl⟩
def zN (z : Int) : Nat := if 65536 < z then 0 else z.toNat
end Go.Proofs.YtkefmeddnncacaaGreatDoor

/- the document's answer for vecs: Same, Dot, Add. -/
set_option linter.unusedVariables false
set_option linter.unusedSimpArgs false
set_option maxRecDepth 100000
namespace Go.Proofs.YtkefmeddnncacaaGreatDoor
open Go.RowKit

theorem fits_parts {es fs : List Raw} (h : fits es fs = true) : es.length = fs.length ∧ es.all rk = true ∧ fs.all rk = true := by
  unfold fits at h
  rw [Bool.and_eq_true, Bool.and_eq_true] at h
  exact ⟨by simpa using h.1.1, h.1.2, h.2⟩
theorem dot_take_H {ps qs : List Rat} {k : Nat} (hp : Hs ps k) (hq : Hs qs k) (j : Nat) (hj : j ≤ ps.length) (hk : 1 + ps.length * (2 * k + 1) ≤ 100000000000) : H (dotA 0 ((ps.zip qs).take j)) 100000000000 := by
  have e : (ps.zip qs).take j = (ps.take j).zip (qs.take j) := by rw [List.zip_eq_zipWith, List.zip_eq_zipWith, List.take_zipWith]
  rw [e]
  have hl : (ps.take j).length ≤ ps.length := by rw [List.length_take]; omega
  have := Nat.mul_le_mul_right (2 * k + 1) hl
  exact H_dot (k := k) (hp.take j) (hq.take j) ps.length 100000000000 hl (by omega) (Nat.le_refl _)
theorem fq4_assayerref03_Add (args : Array Value) (w : World) : (callFunc 146 args).run Tryz.prog w = .ok (.enter 146 args) w := callFunc_enter Tryz.func146 (by kernel_rfl) rfl args w
theorem fq4_assayerref03_Mul (args : Array Value) (w : World) : (callFunc 147 args).run Tryz.prog w = .ok (.enter 147 args) w := callFunc_enter Tryz.func147 (by kernel_rfl) rfl args w
set_option maxHeartbeats 4000000 in
theorem vkDot_ok {w : World} {v v' : Value} {es fs : List Raw} (h : Lst RRaw w v es) (g : Lst RArg w v (es.map rvE)) (h' : Lst RRaw w v' fs) (g' : Lst RArg w v' (fs.map rvE)) (hf : fits es fs = true) (k : Nat) (z : Hs (es.map rvE) k) (z' : Hs (fs.map rvE) k) (hk : 1 + es.length * (2 * k + 1) ≤ 100000000000) :
    Calls Tryz.prog 37 #[v, v'] w fun e w' => ∃ u, e = .returned (.tuple #[u, .int .i64 0]) ∧ Below w.heap.size w w' ∧ RatR (dot (es.map rvE) (fs.map rvE)) w.heap.size w' u := by
  refine opq fun R hR => ?_
  obtain ⟨A, c, rfl⟩ := h.sl
  obtain ⟨A', c', rfl⟩ := h'.sl
  obtain ⟨hl, ha, hb⟩ := fits_parts hf
  have hbn : es.length ≤ 140737488355328 := h.le_
  obtain ⟨n, hn⟩ : ∃ n, Hid (es.length = n) := ⟨_, rfl⟩
  have hn' : Hid (fs.length = n) := by rw [← hl]; exact hn
  rw [hn.out] at h g hbn ⊢
  rw [hn'.out] at h' g' ⊢
  have L := hide h
  have M := hide h'
  have GA := hide g
  have GB := hide g'
  have b0 := hide (Below.refl w.heap.size w)
  clear h h' g g' hf hl
  replace z := hide z
  replace z' := hide z'
  rw [hn.out] at hk
  go_enter Tryz.func37, Tryz.ntmps37
  have K4 := hide (Blk.new w TR #[.bool false, .slice none 0 0, .slice none 0 0])
  have y4 : Below w.heap.size w (w.alloc (.cells #[.bool false, .slice none 0 0, .slice none 0 0] TR)) := (Below.refl _ _).alloc (Nat.le_refl _) _
  replace b0 := hide y4
  clear y4
  go_wp2_with fail
  refine (vkCheck_P (L.out.raw_below b0.out) true ha).mono ?_
  rintro e w1 ⟨_, rfl, d0, rfl⟩
  replace b0 := hide (below_tr b0.out d0)
  replace K4 := hide (K4.out.below' d0)
  clear d0
  go_wp2_with fail
  refine (vkCheck_P (M.out.raw_below b0.out) true hb).mono ?_
  rintro e w2 ⟨_, rfl, d0, rfl⟩
  replace b0 := hide (below_tr b0.out d0)
  replace K4 := hide (K4.out.below' d0)
  clear d0
  go_wp2_with fail
  refine (krOf_P _ 0 (by omega) (by omega)).mono ?_
  rintro e w3 ⟨u0, rfl, d0, r0⟩
  have r1 := hide (r0.mono (B' := w.heap.size) b0.out.size)
  replace b0 := hide (below_tr b0.out d0)
  replace K4 := hide (K4.out.below' d0)
  clear d0 r0
  obtain ⟨b4, A4, n4, c4, D4, m4, k4, rfl⟩ := r1.out.slice
  have KB := hide (Blk.new w3 TR #[.bool b4, .slice A4 n4 c4, .slice D4 m4 k4])
  have y6 : Below w3.heap.size w3 (w3.alloc (.cells #[.bool b4, .slice A4 n4 c4, .slice D4 m4 k4] TR)) := (Below.refl _ _).alloc (Nat.le_refl _) _
  have hw4 := K4.out.lt
  replace K4 := hide (K4.out.below' y6)
  replace r1 := hide (r1.out.below y6)
  have hpb := hide b0.out.size
  replace b0 := hide (below_tr b0.out y6)
  clear y6
  go_wp2
  obtain ⟨W0, hW0⟩ : ∃ W0, w3.alloc (.cells #[.bool b4, .slice A4 n4 c4, .slice D4 m4 k4] TR) = W0 := ⟨_, rfl⟩
  obtain ⟨pb, hp0⟩ : ∃ pb, w3.heap.size = pb := ⟨_, rfl⟩
  rw [hW0] at KB K4 r1 b0
  rw [hp0] at KB hpb hw4
  rw [hW0, hp0]
  have hne : Hid (pb ≠ w.heap.size) := Nat.ne_of_gt hw4
  clear hW0 hp0
  have KB' : Hid (∃ b A n c D m k, Blk W0 pb TR #[.bool b, .slice A n c, .slice D m k] ∧ RatR (dotA 0 (((es.map rvE).zip (fs.map rvE)).take 0)) w.heap.size W0 (.agg #[.bool b, .slice A n c, .slice D m k])) := ⟨_, _, _, _, _, _, _, KB.out, r1.out⟩
  have K4' : Hid (Blk W0 w.heap.size TR #[.bool false, .slice none 0 0, .slice none 0 0]) := K4.out
  have bI := b0
  clear KB r1 K4 b0 L M ha hb hw4
  go_loopw [7] (fun iv wr => ∃ (i : Nat), i ≤ n ∧ iv = .int .i64 (i : Nat) ∧ Hid (Below w.heap.size w wr) ∧ Hid (Blk wr w.heap.size TR #[.bool false, .slice none 0 0, .slice none 0 0]) ∧ Hid (∃ b A n c D m k, Blk wr pb TR #[.bool b, .slice A n c, .slice D m k] ∧ RatR (dotA 0 (((es.map rvE).zip (fs.map rvE)).take i)) w.heap.size wr (.agg #[.bool b, .slice A n c, .slice D m k]))) (fun iv _ => n - (intOf iv).toNat)
  case atStart => exact ⟨0, by omega, rfl, bI, K4', KB'⟩
  case round =>
    clear bI K4' KB'
    obtain ⟨i, hi, rfl, b0, K4, KB⟩ := hrel
    obtain ⟨b4, A4, n4, c4, D4, m4, k4, KB, SR⟩ := KB.out
    replace KB := hide KB
    replace SR := hide SR
    by_cases hlt : i < n
    · obtain ⟨p, hp⟩ : ∃ p, (es.map rvE)[i]? = some p := ⟨_, List.getElem?_eq_getElem (by rw [List.length_map, hn.out]; exact hlt)⟩
      obtain ⟨q, hq⟩ : ∃ q, (fs.map rvE)[i]? = some q := ⟨_, List.getElem?_eq_getElem (by rw [List.length_map, hn'.out]; exact hlt)⟩
      obtain ⟨ad, b2, A2, n2, c2, D2, m2, k2, rfl, _, x0, x1, x2, X⟩ := (GA.out.arg_below b0.out).at_ tri_arg hp
      obtain ⟨ad2, b3, A3, n3, c3, D3, m3, k3, rfl, _, y0, y1, y2, Y⟩ := (GB.out.arg_below b0.out).at_ tri_arg hq
      replace X := hide X
      replace Y := hide Y
      have P0 := hide x0
      have P1 := hide x1
      have P2 := hide x2
      have Q0 := hide y0
      have Q1 := hide y1
      have Q2 := hide y2
      replace hp := hide hp
      replace hq := hide hq
      clear x0 x1 x2 y0 y1 y2
      have hlt2 : ¬ ((n : Int) ≤ (i : Int)) := by omega
      have B0 : Hid (wr.cell? ⟨pb, 0, none⟩ = some (.bool b4)) := KB.out.at_ 0 rfl
      have B1 : Hid (wr.cell? ⟨pb, 1, none⟩ = some (.slice A4 n4 c4)) := KB.out.at_ 1 rfl
      have B2 : Hid (wr.cell? ⟨pb, 2, none⟩ = some (.slice D4 m4 k4)) := KB.out.at_ 2 rfl
      have hmem : Hid (∀ j, j ≤ n → H (dotA 0 (((es.map rvE).zip (fs.map rvE)).take j)) 100000000000) := fun j hj => dot_take_H z.out z'.out j (by rw [List.length_map, hn.out]; exact hj) (by rw [List.length_map, hn.out]; exact hk)
      have hz : Hid (H (dotA 0 (((es.map rvE).zip (fs.map rvE)).take i)) 100000000000) := hmem.out i (by omega)
      have hpq : Hid (H (p * q) 100000000000) := H_mul (z.out p (List.mem_of_getElem? hp.out)) (z'.out q (List.mem_of_getElem? hq.out)) (by have := Nat.mul_le_mul_right (2 * k + 1) (show 1 ≤ n by omega); omega)
      have hT : Hid (((es.map rvE).zip (fs.map rvE)).take (i + 1) = ((es.map rvE).zip (fs.map rvE)).take i ++ [(p, q)]) := by
        show _ = _
        have hzz : ((es.map rvE).zip (fs.map rvE))[i]? = some (p, q) := List.getElem?_zip_eq_some.2 ⟨hp.out, hq.out⟩
        rw [List.take_add_one, hzz]
        rfl
      go_wp2
      refine wp_region_facts 11 (fun w' => Below wr.heap.size wr w') [(31, .eq (.agg #[(.bool b4), (.slice A4 n4 c4), (.slice D4 m4 k4)])), (32, .eq (.slice (some ad) n c)), (33, .eq (.int .i64 (i : Nat))), (34, .eq ((.pointer (some (ad.add (i * 3))) : Value))), (35, .eq (.agg #[.bool b2, .slice A2 n2 c2, .slice D2 m2 k2])), (36, .eq (.slice (some ad2) n c')), (37, .eq (.int .i64 (i : Nat))), (38, .eq ((.pointer (some (ad2.add (i * 3))) : Value))), (39, .eq (.agg #[.bool b3, .slice A3 n3 c3, .slice D3 m3 k3])), (40, (.ratR (p * q) 0)), (41, (.ratR ((dotA 0 (((es.map rvE).zip (fs.map rvE)).take i)) + p * q) w.heap.size))] [false, false, false, false, false, false, false, false, false, false, false, false, false, false, false, false, false, false, false, false, false, false, false, false, false, false, false, false, false, false, false, true, true, true, true, true, true, true, true, true, true, true, false] mixed (by kernel_rfl) (by kernel_rfl) (by kernel_rfl) (fun _ _ h hb => h.trans (hb.mono h.size)) ((Below.refl _ _).drew) ⟨?_, ?_, ?_, ?_, ?_, ?_, ?_, ?_, ?_, ?_, ?_, trivial⟩ ?_
      · exact .load (.agg #[(.bool b4), (.slice A4 n4 c4), (.slice D4 m4 k4)]) (.inl rfl) rfl rfl (fun a w' hC hs hl => by rw [show a.eval (.tmp 6) = (.pointer (some ⟨pb, 0, none⟩) : Value) from (hs 6 (by kernel_rfl))]; exact ⟨by simp [go_sem, cell_below hC B0.out, cell_below hC B1.out, cell_below hC B2.out], rfl⟩)
      · exact .moveC (.inl rfl) (.inl rfl) rfl (fun a w' hC hs => (hs 0 (by kernel_rfl)))
      · exact .moveC (.inl rfl) (.inl rfl) rfl (fun a w' hC hs => (hs 7 (by kernel_rfl)))
      · exact .value (.inl rfl) (by intro T e; cases e) rfl rfl (fun a w' hC hs hl => by
          have e0 : a.eval (.tmp 32) = (.slice (some ad) n c) := (hl 32 (by kernel_rfl) (by kernel_rfl))
          have e1 : a.eval (.tmp 33) = (.int .i64 (i : Nat)) := (hl 33 (by kernel_rfl) (by kernel_rfl))
          simp only [execOp, e0, e1]
          simp [go_sem, hlt2])
      · exact .load (.agg #[.bool b2, .slice A2 n2 c2, .slice D2 m2 k2]) (.inl rfl) rfl rfl (fun a w' hC hs hl => by rw [show a.eval (.tmp 34) = (.pointer (some (ad.add (i * 3))) : Value) from (hl 34 (by kernel_rfl) (by kernel_rfl))]; exact ⟨ld_RatAt (cell_below hC P0.out) (cell_below hC P1.out) (cell_below hC P2.out), rfl⟩)
      · exact .moveC (.inl rfl) (.inl rfl) rfl (fun a w' hC hs => (hs 1 (by kernel_rfl)))
      · exact .moveC (.inl rfl) (.inl rfl) rfl (fun a w' hC hs => (hs 7 (by kernel_rfl)))
      · exact .value (.inl rfl) (by intro T e; cases e) rfl rfl (fun a w' hC hs hl => by
          have e0 : a.eval (.tmp 36) = (.slice (some ad2) n c') := (hl 36 (by kernel_rfl) (by kernel_rfl))
          have e1 : a.eval (.tmp 37) = (.int .i64 (i : Nat)) := (hl 37 (by kernel_rfl) (by kernel_rfl))
          simp only [execOp, e0, e1]
          simp [go_sem, hlt2])
      · exact .load (.agg #[.bool b3, .slice A3 n3 c3, .slice D3 m3 k3]) (.inl rfl) rfl rfl (fun a w' hC hs hl => by rw [show a.eval (.tmp 38) = (.pointer (some (ad2.add (i * 3))) : Value) from (hl 38 (by kernel_rfl) (by kernel_rfl))]; exact ⟨ld_RatAt (cell_below hC Q0.out) (cell_below hC Q1.out) (cell_below hC Q2.out), rfl⟩)
      · exact .call (.inl rfl) rfl rfl fq4_assayerref03_Mul (fun a w' hC hs hl => by
          show Calls _ _ #[a.eval (.tmp 35), a.eval (.tmp 39)] _ _
          rw [show a.eval (.tmp 35) = (.agg #[.bool b2, .slice A2 n2 c2, .slice D2 m2 k2] : Value) from (hl 35 (by kernel_rfl) (by kernel_rfl)), show a.eval (.tmp 39) = (.agg #[.bool b3, .slice A3 n3 c3, .slice D3 m3 k3] : Value) from (hl 39 (by kernel_rfl) (by kernel_rfl))]
          exact (krMul_P (X.out.below hC) (Y.out.below hC)).mono fun e w' ⟨u, h1, h2, h3⟩ => ⟨u, h1, h2, h3.mono (Nat.zero_le _)⟩)
      · exact .call (.inl rfl) rfl rfl fq4_assayerref03_Add (fun a w' hC hs hl => by
          show Calls _ _ #[a.eval (.tmp 31), a.eval (.tmp 40)] _ _
          rw [show a.eval (.tmp 31) = (.agg #[(.bool b4), (.slice A4 n4 c4), (.slice D4 m4 k4)] : Value) from (hl 31 (by kernel_rfl) (by kernel_rfl))]
          exact krAdd_R _ (Nat.le_trans b0.out.size hC.size) ((SR.out.can.below hC).arg hz.out) (((hl 40 (by kernel_rfl) (by kernel_rfl))).can.arg hpq.out))
      · intro f wz hC hF _
        have f41 : RatR ((dotA 0 (((es.map rvE).zip (fs.map rvE)).take i)) + p * q) w.heap.size wz (f 41) := hF 41 (by kernel_rfl)
        clear hF
        simp only [patch, List.drop]
        obtain ⟨b5, A5, n5, c5, D5, m5, k5, e5⟩ := f41.slice
        rw [e5] at f41 ⊢
        clear e5
        generalize f 31 = y31_
        generalize f 32 = y32_
        generalize f 33 = y33_
        generalize f 34 = y34_
        generalize f 35 = y35_
        generalize f 36 = y36_
        generalize f 37 = y37_
        generalize f 38 = y38_
        generalize f 39 = y39_
        generalize f 40 = y40_
        replace f41 := hide f41
        have b1 := hide (below_tr b0.out hC)
        have KB1 := hide (KB.out.below' hC)
        have K41 := hide (K4.out.below' hC)
        clear hC b0 K4 KB SR B0 B1 B2 P0 P1 P2 Q0 Q1 Q2 hlt2 X Y
        have c0 := KB1.out.at_ 0 rfl
        have c1 := KB1.out.at_ 1 rfl
        have c2 := KB1.out.at_ 2 rfl
        have f0 := KB1.out.frozen 0
        have f1 := KB1.out.frozen 1
        have f2 := KB1.out.frozen 2
        have r2 : RatR (dotA 0 (((es.map rvE).zip (fs.map rvE)).take (i + 1))) w.heap.size wz (.agg #[.bool b5, .slice A5 n5 c5, .slice D5 m5 k5]) := by
          rw [hT.out, dotA_snoc]
          exact f41.out
        have O : Only pb wz (((wz.setCell ⟨pb, 0, none⟩ (.bool b5)).setCell ⟨pb, 1, none⟩ (.slice A5 n5 c5)).setCell ⟨pb, 2, none⟩ (.slice D5 m5 k5)) := (((Only.refl _ _).set _ _).set _ _).set _ _
        have r3 := hide (r2.only KB1.out (by decide) O)
        have K6 := hide (((KB1.out.set_ 0 (.bool b5)).set_ 1 (.slice A5 n5 c5)).set_ 2 (.slice D5 m5 k5))
        have K7 : Hid (Blk (((wz.setCell ⟨pb, 0, none⟩ (.bool b5)).setCell ⟨pb, 1, none⟩ (.slice A5 n5 c5)).setCell ⟨pb, 2, none⟩ (.slice D5 m5 k5)) w.heap.size TR #[.bool false, .slice none 0 0, .slice none 0 0]) := ((K41.out.far (p := ⟨pb, 0, none⟩) (fun e => hne.out e.symm) _).far (p := ⟨pb, 1, none⟩) (fun e => hne.out e.symm) _).far (p := ⟨pb, 2, none⟩) (fun e => hne.out e.symm) _
        have b2 : Hid (Below w.heap.size w (((wz.setCell ⟨pb, 0, none⟩ (.bool b5)).setCell ⟨pb, 1, none⟩ (.slice A5 n5 c5)).setCell ⟨pb, 2, none⟩ (.slice D5 m5 k5))) := ((b1.out.setCell (p := ⟨pb, 0, none⟩) hpb.out _).setCell (p := ⟨pb, 1, none⟩) hpb.out _).setCell (p := ⟨pb, 2, none⟩) hpb.out _
        clear r2 O b1 K41 KB1 f41
        go_wp2
        go_roundw
        case rel => exact ⟨i + 1, by omega, by go_num, b2, K7, _, _, _, _, _, _, _, K6.out, r3.out⟩
        case measure => simp [intOf]; omega
    · obtain rfl : i = n := by omega
      have eT : Hid (((es.map rvE).zip (fs.map rvE)).take i = (es.map rvE).zip (fs.map rvE)) := List.take_of_length_le (by rw [List.length_zip, List.length_map, List.length_map, hn.out, hn'.out]; omega)
      rw [eT.out] at SR
      have x0 := KB.out.at_ 0 rfl
      have x1 := KB.out.at_ 1 rfl
      have x2 := KB.out.at_ 2 rfl
      have c0 := K4.out.at_ 0 rfl
      have c1 := K4.out.at_ 1 rfl
      have c2 := K4.out.at_ 2 rfl
      have f0 := K4.out.frozen 0
      have f1 := K4.out.frozen 1
      have f2 := K4.out.frozen 2
      have O : Only w.heap.size wr (((wr.setCell ⟨w.heap.size, 0, none⟩ (.bool b4)).setCell ⟨w.heap.size, 1, none⟩ (.slice A4 n4 c4)).setCell ⟨w.heap.size, 2, none⟩ (.slice D4 m4 k4)) := (((Only.refl _ _).set _ _).set _ _).set _ _
      have r3 := hide (SR.out.only K4.out (by decide) O)
      have b2 : Hid (Below w.heap.size w (((wr.setCell ⟨w.heap.size, 0, none⟩ (.bool b4)).setCell ⟨w.heap.size, 1, none⟩ (.slice A4 n4 c4)).setCell ⟨w.heap.size, 2, none⟩ (.slice D4 m4 k4))) := ((b0.out.setCell (p := ⟨w.heap.size, 0, none⟩) (Nat.le_refl _) _).setCell (p := ⟨w.heap.size, 1, none⟩) (Nat.le_refl _) _).setCell (p := ⟨w.heap.size, 2, none⟩) (Nat.le_refl _) _
      clear O
      go_wp2
      refine bodyPost_ret (v := .tuple #[.agg #[.bool b4, .slice A4 n4 c4, .slice D4 m4 k4], .int .i64 0]) (by simp [results, Tryz.results37, go_sem, c0, c1, c2, f0, f1, f2]) rfl ?_
      exact opq_end hR ⟨_, rfl, b2.out, r3.out⟩
end Go.Proofs.YtkefmeddnncacaaGreatDoor

/- laws of vecs that compare: words; Zero of any number. -/
set_option linter.unusedVariables false
set_option linter.unusedSimpArgs false
set_option maxRecDepth 100000
namespace Go.Proofs.YtkefmeddnncacaaGreatDoor
open Go.RowKit

theorem BookF.new {B : Nat} {w : World} (hB : B ≤ w.heap.size) : BookF B (w.alloc (.cells #[.int .i64 0, .slice none 0 0, .slice none 0 0, .slice none 0 0, .slice none 0 0, .slice none 0 0, .slice none 0 0, .slice none 0 0, .slice none 0 0, .slice none 0 0, .slice none 0 0, .slice none 0 0, .slice none 0 0] TBK)) w.heap.size 0 (.slice none 0 0) (.slice none 0 0) [] [] :=
  ⟨⟨Blk.new w TBK _, hB, rfl, .inl ⟨rfl, rfl⟩⟩, ⟨Blk.new w TBK _, hB, rfl, .inl ⟨rfl, rfl⟩⟩⟩
end Go.Proofs.YtkefmeddnncacaaGreatDoor
