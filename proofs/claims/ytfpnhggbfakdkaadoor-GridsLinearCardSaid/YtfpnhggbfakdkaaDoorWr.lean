/- The law: what a grid makes of a sum is the sum of what it makes of both. -/
import Derived.Test.YtfpnhggbfakdkaaDoorWs
set_option linter.unusedVariables false
set_option linter.unusedSimpArgs false
set_option maxRecDepth 100000
namespace Go.Proofs.YtfpnhggbfakdkaaDoor
open Go.RowKit

theorem fwr_assayerlaw01_RatSize (args : Array Value) (w : World) : (callFunc 20 args).run Tryd.prog w = .ok (.enter 20 args) w := callFunc_enter Tryd.func20 (by kernel_rfl) rfl args w
theorem fwr_assayerlaw01_RatsSize (args : Array Value) (w : World) : (callFunc 15 args).run Tryd.prog w = .ok (.enter 15 args) w := callFunc_enter Tryd.func15 (by kernel_rfl) rfl args w
theorem fwr_assayerlaw05_alive (args : Array Value) (w : World) : (callFunc 9 args).run Tryd.prog w = .ok (.enter 9 args) w := callFunc_enter Tryd.func9 (by kernel_rfl) rfl args w
theorem fwr_assayerlaw05_great (args : Array Value) (w : World) : (callFunc 10 args).run Tryd.prog w = .ok (.enter 10 args) w := callFunc_enter Tryd.func10 (by kernel_rfl) rfl args w
/-- A number that counts K, or is too great to. -/
def Fact.cnt (K B : Nat) : Fact := ⟨fun v _ => ∃ r : Nat, v = .int .i64 (r : Int) ∧ Cnt r K ∧ r ≤ B, fun _ _ _ h _ => h⟩
theorem cnt_add {r1 r2 K1 K2 : Nat} (h1 : Cnt r1 K1) (h2 : Cnt r2 K2) : Cnt (r1 + r2) (K1 + K2) := by
  obtain ⟨a1, a2⟩ := h1
  obtain ⟨b1, b2⟩ := h2
  exact ⟨by omega, by omega⟩
theorem wrap_sum {r1 r2 : Nat} (h : r1 + r2 ≤ 9000000000000000) : IntKind.i64.wrap ((r1 : Int) + (r2 : Int)) = (r1 : Int) + (r2 : Int) := by
  rw [IntKind.wrap_i64]
  omega
theorem RatsSize_F {w : World} {A : Option Addr} {n c : Nat} {es : List Raw} (h : Lst RRw w (.slice A n c) es) : Calls Tryd.prog 15 #[.slice A n c] w fun e w' => ∃ u, e = .returned u ∧ Below w.heap.size w w' ∧ (Fact.cnt (n + tsz es) 500000000000000).holds u w' :=
  (RatsSize_any w A n c es h).mono fun e w' ⟨r, h1, h2, h3, h4⟩ => ⟨_, h1, h4, r, rfl, h2, h3⟩
theorem RatSize_F (w : World) {b : Bool} {A : Option Addr} {n c : Nat} {D : Option Addr} {m k : Nat} (hn : n ≤ 70368744177664) (hm : m ≤ 70368744177664) : Calls Tryd.prog 20 #[.agg #[.bool b, .slice A n c, .slice D m k]] w fun e w' => ∃ u, e = .returned u ∧ Below w.heap.size w w' ∧ (Fact.cnt (2 + n + m) 500000000000000).holds u w' :=
  (RatSize_ok w b A n c D m k hn hm).mono fun e w' ⟨r, h1, h2, h3⟩ => ⟨_, h1, h3.out, r, rfl, h2, by have := h2.1; omega⟩
def gsmall (n : Nat) (ess : List (List Raw)) : Bool := decide (n ≤ 8) && decide (n + gsz ess ≤ 300) && ess.all fun es => decide (es.length ≤ 8)
theorem gsmall_iff {n : Nat} {ess : List (List Raw)} : gsmall n ess = true ↔ n ≤ 8 ∧ n + gsz ess ≤ 300 ∧ ∀ es ∈ ess, es.length ≤ 8 := by
  unfold gsmall
  simp only [Bool.and_eq_true, decide_eq_true_eq, List.all_eq_true, and_assoc]
set_option maxHeartbeats 1000000 in
theorem ggreat_det {w : World} {A : Option Addr} {n c : Nat} {ess : List (List Raw)} (h : Gst RRw w (.slice A n c) ess) (b : Bool) (hb : (!gsmall n ess) = b) :
    Calls Tryd.prog 10 #[.slice A n c] w fun e w' => ∃ u, e = .returned u ∧ Below w.heap.size w w' ∧ u = .bool b := by
  subst hb
  refine opq fun R hR => ?_
  have L := hide h
  have hl := hide h.len
  have hb : n ≤ 140737488355328 := by rw [← h.len]; exact h.le_
  clear h
  have no : ¬ (n ≤ 8 ∧ n + gsz ess ≤ 300 ∧ ∀ es ∈ ess, es.length ≤ 8) → (!gsmall n ess) = true := fun q => by
    cases e : gsmall n ess with
    | true => exact absurd (gsmall_iff.1 e) q
    | false => rfl
  have NO := hide no
  clear no
  go_enter Tryd.func10, Tryd.ntmps10
  by_cases h8 : n ≤ 8
  · have h8' : ¬ ((n : Int) > 8) := by omega
    go_wp2_with fail
    refine (GridSize_ok w A n c ess L.out).mono ?_
    rintro e' w1 ⟨r, rfl, cn, _, d0⟩
    have b0 := hide d0
    have CN := hide cn
    clear d0 cn
    by_cases hr : r ≤ 300
    · have hr' : ¬ ((r : Int) > 300) := by omega
      have hg : Hid (n + gsz ess ≤ 300) := by
        rcases CN.out.2 with e | e
        · show _ ≤ _
          omega
        · omega
      clear CN
      go_wp2
      go_loopw [3] (fun iv wr => ∃ (i : Nat), i ≤ n ∧ iv = .int .i64 (i : Nat) ∧ Hid (∀ es ∈ ess.take i, es.length ≤ 8) ∧ Hid (Below w.heap.size w wr)) (fun iv _ => n - (intOf iv).toNat)
      case atStart => exact ⟨0, by omega, rfl, fun es hes => by simp at hes, b0⟩
      case round =>
        obtain ⟨i, hi, rfl, hall, hbel⟩ := hrel
        by_cases hlt : i < n
        · obtain ⟨es, hes⟩ : ∃ es, ess[i]? = some es := ⟨_, List.getElem?_eq_getElem (by rw [hl.out]; exact hlt)⟩
          obtain ⟨ad, A1, c1, rfl, _, x0, X⟩ := (L.out.rw_below hbel.out).at_ hes
          have hT := hide (show ess.take (i + 1) = ess.take i ++ [es] by
            rw [List.take_add_one, hes]; rfl)
          have hxb := X.le_
          have hmem := hide (List.mem_of_getElem? hes)
          clear X hes
          obtain ⟨k, hk⟩ : ∃ k, Hid (es.length = k) := ⟨_, rfl⟩
          rw [hk.out] at x0 hxb
          by_cases hk8 : k ≤ 8
          · have hk8' : ¬ ((k : Int) > 8) := by omega
            have h2 : Hid (∀ es ∈ ess.take (i + 1), es.length ≤ 8) := fun es' hes' => by
              rw [hT.out] at hes'
              rcases List.mem_append.1 hes' with h | h
              · exact hall.out es' h
              · rw [List.mem_singleton] at h
                subst h
                rw [hk.out]; exact hk8
            go_wp2
            go_roundw
            case rel => exact ⟨i + 1, by omega, by go_num, h2, hbel⟩
            case measure => simp [intOf]; omega
          · have hk8' : ((k : Int) > 8) := by omega
            have e9 := hide (NO.out fun q => hk8 (by have := q.2.2 es hmem.out; rwa [hk.out] at this))
            go_wp2
            exact opq_end hR ⟨_, rfl, hbel.out, by rw [e9.out]; rfl⟩
        · obtain rfl : i = n := by omega
          rw [List.take_of_length_le (by rw [hl.out]; exact Nat.le_refl _)] at hall
          have e9 : Hid (gsmall i ess = true) := gsmall_iff.2 ⟨h8, hg.out, hall.out⟩
          go_wp2
          exact opq_end hR ⟨_, rfl, hbel.out, by rw [e9.out]; rfl⟩
    · have hr' : ((r : Int) > 300) := by omega
      have e9 := hide (NO.out fun q => hr (Nat.le_trans CN.out.1 q.2.1))
      go_wp2
      exact opq_end hR ⟨_, rfl, b0.out, by rw [e9.out]; rfl⟩
  · have h8' : ((n : Int) > 8) := by omega
    have e9 := hide (NO.out fun q => h8 q.1)
    go_wp2
    exact opq_end hR ⟨_, rfl, Below.refl _ _, by rw [e9.out]; rfl⟩
/-- What a grid makes of a sum. -/
theorem times_axpy {qss : List (List Rat)} {N s : Nat} (G : GQ qss N s) {xs ys : List Rat} (hx : xs.length = N) (hy : ys.length = N) (t : Rat) : (qss.map fun q => dot q (axpy xs ys t)) = axpy (qss.map fun q => dot q xs) (qss.map fun q => dot q ys) t := by
  refine list_eq (n := qss.length) (List.length_map ..) (by rw [axpy_length _ _ _ (by rw [List.length_map, List.length_map]), List.length_map]) fun i hi => ?_
  have h1 : qss[i]? = some (qss[i]'hi) := List.getElem?_eq_getElem _
  have hl := G.rect _ (List.mem_of_getElem? h1)
  have e : ∀ zs, (qss.map fun q => dot q zs).getD i 0 = dot (qss[i]) zs := fun zs => by
    rw [List.getD_eq_getElem?_getD, List.getElem?_map, h1]
    rfl
  rw [axpy_getD _ (by rw [List.length_map, List.length_map]) i (by rw [List.length_map]; exact hi), e, e, e, dot_comm, dot_axpy _ _ _ _ (by rw [hx, hy]) (by rw [hx, hl]), dot_comm xs, dot_comm ys]
  grind
set_option maxHeartbeats 8000000 in
theorem GridsLinear_ok (w : World) (A1 : Option Addr) (n1 c1 : Nat) (ess1 : List (List Raw)) (A2 : Option Addr) (n2 c2 : Nat) (es2 : List Raw) (A3 : Option Addr) (n3 c3 : Nat) (es3 : List Raw) (b4 : Bool) (A4 : Option Addr) (n4 c4 : Nat) (D4 : Option Addr) (m4 k4 : Nat) (e4 : Raw) (h1 : Gst RRw w (.slice A1 n1 c1) ess1) (h2 : Lst RRw w (.slice A2 n2 c2) es2) (h3 : Lst RRw w (.slice A3 n3 c3) es3) (h4 : RRw w (.agg #[.bool b4, .slice A4 n4 c4, .slice D4 m4 k4]) e4) (hT : Tab w) :
    Calls Tryd.prog 5 #[.slice A1 n1 c1, .agg #[.slice A2 n2 c2, .slice A3 n3 c3], .agg #[.bool b4, .slice A4 n4 c4, .slice D4 m4 k4]] w fun e w' => e = .returned (.bool true) ∧ Hid (Below w.heap.size w w') := by
  refine opq fun R hR => ?_
  have T := hide hT
  clear hT
  go_enter Tryd.func5, Tryd.ntmps5
  have hl1 := h1.len
  have hnb : n1 ≤ 140737488355328 := by rw [← hl1]; exact h1.le_
  have hb2 : n2 ≤ 140737488355328 := by rw [← h2.len]; exact h2.le_
  have hb3 : n3 ≤ 140737488355328 := by rw [← h3.len]; exact h3.le_
  clear hl1
  replace h1 := hide h1
  replace h2 := hide h2
  replace h3 := hide h3
  replace h4 := hide h4
  have KA := hide (Blk.new w 38 #[.slice A2 n2 c2, .slice A3 n3 c3])
  have y1 := (Below.refl w.heap.size w).alloc (Nat.le_refl _) (.cells #[.slice A2 n2 c2, .slice A3 n3 c3] 38)
  have KB := hide (Blk.new_at (w.alloc (.cells #[.slice A2 n2 c2, .slice A3 n3 c3] 38)) (w.heap.size + 1) (by simp) TR #[.bool b4, .slice A4 n4 c4, .slice D4 m4 k4])
  have y2 := (Below.refl (w.alloc (.cells #[.slice A2 n2 c2, .slice A3 n3 c3] 38)).heap.size (w.alloc (.cells #[.slice A2 n2 c2, .slice A3 n3 c3] 38))).alloc (Nat.le_refl _) (.cells #[.bool b4, .slice A4 n4 c4, .slice D4 m4 k4] TR)
  replace KA := hide (KA.out.below' y2)
  have b0 := hide (below_tr y1 y2)
  replace h1 := hide (h1.out.rw_below b0.out)
  replace h2 := hide (h2.out.rw_below b0.out)
  replace h3 := hide (h3.out.rw_below b0.out)
  replace h4 := hide (h4.out.below b0.out)
  clear y1 y2
  have hr4 : n4 ≤ 70368744177664 ∧ m4 ≤ 70368744177664 ∧ rsz e4 = 2 + n4 + m4 := h4.out.lens
  go_wp2
  obtain ⟨w1, hw1⟩ : ∃ w1, ((w.alloc (.cells #[.slice A2 n2 c2, .slice A3 n3 c3] 38)).alloc (.cells #[.bool b4, .slice A4 n4 c4, .slice D4 m4 k4] TR)) = w1 := ⟨_, rfl⟩
  rw [hw1] at h1 h2 h3 h4 KA KB b0 ⊢
  clear hw1
  have ka0 := hide (KA.out.at_ 0 rfl)
  have ka1 := hide (KA.out.at_ 1 rfl)
  have kb0 := hide (KB.out.at_ 0 rfl)
  have kb1 := hide (KB.out.at_ 1 rfl)
  have kb2 := hide (KB.out.at_ 2 rfl)
  by_cases hs : gsmall n1 ess1 = true
  rotate_left
  · have hsm : Hid ((!gsmall n1 ess1) = true) := by
      show _ = _
      rw [Bool.eq_false_iff.2 hs]
      rfl
    refine wp_region_facts 36 (fun w' => Below w1.heap.size w1 w') [(17, .eq (.bool true)), (18, .eq (.bool false)), (19, .eq (.bool false)), (20, .eq (.slice A1 n1 c1)), (21, .eq (.bool true)), (22, .eq (.bool true)), (23, .eq (.bool true)), (24, .eq (undef)), (25, .eq (undef)), (26, .eq (undef)), (27, .eq (undef)), (28, .eq (Go.Value.bool true)), (29, .eq (Go.Value.bool true)), (30, .eq (undef)), (31, .eq (undef)), (32, .eq (undef)), (33, .eq (undef)), (34, .eq (Go.Value.bool true)), (35, .eq (Go.Value.bool true)), (36, .eq (undef)), (37, .eq (undef)), (38, .eq (undef)), (39, .eq (undef)), (40, .eq (undef)), (41, .eq (undef)), (42, .eq (undef)), (43, .eq (undef)), (44, .eq (undef)), (45, .eq (undef)), (46, .eq (undef)), (47, .eq (Go.Value.bool true)), (48, .eq (Go.Value.bool true)), (49, .eq (undef)), (50, .eq (undef)), (51, .eq (undef)), (52, .eq (Go.Value.bool true))] [false, false, false, false, false, false, false, false, false, false, false, false, false, false, false, false, false, true, true, true, true, true, true, true, true, true, true, true, true, true, true, true, true, true, true, true, true, true, true, true, true, true, true, true, true, true, true, true, true, true, true, true, true, false, false, false, false, false, false, false, false, false, false, false, false, false, false, false, false, false, false, false, false, false, false, false, false, false, false, false, false, false, false, false, false, false, false, false, false, false, false, false, false, false, false, false, false, false, false, false, false, false, false, false, false, false, false, false, false, false, false] mixed (by kernel_rfl) (by kernel_rfl) (by kernel_rfl) (fun _ _ h hb => h.trans (hb.mono h.size)) ((Below.refl _ _).drew) ⟨?_, ?_, ?_, ?_, ?_, ?_, ?_, ?_, ?_, ?_, ?_, ?_, ?_, ?_, ?_, ?_, ?_, ?_, ?_, ?_, ?_, ?_, ?_, ?_, ?_, ?_, ?_, ?_, ?_, ?_, ?_, ?_, ?_, ?_, ?_, ?_, trivial⟩ ?_
    · exact .call (.inl rfl) rfl rfl fwr_assayerlaw05_alive (fun a w' hC hs hl => by
        show Calls _ _ #[] _ _
        exact galive_P _ (T.out.below (below_tr b0.out hC)))
    · exact .value (.inl rfl) (by intro T e; cases e) rfl rfl (fun a w' hC hs hl => by
        have e0 : a.eval (.tmp 17) = (.bool true) := (hl 17 (by kernel_rfl) (by kernel_rfl))
        simp only [execOp, e0]
        skip
        simp [go_sem] <;> rfl)
    · exact .move (.inl rfl) (.inl rfl) rfl (by kernel_rfl) (by kernel_rfl) rfl
    · exact .moveC (.inr ⟨2, false, 19, by decide, rfl, rfl, rfl⟩) (.inl rfl) rfl (fun a w' hC hs => (hs 0 (by kernel_rfl)))
    · exact .call (.inr ⟨2, false, 19, by decide, rfl, rfl, rfl⟩) rfl rfl fwr_assayerlaw05_great (fun a w' hC hs hl => by
        show Calls _ _ #[a.eval (.tmp 20)] _ _
        rw [show a.eval (.tmp 20) = (.slice A1 n1 c1 : Value) from (hl 20 (by kernel_rfl) (by kernel_rfl))]
        exact ggreat_det (h1.out.rw_below hC) true hsm.out)
    · exact .pick (b := false) (.inl rfl) rfl rfl (fun a w' hC hs hl => ⟨(hl 19 (by kernel_rfl) (by kernel_rfl)), (hl 21 (by kernel_rfl) (by kernel_rfl))⟩)
    · exact .move (.inl rfl) (.inl rfl) rfl (by kernel_rfl) (by kernel_rfl) rfl
    · exact .skip ⟨6, true, 23, by decide, rfl, rfl, rfl⟩ (fun _ e => by cases e; exact .inl rfl)
    · exact .skip ⟨6, true, 23, by decide, rfl, rfl, rfl⟩ (fun _ e => by cases e; exact .inl rfl)
    · exact .skip ⟨6, true, 23, by decide, rfl, rfl, rfl⟩ (fun _ e => by cases e; exact .inl rfl)
    · exact .skip ⟨6, true, 23, by decide, rfl, rfl, rfl⟩ (fun _ e => by cases e; exact .inl rfl)
    · exact .pick (b := true) (.inl rfl) rfl rfl (fun a w' hC hs hl => ⟨(hl 23 (by kernel_rfl) (by kernel_rfl)), rfl⟩)
    · exact .move (.inl rfl) (.inl rfl) rfl (by kernel_rfl) (by kernel_rfl) rfl
    · exact .skip ⟨12, true, 29, by decide, rfl, rfl, rfl⟩ (fun _ e => by cases e; exact .inl rfl)
    · exact .skip ⟨12, true, 29, by decide, rfl, rfl, rfl⟩ (fun _ e => by cases e; exact .inl rfl)
    · exact .skip ⟨12, true, 29, by decide, rfl, rfl, rfl⟩ (fun _ e => by cases e; exact .inl rfl)
    · exact .skip ⟨12, true, 29, by decide, rfl, rfl, rfl⟩ (fun _ e => by cases e; exact .inl rfl)
    · exact .pick (b := true) (.inl rfl) rfl rfl (fun a w' hC hs hl => ⟨(hl 29 (by kernel_rfl) (by kernel_rfl)), rfl⟩)
    · exact .move (.inl rfl) (.inl rfl) rfl (by kernel_rfl) (by kernel_rfl) rfl
    · exact .skip ⟨18, true, 35, by decide, rfl, rfl, rfl⟩ (fun _ e => by cases e; exact .inl rfl)
    · exact .skip ⟨18, true, 35, by decide, rfl, rfl, rfl⟩ (fun _ e => by cases e; exact .inl rfl)
    · exact .skip ⟨18, true, 35, by decide, rfl, rfl, rfl⟩ (fun _ e => by cases e; exact .inl rfl)
    · exact .skip ⟨18, true, 35, by decide, rfl, rfl, rfl⟩ (fun _ e => by cases e; exact .inl rfl)
    · exact .skip ⟨18, true, 35, by decide, rfl, rfl, rfl⟩ (fun _ e => by cases e; exact .inl rfl)
    · exact .skip ⟨18, true, 35, by decide, rfl, rfl, rfl⟩ (fun _ e => by cases e; exact .inl rfl)
    · exact .skip ⟨18, true, 35, by decide, rfl, rfl, rfl⟩ (fun _ e => by cases e; exact .inl rfl)
    · exact .skip ⟨18, true, 35, by decide, rfl, rfl, rfl⟩ (fun _ e => by cases e; exact .inl rfl)
    · exact .skip ⟨18, true, 35, by decide, rfl, rfl, rfl⟩ (fun _ e => by cases e; exact .inl rfl)
    · exact .skip ⟨18, true, 35, by decide, rfl, rfl, rfl⟩ (fun _ e => by cases e; exact .inl rfl)
    · exact .skip ⟨18, true, 35, by decide, rfl, rfl, rfl⟩ (fun _ e => by cases e; exact .inl rfl)
    · exact .pick (b := true) (.inl rfl) rfl rfl (fun a w' hC hs hl => ⟨(hl 35 (by kernel_rfl) (by kernel_rfl)), rfl⟩)
    · exact .move (.inl rfl) (.inl rfl) rfl (by kernel_rfl) (by kernel_rfl) rfl
    · exact .skip ⟨31, true, 48, by decide, rfl, rfl, rfl⟩ (fun _ e => by cases e; exact .inl rfl)
    · exact .skip ⟨31, true, 48, by decide, rfl, rfl, rfl⟩ (fun _ e => by cases e; exact .inl rfl)
    · exact .skip ⟨31, true, 48, by decide, rfl, rfl, rfl⟩ (fun _ e => by cases e; exact .inl rfl)
    · exact .pick (b := true) (.inl rfl) rfl rfl (fun a w' hC hs hl => ⟨(hl 48 (by kernel_rfl) (by kernel_rfl)), rfl⟩)
    · intro f w2 hC hF _
      have f52 : f 52 = .bool true := hF 52 (by kernel_rfl)
      clear hF
      simp only [patch, List.drop]
      rw [f52]
      clear f52
      replace b0 := hide (below_tr b0.out hC)
      generalize f 17 = y17_
      generalize f 18 = y18_
      generalize f 19 = y19_
      generalize f 20 = y20_
      generalize f 21 = y21_
      generalize f 22 = y22_
      generalize f 23 = y23_
      generalize f 24 = y24_
      generalize f 25 = y25_
      generalize f 26 = y26_
      generalize f 27 = y27_
      generalize f 28 = y28_
      generalize f 29 = y29_
      generalize f 30 = y30_
      generalize f 31 = y31_
      generalize f 32 = y32_
      generalize f 33 = y33_
      generalize f 34 = y34_
      generalize f 35 = y35_
      generalize f 36 = y36_
      generalize f 37 = y37_
      generalize f 38 = y38_
      generalize f 39 = y39_
      generalize f 40 = y40_
      generalize f 41 = y41_
      generalize f 42 = y42_
      generalize f 43 = y43_
      generalize f 44 = y44_
      generalize f 45 = y45_
      generalize f 46 = y46_
      generalize f 47 = y47_
      generalize f 48 = y48_
      generalize f 49 = y49_
      generalize f 50 = y50_
      generalize f 51 = y51_
      clear hC
      go_wp2_with fail
      refine (galive_P w2 (T.out.below b0.out)).mono ?_
      rintro e w99 ⟨_, rfl, d0, rfl⟩
      replace b0 := hide (below_tr b0.out d0)
      clear d0
      go_wp2
      exact opq_end hR ⟨rfl, b0⟩
  have hsm : Hid ((!gsmall n1 ess1) = false) := by
    show _ = _
    rw [hs]
    rfl
  by_cases hc2 : 10 < (n2 : Int)
  · skip
    refine wp_region_facts 36 (fun w' => Below w1.heap.size w1 w') [(17, .eq (.bool true)), (18, .eq (.bool false)), (19, .eq (.bool false)), (20, .eq (.slice A1 n1 c1)), (21, .eq (.bool false)), (22, .eq (.bool false)), (23, .eq (.bool false)), (24, .eq ((.pointer (some ⟨w.heap.size, 0, none⟩) : Value))), (25, .eq (.slice A2 n2 c2)), (26, .eq (.int .i64 (n2 : Nat))), (27, .eq (.bool true)), (28, .eq (.bool true)), (29, .eq (.bool true)), (30, .eq (undef)), (31, .eq (undef)), (32, .eq (undef)), (33, .eq (undef)), (34, .eq (Go.Value.bool true)), (35, .eq (Go.Value.bool true)), (36, .eq (undef)), (37, .eq (undef)), (38, .eq (undef)), (39, .eq (undef)), (40, .eq (undef)), (41, .eq (undef)), (42, .eq (undef)), (43, .eq (undef)), (44, .eq (undef)), (45, .eq (undef)), (46, .eq (undef)), (47, .eq (Go.Value.bool true)), (48, .eq (Go.Value.bool true)), (49, .eq (undef)), (50, .eq (undef)), (51, .eq (undef)), (52, .eq (Go.Value.bool true))] [false, false, false, false, false, false, false, false, false, false, false, false, false, false, false, false, false, true, true, true, true, true, true, true, true, true, true, true, true, true, true, true, true, true, true, true, true, true, true, true, true, true, true, true, true, true, true, true, true, true, true, true, true, false, false, false, false, false, false, false, false, false, false, false, false, false, false, false, false, false, false, false, false, false, false, false, false, false, false, false, false, false, false, false, false, false, false, false, false, false, false, false, false, false, false, false, false, false, false, false, false, false, false, false, false, false, false, false, false, false, false] mixed (by kernel_rfl) (by kernel_rfl) (by kernel_rfl) (fun _ _ h hb => h.trans (hb.mono h.size)) ((Below.refl _ _).drew) ⟨?_, ?_, ?_, ?_, ?_, ?_, ?_, ?_, ?_, ?_, ?_, ?_, ?_, ?_, ?_, ?_, ?_, ?_, ?_, ?_, ?_, ?_, ?_, ?_, ?_, ?_, ?_, ?_, ?_, ?_, ?_, ?_, ?_, ?_, ?_, ?_, trivial⟩ ?_
    · exact .call (.inl rfl) rfl rfl fwr_assayerlaw05_alive (fun a w' hC hs hl => by
        show Calls _ _ #[] _ _
        exact galive_P _ (T.out.below (below_tr b0.out hC)))
    · exact .value (.inl rfl) (by intro T e; cases e) rfl rfl (fun a w' hC hs hl => by
        have e0 : a.eval (.tmp 17) = (.bool true) := (hl 17 (by kernel_rfl) (by kernel_rfl))
        simp only [execOp, e0]
        skip
        simp [go_sem] <;> rfl)
    · exact .move (.inl rfl) (.inl rfl) rfl (by kernel_rfl) (by kernel_rfl) rfl
    · exact .moveC (.inr ⟨2, false, 19, by decide, rfl, rfl, rfl⟩) (.inl rfl) rfl (fun a w' hC hs => (hs 0 (by kernel_rfl)))
    · exact .call (.inr ⟨2, false, 19, by decide, rfl, rfl, rfl⟩) rfl rfl fwr_assayerlaw05_great (fun a w' hC hs hl => by
        show Calls _ _ #[a.eval (.tmp 20)] _ _
        rw [show a.eval (.tmp 20) = (.slice A1 n1 c1 : Value) from (hl 20 (by kernel_rfl) (by kernel_rfl))]
        exact ggreat_det (h1.out.rw_below hC) false hsm.out)
    · exact .pick (b := false) (.inl rfl) rfl rfl (fun a w' hC hs hl => ⟨(hl 19 (by kernel_rfl) (by kernel_rfl)), (hl 21 (by kernel_rfl) (by kernel_rfl))⟩)
    · exact .move (.inl rfl) (.inl rfl) rfl (by kernel_rfl) (by kernel_rfl) rfl
    · exact .value (.inr ⟨6, false, 23, by decide, rfl, rfl, rfl⟩) (by intro T e; cases e) rfl rfl (fun a w' hC hs hl => by
        have e0 : a.eval (.tmp 4) = ((.pointer (some ⟨w.heap.size, 0, none⟩) : Value)) := (hs 4 (by kernel_rfl))
        simp only [execOp, e0]
        simp [go_sem, Act.eval])
    · exact .load (.slice A2 n2 c2) (.inr ⟨6, false, 23, by decide, rfl, rfl, rfl⟩) rfl rfl (fun a w' hC hs hl => by rw [show a.eval (.tmp 24) = (.pointer (some ⟨w.heap.size, 0, none⟩) : Value) from (hl 24 (by kernel_rfl) (by kernel_rfl))]; exact ⟨by simp [go_sem, cell_below hC ka0.out], rfl⟩)
    · exact .value (.inr ⟨6, false, 23, by decide, rfl, rfl, rfl⟩) (by intro T e; cases e) rfl rfl (fun a w' hC hs hl => by
        have e0 : a.eval (.tmp 25) = (.slice A2 n2 c2) := (hl 25 (by kernel_rfl) (by kernel_rfl))
        have e0' : a.tmps[25]?.getD undef = _ := (by simp [Act.eval] : _ = a.eval (.tmp 25)).trans e0
        simp [execOp, resolve, invoke, builtin, go_sem, e0, e0'])
    · exact .value (.inr ⟨6, false, 23, by decide, rfl, rfl, rfl⟩) (by intro T e; cases e) rfl rfl (fun a w' hC hs hl => by
        have e0 : a.eval (.tmp 26) = (.int .i64 (n2 : Nat)) := (hl 26 (by kernel_rfl) (by kernel_rfl))
        simp only [execOp, e0]
        simp only [Act.eval]
        simp [go_sem, hc2])
    · exact .pick (b := false) (.inl rfl) rfl rfl (fun a w' hC hs hl => ⟨(hl 23 (by kernel_rfl) (by kernel_rfl)), (hl 27 (by kernel_rfl) (by kernel_rfl))⟩)
    · exact .move (.inl rfl) (.inl rfl) rfl (by kernel_rfl) (by kernel_rfl) rfl
    · exact .skip ⟨12, true, 29, by decide, rfl, rfl, rfl⟩ (fun _ e => by cases e; exact .inl rfl)
    · exact .skip ⟨12, true, 29, by decide, rfl, rfl, rfl⟩ (fun _ e => by cases e; exact .inl rfl)
    · exact .skip ⟨12, true, 29, by decide, rfl, rfl, rfl⟩ (fun _ e => by cases e; exact .inl rfl)
    · exact .skip ⟨12, true, 29, by decide, rfl, rfl, rfl⟩ (fun _ e => by cases e; exact .inl rfl)
    · exact .pick (b := true) (.inl rfl) rfl rfl (fun a w' hC hs hl => ⟨(hl 29 (by kernel_rfl) (by kernel_rfl)), rfl⟩)
    · exact .move (.inl rfl) (.inl rfl) rfl (by kernel_rfl) (by kernel_rfl) rfl
    · exact .skip ⟨18, true, 35, by decide, rfl, rfl, rfl⟩ (fun _ e => by cases e; exact .inl rfl)
    · exact .skip ⟨18, true, 35, by decide, rfl, rfl, rfl⟩ (fun _ e => by cases e; exact .inl rfl)
    · exact .skip ⟨18, true, 35, by decide, rfl, rfl, rfl⟩ (fun _ e => by cases e; exact .inl rfl)
    · exact .skip ⟨18, true, 35, by decide, rfl, rfl, rfl⟩ (fun _ e => by cases e; exact .inl rfl)
    · exact .skip ⟨18, true, 35, by decide, rfl, rfl, rfl⟩ (fun _ e => by cases e; exact .inl rfl)
    · exact .skip ⟨18, true, 35, by decide, rfl, rfl, rfl⟩ (fun _ e => by cases e; exact .inl rfl)
    · exact .skip ⟨18, true, 35, by decide, rfl, rfl, rfl⟩ (fun _ e => by cases e; exact .inl rfl)
    · exact .skip ⟨18, true, 35, by decide, rfl, rfl, rfl⟩ (fun _ e => by cases e; exact .inl rfl)
    · exact .skip ⟨18, true, 35, by decide, rfl, rfl, rfl⟩ (fun _ e => by cases e; exact .inl rfl)
    · exact .skip ⟨18, true, 35, by decide, rfl, rfl, rfl⟩ (fun _ e => by cases e; exact .inl rfl)
    · exact .skip ⟨18, true, 35, by decide, rfl, rfl, rfl⟩ (fun _ e => by cases e; exact .inl rfl)
    · exact .pick (b := true) (.inl rfl) rfl rfl (fun a w' hC hs hl => ⟨(hl 35 (by kernel_rfl) (by kernel_rfl)), rfl⟩)
    · exact .move (.inl rfl) (.inl rfl) rfl (by kernel_rfl) (by kernel_rfl) rfl
    · exact .skip ⟨31, true, 48, by decide, rfl, rfl, rfl⟩ (fun _ e => by cases e; exact .inl rfl)
    · exact .skip ⟨31, true, 48, by decide, rfl, rfl, rfl⟩ (fun _ e => by cases e; exact .inl rfl)
    · exact .skip ⟨31, true, 48, by decide, rfl, rfl, rfl⟩ (fun _ e => by cases e; exact .inl rfl)
    · exact .pick (b := true) (.inl rfl) rfl rfl (fun a w' hC hs hl => ⟨(hl 48 (by kernel_rfl) (by kernel_rfl)), rfl⟩)
    · intro f w2 hC hF _
      have f52 : f 52 = .bool true := hF 52 (by kernel_rfl)
      clear hF
      simp only [patch, List.drop]
      rw [f52]
      clear f52
      replace b0 := hide (below_tr b0.out hC)
      generalize f 17 = y17_
      generalize f 18 = y18_
      generalize f 19 = y19_
      generalize f 20 = y20_
      generalize f 21 = y21_
      generalize f 22 = y22_
      generalize f 23 = y23_
      generalize f 24 = y24_
      generalize f 25 = y25_
      generalize f 26 = y26_
      generalize f 27 = y27_
      generalize f 28 = y28_
      generalize f 29 = y29_
      generalize f 30 = y30_
      generalize f 31 = y31_
      generalize f 32 = y32_
      generalize f 33 = y33_
      generalize f 34 = y34_
      generalize f 35 = y35_
      generalize f 36 = y36_
      generalize f 37 = y37_
      generalize f 38 = y38_
      generalize f 39 = y39_
      generalize f 40 = y40_
      generalize f 41 = y41_
      generalize f 42 = y42_
      generalize f 43 = y43_
      generalize f 44 = y44_
      generalize f 45 = y45_
      generalize f 46 = y46_
      generalize f 47 = y47_
      generalize f 48 = y48_
      generalize f 49 = y49_
      generalize f 50 = y50_
      generalize f 51 = y51_
      clear hC
      go_wp2_with fail
      refine (galive_P w2 (T.out.below b0.out)).mono ?_
      rintro e w99 ⟨_, rfl, d0, rfl⟩
      replace b0 := hide (below_tr b0.out d0)
      clear d0
      go_wp2
      exact opq_end hR ⟨rfl, b0⟩
  by_cases hc3 : 10 < (n3 : Int)
  · skip
    refine wp_region_facts 36 (fun w' => Below w1.heap.size w1 w') [(17, .eq (.bool true)), (18, .eq (.bool false)), (19, .eq (.bool false)), (20, .eq (.slice A1 n1 c1)), (21, .eq (.bool false)), (22, .eq (.bool false)), (23, .eq (.bool false)), (24, .eq ((.pointer (some ⟨w.heap.size, 0, none⟩) : Value))), (25, .eq (.slice A2 n2 c2)), (26, .eq (.int .i64 (n2 : Nat))), (27, .eq (.bool false)), (28, .eq (.bool false)), (29, .eq (.bool false)), (30, .eq ((.pointer (some ⟨w.heap.size, 1, none⟩) : Value))), (31, .eq (.slice A3 n3 c3)), (32, .eq (.int .i64 (n3 : Nat))), (33, .eq (.bool true)), (34, .eq (.bool true)), (35, .eq (.bool true)), (36, .eq (undef)), (37, .eq (undef)), (38, .eq (undef)), (39, .eq (undef)), (40, .eq (undef)), (41, .eq (undef)), (42, .eq (undef)), (43, .eq (undef)), (44, .eq (undef)), (45, .eq (undef)), (46, .eq (undef)), (47, .eq (Go.Value.bool true)), (48, .eq (Go.Value.bool true)), (49, .eq (undef)), (50, .eq (undef)), (51, .eq (undef)), (52, .eq (Go.Value.bool true))] [false, false, false, false, false, false, false, false, false, false, false, false, false, false, false, false, false, true, true, true, true, true, true, true, true, true, true, true, true, true, true, true, true, true, true, true, true, true, true, true, true, true, true, true, true, true, true, true, true, true, true, true, true, false, false, false, false, false, false, false, false, false, false, false, false, false, false, false, false, false, false, false, false, false, false, false, false, false, false, false, false, false, false, false, false, false, false, false, false, false, false, false, false, false, false, false, false, false, false, false, false, false, false, false, false, false, false, false, false, false, false] mixed (by kernel_rfl) (by kernel_rfl) (by kernel_rfl) (fun _ _ h hb => h.trans (hb.mono h.size)) ((Below.refl _ _).drew) ⟨?_, ?_, ?_, ?_, ?_, ?_, ?_, ?_, ?_, ?_, ?_, ?_, ?_, ?_, ?_, ?_, ?_, ?_, ?_, ?_, ?_, ?_, ?_, ?_, ?_, ?_, ?_, ?_, ?_, ?_, ?_, ?_, ?_, ?_, ?_, ?_, trivial⟩ ?_
    · exact .call (.inl rfl) rfl rfl fwr_assayerlaw05_alive (fun a w' hC hs hl => by
        show Calls _ _ #[] _ _
        exact galive_P _ (T.out.below (below_tr b0.out hC)))
    · exact .value (.inl rfl) (by intro T e; cases e) rfl rfl (fun a w' hC hs hl => by
        have e0 : a.eval (.tmp 17) = (.bool true) := (hl 17 (by kernel_rfl) (by kernel_rfl))
        simp only [execOp, e0]
        skip
        simp [go_sem] <;> rfl)
    · exact .move (.inl rfl) (.inl rfl) rfl (by kernel_rfl) (by kernel_rfl) rfl
    · exact .moveC (.inr ⟨2, false, 19, by decide, rfl, rfl, rfl⟩) (.inl rfl) rfl (fun a w' hC hs => (hs 0 (by kernel_rfl)))
    · exact .call (.inr ⟨2, false, 19, by decide, rfl, rfl, rfl⟩) rfl rfl fwr_assayerlaw05_great (fun a w' hC hs hl => by
        show Calls _ _ #[a.eval (.tmp 20)] _ _
        rw [show a.eval (.tmp 20) = (.slice A1 n1 c1 : Value) from (hl 20 (by kernel_rfl) (by kernel_rfl))]
        exact ggreat_det (h1.out.rw_below hC) false hsm.out)
    · exact .pick (b := false) (.inl rfl) rfl rfl (fun a w' hC hs hl => ⟨(hl 19 (by kernel_rfl) (by kernel_rfl)), (hl 21 (by kernel_rfl) (by kernel_rfl))⟩)
    · exact .move (.inl rfl) (.inl rfl) rfl (by kernel_rfl) (by kernel_rfl) rfl
    · exact .value (.inr ⟨6, false, 23, by decide, rfl, rfl, rfl⟩) (by intro T e; cases e) rfl rfl (fun a w' hC hs hl => by
        have e0 : a.eval (.tmp 4) = ((.pointer (some ⟨w.heap.size, 0, none⟩) : Value)) := (hs 4 (by kernel_rfl))
        simp only [execOp, e0]
        simp [go_sem, Act.eval])
    · exact .load (.slice A2 n2 c2) (.inr ⟨6, false, 23, by decide, rfl, rfl, rfl⟩) rfl rfl (fun a w' hC hs hl => by rw [show a.eval (.tmp 24) = (.pointer (some ⟨w.heap.size, 0, none⟩) : Value) from (hl 24 (by kernel_rfl) (by kernel_rfl))]; exact ⟨by simp [go_sem, cell_below hC ka0.out], rfl⟩)
    · exact .value (.inr ⟨6, false, 23, by decide, rfl, rfl, rfl⟩) (by intro T e; cases e) rfl rfl (fun a w' hC hs hl => by
        have e0 : a.eval (.tmp 25) = (.slice A2 n2 c2) := (hl 25 (by kernel_rfl) (by kernel_rfl))
        have e0' : a.tmps[25]?.getD undef = _ := (by simp [Act.eval] : _ = a.eval (.tmp 25)).trans e0
        simp [execOp, resolve, invoke, builtin, go_sem, e0, e0'])
    · exact .value (.inr ⟨6, false, 23, by decide, rfl, rfl, rfl⟩) (by intro T e; cases e) rfl rfl (fun a w' hC hs hl => by
        have e0 : a.eval (.tmp 26) = (.int .i64 (n2 : Nat)) := (hl 26 (by kernel_rfl) (by kernel_rfl))
        simp only [execOp, e0]
        simp only [Act.eval]
        simp [go_sem, hc2])
    · exact .pick (b := false) (.inl rfl) rfl rfl (fun a w' hC hs hl => ⟨(hl 23 (by kernel_rfl) (by kernel_rfl)), (hl 27 (by kernel_rfl) (by kernel_rfl))⟩)
    · exact .move (.inl rfl) (.inl rfl) rfl (by kernel_rfl) (by kernel_rfl) rfl
    · exact .value (.inr ⟨12, false, 29, by decide, rfl, rfl, rfl⟩) (by intro T e; cases e) rfl rfl (fun a w' hC hs hl => by
        have e0 : a.eval (.tmp 4) = ((.pointer (some ⟨w.heap.size, 0, none⟩) : Value)) := (hs 4 (by kernel_rfl))
        simp only [execOp, e0]
        simp [go_sem, Act.eval])
    · exact .load (.slice A3 n3 c3) (.inr ⟨12, false, 29, by decide, rfl, rfl, rfl⟩) rfl rfl (fun a w' hC hs hl => by rw [show a.eval (.tmp 30) = (.pointer (some ⟨w.heap.size, 1, none⟩) : Value) from (hl 30 (by kernel_rfl) (by kernel_rfl))]; exact ⟨by simp [go_sem, cell_below hC ka1.out], rfl⟩)
    · exact .value (.inr ⟨12, false, 29, by decide, rfl, rfl, rfl⟩) (by intro T e; cases e) rfl rfl (fun a w' hC hs hl => by
        have e0 : a.eval (.tmp 31) = (.slice A3 n3 c3) := (hl 31 (by kernel_rfl) (by kernel_rfl))
        have e0' : a.tmps[31]?.getD undef = _ := (by simp [Act.eval] : _ = a.eval (.tmp 31)).trans e0
        simp [execOp, resolve, invoke, builtin, go_sem, e0, e0'])
    · exact .value (.inr ⟨12, false, 29, by decide, rfl, rfl, rfl⟩) (by intro T e; cases e) rfl rfl (fun a w' hC hs hl => by
        have e0 : a.eval (.tmp 32) = (.int .i64 (n3 : Nat)) := (hl 32 (by kernel_rfl) (by kernel_rfl))
        simp only [execOp, e0]
        simp only [Act.eval]
        simp [go_sem, hc3])
    · exact .pick (b := false) (.inl rfl) rfl rfl (fun a w' hC hs hl => ⟨(hl 29 (by kernel_rfl) (by kernel_rfl)), (hl 33 (by kernel_rfl) (by kernel_rfl))⟩)
    · exact .move (.inl rfl) (.inl rfl) rfl (by kernel_rfl) (by kernel_rfl) rfl
    · exact .skip ⟨18, true, 35, by decide, rfl, rfl, rfl⟩ (fun _ e => by cases e; exact .inl rfl)
    · exact .skip ⟨18, true, 35, by decide, rfl, rfl, rfl⟩ (fun _ e => by cases e; exact .inl rfl)
    · exact .skip ⟨18, true, 35, by decide, rfl, rfl, rfl⟩ (fun _ e => by cases e; exact .inl rfl)
    · exact .skip ⟨18, true, 35, by decide, rfl, rfl, rfl⟩ (fun _ e => by cases e; exact .inl rfl)
    · exact .skip ⟨18, true, 35, by decide, rfl, rfl, rfl⟩ (fun _ e => by cases e; exact .inl rfl)
    · exact .skip ⟨18, true, 35, by decide, rfl, rfl, rfl⟩ (fun _ e => by cases e; exact .inl rfl)
    · exact .skip ⟨18, true, 35, by decide, rfl, rfl, rfl⟩ (fun _ e => by cases e; exact .inl rfl)
    · exact .skip ⟨18, true, 35, by decide, rfl, rfl, rfl⟩ (fun _ e => by cases e; exact .inl rfl)
    · exact .skip ⟨18, true, 35, by decide, rfl, rfl, rfl⟩ (fun _ e => by cases e; exact .inl rfl)
    · exact .skip ⟨18, true, 35, by decide, rfl, rfl, rfl⟩ (fun _ e => by cases e; exact .inl rfl)
    · exact .skip ⟨18, true, 35, by decide, rfl, rfl, rfl⟩ (fun _ e => by cases e; exact .inl rfl)
    · exact .pick (b := true) (.inl rfl) rfl rfl (fun a w' hC hs hl => ⟨(hl 35 (by kernel_rfl) (by kernel_rfl)), rfl⟩)
    · exact .move (.inl rfl) (.inl rfl) rfl (by kernel_rfl) (by kernel_rfl) rfl
    · exact .skip ⟨31, true, 48, by decide, rfl, rfl, rfl⟩ (fun _ e => by cases e; exact .inl rfl)
    · exact .skip ⟨31, true, 48, by decide, rfl, rfl, rfl⟩ (fun _ e => by cases e; exact .inl rfl)
    · exact .skip ⟨31, true, 48, by decide, rfl, rfl, rfl⟩ (fun _ e => by cases e; exact .inl rfl)
    · exact .pick (b := true) (.inl rfl) rfl rfl (fun a w' hC hs hl => ⟨(hl 48 (by kernel_rfl) (by kernel_rfl)), rfl⟩)
    · intro f w2 hC hF _
      have f52 : f 52 = .bool true := hF 52 (by kernel_rfl)
      clear hF
      simp only [patch, List.drop]
      rw [f52]
      clear f52
      replace b0 := hide (below_tr b0.out hC)
      generalize f 17 = y17_
      generalize f 18 = y18_
      generalize f 19 = y19_
      generalize f 20 = y20_
      generalize f 21 = y21_
      generalize f 22 = y22_
      generalize f 23 = y23_
      generalize f 24 = y24_
      generalize f 25 = y25_
      generalize f 26 = y26_
      generalize f 27 = y27_
      generalize f 28 = y28_
      generalize f 29 = y29_
      generalize f 30 = y30_
      generalize f 31 = y31_
      generalize f 32 = y32_
      generalize f 33 = y33_
      generalize f 34 = y34_
      generalize f 35 = y35_
      generalize f 36 = y36_
      generalize f 37 = y37_
      generalize f 38 = y38_
      generalize f 39 = y39_
      generalize f 40 = y40_
      generalize f 41 = y41_
      generalize f 42 = y42_
      generalize f 43 = y43_
      generalize f 44 = y44_
      generalize f 45 = y45_
      generalize f 46 = y46_
      generalize f 47 = y47_
      generalize f 48 = y48_
      generalize f 49 = y49_
      generalize f 50 = y50_
      generalize f 51 = y51_
      clear hC
      go_wp2_with fail
      refine (galive_P w2 (T.out.below b0.out)).mono ?_
      rintro e w99 ⟨_, rfl, d0, rfl⟩
      replace b0 := hide (below_tr b0.out d0)
      clear d0
      go_wp2
      exact opq_end hR ⟨rfl, b0⟩
  by_cases hc4 : 100 < n2 + tsz es2 + (n3 + tsz es3) + (2 + n4 + m4)
  · skip
    refine wp_region_facts 36 (fun w' => Below w1.heap.size w1 w') [(17, .eq (.bool true)), (18, .eq (.bool false)), (19, .eq (.bool false)), (20, .eq (.slice A1 n1 c1)), (21, .eq (.bool false)), (22, .eq (.bool false)), (23, .eq (.bool false)), (24, .eq ((.pointer (some ⟨w.heap.size, 0, none⟩) : Value))), (25, .eq (.slice A2 n2 c2)), (26, .eq (.int .i64 (n2 : Nat))), (27, .eq (.bool false)), (28, .eq (.bool false)), (29, .eq (.bool false)), (30, .eq ((.pointer (some ⟨w.heap.size, 1, none⟩) : Value))), (31, .eq (.slice A3 n3 c3)), (32, .eq (.int .i64 (n3 : Nat))), (33, .eq (.bool false)), (34, .eq (.bool false)), (35, .eq (.bool false)), (36, .eq ((.pointer (some ⟨w.heap.size, 0, none⟩) : Value))), (37, .eq (.slice A2 n2 c2)), (38, (.cnt (n2 + tsz es2) 500000000000000)), (39, .eq ((.pointer (some ⟨w.heap.size, 1, none⟩) : Value))), (40, .eq (.slice A3 n3 c3)), (41, (.cnt (n3 + tsz es3) 500000000000000)), (42, (.cnt (n2 + tsz es2 + (n3 + tsz es3)) 1000000000000000)), (43, .eq (.agg #[.bool b4, .slice A4 n4 c4, .slice D4 m4 k4])), (44, (.cnt (2 + n4 + m4) 500000000000000)), (45, (.cnt (n2 + tsz es2 + (n3 + tsz es3) + (2 + n4 + m4)) 1500000000000000)), (46, .eq (.bool true)), (47, .eq (.bool true)), (48, .eq (.bool true)), (49, .eq (undef)), (50, .eq (undef)), (51, .eq (undef)), (52, .eq (Go.Value.bool true))] [false, false, false, false, false, false, false, false, false, false, false, false, false, false, false, false, false, true, true, true, true, true, true, true, true, true, true, true, true, true, true, true, true, true, true, true, true, true, true, true, true, true, true, true, true, true, true, true, true, true, true, true, true, false, false, false, false, false, false, false, false, false, false, false, false, false, false, false, false, false, false, false, false, false, false, false, false, false, false, false, false, false, false, false, false, false, false, false, false, false, false, false, false, false, false, false, false, false, false, false, false, false, false, false, false, false, false, false, false, false, false] mixed (by kernel_rfl) (by kernel_rfl) (by kernel_rfl) (fun _ _ h hb => h.trans (hb.mono h.size)) ((Below.refl _ _).drew) ⟨?_, ?_, ?_, ?_, ?_, ?_, ?_, ?_, ?_, ?_, ?_, ?_, ?_, ?_, ?_, ?_, ?_, ?_, ?_, ?_, ?_, ?_, ?_, ?_, ?_, ?_, ?_, ?_, ?_, ?_, ?_, ?_, ?_, ?_, ?_, ?_, trivial⟩ ?_
    · exact .call (.inl rfl) rfl rfl fwr_assayerlaw05_alive (fun a w' hC hs hl => by
        show Calls _ _ #[] _ _
        exact galive_P _ (T.out.below (below_tr b0.out hC)))
    · exact .value (.inl rfl) (by intro T e; cases e) rfl rfl (fun a w' hC hs hl => by
        have e0 : a.eval (.tmp 17) = (.bool true) := (hl 17 (by kernel_rfl) (by kernel_rfl))
        simp only [execOp, e0]
        skip
        simp [go_sem] <;> rfl)
    · exact .move (.inl rfl) (.inl rfl) rfl (by kernel_rfl) (by kernel_rfl) rfl
    · exact .moveC (.inr ⟨2, false, 19, by decide, rfl, rfl, rfl⟩) (.inl rfl) rfl (fun a w' hC hs => (hs 0 (by kernel_rfl)))
    · exact .call (.inr ⟨2, false, 19, by decide, rfl, rfl, rfl⟩) rfl rfl fwr_assayerlaw05_great (fun a w' hC hs hl => by
        show Calls _ _ #[a.eval (.tmp 20)] _ _
        rw [show a.eval (.tmp 20) = (.slice A1 n1 c1 : Value) from (hl 20 (by kernel_rfl) (by kernel_rfl))]
        exact ggreat_det (h1.out.rw_below hC) false hsm.out)
    · exact .pick (b := false) (.inl rfl) rfl rfl (fun a w' hC hs hl => ⟨(hl 19 (by kernel_rfl) (by kernel_rfl)), (hl 21 (by kernel_rfl) (by kernel_rfl))⟩)
    · exact .move (.inl rfl) (.inl rfl) rfl (by kernel_rfl) (by kernel_rfl) rfl
    · exact .value (.inr ⟨6, false, 23, by decide, rfl, rfl, rfl⟩) (by intro T e; cases e) rfl rfl (fun a w' hC hs hl => by
        have e0 : a.eval (.tmp 4) = ((.pointer (some ⟨w.heap.size, 0, none⟩) : Value)) := (hs 4 (by kernel_rfl))
        simp only [execOp, e0]
        simp [go_sem, Act.eval])
    · exact .load (.slice A2 n2 c2) (.inr ⟨6, false, 23, by decide, rfl, rfl, rfl⟩) rfl rfl (fun a w' hC hs hl => by rw [show a.eval (.tmp 24) = (.pointer (some ⟨w.heap.size, 0, none⟩) : Value) from (hl 24 (by kernel_rfl) (by kernel_rfl))]; exact ⟨by simp [go_sem, cell_below hC ka0.out], rfl⟩)
    · exact .value (.inr ⟨6, false, 23, by decide, rfl, rfl, rfl⟩) (by intro T e; cases e) rfl rfl (fun a w' hC hs hl => by
        have e0 : a.eval (.tmp 25) = (.slice A2 n2 c2) := (hl 25 (by kernel_rfl) (by kernel_rfl))
        have e0' : a.tmps[25]?.getD undef = _ := (by simp [Act.eval] : _ = a.eval (.tmp 25)).trans e0
        simp [execOp, resolve, invoke, builtin, go_sem, e0, e0'])
    · exact .value (.inr ⟨6, false, 23, by decide, rfl, rfl, rfl⟩) (by intro T e; cases e) rfl rfl (fun a w' hC hs hl => by
        have e0 : a.eval (.tmp 26) = (.int .i64 (n2 : Nat)) := (hl 26 (by kernel_rfl) (by kernel_rfl))
        simp only [execOp, e0]
        simp only [Act.eval]
        simp [go_sem, hc2])
    · exact .pick (b := false) (.inl rfl) rfl rfl (fun a w' hC hs hl => ⟨(hl 23 (by kernel_rfl) (by kernel_rfl)), (hl 27 (by kernel_rfl) (by kernel_rfl))⟩)
    · exact .move (.inl rfl) (.inl rfl) rfl (by kernel_rfl) (by kernel_rfl) rfl
    · exact .value (.inr ⟨12, false, 29, by decide, rfl, rfl, rfl⟩) (by intro T e; cases e) rfl rfl (fun a w' hC hs hl => by
        have e0 : a.eval (.tmp 4) = ((.pointer (some ⟨w.heap.size, 0, none⟩) : Value)) := (hs 4 (by kernel_rfl))
        simp only [execOp, e0]
        simp [go_sem, Act.eval])
    · exact .load (.slice A3 n3 c3) (.inr ⟨12, false, 29, by decide, rfl, rfl, rfl⟩) rfl rfl (fun a w' hC hs hl => by rw [show a.eval (.tmp 30) = (.pointer (some ⟨w.heap.size, 1, none⟩) : Value) from (hl 30 (by kernel_rfl) (by kernel_rfl))]; exact ⟨by simp [go_sem, cell_below hC ka1.out], rfl⟩)
    · exact .value (.inr ⟨12, false, 29, by decide, rfl, rfl, rfl⟩) (by intro T e; cases e) rfl rfl (fun a w' hC hs hl => by
        have e0 : a.eval (.tmp 31) = (.slice A3 n3 c3) := (hl 31 (by kernel_rfl) (by kernel_rfl))
        have e0' : a.tmps[31]?.getD undef = _ := (by simp [Act.eval] : _ = a.eval (.tmp 31)).trans e0
        simp [execOp, resolve, invoke, builtin, go_sem, e0, e0'])
    · exact .value (.inr ⟨12, false, 29, by decide, rfl, rfl, rfl⟩) (by intro T e; cases e) rfl rfl (fun a w' hC hs hl => by
        have e0 : a.eval (.tmp 32) = (.int .i64 (n3 : Nat)) := (hl 32 (by kernel_rfl) (by kernel_rfl))
        simp only [execOp, e0]
        simp only [Act.eval]
        simp [go_sem, hc3])
    · exact .pick (b := false) (.inl rfl) rfl rfl (fun a w' hC hs hl => ⟨(hl 29 (by kernel_rfl) (by kernel_rfl)), (hl 33 (by kernel_rfl) (by kernel_rfl))⟩)
    · exact .move (.inl rfl) (.inl rfl) rfl (by kernel_rfl) (by kernel_rfl) rfl
    · exact .value (.inr ⟨18, false, 35, by decide, rfl, rfl, rfl⟩) (by intro T e; cases e) rfl rfl (fun a w' hC hs hl => by
        have e0 : a.eval (.tmp 4) = ((.pointer (some ⟨w.heap.size, 0, none⟩) : Value)) := (hs 4 (by kernel_rfl))
        simp only [execOp, e0]
        simp [go_sem, Act.eval])
    · exact .load (.slice A2 n2 c2) (.inr ⟨18, false, 35, by decide, rfl, rfl, rfl⟩) rfl rfl (fun a w' hC hs hl => by rw [show a.eval (.tmp 36) = (.pointer (some ⟨w.heap.size, 0, none⟩) : Value) from (hl 36 (by kernel_rfl) (by kernel_rfl))]; exact ⟨by simp [go_sem, cell_below hC ka0.out], rfl⟩)
    · exact .call (.inr ⟨18, false, 35, by decide, rfl, rfl, rfl⟩) rfl rfl fwr_assayerlaw01_RatsSize (fun a w' hC hs hl => by
        show Calls _ _ #[a.eval (.tmp 37)] _ _
        rw [show a.eval (.tmp 37) = (.slice A2 n2 c2 : Value) from (hl 37 (by kernel_rfl) (by kernel_rfl))]
        exact RatsSize_F (h2.out.rw_below hC))
    · exact .value (.inr ⟨18, false, 35, by decide, rfl, rfl, rfl⟩) (by intro T e; cases e) rfl rfl (fun a w' hC hs hl => by
        have e0 : a.eval (.tmp 4) = ((.pointer (some ⟨w.heap.size, 0, none⟩) : Value)) := (hs 4 (by kernel_rfl))
        simp only [execOp, e0]
        simp [go_sem, Act.eval])
    · exact .load (.slice A3 n3 c3) (.inr ⟨18, false, 35, by decide, rfl, rfl, rfl⟩) rfl rfl (fun a w' hC hs hl => by rw [show a.eval (.tmp 39) = (.pointer (some ⟨w.heap.size, 1, none⟩) : Value) from (hl 39 (by kernel_rfl) (by kernel_rfl))]; exact ⟨by simp [go_sem, cell_below hC ka1.out], rfl⟩)
    · exact .call (.inr ⟨18, false, 35, by decide, rfl, rfl, rfl⟩) rfl rfl fwr_assayerlaw01_RatsSize (fun a w' hC hs hl => by
        show Calls _ _ #[a.eval (.tmp 40)] _ _
        rw [show a.eval (.tmp 40) = (.slice A3 n3 c3 : Value) from (hl 40 (by kernel_rfl) (by kernel_rfl))]
        exact RatsSize_F (h3.out.rw_below hC))
    · exact .make (.inr ⟨18, false, 35, by decide, rfl, rfl, rfl⟩) (by intro T e; cases e) rfl (fun a w' hC hs hl => by
        obtain ⟨r1, e1, q1, l1⟩ := (hl 38 (by kernel_rfl) (by kernel_rfl))
        obtain ⟨r2, e2, q2, l2⟩ := (hl 41 (by kernel_rfl) (by kernel_rfl))
        have e1' : a.tmps[38]?.getD undef = _ := (by simp [Act.eval] : _ = a.eval (.tmp 38)).trans e1
        have e2' : a.tmps[41]?.getD undef = _ := (by simp [Act.eval] : _ = a.eval (.tmp 41)).trans e2
        exact ⟨.int .i64 ((r1 + r2 : Nat) : Int), by simp only [execOp, Act.eval]; simp [go_sem, e1', e2', wrap_sum (show r1 + r2 ≤ 9000000000000000 by omega)], r1 + r2, rfl, cnt_add q1 q2, by omega⟩)
    · exact .load (.agg #[.bool b4, .slice A4 n4 c4, .slice D4 m4 k4]) (.inr ⟨18, false, 35, by decide, rfl, rfl, rfl⟩) rfl rfl (fun a w' hC hs hl => by rw [show a.eval (.tmp 5) = (.pointer (some ⟨w.heap.size + 1, 0, none⟩) : Value) from (hs 5 (by kernel_rfl))]; exact ⟨by simp [go_sem, cell_below hC kb0.out, cell_below hC kb1.out, cell_below hC kb2.out], rfl⟩)
    · exact .call (.inr ⟨18, false, 35, by decide, rfl, rfl, rfl⟩) rfl rfl fwr_assayerlaw01_RatSize (fun a w' hC hs hl => by
        show Calls _ _ #[a.eval (.tmp 43)] _ _
        rw [show a.eval (.tmp 43) = (.agg #[.bool b4, .slice A4 n4 c4, .slice D4 m4 k4] : Value) from (hl 43 (by kernel_rfl) (by kernel_rfl))]
        exact RatSize_F _ hr4.1 hr4.2.1)
    · exact .make (.inr ⟨18, false, 35, by decide, rfl, rfl, rfl⟩) (by intro T e; cases e) rfl (fun a w' hC hs hl => by
        obtain ⟨r1, e1, q1, l1⟩ := (hl 42 (by kernel_rfl) (by kernel_rfl))
        obtain ⟨r2, e2, q2, l2⟩ := (hl 44 (by kernel_rfl) (by kernel_rfl))
        have e1' : a.tmps[42]?.getD undef = _ := (by simp [Act.eval] : _ = a.eval (.tmp 42)).trans e1
        have e2' : a.tmps[44]?.getD undef = _ := (by simp [Act.eval] : _ = a.eval (.tmp 44)).trans e2
        exact ⟨.int .i64 ((r1 + r2 : Nat) : Int), by simp only [execOp, Act.eval]; simp [go_sem, e1', e2', wrap_sum (show r1 + r2 ≤ 9000000000000000 by omega)], r1 + r2, rfl, cnt_add q1 q2, by omega⟩)
    · exact .value (.inr ⟨18, false, 35, by decide, rfl, rfl, rfl⟩) (by intro T e; cases e) rfl rfl (fun a w' hC hs hl => by
        obtain ⟨r1, e1, q1, l1⟩ := (hl 45 (by kernel_rfl) (by kernel_rfl))
        have e1' : a.tmps[45]?.getD undef = _ := (by simp [Act.eval] : _ = a.eval (.tmp 45)).trans e1
        have hr1 : (100 < (r1 : Int)) := by
          have q2 := q1.1
          have q3 := q1.2
          omega
        simp only [execOp, Act.eval]
        simp [go_sem, e1', hr1])
    · exact .pick (b := false) (.inl rfl) rfl rfl (fun a w' hC hs hl => ⟨(hl 35 (by kernel_rfl) (by kernel_rfl)), (hl 46 (by kernel_rfl) (by kernel_rfl))⟩)
    · exact .move (.inl rfl) (.inl rfl) rfl (by kernel_rfl) (by kernel_rfl) rfl
    · exact .skip ⟨31, true, 48, by decide, rfl, rfl, rfl⟩ (fun _ e => by cases e; exact .inl rfl)
    · exact .skip ⟨31, true, 48, by decide, rfl, rfl, rfl⟩ (fun _ e => by cases e; exact .inl rfl)
    · exact .skip ⟨31, true, 48, by decide, rfl, rfl, rfl⟩ (fun _ e => by cases e; exact .inl rfl)
    · exact .pick (b := true) (.inl rfl) rfl rfl (fun a w' hC hs hl => ⟨(hl 48 (by kernel_rfl) (by kernel_rfl)), rfl⟩)
    · intro f w2 hC hF _
      have f52 : f 52 = .bool true := hF 52 (by kernel_rfl)
      clear hF
      simp only [patch, List.drop]
      rw [f52]
      clear f52
      replace b0 := hide (below_tr b0.out hC)
      generalize f 17 = y17_
      generalize f 18 = y18_
      generalize f 19 = y19_
      generalize f 20 = y20_
      generalize f 21 = y21_
      generalize f 22 = y22_
      generalize f 23 = y23_
      generalize f 24 = y24_
      generalize f 25 = y25_
      generalize f 26 = y26_
      generalize f 27 = y27_
      generalize f 28 = y28_
      generalize f 29 = y29_
      generalize f 30 = y30_
      generalize f 31 = y31_
      generalize f 32 = y32_
      generalize f 33 = y33_
      generalize f 34 = y34_
      generalize f 35 = y35_
      generalize f 36 = y36_
      generalize f 37 = y37_
      generalize f 38 = y38_
      generalize f 39 = y39_
      generalize f 40 = y40_
      generalize f 41 = y41_
      generalize f 42 = y42_
      generalize f 43 = y43_
      generalize f 44 = y44_
      generalize f 45 = y45_
      generalize f 46 = y46_
      generalize f 47 = y47_
      generalize f 48 = y48_
      generalize f 49 = y49_
      generalize f 50 = y50_
      generalize f 51 = y51_
      clear hC
      go_wp2_with fail
      refine (galive_P w2 (T.out.below b0.out)).mono ?_
      rintro e w99 ⟨_, rfl, d0, rfl⟩
      replace b0 := hide (below_tr b0.out d0)
      clear d0
      go_wp2
      exact opq_end hR ⟨rfl, b0⟩
  by_cases hc5 : n1 = 0
  · skip
    refine wp_region_facts 36 (fun w' => Below w1.heap.size w1 w') [(17, .eq (.bool true)), (18, .eq (.bool false)), (19, .eq (.bool false)), (20, .eq (.slice A1 n1 c1)), (21, .eq (.bool false)), (22, .eq (.bool false)), (23, .eq (.bool false)), (24, .eq ((.pointer (some ⟨w.heap.size, 0, none⟩) : Value))), (25, .eq (.slice A2 n2 c2)), (26, .eq (.int .i64 (n2 : Nat))), (27, .eq (.bool false)), (28, .eq (.bool false)), (29, .eq (.bool false)), (30, .eq ((.pointer (some ⟨w.heap.size, 1, none⟩) : Value))), (31, .eq (.slice A3 n3 c3)), (32, .eq (.int .i64 (n3 : Nat))), (33, .eq (.bool false)), (34, .eq (.bool false)), (35, .eq (.bool false)), (36, .eq ((.pointer (some ⟨w.heap.size, 0, none⟩) : Value))), (37, .eq (.slice A2 n2 c2)), (38, (.cnt (n2 + tsz es2) 500000000000000)), (39, .eq ((.pointer (some ⟨w.heap.size, 1, none⟩) : Value))), (40, .eq (.slice A3 n3 c3)), (41, (.cnt (n3 + tsz es3) 500000000000000)), (42, (.cnt (n2 + tsz es2 + (n3 + tsz es3)) 1000000000000000)), (43, .eq (.agg #[.bool b4, .slice A4 n4 c4, .slice D4 m4 k4])), (44, (.cnt (2 + n4 + m4) 500000000000000)), (45, (.cnt (n2 + tsz es2 + (n3 + tsz es3) + (2 + n4 + m4)) 1500000000000000)), (46, .eq (.bool false)), (47, .eq (.bool false)), (48, .eq (.bool false)), (49, .eq (.slice A1 n1 c1)), (50, .eq (.int .i64 (n1 : Nat))), (51, .eq (.bool true)), (52, .eq (.bool true))] [false, false, false, false, false, false, false, false, false, false, false, false, false, false, false, false, false, true, true, true, true, true, true, true, true, true, true, true, true, true, true, true, true, true, true, true, true, true, true, true, true, true, true, true, true, true, true, true, true, true, true, true, true, false, false, false, false, false, false, false, false, false, false, false, false, false, false, false, false, false, false, false, false, false, false, false, false, false, false, false, false, false, false, false, false, false, false, false, false, false, false, false, false, false, false, false, false, false, false, false, false, false, false, false, false, false, false, false, false, false, false] mixed (by kernel_rfl) (by kernel_rfl) (by kernel_rfl) (fun _ _ h hb => h.trans (hb.mono h.size)) ((Below.refl _ _).drew) ⟨?_, ?_, ?_, ?_, ?_, ?_, ?_, ?_, ?_, ?_, ?_, ?_, ?_, ?_, ?_, ?_, ?_, ?_, ?_, ?_, ?_, ?_, ?_, ?_, ?_, ?_, ?_, ?_, ?_, ?_, ?_, ?_, ?_, ?_, ?_, ?_, trivial⟩ ?_
    · exact .call (.inl rfl) rfl rfl fwr_assayerlaw05_alive (fun a w' hC hs hl => by
        show Calls _ _ #[] _ _
        exact galive_P _ (T.out.below (below_tr b0.out hC)))
    · exact .value (.inl rfl) (by intro T e; cases e) rfl rfl (fun a w' hC hs hl => by
        have e0 : a.eval (.tmp 17) = (.bool true) := (hl 17 (by kernel_rfl) (by kernel_rfl))
        simp only [execOp, e0]
        skip
        simp [go_sem] <;> rfl)
    · exact .move (.inl rfl) (.inl rfl) rfl (by kernel_rfl) (by kernel_rfl) rfl
    · exact .moveC (.inr ⟨2, false, 19, by decide, rfl, rfl, rfl⟩) (.inl rfl) rfl (fun a w' hC hs => (hs 0 (by kernel_rfl)))
    · exact .call (.inr ⟨2, false, 19, by decide, rfl, rfl, rfl⟩) rfl rfl fwr_assayerlaw05_great (fun a w' hC hs hl => by
        show Calls _ _ #[a.eval (.tmp 20)] _ _
        rw [show a.eval (.tmp 20) = (.slice A1 n1 c1 : Value) from (hl 20 (by kernel_rfl) (by kernel_rfl))]
        exact ggreat_det (h1.out.rw_below hC) false hsm.out)
    · exact .pick (b := false) (.inl rfl) rfl rfl (fun a w' hC hs hl => ⟨(hl 19 (by kernel_rfl) (by kernel_rfl)), (hl 21 (by kernel_rfl) (by kernel_rfl))⟩)
    · exact .move (.inl rfl) (.inl rfl) rfl (by kernel_rfl) (by kernel_rfl) rfl
    · exact .value (.inr ⟨6, false, 23, by decide, rfl, rfl, rfl⟩) (by intro T e; cases e) rfl rfl (fun a w' hC hs hl => by
        have e0 : a.eval (.tmp 4) = ((.pointer (some ⟨w.heap.size, 0, none⟩) : Value)) := (hs 4 (by kernel_rfl))
        simp only [execOp, e0]
        simp [go_sem, Act.eval])
    · exact .load (.slice A2 n2 c2) (.inr ⟨6, false, 23, by decide, rfl, rfl, rfl⟩) rfl rfl (fun a w' hC hs hl => by rw [show a.eval (.tmp 24) = (.pointer (some ⟨w.heap.size, 0, none⟩) : Value) from (hl 24 (by kernel_rfl) (by kernel_rfl))]; exact ⟨by simp [go_sem, cell_below hC ka0.out], rfl⟩)
    · exact .value (.inr ⟨6, false, 23, by decide, rfl, rfl, rfl⟩) (by intro T e; cases e) rfl rfl (fun a w' hC hs hl => by
        have e0 : a.eval (.tmp 25) = (.slice A2 n2 c2) := (hl 25 (by kernel_rfl) (by kernel_rfl))
        have e0' : a.tmps[25]?.getD undef = _ := (by simp [Act.eval] : _ = a.eval (.tmp 25)).trans e0
        simp [execOp, resolve, invoke, builtin, go_sem, e0, e0'])
    · exact .value (.inr ⟨6, false, 23, by decide, rfl, rfl, rfl⟩) (by intro T e; cases e) rfl rfl (fun a w' hC hs hl => by
        have e0 : a.eval (.tmp 26) = (.int .i64 (n2 : Nat)) := (hl 26 (by kernel_rfl) (by kernel_rfl))
        simp only [execOp, e0]
        simp only [Act.eval]
        simp [go_sem, hc2])
    · exact .pick (b := false) (.inl rfl) rfl rfl (fun a w' hC hs hl => ⟨(hl 23 (by kernel_rfl) (by kernel_rfl)), (hl 27 (by kernel_rfl) (by kernel_rfl))⟩)
    · exact .move (.inl rfl) (.inl rfl) rfl (by kernel_rfl) (by kernel_rfl) rfl
    · exact .value (.inr ⟨12, false, 29, by decide, rfl, rfl, rfl⟩) (by intro T e; cases e) rfl rfl (fun a w' hC hs hl => by
        have e0 : a.eval (.tmp 4) = ((.pointer (some ⟨w.heap.size, 0, none⟩) : Value)) := (hs 4 (by kernel_rfl))
        simp only [execOp, e0]
        simp [go_sem, Act.eval])
    · exact .load (.slice A3 n3 c3) (.inr ⟨12, false, 29, by decide, rfl, rfl, rfl⟩) rfl rfl (fun a w' hC hs hl => by rw [show a.eval (.tmp 30) = (.pointer (some ⟨w.heap.size, 1, none⟩) : Value) from (hl 30 (by kernel_rfl) (by kernel_rfl))]; exact ⟨by simp [go_sem, cell_below hC ka1.out], rfl⟩)
    · exact .value (.inr ⟨12, false, 29, by decide, rfl, rfl, rfl⟩) (by intro T e; cases e) rfl rfl (fun a w' hC hs hl => by
        have e0 : a.eval (.tmp 31) = (.slice A3 n3 c3) := (hl 31 (by kernel_rfl) (by kernel_rfl))
        have e0' : a.tmps[31]?.getD undef = _ := (by simp [Act.eval] : _ = a.eval (.tmp 31)).trans e0
        simp [execOp, resolve, invoke, builtin, go_sem, e0, e0'])
    · exact .value (.inr ⟨12, false, 29, by decide, rfl, rfl, rfl⟩) (by intro T e; cases e) rfl rfl (fun a w' hC hs hl => by
        have e0 : a.eval (.tmp 32) = (.int .i64 (n3 : Nat)) := (hl 32 (by kernel_rfl) (by kernel_rfl))
        simp only [execOp, e0]
        simp only [Act.eval]
        simp [go_sem, hc3])
    · exact .pick (b := false) (.inl rfl) rfl rfl (fun a w' hC hs hl => ⟨(hl 29 (by kernel_rfl) (by kernel_rfl)), (hl 33 (by kernel_rfl) (by kernel_rfl))⟩)
    · exact .move (.inl rfl) (.inl rfl) rfl (by kernel_rfl) (by kernel_rfl) rfl
    · exact .value (.inr ⟨18, false, 35, by decide, rfl, rfl, rfl⟩) (by intro T e; cases e) rfl rfl (fun a w' hC hs hl => by
        have e0 : a.eval (.tmp 4) = ((.pointer (some ⟨w.heap.size, 0, none⟩) : Value)) := (hs 4 (by kernel_rfl))
        simp only [execOp, e0]
        simp [go_sem, Act.eval])
    · exact .load (.slice A2 n2 c2) (.inr ⟨18, false, 35, by decide, rfl, rfl, rfl⟩) rfl rfl (fun a w' hC hs hl => by rw [show a.eval (.tmp 36) = (.pointer (some ⟨w.heap.size, 0, none⟩) : Value) from (hl 36 (by kernel_rfl) (by kernel_rfl))]; exact ⟨by simp [go_sem, cell_below hC ka0.out], rfl⟩)
    · exact .call (.inr ⟨18, false, 35, by decide, rfl, rfl, rfl⟩) rfl rfl fwr_assayerlaw01_RatsSize (fun a w' hC hs hl => by
        show Calls _ _ #[a.eval (.tmp 37)] _ _
        rw [show a.eval (.tmp 37) = (.slice A2 n2 c2 : Value) from (hl 37 (by kernel_rfl) (by kernel_rfl))]
        exact RatsSize_F (h2.out.rw_below hC))
    · exact .value (.inr ⟨18, false, 35, by decide, rfl, rfl, rfl⟩) (by intro T e; cases e) rfl rfl (fun a w' hC hs hl => by
        have e0 : a.eval (.tmp 4) = ((.pointer (some ⟨w.heap.size, 0, none⟩) : Value)) := (hs 4 (by kernel_rfl))
        simp only [execOp, e0]
        simp [go_sem, Act.eval])
    · exact .load (.slice A3 n3 c3) (.inr ⟨18, false, 35, by decide, rfl, rfl, rfl⟩) rfl rfl (fun a w' hC hs hl => by rw [show a.eval (.tmp 39) = (.pointer (some ⟨w.heap.size, 1, none⟩) : Value) from (hl 39 (by kernel_rfl) (by kernel_rfl))]; exact ⟨by simp [go_sem, cell_below hC ka1.out], rfl⟩)
    · exact .call (.inr ⟨18, false, 35, by decide, rfl, rfl, rfl⟩) rfl rfl fwr_assayerlaw01_RatsSize (fun a w' hC hs hl => by
        show Calls _ _ #[a.eval (.tmp 40)] _ _
        rw [show a.eval (.tmp 40) = (.slice A3 n3 c3 : Value) from (hl 40 (by kernel_rfl) (by kernel_rfl))]
        exact RatsSize_F (h3.out.rw_below hC))
    · exact .make (.inr ⟨18, false, 35, by decide, rfl, rfl, rfl⟩) (by intro T e; cases e) rfl (fun a w' hC hs hl => by
        obtain ⟨r1, e1, q1, l1⟩ := (hl 38 (by kernel_rfl) (by kernel_rfl))
        obtain ⟨r2, e2, q2, l2⟩ := (hl 41 (by kernel_rfl) (by kernel_rfl))
        have e1' : a.tmps[38]?.getD undef = _ := (by simp [Act.eval] : _ = a.eval (.tmp 38)).trans e1
        have e2' : a.tmps[41]?.getD undef = _ := (by simp [Act.eval] : _ = a.eval (.tmp 41)).trans e2
        exact ⟨.int .i64 ((r1 + r2 : Nat) : Int), by simp only [execOp, Act.eval]; simp [go_sem, e1', e2', wrap_sum (show r1 + r2 ≤ 9000000000000000 by omega)], r1 + r2, rfl, cnt_add q1 q2, by omega⟩)
    · exact .load (.agg #[.bool b4, .slice A4 n4 c4, .slice D4 m4 k4]) (.inr ⟨18, false, 35, by decide, rfl, rfl, rfl⟩) rfl rfl (fun a w' hC hs hl => by rw [show a.eval (.tmp 5) = (.pointer (some ⟨w.heap.size + 1, 0, none⟩) : Value) from (hs 5 (by kernel_rfl))]; exact ⟨by simp [go_sem, cell_below hC kb0.out, cell_below hC kb1.out, cell_below hC kb2.out], rfl⟩)
    · exact .call (.inr ⟨18, false, 35, by decide, rfl, rfl, rfl⟩) rfl rfl fwr_assayerlaw01_RatSize (fun a w' hC hs hl => by
        show Calls _ _ #[a.eval (.tmp 43)] _ _
        rw [show a.eval (.tmp 43) = (.agg #[.bool b4, .slice A4 n4 c4, .slice D4 m4 k4] : Value) from (hl 43 (by kernel_rfl) (by kernel_rfl))]
        exact RatSize_F _ hr4.1 hr4.2.1)
    · exact .make (.inr ⟨18, false, 35, by decide, rfl, rfl, rfl⟩) (by intro T e; cases e) rfl (fun a w' hC hs hl => by
        obtain ⟨r1, e1, q1, l1⟩ := (hl 42 (by kernel_rfl) (by kernel_rfl))
        obtain ⟨r2, e2, q2, l2⟩ := (hl 44 (by kernel_rfl) (by kernel_rfl))
        have e1' : a.tmps[42]?.getD undef = _ := (by simp [Act.eval] : _ = a.eval (.tmp 42)).trans e1
        have e2' : a.tmps[44]?.getD undef = _ := (by simp [Act.eval] : _ = a.eval (.tmp 44)).trans e2
        exact ⟨.int .i64 ((r1 + r2 : Nat) : Int), by simp only [execOp, Act.eval]; simp [go_sem, e1', e2', wrap_sum (show r1 + r2 ≤ 9000000000000000 by omega)], r1 + r2, rfl, cnt_add q1 q2, by omega⟩)
    · exact .value (.inr ⟨18, false, 35, by decide, rfl, rfl, rfl⟩) (by intro T e; cases e) rfl rfl (fun a w' hC hs hl => by
        obtain ⟨r1, e1, q1, l1⟩ := (hl 45 (by kernel_rfl) (by kernel_rfl))
        have e1' : a.tmps[45]?.getD undef = _ := (by simp [Act.eval] : _ = a.eval (.tmp 45)).trans e1
        have hr1 : ¬ (100 < (r1 : Int)) := by
          have q2 := q1.1
          have q3 := q1.2
          omega
        simp only [execOp, Act.eval]
        simp [go_sem, e1', hr1])
    · exact .pick (b := false) (.inl rfl) rfl rfl (fun a w' hC hs hl => ⟨(hl 35 (by kernel_rfl) (by kernel_rfl)), (hl 46 (by kernel_rfl) (by kernel_rfl))⟩)
    · exact .move (.inl rfl) (.inl rfl) rfl (by kernel_rfl) (by kernel_rfl) rfl
    · exact .moveC (.inr ⟨31, false, 48, by decide, rfl, rfl, rfl⟩) (.inl rfl) rfl (fun a w' hC hs => (hs 0 (by kernel_rfl)))
    · exact .value (.inr ⟨31, false, 48, by decide, rfl, rfl, rfl⟩) (by intro T e; cases e) rfl rfl (fun a w' hC hs hl => by
        have e0 : a.eval (.tmp 49) = (.slice A1 n1 c1) := (hl 49 (by kernel_rfl) (by kernel_rfl))
        have e0' : a.tmps[49]?.getD undef = _ := (by simp [Act.eval] : _ = a.eval (.tmp 49)).trans e0
        simp [execOp, resolve, invoke, builtin, go_sem, e0, e0'])
    · exact .value (.inr ⟨31, false, 48, by decide, rfl, rfl, rfl⟩) (by intro T e; cases e) rfl rfl (fun a w' hC hs hl => by
        have e0 : a.eval (.tmp 50) = (.int .i64 (n1 : Nat)) := (hl 50 (by kernel_rfl) (by kernel_rfl))
        simp only [execOp, e0]
        simp only [Act.eval]
        simp [go_sem, hc5])
    · exact .pick (b := false) (.inl rfl) rfl rfl (fun a w' hC hs hl => ⟨(hl 48 (by kernel_rfl) (by kernel_rfl)), (hl 51 (by kernel_rfl) (by kernel_rfl))⟩)
    · intro f w2 hC hF _
      have f52 : f 52 = .bool true := hF 52 (by kernel_rfl)
      clear hF
      simp only [patch, List.drop]
      rw [f52]
      clear f52
      replace b0 := hide (below_tr b0.out hC)
      generalize f 17 = y17_
      generalize f 18 = y18_
      generalize f 19 = y19_
      generalize f 20 = y20_
      generalize f 21 = y21_
      generalize f 22 = y22_
      generalize f 23 = y23_
      generalize f 24 = y24_
      generalize f 25 = y25_
      generalize f 26 = y26_
      generalize f 27 = y27_
      generalize f 28 = y28_
      generalize f 29 = y29_
      generalize f 30 = y30_
      generalize f 31 = y31_
      generalize f 32 = y32_
      generalize f 33 = y33_
      generalize f 34 = y34_
      generalize f 35 = y35_
      generalize f 36 = y36_
      generalize f 37 = y37_
      generalize f 38 = y38_
      generalize f 39 = y39_
      generalize f 40 = y40_
      generalize f 41 = y41_
      generalize f 42 = y42_
      generalize f 43 = y43_
      generalize f 44 = y44_
      generalize f 45 = y45_
      generalize f 46 = y46_
      generalize f 47 = y47_
      generalize f 48 = y48_
      generalize f 49 = y49_
      generalize f 50 = y50_
      generalize f 51 = y51_
      clear hC
      go_wp2_with fail
      refine (galive_P w2 (T.out.below b0.out)).mono ?_
      rintro e w99 ⟨_, rfl, d0, rfl⟩
      replace b0 := hide (below_tr b0.out d0)
      clear d0
      go_wp2
      exact opq_end hR ⟨rfl, b0⟩
  refine wp_region_facts 36 (fun w' => Below w1.heap.size w1 w') [(17, .eq (.bool true)), (18, .eq (.bool false)), (19, .eq (.bool false)), (20, .eq (.slice A1 n1 c1)), (21, .eq (.bool false)), (22, .eq (.bool false)), (23, .eq (.bool false)), (24, .eq ((.pointer (some ⟨w.heap.size, 0, none⟩) : Value))), (25, .eq (.slice A2 n2 c2)), (26, .eq (.int .i64 (n2 : Nat))), (27, .eq (.bool false)), (28, .eq (.bool false)), (29, .eq (.bool false)), (30, .eq ((.pointer (some ⟨w.heap.size, 1, none⟩) : Value))), (31, .eq (.slice A3 n3 c3)), (32, .eq (.int .i64 (n3 : Nat))), (33, .eq (.bool false)), (34, .eq (.bool false)), (35, .eq (.bool false)), (36, .eq ((.pointer (some ⟨w.heap.size, 0, none⟩) : Value))), (37, .eq (.slice A2 n2 c2)), (38, (.cnt (n2 + tsz es2) 500000000000000)), (39, .eq ((.pointer (some ⟨w.heap.size, 1, none⟩) : Value))), (40, .eq (.slice A3 n3 c3)), (41, (.cnt (n3 + tsz es3) 500000000000000)), (42, (.cnt (n2 + tsz es2 + (n3 + tsz es3)) 1000000000000000)), (43, .eq (.agg #[.bool b4, .slice A4 n4 c4, .slice D4 m4 k4])), (44, (.cnt (2 + n4 + m4) 500000000000000)), (45, (.cnt (n2 + tsz es2 + (n3 + tsz es3) + (2 + n4 + m4)) 1500000000000000)), (46, .eq (.bool false)), (47, .eq (.bool false)), (48, .eq (.bool false)), (49, .eq (.slice A1 n1 c1)), (50, .eq (.int .i64 (n1 : Nat))), (51, .eq (.bool false)), (52, .eq (.bool false))] [false, false, false, false, false, false, false, false, false, false, false, false, false, false, false, false, false, true, true, true, true, true, true, true, true, true, true, true, true, true, true, true, true, true, true, true, true, true, true, true, true, true, true, true, true, true, true, true, true, true, true, true, true, false, false, false, false, false, false, false, false, false, false, false, false, false, false, false, false, false, false, false, false, false, false, false, false, false, false, false, false, false, false, false, false, false, false, false, false, false, false, false, false, false, false, false, false, false, false, false, false, false, false, false, false, false, false, false, false, false, false] mixed (by kernel_rfl) (by kernel_rfl) (by kernel_rfl) (fun _ _ h hb => h.trans (hb.mono h.size)) ((Below.refl _ _).drew) ⟨?_, ?_, ?_, ?_, ?_, ?_, ?_, ?_, ?_, ?_, ?_, ?_, ?_, ?_, ?_, ?_, ?_, ?_, ?_, ?_, ?_, ?_, ?_, ?_, ?_, ?_, ?_, ?_, ?_, ?_, ?_, ?_, ?_, ?_, ?_, ?_, trivial⟩ ?_
  · exact .call (.inl rfl) rfl rfl fwr_assayerlaw05_alive (fun a w' hC hs hl => by
      show Calls _ _ #[] _ _
      exact galive_P _ (T.out.below (below_tr b0.out hC)))
  · exact .value (.inl rfl) (by intro T e; cases e) rfl rfl (fun a w' hC hs hl => by
      have e0 : a.eval (.tmp 17) = (.bool true) := (hl 17 (by kernel_rfl) (by kernel_rfl))
      simp only [execOp, e0]
      skip
      simp [go_sem] <;> rfl)
  · exact .move (.inl rfl) (.inl rfl) rfl (by kernel_rfl) (by kernel_rfl) rfl
  · exact .moveC (.inr ⟨2, false, 19, by decide, rfl, rfl, rfl⟩) (.inl rfl) rfl (fun a w' hC hs => (hs 0 (by kernel_rfl)))
  · exact .call (.inr ⟨2, false, 19, by decide, rfl, rfl, rfl⟩) rfl rfl fwr_assayerlaw05_great (fun a w' hC hs hl => by
      show Calls _ _ #[a.eval (.tmp 20)] _ _
      rw [show a.eval (.tmp 20) = (.slice A1 n1 c1 : Value) from (hl 20 (by kernel_rfl) (by kernel_rfl))]
      exact ggreat_det (h1.out.rw_below hC) false hsm.out)
  · exact .pick (b := false) (.inl rfl) rfl rfl (fun a w' hC hs hl => ⟨(hl 19 (by kernel_rfl) (by kernel_rfl)), (hl 21 (by kernel_rfl) (by kernel_rfl))⟩)
  · exact .move (.inl rfl) (.inl rfl) rfl (by kernel_rfl) (by kernel_rfl) rfl
  · exact .value (.inr ⟨6, false, 23, by decide, rfl, rfl, rfl⟩) (by intro T e; cases e) rfl rfl (fun a w' hC hs hl => by
      have e0 : a.eval (.tmp 4) = ((.pointer (some ⟨w.heap.size, 0, none⟩) : Value)) := (hs 4 (by kernel_rfl))
      simp only [execOp, e0]
      simp [go_sem, Act.eval])
  · exact .load (.slice A2 n2 c2) (.inr ⟨6, false, 23, by decide, rfl, rfl, rfl⟩) rfl rfl (fun a w' hC hs hl => by rw [show a.eval (.tmp 24) = (.pointer (some ⟨w.heap.size, 0, none⟩) : Value) from (hl 24 (by kernel_rfl) (by kernel_rfl))]; exact ⟨by simp [go_sem, cell_below hC ka0.out], rfl⟩)
  · exact .value (.inr ⟨6, false, 23, by decide, rfl, rfl, rfl⟩) (by intro T e; cases e) rfl rfl (fun a w' hC hs hl => by
      have e0 : a.eval (.tmp 25) = (.slice A2 n2 c2) := (hl 25 (by kernel_rfl) (by kernel_rfl))
      have e0' : a.tmps[25]?.getD undef = _ := (by simp [Act.eval] : _ = a.eval (.tmp 25)).trans e0
      simp [execOp, resolve, invoke, builtin, go_sem, e0, e0'])
  · exact .value (.inr ⟨6, false, 23, by decide, rfl, rfl, rfl⟩) (by intro T e; cases e) rfl rfl (fun a w' hC hs hl => by
      have e0 : a.eval (.tmp 26) = (.int .i64 (n2 : Nat)) := (hl 26 (by kernel_rfl) (by kernel_rfl))
      simp only [execOp, e0]
      simp only [Act.eval]
      simp [go_sem, hc2])
  · exact .pick (b := false) (.inl rfl) rfl rfl (fun a w' hC hs hl => ⟨(hl 23 (by kernel_rfl) (by kernel_rfl)), (hl 27 (by kernel_rfl) (by kernel_rfl))⟩)
  · exact .move (.inl rfl) (.inl rfl) rfl (by kernel_rfl) (by kernel_rfl) rfl
  · exact .value (.inr ⟨12, false, 29, by decide, rfl, rfl, rfl⟩) (by intro T e; cases e) rfl rfl (fun a w' hC hs hl => by
      have e0 : a.eval (.tmp 4) = ((.pointer (some ⟨w.heap.size, 0, none⟩) : Value)) := (hs 4 (by kernel_rfl))
      simp only [execOp, e0]
      simp [go_sem, Act.eval])
  · exact .load (.slice A3 n3 c3) (.inr ⟨12, false, 29, by decide, rfl, rfl, rfl⟩) rfl rfl (fun a w' hC hs hl => by rw [show a.eval (.tmp 30) = (.pointer (some ⟨w.heap.size, 1, none⟩) : Value) from (hl 30 (by kernel_rfl) (by kernel_rfl))]; exact ⟨by simp [go_sem, cell_below hC ka1.out], rfl⟩)
  · exact .value (.inr ⟨12, false, 29, by decide, rfl, rfl, rfl⟩) (by intro T e; cases e) rfl rfl (fun a w' hC hs hl => by
      have e0 : a.eval (.tmp 31) = (.slice A3 n3 c3) := (hl 31 (by kernel_rfl) (by kernel_rfl))
      have e0' : a.tmps[31]?.getD undef = _ := (by simp [Act.eval] : _ = a.eval (.tmp 31)).trans e0
      simp [execOp, resolve, invoke, builtin, go_sem, e0, e0'])
  · exact .value (.inr ⟨12, false, 29, by decide, rfl, rfl, rfl⟩) (by intro T e; cases e) rfl rfl (fun a w' hC hs hl => by
      have e0 : a.eval (.tmp 32) = (.int .i64 (n3 : Nat)) := (hl 32 (by kernel_rfl) (by kernel_rfl))
      simp only [execOp, e0]
      simp only [Act.eval]
      simp [go_sem, hc3])
  · exact .pick (b := false) (.inl rfl) rfl rfl (fun a w' hC hs hl => ⟨(hl 29 (by kernel_rfl) (by kernel_rfl)), (hl 33 (by kernel_rfl) (by kernel_rfl))⟩)
  · exact .move (.inl rfl) (.inl rfl) rfl (by kernel_rfl) (by kernel_rfl) rfl
  · exact .value (.inr ⟨18, false, 35, by decide, rfl, rfl, rfl⟩) (by intro T e; cases e) rfl rfl (fun a w' hC hs hl => by
      have e0 : a.eval (.tmp 4) = ((.pointer (some ⟨w.heap.size, 0, none⟩) : Value)) := (hs 4 (by kernel_rfl))
      simp only [execOp, e0]
      simp [go_sem, Act.eval])
  · exact .load (.slice A2 n2 c2) (.inr ⟨18, false, 35, by decide, rfl, rfl, rfl⟩) rfl rfl (fun a w' hC hs hl => by rw [show a.eval (.tmp 36) = (.pointer (some ⟨w.heap.size, 0, none⟩) : Value) from (hl 36 (by kernel_rfl) (by kernel_rfl))]; exact ⟨by simp [go_sem, cell_below hC ka0.out], rfl⟩)
  · exact .call (.inr ⟨18, false, 35, by decide, rfl, rfl, rfl⟩) rfl rfl fwr_assayerlaw01_RatsSize (fun a w' hC hs hl => by
      show Calls _ _ #[a.eval (.tmp 37)] _ _
      rw [show a.eval (.tmp 37) = (.slice A2 n2 c2 : Value) from (hl 37 (by kernel_rfl) (by kernel_rfl))]
      exact RatsSize_F (h2.out.rw_below hC))
  · exact .value (.inr ⟨18, false, 35, by decide, rfl, rfl, rfl⟩) (by intro T e; cases e) rfl rfl (fun a w' hC hs hl => by
      have e0 : a.eval (.tmp 4) = ((.pointer (some ⟨w.heap.size, 0, none⟩) : Value)) := (hs 4 (by kernel_rfl))
      simp only [execOp, e0]
      simp [go_sem, Act.eval])
  · exact .load (.slice A3 n3 c3) (.inr ⟨18, false, 35, by decide, rfl, rfl, rfl⟩) rfl rfl (fun a w' hC hs hl => by rw [show a.eval (.tmp 39) = (.pointer (some ⟨w.heap.size, 1, none⟩) : Value) from (hl 39 (by kernel_rfl) (by kernel_rfl))]; exact ⟨by simp [go_sem, cell_below hC ka1.out], rfl⟩)
  · exact .call (.inr ⟨18, false, 35, by decide, rfl, rfl, rfl⟩) rfl rfl fwr_assayerlaw01_RatsSize (fun a w' hC hs hl => by
      show Calls _ _ #[a.eval (.tmp 40)] _ _
      rw [show a.eval (.tmp 40) = (.slice A3 n3 c3 : Value) from (hl 40 (by kernel_rfl) (by kernel_rfl))]
      exact RatsSize_F (h3.out.rw_below hC))
  · exact .make (.inr ⟨18, false, 35, by decide, rfl, rfl, rfl⟩) (by intro T e; cases e) rfl (fun a w' hC hs hl => by
      obtain ⟨r1, e1, q1, l1⟩ := (hl 38 (by kernel_rfl) (by kernel_rfl))
      obtain ⟨r2, e2, q2, l2⟩ := (hl 41 (by kernel_rfl) (by kernel_rfl))
      have e1' : a.tmps[38]?.getD undef = _ := (by simp [Act.eval] : _ = a.eval (.tmp 38)).trans e1
      have e2' : a.tmps[41]?.getD undef = _ := (by simp [Act.eval] : _ = a.eval (.tmp 41)).trans e2
      exact ⟨.int .i64 ((r1 + r2 : Nat) : Int), by simp only [execOp, Act.eval]; simp [go_sem, e1', e2', wrap_sum (show r1 + r2 ≤ 9000000000000000 by omega)], r1 + r2, rfl, cnt_add q1 q2, by omega⟩)
  · exact .load (.agg #[.bool b4, .slice A4 n4 c4, .slice D4 m4 k4]) (.inr ⟨18, false, 35, by decide, rfl, rfl, rfl⟩) rfl rfl (fun a w' hC hs hl => by rw [show a.eval (.tmp 5) = (.pointer (some ⟨w.heap.size + 1, 0, none⟩) : Value) from (hs 5 (by kernel_rfl))]; exact ⟨by simp [go_sem, cell_below hC kb0.out, cell_below hC kb1.out, cell_below hC kb2.out], rfl⟩)
  · exact .call (.inr ⟨18, false, 35, by decide, rfl, rfl, rfl⟩) rfl rfl fwr_assayerlaw01_RatSize (fun a w' hC hs hl => by
      show Calls _ _ #[a.eval (.tmp 43)] _ _
      rw [show a.eval (.tmp 43) = (.agg #[.bool b4, .slice A4 n4 c4, .slice D4 m4 k4] : Value) from (hl 43 (by kernel_rfl) (by kernel_rfl))]
      exact RatSize_F _ hr4.1 hr4.2.1)
  · exact .make (.inr ⟨18, false, 35, by decide, rfl, rfl, rfl⟩) (by intro T e; cases e) rfl (fun a w' hC hs hl => by
      obtain ⟨r1, e1, q1, l1⟩ := (hl 42 (by kernel_rfl) (by kernel_rfl))
      obtain ⟨r2, e2, q2, l2⟩ := (hl 44 (by kernel_rfl) (by kernel_rfl))
      have e1' : a.tmps[42]?.getD undef = _ := (by simp [Act.eval] : _ = a.eval (.tmp 42)).trans e1
      have e2' : a.tmps[44]?.getD undef = _ := (by simp [Act.eval] : _ = a.eval (.tmp 44)).trans e2
      exact ⟨.int .i64 ((r1 + r2 : Nat) : Int), by simp only [execOp, Act.eval]; simp [go_sem, e1', e2', wrap_sum (show r1 + r2 ≤ 9000000000000000 by omega)], r1 + r2, rfl, cnt_add q1 q2, by omega⟩)
  · exact .value (.inr ⟨18, false, 35, by decide, rfl, rfl, rfl⟩) (by intro T e; cases e) rfl rfl (fun a w' hC hs hl => by
      obtain ⟨r1, e1, q1, l1⟩ := (hl 45 (by kernel_rfl) (by kernel_rfl))
      have e1' : a.tmps[45]?.getD undef = _ := (by simp [Act.eval] : _ = a.eval (.tmp 45)).trans e1
      have hr1 : ¬ (100 < (r1 : Int)) := by
        have q2 := q1.1
        have q3 := q1.2
        omega
      simp only [execOp, Act.eval]
      simp [go_sem, e1', hr1])
  · exact .pick (b := false) (.inl rfl) rfl rfl (fun a w' hC hs hl => ⟨(hl 35 (by kernel_rfl) (by kernel_rfl)), (hl 46 (by kernel_rfl) (by kernel_rfl))⟩)
  · exact .move (.inl rfl) (.inl rfl) rfl (by kernel_rfl) (by kernel_rfl) rfl
  · exact .moveC (.inr ⟨31, false, 48, by decide, rfl, rfl, rfl⟩) (.inl rfl) rfl (fun a w' hC hs => (hs 0 (by kernel_rfl)))
  · exact .value (.inr ⟨31, false, 48, by decide, rfl, rfl, rfl⟩) (by intro T e; cases e) rfl rfl (fun a w' hC hs hl => by
      have e0 : a.eval (.tmp 49) = (.slice A1 n1 c1) := (hl 49 (by kernel_rfl) (by kernel_rfl))
      have e0' : a.tmps[49]?.getD undef = _ := (by simp [Act.eval] : _ = a.eval (.tmp 49)).trans e0
      simp [execOp, resolve, invoke, builtin, go_sem, e0, e0'])
  · exact .value (.inr ⟨31, false, 48, by decide, rfl, rfl, rfl⟩) (by intro T e; cases e) rfl rfl (fun a w' hC hs hl => by
      have e0 : a.eval (.tmp 50) = (.int .i64 (n1 : Nat)) := (hl 50 (by kernel_rfl) (by kernel_rfl))
      simp only [execOp, e0]
      simp only [Act.eval]
      simp [go_sem, hc5])
  · exact .pick (b := false) (.inl rfl) rfl rfl (fun a w' hC hs hl => ⟨(hl 48 (by kernel_rfl) (by kernel_rfl)), (hl 51 (by kernel_rfl) (by kernel_rfl))⟩)
  · intro f w2 hC hF _
    have f52 : f 52 = .bool false := hF 52 (by kernel_rfl)
    clear hF
    simp only [patch, List.drop]
    rw [f52]
    clear f52
    replace b0 := hide (below_tr b0.out hC)
    generalize f 17 = y17_
    generalize f 18 = y18_
    generalize f 19 = y19_
    generalize f 20 = y20_
    generalize f 21 = y21_
    generalize f 22 = y22_
    generalize f 23 = y23_
    generalize f 24 = y24_
    generalize f 25 = y25_
    generalize f 26 = y26_
    generalize f 27 = y27_
    generalize f 28 = y28_
    generalize f 29 = y29_
    generalize f 30 = y30_
    generalize f 31 = y31_
    generalize f 32 = y32_
    generalize f 33 = y33_
    generalize f 34 = y34_
    generalize f 35 = y35_
    generalize f 36 = y36_
    generalize f 37 = y37_
    generalize f 38 = y38_
    generalize f 39 = y39_
    generalize f 40 = y40_
    generalize f 41 = y41_
    generalize f 42 = y42_
    generalize f 43 = y43_
    generalize f 44 = y44_
    generalize f 45 = y45_
    generalize f 46 = y46_
    generalize f 47 = y47_
    generalize f 48 = y48_
    generalize f 49 = y49_
    generalize f 50 = y50_
    generalize f 51 = y51_
    have hg : Hid (n1 ≤ 8 ∧ gsz ess1 ≤ 300 ∧ ∀ es ∈ ess1, es.length ≤ 8) := by
      obtain ⟨a, b, c⟩ := gsmall_iff.1 hs
      exact ⟨a, by omega, c⟩
    have hn8 := hg.out.1
    replace h1 := hide (h1.out.rw_below hC)
    replace h2 := hide (h2.out.rw_below hC)
    replace h3 := hide (h3.out.rw_below hC)
    replace h4 := hide (h4.out.below hC)
    replace KA := hide (KA.out.below' hC)
    replace KB := hide (KB.out.below' hC)
    have G0 := hide (gopen_raw h1.out hg.out)
    have HQ := hide (graw_hs G0.out hg.out.2.1)
    have hx4 : rsz e4 ≤ 100 := by omega
    have n2k : n2 ≤ 10 := by omega
    have LR2 := hide (h2.out.rawW 100 (by omega) (by decide)).1
    have HX2 : Hid (Hs (es2.map rvE) 300) := (h2.out.rawW 100 (by omega) (by decide)).2.up (by decide)
    have LR3 := hide (h3.out.rawW 100 (by omega) (by decide)).1
    have HX3 : Hid (Hs (es3.map rvE) 300) := (h3.out.rawW 100 (by omega) (by decide)).2.up (by decide)
    have R4 := hide (h4.out.raw (by omega)).1
    have H4 : Hid (H (rvE e4) 300) := (h4.out.raw (by omega)).2.up (by omega)
    have hl := hide G0.out.len
    have hcols : Hid (cols ess1 ≤ 8) := by
      show _ ≤ _
      unfold cols
      rcases ess1 with _ | ⟨a, r⟩
      · exact Nat.zero_le _
      · exact hg.out.2.2 a (List.mem_cons_self ..)
    clear hC h1 h2 h3 h4 ka0 ka1 kb0 kb1 kb2 hs hsm hc4 hc2 hc3 hx4 hr4
    have x0 := KA.out.at_ 0 rfl
    have x1 := KA.out.at_ 1 rfl
    go_wp2_with fail
    refine (times_raw G0.out LR2.out HQ.out HX2.out (Nat.le_trans hcols.out (by decide)) (by decide) (by omega) (T.out.below b0.out)).mono ?_
    rintro e w3 ⟨ua, ma, ca, ea, rfl, d0, ta⟩
    have TA := hide ta
    replace b0 := hide (below_tr b0.out d0)
    replace G0 := hide (G0.out.raw_below d0)
    replace LR2 := hide (LR2.out.raw_below d0)
    replace LR3 := hide (LR3.out.raw_below d0)
    replace R4 := hide (R4.out.below d0)
    replace KA := hide (KA.out.below' d0)
    replace KB := hide (KB.out.below' d0)
    clear d0 ta x0 x1
    have x1 := KA.out.at_ 1 rfl
    go_wp2_with fail
    refine (times_raw G0.out LR3.out HQ.out HX3.out (Nat.le_trans hcols.out (by decide)) (by decide) (by omega) (T.out.below b0.out)).mono ?_
    rintro e w4 ⟨ub, mb, cb, eb, rfl, d0, tb⟩
    have TB := hide tb
    have B4 := hide d0
    replace b0 := hide (below_tr b0.out d0)
    replace G0 := hide (G0.out.raw_below d0)
    replace LR2 := hide (LR2.out.raw_below d0)
    replace LR3 := hide (LR3.out.raw_below d0)
    replace R4 := hide (R4.out.below d0)
    replace KA := hide (KA.out.below' d0)
    replace KB := hide (KB.out.below' d0)
    clear d0 tb x1
    have x0 := KA.out.at_ 0 rfl
    have x1 := KA.out.at_ 1 rfl
    have y0 := KB.out.at_ 0 rfl
    have y1 := KB.out.at_ 1 rfl
    have y2 := KB.out.at_ 2 rfl
    by_cases hf : (fits es2 es3 && rk e4) = true
    rotate_left
    · have hf2 : (fits es2 es3 && rk e4) = false := Bool.eq_false_iff.2 hf
      go_wp2_with fail
      refine (vAdd_bad _ A2 n2 c2 es2 A3 n3 c3 es3 b4 A4 n4 c4 D4 m4 k4 e4 LR2.out LR3.out R4.out (T.out.below b0.out) hf2).mono ?_
      rintro e w5 ⟨rfl, d0⟩
      replace b0 := hide (below_tr b0.out d0)
      clear d0 x0 x1 y0 y1 y2 hf hf2
      rcases TA.out with ⟨rfl, _⟩ | ⟨rfl, _⟩ <;> rcases TB.out with ⟨rfl, _⟩ | ⟨rfl, _⟩
      all_goals
        clear TA TB B4
        go_wp2
        exact opq_end hR ⟨rfl, b0⟩
    obtain ⟨hfit, hrk⟩ := Bool.and_eq_true_iff.1 hf
    unfold fits at hfit
    simp only [Bool.and_eq_true, decide_eq_true_eq] at hfit
    obtain ⟨⟨hlen, hf2⟩, hf3⟩ := hfit
    have LX := hide (LR2.out.canW hf2)
    have LY := hide (LR3.out.canW hf3)
    have C4 : Hid (RCan w4 (.agg #[.bool b4, .slice A4 n4 c4, .slice D4 m4 k4]) (rvE e4)) := R4.out.can hrk
    obtain ⟨xs, hxs⟩ : ∃ xs, es2.map rvE = xs := ⟨_, rfl⟩
    obtain ⟨ys, hys⟩ : ∃ ys, es3.map rvE = ys := ⟨_, rfl⟩
    obtain ⟨t, ht⟩ : ∃ t, rvE e4 = t := ⟨_, rfl⟩
    have hxy : Hid (xs.length = ys.length) := by
      show _ = _
      rw [← hxs, ← hys, List.length_map, List.length_map]
      exact hlen
    rw [hxs] at LX HX2
    rw [hys] at LY HX3
    rw [ht] at C4 H4
    have hlx := hide LX.out.len
    have hly := hide LY.out.len
    clear hf LR2 LR3 R4
    go_wp2_with fail
    refine (vAdd_T (k := 300) LX.out LY.out C4.out hxy.out HX2.out HX3.out H4.out (by decide) (by rw [hlx.out]; omega) (T.out.below b0.out)).mono ?_
    rintro e w5 ⟨us, rfl, d0, ls⟩
    have LS := hide ls
    have B5 := hide (below_tr B4.out d0)
    have B45 := hide d0
    replace b0 := hide (below_tr b0.out d0)
    replace G0 := hide (G0.out.raw_below d0)
    replace C4 := hide (C4.out.below d0)
    replace KB := hide (KB.out.below' d0)
    clear d0 ls x0 x1 y0 y1 y2 LX LY KA B4
    rcases TA.out with ⟨rfl, rfl, hk, _, hka, oa⟩ | ⟨rfl, rfl, _⟩
    rotate_left
    · rcases TB.out with ⟨rfl, _⟩ | ⟨rfl, _⟩
      all_goals
        clear TA TB B5
        go_wp2
        exact opq_end hR ⟨rfl, b0⟩
    rcases TB.out with ⟨rfl, rfl, _, _, hkb, ob⟩ | ⟨rfl, rfl, _⟩
    rotate_left
    · clear TA TB B5 oa
      go_wp2
      exact opq_end hR ⟨rfl, b0⟩
    have hka2 : n2 = cols ess1 := hka (by omega)
    obtain ⟨GC0, GG0⟩ := gcan G0.out hk HQ.out
    rw [← hka2] at GG0
    obtain ⟨qss, hq⟩ : ∃ qss, (ess1.map fun es => es.map rvE) = qss := ⟨_, rfl⟩
    rw [hq] at GC0 GG0 oa ob
    rw [hxs] at oa
    rw [hys] at ob
    have GC := hide GC0
    have GG := hide GG0
    have hlq := hide GC0.len
    have LA := hide ((oa.lst (by rw [List.length_map, hlq.out]; omega)).can_below B5.out)
    have LB := hide ((ob.lst (by rw [List.length_map, hlq.out]; omega)).can_below B45.out)
    have hN8 : n2 ≤ 8 := by
      rw [hka2]
      exact hcols.out
    have HA : Hid (Hs (qss.map fun q => dot q xs) 5000) := Hs_times GG.out HX2.out hN8 (by decide) (by decide)
    have HB : Hid (Hs (qss.map fun q => dot q ys) 5000) := Hs_times GG.out HX3.out hN8 (by decide) (by decide)
    have HS : Hid (Hs (axpy xs ys t) 1000) := Hs_axpy HX2.out HX3.out H4.out 1000 (by decide)
    have GG9 : Hid (GQ qss n2 1000) := ⟨GG.out.rect, fun qs hq => (GG.out.hs qs hq).up (by decide), GG.out.n0⟩
    have EQ := hide (times_axpy GG.out hlx.out (hxy.out.symm.trans hlx.out) t)
    have HC : Hid (Hs (qss.map fun q => dot q (axpy xs ys t)) 20000) := Hs_times GG9.out HS.out hN8 (by decide) (by decide)
    obtain ⟨SA, sc, eS⟩ := LS.out.sl
    rw [axpy_length _ _ _ hxy.out, hlx.out] at eS
    subst eS
    clear GC0 GG0 oa ob hxs hys ht hq TA TB B5 B45 hka hkb hka2 HQ G0 hlen hf2 hf3 hrk hk hg
    go_wp2_with fail
    refine (times_ok GC.out LS.out GG9.out HS.out (fun _ => rfl) (Nat.le_trans (Nat.add_le_add_left (Nat.mul_le_mul_right 2001 hN8) 1) (by decide)) (by decide) (by omega) (T.out.below b0.out)).mono ?_
    rintro e w6 ⟨uc, rfl, d0, oc⟩
    have LC := hide (oc.lst (by rw [List.length_map, hlq.out]; omega))
    replace b0 := hide (below_tr b0.out d0)
    replace LA := hide (LA.out.can_below d0)
    replace LB := hide (LB.out.can_below d0)
    replace C4 := hide (C4.out.below d0)
    replace KB := hide (KB.out.below' d0)
    clear d0 oc LS GC
    have y0 := KB.out.at_ 0 rfl
    have y1 := KB.out.at_ 1 rfl
    have y2 := KB.out.at_ 2 rfl
    go_wp2_with fail
    refine (vAdd_T (k := 5000) LA.out LB.out C4.out (by rw [List.length_map, List.length_map]) HA.out HB.out (H4.out.up (by decide)) (by decide) (by rw [List.length_map, hlq.out]; omega) (T.out.below b0.out)).mono ?_
    rintro e w7 ⟨ud, rfl, d0, ld⟩
    rw [← EQ.out] at ld
    have LD := hide ld
    replace b0 := hide (below_tr b0.out d0)
    replace LC := hide (LC.out.can_below d0)
    clear d0 ld LA LB C4 KB y0 y1 y2
    go_wp2_with fail
    refine (vSame_yes LC.out LD.out HC.out (by decide) (T.out.below b0.out)).mono ?_
    rintro e w8 ⟨_, rfl, d0, rfl⟩
    replace b0 := hide (below_tr b0.out d0)
    clear d0 LC LD
    go_wp2
    exact opq_end hR ⟨rfl, b0⟩
end Go.Proofs.YtfpnhggbfakdkaaDoor
