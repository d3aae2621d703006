/- the laws' Book: two lists are the same; the Book is told a list of fractions. -/
import Derived.Test.YtkefmeddnncacaaDoorBy
import Derived.Test.YtkefmeddnncacaaDoorFR
set_option linter.unusedVariables false
set_option linter.unusedSimpArgs false
set_option maxRecDepth 100000
namespace Go.Proofs.YtkefmeddnncacaaDoor
open Go.RowKit

theorem fsr_assayerlaw01_SameRat (args : Array Value) (w : World) : (callFunc 37 args).run Tryd.prog w = .ok (.enter 37 args) w := callFunc_enter Tryd.func37 (by kernel_rfl) rfl args w
set_option maxHeartbeats 2000000 in
theorem sameRats_yes {w : World} {v v' : Value} {qs : List Rat} (h : Lst RCan w v qs) (h' : Lst RCan w v' qs) :
    Calls Tryd.prog 12 #[v, v'] w fun e w' => ∃ u, e = .returned u ∧ Below w.heap.size w w' ∧ u = .bool true := by
  refine opq fun R hR => ?_
  obtain ⟨A, c, rfl⟩ := h.sl
  obtain ⟨A', c', rfl⟩ := h'.sl
  obtain ⟨n, hn⟩ : ∃ n, Hid (qs.length = n) := ⟨_, rfl⟩
  have hbn : n ≤ 140737488355328 := by
    rw [← hn.out]
    obtain ⟨_, _, _, _, e, _, h2, _, h4, _⟩ := h
    cases e
    exact h4
  rw [hn.out] at h h' ⊢
  have L := hide h
  have M := hide h'
  clear h h'
  go_enter Tryd.func12, Tryd.ntmps12
  go_wp2
  go_loopw [5] (fun iv wr => ∃ (i : Nat), i ≤ n ∧ iv = .int .i64 (i : Nat) ∧ Hid (Below w.heap.size w wr)) (fun iv _ => n - (intOf iv).toNat)
  case atStart => exact ⟨0, by omega, rfl, Below.refl _ _⟩
  case round =>
    obtain ⟨i, hi, rfl, hbel⟩ := hrel
    by_cases hlt : i < n
    · obtain ⟨x, hx⟩ : ∃ x, qs[i]? = some x := ⟨_, List.getElem?_eq_getElem (by rw [hn.out]; exact hlt)⟩
      obtain ⟨ad, b2, A2, n2, c2, D2, m2, k2, rfl, _, x0, x1, x2, X⟩ := (L.out.can_below hbel.out).at_ tri_can hx
      obtain ⟨ad2, b3, A3, n3, c3, D3, m3, k3, rfl, _, y0, y1, y2, Y⟩ := (M.out.can_below hbel.out).at_ tri_can hx
      replace X := hide X
      replace Y := hide Y
      have P0 := hide x0
      have P1 := hide x1
      have P2 := hide x2
      have Q0 := hide y0
      have Q1 := hide y1
      have Q2 := hide y2
      clear x0 x1 x2 y0 y1 y2 hx
      have hlt2 : ¬ ((n : Int) ≤ (i : Int)) := by omega
      go_wp2
      refine wp_region_facts 10 (fun w' => Below wr.heap.size wr w') [(17, .eq (.slice (some ad) n c)), (18, .eq (.int .i64 (i : Nat))), (19, .eq ((.pointer (some (ad.add (i * 3))) : Value))), (20, .eq (.agg #[.bool b2, .slice A2 n2 c2, .slice D2 m2 k2])), (21, .eq (.slice (some ad2) n c')), (22, .eq (.int .i64 (i : Nat))), (23, .eq ((.pointer (some (ad2.add (i * 3))) : Value))), (24, .eq (.agg #[.bool b3, .slice A3 n3 c3, .slice D3 m3 k3])), (25, .eq (.bool true)), (26, .eq (.bool false))] [false, false, false, false, false, false, false, false, false, false, false, false, false, false, false, false, false, true, true, true, true, true, true, true, true, true, true] mixed (by kernel_rfl) (by kernel_rfl) (by kernel_rfl) (fun _ _ h hb => h.trans (hb.mono h.size)) ((Below.refl _ _).drew) ⟨?_, ?_, ?_, ?_, ?_, ?_, ?_, ?_, ?_, ?_, trivial⟩ ?_
      · exact .moveC (.inl rfl) (.inl rfl) rfl (fun a w' hC hs => (hs 0 (by kernel_rfl)))
      · exact .moveC (.inl rfl) (.inl rfl) rfl (fun a w' hC hs => (hs 5 (by kernel_rfl)))
      · exact .value (.inl rfl) (by intro T e; cases e) rfl rfl (fun a w' hC hs hl => by
          have e0 : a.eval (.tmp 17) = (.slice (some ad) n c) := (hl 17 (by kernel_rfl) (by kernel_rfl))
          have e1 : a.eval (.tmp 18) = (.int .i64 (i : Nat)) := (hl 18 (by kernel_rfl) (by kernel_rfl))
          simp only [execOp, e0, e1]
          simp [go_sem, hlt2])
      · exact .load (.agg #[.bool b2, .slice A2 n2 c2, .slice D2 m2 k2]) (.inl rfl) rfl rfl (fun a w' hC hs hl => by rw [show a.eval (.tmp 19) = (.pointer (some (ad.add (i * 3))) : Value) from (hl 19 (by kernel_rfl) (by kernel_rfl))]; exact ⟨ld_RatAt (cell_below hC P0.out) (cell_below hC P1.out) (cell_below hC P2.out), rfl⟩)
      · exact .moveC (.inl rfl) (.inl rfl) rfl (fun a w' hC hs => (hs 1 (by kernel_rfl)))
      · exact .moveC (.inl rfl) (.inl rfl) rfl (fun a w' hC hs => (hs 5 (by kernel_rfl)))
      · exact .value (.inl rfl) (by intro T e; cases e) rfl rfl (fun a w' hC hs hl => by
          have e0 : a.eval (.tmp 21) = (.slice (some ad2) n c') := (hl 21 (by kernel_rfl) (by kernel_rfl))
          have e1 : a.eval (.tmp 22) = (.int .i64 (i : Nat)) := (hl 22 (by kernel_rfl) (by kernel_rfl))
          simp only [execOp, e0, e1]
          simp [go_sem, hlt2])
      · exact .load (.agg #[.bool b3, .slice A3 n3 c3, .slice D3 m3 k3]) (.inl rfl) rfl rfl (fun a w' hC hs hl => by rw [show a.eval (.tmp 23) = (.pointer (some (ad2.add (i * 3))) : Value) from (hl 23 (by kernel_rfl) (by kernel_rfl))]; exact ⟨ld_RatAt (cell_below hC Q0.out) (cell_below hC Q1.out) (cell_below hC Q2.out), rfl⟩)
      · exact .call (.inl rfl) rfl rfl fsr_assayerlaw01_SameRat (fun a w' hC hs hl => by
          show Calls _ _ #[a.eval (.tmp 20), a.eval (.tmp 24)] _ _
          rw [show a.eval (.tmp 20) = (.agg #[.bool b2, .slice A2 n2 c2, .slice D2 m2 k2] : Value) from (hl 20 (by kernel_rfl) (by kernel_rfl)), show a.eval (.tmp 24) = (.agg #[.bool b3, .slice A3 n3 c3, .slice D3 m3 k3] : Value) from (hl 24 (by kernel_rfl) (by kernel_rfl))]
          exact sameRat_yes (X.out.below hC) (Y.out.below hC))
      · exact .value (.inl rfl) (by intro T e; cases e) rfl rfl (fun a w' hC hs hl => by
          have e0 : a.eval (.tmp 25) = (.bool true) := (hl 25 (by kernel_rfl) (by kernel_rfl))
          simp only [execOp, e0]
          skip
          simp [go_sem] <;> rfl)
      · intro f wz hC hF _
        have fz : f 26 = .bool false := hF 26 (by kernel_rfl)
        clear hF
        simp only [patch, List.drop]
        rw [fz]
        clear fz
        try change wpList _ _ _ [] _ _
        generalize f 17 = y17_
        generalize f 18 = y18_
        generalize f 19 = y19_
        generalize f 20 = y20_
        generalize f 21 = y21_
        generalize f 22 = y22_
        generalize f 23 = y23_
        generalize f 24 = y24_
        generalize f 25 = y25_
        have hbel' := hide (below_tr hbel.out hC)
        clear hC P0 P1 P2 Q0 Q1 Q2 hlt2 X Y
        go_wp2
        go_roundw
        case rel => exact ⟨i + 1, by omega, by go_num, hbel'⟩
        case measure => simp [intOf]; omega
    · obtain rfl : i = n := by omega
      go_wp2
      exact opq_end hR ⟨_, rfl, hbel.out, rfl⟩
theorem BookF.len {B : Nat} {w : World} {g num : Nat} {v u : Value} {es fs : List Ent} (h : BookF B w g num v u es fs) : Blk w g TBK (bkF num v u) := h.U.blk
set_option maxHeartbeats 1000000 in
theorem bookNat_F (w : World) (B g num : Nat) (v u : Value) (es fs : List Ent) (hB : B ≤ w.heap.size) (hb : BookF B w g num v u es fs) (A : Option Addr) (n c : Nat) (hn : num ≤ 100000) (hes : es.length ≤ 100000) :
    Calls Tryd.prog 120 #[.pointer (some ⟨g, 0, none⟩), .slice A n c] w fun e w' => (∃ r, e = .returned r) ∧ KpF B w w' ∧ ∃ v', BookF B w' g (num + 1) v' u (es ++ [⟨A, n, c, none, 0, 0, num + 1⟩]) fs := by
  refine opq fun R hR => ?_
  have V := hide hb.V
  have K := hide (keepInt32_U w B g num v u es hB hb.U A n c hn hes)
  clear hb hB
  go_enter Tryd.func120, Tryd.ntmps120
  go_wp2_with fail
  refine K.out.mono ?_
  rintro e w' ⟨⟨_, rfl⟩, k1, v', k2⟩
  have V2 : Hid (BookV v' B w' g (num + 1) u fs) := ⟨k2.blk, V.out.own, own_keepT V.out.row fun r cs hk => k1.nums r _ cs (by decide) (by decide) hk⟩
  replace k1 := hide k1.f
  replace k2 := hide k2
  clear K V
  go_wp2
  go_end0
  exact opq_end hR ⟨⟨_, rfl⟩, k1.out, v', k2.out, V2.out⟩
set_option maxHeartbeats 1000000 in
theorem bookInt_F (w : World) (B g num : Nat) (v u : Value) (es fs : List Ent) (hB : B ≤ w.heap.size) (hb : BookF B w g num v u es fs) (b : Bool) (A : Option Addr) (n c : Nat) (hn : num ≤ 100000) (hes : es.length ≤ 100000) :
    Calls Tryd.prog 119 #[.pointer (some ⟨g, 0, none⟩), .agg #[.bool b, .slice A n c]] w fun e w' => (∃ r, e = .returned r) ∧ KpF B w w' ∧ ∃ v', BookF B w' g (num + 1) v' u (es ++ [⟨A, n, c, none, 0, 0, num + 1⟩]) fs := by
  refine opq fun R hR => ?_
  have hW : Hid (B ≤ (w.alloc (.cells #[.bool b, .slice A n c] 49)).heap.size) := Nat.le_trans hB (by simp)
  have hK : Hid (KpF B w (w.alloc (.cells #[.bool b, .slice A n c] 49))) := ⟨(Below.refl B w).alloc hB _, fun b t cs _ _ _ hk => hk.alloc _⟩
  have K := hide (bookNat_F (w.alloc (.cells #[.bool b, .slice A n c] 49)) B g num v u es fs hW.out (hb.keep fun g t cs _ _ hk => hk.alloc _) A n c hn hes)
  have KB := Blk.new_at w w.heap.size rfl 49 #[.bool b, .slice A n c]
  clear hb
  have c0 := KB.at_ 0 rfl
  have c1 := KB.at_ 1 rfl
  clear KB
  go_enter Tryd.func119, Tryd.ntmps119
  go_wp2_with fail
  refine K.out.mono ?_
  rintro e w1 ⟨⟨_, rfl⟩, k1, k2⟩
  have k3 := hide (hK.out.tr k1)
  replace k2 := hide k2
  clear K k1 c0 c1
  go_wp2
  go_end0
  exact opq_end hR ⟨⟨_, rfl⟩, k3.out, k2.out⟩
set_option maxHeartbeats 1000000 in
theorem bookRat_F (w : World) (B g num : Nat) (v u : Value) (es fs : List Ent) (hB : B ≤ w.heap.size) (hb : BookF B w g num v u es fs) (b : Bool) (A : Option Addr) (n c : Nat) (D : Option Addr) (m k : Nat) (hn : num + 1 ≤ 100000) (hes : es.length + 1 ≤ 100000) :
    Calls Tryd.prog 41 #[.pointer (some ⟨g, 0, none⟩), .agg #[.bool b, .slice A n c, .slice D m k]] w fun e w' => (∃ r, e = .returned r) ∧ KpF B w w' ∧ ∃ v', BookF B w' g (num + 1 + 1) v' u (es ++ [⟨A, n, c, none, 0, 0, num + 1⟩] ++ [⟨D, m, k, none, 0, 0, num + 1 + 1⟩]) fs := by
  refine opq fun R hR => ?_
  have hW : Hid (B ≤ (w.alloc (.cells #[.bool b, .slice A n c, .slice D m k] TR)).heap.size) := Nat.le_trans hB (by simp)
  have hK : Hid (KpF B w (w.alloc (.cells #[.bool b, .slice A n c, .slice D m k] TR))) := ⟨(Below.refl B w).alloc hB _, fun b t cs _ _ _ hk => hk.alloc _⟩
  have K := hide (bookInt_F (w.alloc (.cells #[.bool b, .slice A n c, .slice D m k] TR)) B g num v u es fs hW.out (hb.keep fun g t cs _ _ hk => hk.alloc _) b A n c (by omega) (by omega))
  have KB := hide (Blk.new_at w w.heap.size rfl TR #[.bool b, .slice A n c, .slice D m k])
  clear hb
  have c0 := KB.out.at_ 0 rfl
  have c1 := KB.out.at_ 1 rfl
  have c2 := KB.out.at_ 2 rfl
  go_enter Tryd.func41, Tryd.ntmps41
  go_wp2_with fail
  refine K.out.mono ?_
  rintro e w1 ⟨⟨_, rfl⟩, k1, v1, k2⟩
  replace KB := hide (k1.nums _ _ _ (by decide) (by decide) (by decide) KB.out)
  have k3 := hide (hK.out.tr k1)
  have hB1 : Hid (B ≤ w1.heap.size) := Nat.le_trans hB k3.out.base.size
  have K' := hide (bookNat_F w1 B g (num + 1) v1 u _ fs hB1.out k2 D m k (by omega) (by simp; omega))
  clear K k1 k2 c0 c1 c2
  have c0 := KB.out.at_ 0 rfl
  have c1 := KB.out.at_ 1 rfl
  have c2 := KB.out.at_ 2 rfl
  go_wp2_with fail
  refine K'.out.mono ?_
  rintro e w2 ⟨⟨_, rfl⟩, k1, k2⟩
  replace k1 := hide k1
  replace k2 := hide k2
  clear K'
  go_wp2
  go_end0
  exact opq_end hR ⟨⟨_, rfl⟩, k3.out.tr k1.out, k2.out⟩
theorem shp_cells {us : List Value} (hs : ∀ u ∈ us, Shp u) : ∀ u ∈ us, u.cells.size = 3 := fun u hu => by
  obtain ⟨b, A, n, c, D, m, k, rfl⟩ := hs u hu
  rfl
/-- An element's cells. -/
theorem RRow.el {B : Nat} {w : World} {A : Option Addr} {n c : Nat} {us : List Value} (h : RRow B w A n c (flat us)) (hu : us.length = n) (hs : ∀ u ∈ us, Shp u) {i : Nat} (hi : i < n) :
    ∃ g b A1 n1 c1 D1 m1 k1, A = some ⟨g, 0, none⟩ ∧ us[i]? = some (.agg #[.bool b, .slice A1 n1 c1, .slice D1 m1 k1]) ∧ w.cell? ⟨g, i * 3, none⟩ = some (.bool b) ∧ w.cell? ⟨g, i * 3 + 1, none⟩ = some (.slice A1 n1 c1) ∧ w.cell? ⟨g, i * 3 + 2, none⟩ = some (.slice D1 m1 k1) := by
  have hj : us[i]? = some (us[i]'(by omega)) := List.getElem?_eq_getElem _
  obtain ⟨b, A1, n1, c1, D1, m1, k1, e⟩ := hs _ (List.getElem_mem (by omega : i < us.length))
  rw [e] at hj
  obtain ⟨g, e0, _, _, _, c0, _⟩ := h.at_ (i := i * 3) (by omega)
  obtain ⟨g1, e1, _, _, _, c1', _⟩ := h.at_ (i := i * 3 + 1) (by omega)
  obtain ⟨g2, e2, _, _, _, c2', _⟩ := h.at_ (i := i * 3 + 2) (by omega)
  rw [e0] at e1 e2
  cases e1
  cases e2
  have f0 := flat_get (shp_cells hs) hj 0 (by omega)
  have f1 := flat_get (shp_cells hs) hj 1 (by omega)
  have f2 := flat_get (shp_cells hs) hj 2 (by omega)
  rw [Nat.mul_comm 3 i] at f0 f1 f2
  exact ⟨g, b, A1, n1, c1, D1, m1, k1, e0, hj, by rw [c0]; exact f0, by rw [c1', f1]; rfl, by rw [c2', f2]; rfl⟩
set_option maxHeartbeats 2000000 in
theorem bookRats_F (w : World) (B g num : Nat) (v u : Value) (es fs : List Ent) (hB : B ≤ w.heap.size) (hb : BookF B w g num v u es fs) (A : Option Addr) (n c : Nat) (us : List Value) (hr : RRow B w A n c (flat us)) (hu : us.length = n) (hs : ∀ u ∈ us, Shp u) (hn : num + 2 * n ≤ 100000) (hes : es.length + 2 * n ≤ 100000) (hfs : fs.length ≤ 100000) :
    Calls Tryd.prog 14 #[.pointer (some ⟨g, 0, none⟩), .slice A n c] w fun e w' => (∃ r, e = .returned r) ∧ KpF B w w' ∧ ∃ v' u', BookF B w' g (num + 2 * n + 1) v' u' (es ++ entsU num us) (fs ++ [⟨A, n, c, none, 0, 0, num + 2 * n + 1⟩]) := by
  refine opq fun R hR => ?_
  have bB := hide hB
  have bk0 := hide hb
  have rr := hide hr
  have hU := hide hu
  have hS := hide hs
  clear hb hr hs hB hu
  go_enter Tryd.func14, Tryd.ntmps14
  go_wp2
  go_loopw [4] (fun iv wr => ∃ (i : Nat), i ≤ n ∧ iv = .int .i64 (i : Nat) ∧ Hid (KpF B w wr) ∧ Hid (∃ v', BookF B wr g (num + 2 * i) v' u (es ++ entsU num (us.take i)) fs)) (fun iv _ => n - (intOf iv).toNat)
  case atStart => exact ⟨0, by omega, rfl, ⟨Below.refl _ _, fun _ _ _ _ _ _ h => h⟩, v, by rw [List.take_zero, show entsU num [] = [] from rfl, List.append_nil]; exact bk0.out⟩
  case round =>
    obtain ⟨i, hi, rfl, kp, bk⟩ := hrel
    have r1 := hide (rr.out.keep fun g cs _ hk => kp.out.nums g _ cs (by decide) (by decide) (by decide) hk)
    have bB1 : Hid (B ≤ wr.heap.size) := Nat.le_trans bB.out kp.out.base.size
    obtain ⟨v1, bk1⟩ := bk.out
    replace bk1 := hide bk1
    clear bk
    by_cases hlt : i < n
    · obtain ⟨ga, b2, A2, n2, c2, D2, m2, k2, rfl, hx, x0, x1, x2⟩ := r1.out.el hU.out hS.out hlt
      have hT : Hid (entsU num (us.take (i + 1)) = entsU num (us.take i) ++ [⟨A2, n2, c2, none, 0, 0, num + 2 * i + 1⟩] ++ [⟨D2, m2, k2, none, 0, 0, num + 2 * i + 1 + 1⟩]) := by
        show _ = _
        rw [List.take_add_one, hx]
        have := entsU_snoc num (us.take i) (fun u hu => hS.out u (List.mem_of_mem_take hu)) b2 A2 D2 n2 c2 m2 k2
        rw [List.length_take, hU.out, Nat.min_eq_left hi] at this
        exact this
      have hl : Hid ((es ++ entsU num (us.take i)).length + 1 ≤ 100000) := by
        show _ ≤ _
        rw [List.length_append, entsU_len _ _ (fun u hu => hS.out u (List.mem_of_mem_take hu)), List.length_take]
        omega
      clear hx
      go_wp2_with fail
      refine (bookRat_F wr B g (num + 2 * i) v1 u _ fs bB1.out bk1.out b2 A2 n2 c2 D2 m2 k2 (by omega) hl.out).mono ?_
      rintro e w1 ⟨⟨_, rfl⟩, k3, v2, k4⟩
      have K3 := hide (kp.out.tr k3)
      have K4 : Hid (∃ v', BookF B w1 g (num + 2 * (i + 1)) v' u (es ++ entsU num (us.take (i + 1))) fs) := by
        refine ⟨v2, ?_⟩
        rw [hT.out, ← List.append_assoc, ← List.append_assoc]
        exact k4
      clear k3 k4 kp bk1 r1 x0 x1 x2 hT hl bB1
      go_wp2
      go_roundw
      case rel => exact ⟨i + 1, by omega, by go_num, K3, K4⟩
      case measure => simp [intOf]; omega
    · obtain rfl : i = n := by omega
      have e1 : us.take i = us := List.take_of_length_le (by rw [hU.out]; exact Nat.le_refl _)
      rw [e1] at bk1
      clear r1
      go_wp2_with fail
      refine (keepRat_V wr B g (num + 2 * i) u v1 fs bB1.out bk1.out.V A i c (by omega) hfs).mono ?_
      rintro e w1 ⟨⟨_, rfl⟩, k3, u2, k4⟩
      have U2 : Hid (BookU u2 B w1 g (num + 2 * i + 1) v1 (es ++ entsU num us)) := ⟨k4.blk, bk1.out.U.own, own_keepT bk1.out.U.row fun r cs hk => k3.nums r _ cs (by decide) (by decide) hk⟩
      have K3 := hide (kp.out.tr k3.f)
      replace k4 := hide k4
      clear k3 kp bk1
      go_wp2
      go_end0
      exact opq_end hR ⟨⟨_, rfl⟩, K3.out, v1, u2, U2.out, k4.out⟩
end Go.Proofs.YtkefmeddnncacaaDoor
