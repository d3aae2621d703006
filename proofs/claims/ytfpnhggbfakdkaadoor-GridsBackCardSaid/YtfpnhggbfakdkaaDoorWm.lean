/- grids: two are the same; what a law opens; plain words on turned grids. -/
import Derived.Test.YtfpnhggbfakdkaaDoorWl
import Derived.Test.YtfpnhggbfakdkaaDoorBY
set_option linter.unusedVariables false
set_option linter.unusedSimpArgs false
set_option maxRecDepth 100000
namespace Go.Proofs.YtfpnhggbfakdkaaDoor
open Go.RowKit

theorem fwm_assayerlaw01_SameRats (args : Array Value) (w : World) : (callFunc 35 args).run Tryd.prog w = .ok (.enter 35 args) w := callFunc_enter Tryd.func35 (by kernel_rfl) rfl args w
set_option maxHeartbeats 2000000 in
theorem sameGrid_yes {w : World} {v v' : Value} {qss : List (List Rat)} (h : Gst RCan w v qss) (h' : Gst RCan w v' qss) :
    Calls Tryd.prog 14 #[v, v'] w fun e w' => ∃ u, e = .returned u ∧ Below w.heap.size w w' ∧ u = .bool true := by
  refine opq fun R hR => ?_
  obtain ⟨A, c, rfl⟩ := h.sl
  obtain ⟨A', c', rfl⟩ := h'.sl
  have hb := h.le_
  obtain ⟨n, hn⟩ : ∃ n, Hid (qss.length = n) := ⟨_, rfl⟩
  rw [hn.out] at h h' hb
  rw [hn.out]
  have L := hide h
  have L' := hide h'
  clear h h'
  go_enter Tryd.func14, Tryd.ntmps14
  go_wp2
  go_loopw [5] (fun iv wr => ∃ (i : Nat), i ≤ n ∧ iv = .int .i64 (i : Nat) ∧ Hid (Below w.heap.size w wr)) (fun iv _ => n - (intOf iv).toNat)
  case atStart => exact ⟨0, by omega, rfl, Below.refl _ _⟩
  case round =>
    obtain ⟨i, hi, rfl, hbel⟩ := hrel
    by_cases hlt : i < n
    · obtain ⟨q, hq⟩ : ∃ q, qss[i]? = some q := ⟨_, List.getElem?_eq_getElem (by rw [hn.out]; exact hlt)⟩
      obtain ⟨ad, B1, d1, rfl, _, x0, X1⟩ := (L.out.can_below hbel.out).at_ hq
      obtain ⟨ad2, B2, d2, rfl, _, y0, X2⟩ := (L'.out.can_below hbel.out).at_ hq
      obtain ⟨k, hk⟩ : ∃ k, q.length = k := ⟨_, rfl⟩
      rw [hk] at x0 X1 y0 X2
      have Q1 := hide x0
      have Q2 := hide y0
      replace X1 := hide X1
      replace X2 := hide X2
      have hii : ¬ ((n : Int) ≤ (i : Int)) := by omega
      clear x0 y0 hq hk
      go_wp2
      · skip
        refine wp_region_facts 10 (fun w' => Below wr.heap.size wr w') [(17, .eq (.slice (some ad) n c)), (18, .eq (.int .i64 (i : Nat))), (19, .eq ((.pointer (some (ad.add i)) : Value))), (20, .eq (.slice B1 k d1)), (21, .eq (.slice (some ad2) n c')), (22, .eq (.int .i64 (i : Nat))), (23, .eq ((.pointer (some (ad2.add i)) : Value))), (24, .eq (.slice B2 k d2)), (25, .eq (.bool true)), (26, .eq (.bool false))] [false, false, false, false, false, false, false, false, false, false, false, false, false, false, false, false, false, true, true, true, true, true, true, true, true, true, true] mixed (by kernel_rfl) (by kernel_rfl) (by kernel_rfl) (fun _ _ h hb => h.trans (hb.mono h.size)) ((Below.refl _ _).drew) ⟨?_, ?_, ?_, ?_, ?_, ?_, ?_, ?_, ?_, ?_, trivial⟩ ?_
        · exact .moveC (.inl rfl) (.inl rfl) rfl (fun a w' hC hs => (hs 0 (by kernel_rfl)))
        · exact .moveC (.inl rfl) (.inl rfl) rfl (fun a w' hC hs => (hs 5 (by kernel_rfl)))
        · exact .value (.inl rfl) (by intro T e; cases e) rfl rfl (fun a w' hC hs hl => by
            have e0 : a.eval (.tmp 17) = (.slice (some ad) n c) := (hl 17 (by kernel_rfl) (by kernel_rfl))
            have e1 : a.eval (.tmp 18) = (.int .i64 (i : Nat)) := (hl 18 (by kernel_rfl) (by kernel_rfl))
            simp only [execOp, e0, e1]
            simp [go_sem, hii])
        · exact .load (.slice B1 k d1) (.inl rfl) rfl rfl (fun a w' hC hs hl => by rw [show a.eval (.tmp 19) = (.pointer (some (ad.add i)) : Value) from (hl 19 (by kernel_rfl) (by kernel_rfl))]; exact ⟨by simp [go_sem, cell_below hC Q1.out], rfl⟩)
        · exact .moveC (.inl rfl) (.inl rfl) rfl (fun a w' hC hs => (hs 1 (by kernel_rfl)))
        · exact .moveC (.inl rfl) (.inl rfl) rfl (fun a w' hC hs => (hs 5 (by kernel_rfl)))
        · exact .value (.inl rfl) (by intro T e; cases e) rfl rfl (fun a w' hC hs hl => by
            have e0 : a.eval (.tmp 21) = (.slice (some ad2) n c') := (hl 21 (by kernel_rfl) (by kernel_rfl))
            have e1 : a.eval (.tmp 22) = (.int .i64 (i : Nat)) := (hl 22 (by kernel_rfl) (by kernel_rfl))
            simp only [execOp, e0, e1]
            simp [go_sem, hii])
        · exact .load (.slice B2 k d2) (.inl rfl) rfl rfl (fun a w' hC hs hl => by rw [show a.eval (.tmp 23) = (.pointer (some (ad2.add i)) : Value) from (hl 23 (by kernel_rfl) (by kernel_rfl))]; exact ⟨by simp [go_sem, cell_below hC Q2.out], rfl⟩)
        · exact .call (.inl rfl) rfl rfl fwm_assayerlaw01_SameRats (fun a w' hC hs hl => by
            show Calls _ _ #[a.eval (.tmp 20), a.eval (.tmp 24)] _ _
            rw [show a.eval (.tmp 20) = (.slice B1 k d1 : Value) from (hl 20 (by kernel_rfl) (by kernel_rfl)), show a.eval (.tmp 24) = (.slice B2 k d2 : Value) from (hl 24 (by kernel_rfl) (by kernel_rfl))]
            exact sameRats_yes (X1.out.can_below hC) (X2.out.can_below hC))
        · exact .value (.inl rfl) (by intro T e; cases e) rfl rfl (fun a w' hC hs hl => by
            have e0 : a.eval (.tmp 25) = (.bool true) := (hl 25 (by kernel_rfl) (by kernel_rfl))
            simp only [execOp, e0]
            skip
            simp [go_sem] <;> rfl)
        · intro f wz hC hF _
          have f26 : f 26 = .bool false := hF 26 (by kernel_rfl)
          clear hF
          simp only [patch, List.drop]
          rw [f26]
          clear f26
          generalize f 17 = y17_
          generalize f 18 = y18_
          generalize f 19 = y19_
          generalize f 20 = y20_
          generalize f 21 = y21_
          generalize f 22 = y22_
          generalize f 23 = y23_
          generalize f 24 = y24_
          generalize f 25 = y25_
          replace hbel := hide (below_tr hbel.out hC)
          clear hC Q1 Q2 X1 X2
          go_wp2
          go_roundw
          case rel => exact ⟨i + 1, by omega, by go_num, hbel⟩
          case measure => simp [intOf]; omega
    · obtain rfl : i = n := by omega
      go_wp2
      exact opq_end hR ⟨_, rfl, hbel.out, rfl⟩
/-- What a law of grids opens: a grid that is not too great, and may be. -/
structure GOpen (w : World) (A : Option Addr) (n c : Nat) (ess : List (List Raw)) (N : Nat) : Prop where
  can : Gst RCan w (.slice A n c) (ess.map fun es => es.map rvE)
  gq : GQ (ess.map fun es => es.map rvE) N 300
  n8 : n ≤ 8
  N8 : N ≤ 8
theorem gopen_raw {w : World} {A : Option Addr} {n c : Nat} {ess : List (List Raw)} (h : Gst RRw w (.slice A n c) ess) (hg : n ≤ 8 ∧ gsz ess ≤ 300 ∧ ∀ es ∈ ess, es.length ≤ 8) : Gst RRaw w (.slice A n c) ess := (h.rawW 300 hg.2.1 (by decide)).1
theorem gopen {w : World} {A : Option Addr} {n c : Nat} {ess : List (List Raw)} (h : Gst RRaw w (.slice A n c) ess) (hg : n ≤ 8 ∧ gsz ess ≤ 300 ∧ ∀ es ∈ ess, es.length ≤ 8) (hk : gok ess = true) : GOpen w A n c ess (cols ess) := by
  have hr := List.all_eq_true.1 hk
  have hrow : ∀ es ∈ ess, es.length = cols ess ∧ es.all rk = true := fun es he => by
    have := hr es he
    unfold rowB at this
    rw [Bool.and_eq_true, decide_eq_true_eq] at this
    exact this
  have hl := h.len
  refine ⟨h.imp rvE fun es he u e hm hu => hu.can (List.all_eq_true.1 (hrow es he).2 e hm), ⟨fun qs hq => ?_, fun qs hq q hm => ?_, fun e => ?_⟩, hg.1, ?_⟩
  · obtain ⟨es, he, rfl⟩ := List.mem_map.1 hq
    rw [List.length_map]
    exact (hrow es he).1
  · obtain ⟨es, he, rfl⟩ := List.mem_map.1 hq
    obtain ⟨e, hm', rfl⟩ := List.mem_map.1 hm
    obtain ⟨A', n', c', us, e1, h1, h2, h3, h4, h5, h6⟩ := h
    cases e1
    obtain ⟨j, hj, rfl⟩ := List.getElem_of_mem he
    obtain ⟨u, hu, hL⟩ := h6 j _ (List.getElem?_eq_getElem hj)
    obtain ⟨A2, n2, c2, vs, e2, k1, k2, k3, k4, k5, k6⟩ := hL
    obtain ⟨i, hi, rfl⟩ := List.getElem_of_mem hm'
    obtain ⟨v, hv, hE⟩ := k6 i _ (List.getElem?_eq_getElem hi)
    have hs1 := tsz_mem (List.getElem_mem hi)
    have hs2 := (tsz_gsz he hg.2.1).2
    exact (hE.siz (by omega)).up (by omega)
  · have : ess = [] := List.map_eq_nil_iff.1 e
    rw [this]; rfl
  · unfold cols
    rcases ess with _ | ⟨a, r⟩
    · exact Nat.zero_le _
    · exact hg.2.2 a (List.mem_cons_self ..)
theorem GOpen.below {w w' : World} {A : Option Addr} {n c : Nat} {ess : List (List Raw)} {N : Nat} (h : GOpen w A n c ess N) (hb : Below w.heap.size w w') : GOpen w' A n c ess N := ⟨h.can.can_below hb, h.gq, h.n8, h.N8⟩
theorem szt300 {N : Nat} (h : N ≤ 8) : szt 300 N ≤ 1000000000 := Nat.le_trans (szt_le 300 N 8 h) (by decide)
/-- A turned grid. -/
theorem turnQ_len (qss : List (List Rat)) (N : Nat) : (turnQ qss N).length = N := by
  unfold turnQ
  simp
theorem turnQ_get {qss : List (List Rat)} {N k : Nat} (hk : k < N) : (turnQ qss N)[k]? = some (qss.map fun q => q.getD k 0) := by
  unfold turnQ
  rw [List.getElem?_map, List.getElem?_range hk]
  rfl
theorem GQ.turn {qss : List (List Rat)} {N s : Nat} (G : GQ qss N s) (hs : 1 ≤ s) : GQ (turnQ qss N) (if N = 0 then 0 else qss.length) s := by
  refine ⟨fun qs hq => ?_, fun qs hq => ?_, fun e => ?_⟩
  · unfold turnQ at hq
    obtain ⟨k, hk, rfl⟩ := List.mem_map.1 hq
    have := List.mem_range.1 hk
    rw [List.length_map, if_neg (by omega)]
  · unfold turnQ at hq
    obtain ⟨k, hk, rfl⟩ := List.mem_map.1 hq
    intro x hx
    obtain ⟨q, hm, rfl⟩ := List.mem_map.1 hx
    exact H_getD (G.hs q hm) hs k
  · have := turnQ_len qss N
    rw [e] at this
    have h0 : N = 0 := this.symm
    rw [if_pos h0]
theorem mat_turn {qss : List (List Rat)} {N i j : Nat} (hi : i < N) (hj : j < qss.length) : mat (fun a => (turnQ qss N).getD a []) i j = mat (fun a => qss.getD a []) j i := by
  unfold mat
  have h1 : (turnQ qss N).getD i [] = qss.map fun q => q.getD i 0 := by rw [List.getD_eq_getElem?_getD, turnQ_get hi]; rfl
  show ((turnQ qss N).getD i []).getD j 0 = (qss.getD j []).getD i 0
  have h2 : qss[j]? = some (qss[j]'hj) := List.getElem?_eq_getElem _
  rw [h1, List.getD_eq_getElem?_getD, List.getElem?_map, h2, List.getD_eq_getElem?_getD (l := qss), h2]
  rfl
theorem turn_turn {qss : List (List Rat)} {N s : Nat} (G : GQ qss N s) : turnQ (turnQ qss N) qss.length = qss := by
  apply List.ext_getElem?
  intro j
  by_cases hj : j < qss.length
  · rw [turnQ_get hj]
    have h2 : qss[j]? = some (qss[j]'hj) := List.getElem?_eq_getElem _
    rw [h2]
    congr 1
    have hl := G.rect _ (List.mem_of_getElem? h2)
    apply List.ext_getElem?
    intro i
    by_cases hi : i < N
    · rw [List.getElem?_map, turnQ_get hi]
      show some ((qss.map fun q => q.getD i 0).getD j 0) = _
      rw [List.getD_eq_getElem?_getD, List.getElem?_map, h2, List.getElem?_eq_getElem (by omega)]
      show some ((qss[j]).getD i 0) = _
      rw [List.getD_eq_getElem?_getD, List.getElem?_eq_getElem (by omega)]
      rfl
    · rw [List.getElem?_eq_none (by rw [List.length_map, turnQ_len]; omega), List.getElem?_eq_none (by omega)]
  · rw [List.getElem?_eq_none (by rw [turnQ_len]; omega), List.getElem?_eq_none (by omega)]
theorem rnk_agree {m n : Nat} {A B : Nat → Nat → Rat} (h : ∀ i j, i < m → j < n → A i j = B i j) : rnk m n A = rnk m n B :=
  rnk_congr fun x => ⟨fun q => q.congr h, fun q => q.congr fun i j hi hj => (h i j hi hj).symm⟩
theorem rank_turn {qss : List (List Rat)} {N s : Nat} (G : GQ qss N s) : rnk N (if N = 0 then 0 else qss.length) (mat fun j => (turnQ qss N).getD j []) = rnk qss.length N (mat fun j => qss.getD j []) := by
  by_cases h0 : N = 0
  · subst h0
    rw [if_pos rfl]
    have h1 := rnk_le 0 0 (mat fun j => (turnQ qss 0).getD j [])
    have h2 := rnk_le qss.length 0 (mat fun j => qss.getD j [])
    omega
  · rw [if_neg h0, ← rnk_turn qss.length N]
    exact rnk_agree fun i j hi hj => mat_turn hi hj
end Go.Proofs.YtfpnhggbfakdkaaDoor
