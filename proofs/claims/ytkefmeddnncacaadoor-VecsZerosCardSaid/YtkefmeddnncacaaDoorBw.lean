/- the laws' Book: each list of fractions that is held is looked at. -/
import Derived.Test.YtkefmeddnncacaaDoorBv
import Derived.Test.YtkefmeddnncacaaDoorFR
set_option linter.unusedVariables false
set_option linter.unusedSimpArgs false
set_option maxRecDepth 100000
namespace Go.Proofs.YtkefmeddnncacaaDoor
open Go.RowKit

theorem RRow.mark {B : Nat} {w : World} {A : Option Addr} {n c lo k : Nat} {xs : List Value} (h : RRow B w A n c xs) (m : Mks w lo k n xs) {j : Nat} (hj : j < n) :
    ∃ g q d cs, A = some ⟨g, 0, none⟩ ∧ w.cell? ⟨g, j * 3, none⟩ = some (.bool false) ∧ w.cell? ⟨g, j * 3 + 1, none⟩ = some (.slice none 0 0) ∧ w.cell? ⟨g, j * 3 + 2, none⟩ = some (.slice (some ⟨q, 0, none⟩) 1 d) ∧ Hid (Blk w q T32 cs) ∧ Hid (cs[0]? = some (mk32 k)) := by
  obtain ⟨h0, h1, q, d, cs, h2, h3, h4, h5⟩ := m j hj
  obtain ⟨g, e, _, _, _, c0, _⟩ := h.at_ (i := j * 3) (by omega)
  obtain ⟨g1, e1, _, _, _, c1, _⟩ := h.at_ (i := j * 3 + 1) (by omega)
  obtain ⟨g2, e2, _, _, _, c2, _⟩ := h.at_ (i := j * 3 + 2) (by omega)
  rw [e] at e1 e2
  cases e1
  cases e2
  exact ⟨g, q, d, cs, e, by rw [c0, h0], by rw [c1, h1], by rw [c2, h2], h4, h5⟩
theorem fbk_assayerlaw01_isRat (args : Array Value) (w : World) : (callFunc 140 args).run Tryd.prog w = .ok (.enter 140 args) w := callFunc_enter Tryd.func140 (by kernel_rfl) rfl args w
set_option maxHeartbeats 2000000 in
theorem lookRat_V (w : World) (B g num : Nat) (v u : Value) (es : List Ent) (X Y : Nat → List Value) (hB : B ≤ w.heap.size) (hb : BookV u B w g num v es) (hh : HeldR B w es X Y) (hes : es.length ≤ 100000)
    (lo : Nat)
    (hk : ∀ (i : Nat) (e : Ent), es[i]? = some e → e.k ≤ 100000 ∧ e.n ≤ 500000 ∧ e.m = e.n + 40 ∧ Mks w lo e.k e.n (X i) ∧ Mks w lo e.k e.m (Y i)) :
    Calls Tryd.prog 74 #[.pointer (some ⟨g, 0, none⟩)] w fun e w' => e = .returned (.bool true) ∧ BelA B w w' ∧ BookV u B w' g num v es := by
  refine opq fun R hR => ?_
  obtain ⟨RR, cR, rfl⟩ := hb.len
  have bk0 := hide hb
  have hd0 := hide hh
  have hk0 := hide hk
  have bB := hide hB
  clear hb hh hk hB
  go_enter Tryd.func74, Tryd.ntmps74
  go_wp2
  go_loopw [3] (fun iv wr => ∃ (i : Nat), i ≤ es.length ∧ iv = .int .i64 (i : Nat) ∧ Hid (BelA B w wr) ∧ Hid (BookV u B wr g num (.slice RR es.length cR) es) ∧ Hid (HeldR B wr es X Y)) (fun iv _ => es.length - (intOf iv).toNat)
  case atStart => exact ⟨0, by omega, rfl, BelA.refl _ _, bk0, hd0⟩
  case round =>
    obtain ⟨i, hi, rfl, hbel, bk1, hd1⟩ := hrel
    have c2 := bk1.out.blk.at_ 8 rfl
    by_cases hlt : i < es.length
    · obtain ⟨e, he0⟩ : ∃ e, es[i]? = some e := ⟨_, List.getElem?_eq_getElem hlt⟩
      have he := hide he0
      obtain ⟨r, c', cur, e1, hr, hkr, _, x0, x1, x2⟩ := bk1.out.ent he0
      obtain ⟨q1, q2, q3, q4, q5⟩ := hk0.out _ _ he0
      clear he0
      obtain ⟨rfl, e2, e3⟩ := Value.slice.inj e1
      clear e1 e2 e3
      have hkr := hide hkr
      obtain ⟨A, n, c, L, m, d, k⟩ := e
      dsimp only at x0 x1 x2 q1 q2 q3 q4 q5
      subst q3
      replace q4 := hide q4
      replace q5 := hide q5
      go_wp2
      obtain ⟨p0, hp0⟩ : ∃ p0, wr.heap.size = p0 := ⟨_, rfl⟩
      obtain ⟨V, hV⟩ : ∃ V, wr.alloc (.cells #[.slice A n c, .slice L (n + 40) d, .int .i64 (k : Nat)] THR) = V := ⟨_, rfl⟩
      have bx : Hid (Blk V p0 THR #[.slice A n c, .slice L (n + 40) d, .int .i64 (k : Nat)]) := by
        rw [← hV, ← hp0]; exact Blk.new _ _ _
      have b1 : Hid (BelA B w V) := by
        rw [← hV]; exact hbel.out.alloc (Nat.le_trans bB.out hbel.out.size) _
      have k1 : Hid (BookV u B V g num (.slice (some ⟨r, 0, none⟩) es.length cR) es) := by
        rw [← hV]; exact bk1.out.keep fun g t cs _ _ hk => hk.alloc _
      have X1 : Hid (HeldR B V es X Y) := by
        rw [← hV]; exact hd1.out.keep fun g cs _ hk => hk.alloc _
      rw [hp0, hV]
      clear hV hp0 hbel bk1 hd1 x0 x1 x2 c2 hkr
      go_loopw [5] (fun jv wj => ∃ (j : Nat), j ≤ n + 40 ∧ jv = .int .i64 (j : Nat) ∧ Hid (Blk wj p0 THR #[.slice A n c, .slice L (n + 40) d, .int .i64 (k : Nat)]) ∧ Hid (BelA B w wj) ∧ Hid (BookV u B wj g num (.slice (some ⟨r, 0, none⟩) es.length cR) es) ∧ Hid (HeldR B wj es X Y)) (fun jv _ => n + 40 - (intOf jv).toNat)
      case atStart => exact ⟨0, by omega, rfl, bx, b1, k1, X1⟩
      case round =>
        clear bx b1 k1 X1
        obtain ⟨j, hj, rfl, bx, b1, k1, X1⟩ := hrel
        have y0 := bx.out.at_ 0 rfl
        have y1 := bx.out.at_ 1 rfl
        have y2 := bx.out.at_ 2 rfl
        by_cases hlj : j < n + 40
        · obtain ⟨gl, ql, dl, csl, rfl, z0, z1, z2, hbl, hcl⟩ := (X1.out.l _ _ he.out).mark (q5.out.keep fun q cs _ hk => b1.out.keep q _ cs hk) (j := j) hlj
          by_cases hln : j < n
          · obtain ⟨ga, qa, da, csa, rfl, v0, v1, v2, hba, hca⟩ := (X1.out.a _ _ he.out).mark (q4.out.keep fun q cs _ hk => b1.out.keep q _ cs hk) (j := j) hln
            have hdl : decide ((j : Int) < (n : Int)) = true := by simpa using hln
            have H0 := hide y0
            have H1 := hide y1
            have H2 := hide y2
            have L0 := hide z0
            have L1 := hide z1
            have L2 := hide z2
            have A0 := hide v0
            have A1 := hide v1
            have A2 := hide v2
            have hlj2 : ¬ ((n : Int) + 40 ≤ (j : Int)) := by omega
            go_wp2
            refine wp_region_facts 27 (fun w' => Below wr.heap.size wr w') [(37, .eq ((.pointer (some ⟨p0, 1, none⟩) : Value))), (38, .eq (.slice (some ⟨gl, 0, none⟩) (n + 40) d)), (39, .eq (.int .i64 (j : Nat))), (40, .eq ((.pointer (some ⟨gl, j * 3, none⟩) : Value))), (41, .eq (.agg #[.bool false, .slice none 0 0, .slice (some ⟨ql, 0, none⟩) 1 dl])), (42, .eq ((.pointer (some ⟨p0, 2, none⟩) : Value))), (43, .eq (.int .i64 (k : Nat))), (44, .eq (.bool true)), (45, .eq (.bool false)), (46, .eq (.bool false)), (47, .eq (.int .i64 (j : Nat))), (48, .eq ((.pointer (some ⟨p0, 0, none⟩) : Value))), (49, .eq (.slice (some ⟨ga, 0, none⟩) n c)), (50, .eq (.int .i64 (n : Nat))), (51, .eq (.bool true)), (52, .eq (.bool true)), (53, .eq ((.pointer (some ⟨p0, 0, none⟩) : Value))), (54, .eq (.slice (some ⟨ga, 0, none⟩) n c)), (55, .eq (.int .i64 (j : Nat))), (56, .eq ((.pointer (some ⟨ga, j * 3, none⟩) : Value))), (57, .eq (.agg #[.bool false, .slice none 0 0, .slice (some ⟨qa, 0, none⟩) 1 da])), (58, .eq ((.pointer (some ⟨p0, 2, none⟩) : Value))), (59, .eq (.int .i64 (k : Nat))), (60, .eq (.bool true)), (61, .eq (.bool false)), (62, .eq (.bool false)), (63, .eq (.bool false))] [false, false, false, false, false, false, false, false, false, false, false, false, false, false, false, false, false, false, false, false, false, false, false, false, false, false, false, false, false, false, false, false, false, false, false, false, false, true, true, true, true, true, true, true, true, true, true, true, true, true, true, true, true, true, true, true, true, true, true, true, true, true, true, true] mixed (by kernel_rfl) (by kernel_rfl) (by kernel_rfl) (fun _ _ h hb => h.trans (hb.mono h.size)) ((Below.refl _ _).drew) ⟨?_, ?_, ?_, ?_, ?_, ?_, ?_, ?_, ?_, ?_, ?_, ?_, ?_, ?_, ?_, ?_, ?_, ?_, ?_, ?_, ?_, ?_, ?_, ?_, ?_, ?_, ?_, trivial⟩ ?_
            · exact .fieldAddr (.inl rfl) rfl rfl rfl (fun a w' hC hs hl => by rw [show a.eval (.tmp 4) = (.pointer (some ⟨p0, 0, none⟩) : Value) from (hs 4 (by kernel_rfl))]; simp [go_sem])
            · exact .load (.slice (some ⟨gl, 0, none⟩) (n + 40) d) (.inl rfl) rfl rfl (fun a w' hC hs hl => by rw [show a.eval (.tmp 37) = (.pointer (some ⟨p0, 1, none⟩) : Value) from (hl 37 (by kernel_rfl) (by kernel_rfl))]; exact ⟨by simp [go_sem, cell_below hC H1.out], rfl⟩)
            · exact .moveC (.inl rfl) (.inl rfl) rfl (fun a w' hC hs => (hs 5 (by kernel_rfl)))
            · exact .value (.inl rfl) (by intro T e; cases e) rfl rfl (fun a w' hC hs hl => by
                have e0 : a.eval (.tmp 38) = (.slice (some ⟨gl, 0, none⟩) (n + 40) d) := (hl 38 (by kernel_rfl) (by kernel_rfl))
                have e1 : a.eval (.tmp 39) = (.int .i64 (j : Nat)) := (hl 39 (by kernel_rfl) (by kernel_rfl))
                simp only [execOp, e0, e1]
                simp [go_sem, hlj2])
            · exact .load (.agg #[.bool false, .slice none 0 0, .slice (some ⟨ql, 0, none⟩) 1 dl]) (.inl rfl) rfl rfl (fun a w' hC hs hl => by rw [show a.eval (.tmp 40) = (.pointer (some ⟨gl, j * 3, none⟩) : Value) from (hl 40 (by kernel_rfl) (by kernel_rfl))]; exact ⟨by simp [go_sem, cell_below hC L0.out, cell_below hC L1.out, cell_below hC L2.out], rfl⟩)
            · exact .fieldAddr (.inl rfl) rfl rfl rfl (fun a w' hC hs hl => by rw [show a.eval (.tmp 4) = (.pointer (some ⟨p0, 0, none⟩) : Value) from (hs 4 (by kernel_rfl))]; simp [go_sem])
            · exact .load (.int .i64 (k : Nat)) (.inl rfl) rfl rfl (fun a w' hC hs hl => by rw [show a.eval (.tmp 42) = (.pointer (some ⟨p0, 2, none⟩) : Value) from (hl 42 (by kernel_rfl) (by kernel_rfl))]; exact ⟨by simp [go_sem, cell_below hC H2.out], rfl⟩)
            · exact .call (.inl rfl) rfl rfl fbk_assayerlaw01_isRat (fun a w' hC hs hl => by
                show Calls _ _ #[a.eval (.tmp 41), a.eval (.tmp 43)] _ _
                rw [show a.eval (.tmp 41) = (.agg #[.bool false, .slice none 0 0, .slice (some ⟨ql, 0, none⟩) 1 dl] : Value) from (hl 41 (by kernel_rfl) (by kernel_rfl)), show a.eval (.tmp 43) = (.int .i64 (k : Nat) : Value) from (hl 43 (by kernel_rfl) (by kernel_rfl))]
                exact (isRat_ok w' k q1 _ _ _ (hbl.out.below' hC) hcl.out).mono fun e w'' ⟨h1, h2⟩ => ⟨_, h1, h2, rfl⟩)
            · exact .value (.inl rfl) (by intro T e; cases e) rfl rfl (fun a w' hC hs hl => by
                have e0 : a.eval (.tmp 44) = (.bool true) := (hl 44 (by kernel_rfl) (by kernel_rfl))
                simp only [execOp, e0]
                skip
                simp [go_sem] <;> rfl)
            · exact .move (.inl rfl) (.inl rfl) rfl (by kernel_rfl) (by kernel_rfl) rfl
            · exact .moveC (.inr ⟨9, false, 46, by decide, rfl, rfl, rfl⟩) (.inl rfl) rfl (fun a w' hC hs => (hs 5 (by kernel_rfl)))
            · exact .fieldAddr (.inr ⟨9, false, 46, by decide, rfl, rfl, rfl⟩) rfl rfl rfl (fun a w' hC hs hl => by rw [show a.eval (.tmp 4) = (.pointer (some ⟨p0, 0, none⟩) : Value) from (hs 4 (by kernel_rfl))]; simp [go_sem])
            · exact .load (.slice (some ⟨ga, 0, none⟩) n c) (.inr ⟨9, false, 46, by decide, rfl, rfl, rfl⟩) rfl rfl (fun a w' hC hs hl => by rw [show a.eval (.tmp 48) = (.pointer (some ⟨p0, 0, none⟩) : Value) from (hl 48 (by kernel_rfl) (by kernel_rfl))]; exact ⟨by simp [go_sem, cell_below hC H0.out], rfl⟩)
            · exact .value (.inr ⟨9, false, 46, by decide, rfl, rfl, rfl⟩) (by intro T e; cases e) rfl rfl (fun a w' hC hs hl => by
                have e0 : a.eval (.tmp 49) = (.slice (some ⟨ga, 0, none⟩) n c) := (hl 49 (by kernel_rfl) (by kernel_rfl))
                have e0' : a.tmps[49]?.getD undef = _ := (by simp [Act.eval] : _ = a.eval (.tmp 49)).trans e0
                simp [execOp, resolve, invoke, builtin, go_sem, e0, e0'])
            · exact .value (.inr ⟨9, false, 46, by decide, rfl, rfl, rfl⟩) (by intro T e; cases e) rfl rfl (fun a w' hC hs hl => by
                have e0 : a.eval (.tmp 47) = (.int .i64 (j : Nat)) := (hl 47 (by kernel_rfl) (by kernel_rfl))
                have e1 : a.eval (.tmp 50) = (.int .i64 (n : Nat)) := (hl 50 (by kernel_rfl) (by kernel_rfl))
                simp only [execOp, e0, e1]
                skip
                simp [go_sem, hln])
            · exact .move (.inr ⟨9, false, 46, by decide, rfl, rfl, rfl⟩) (.inl rfl) rfl (by kernel_rfl) (by kernel_rfl) rfl
            · exact .fieldAddr (.inr ⟨15, true, 52, by decide, rfl, rfl, rfl⟩) rfl rfl rfl (fun a w' hC hs hl => by rw [show a.eval (.tmp 4) = (.pointer (some ⟨p0, 0, none⟩) : Value) from (hs 4 (by kernel_rfl))]; simp [go_sem])
            · exact .load (.slice (some ⟨ga, 0, none⟩) n c) (.inr ⟨15, true, 52, by decide, rfl, rfl, rfl⟩) rfl rfl (fun a w' hC hs hl => by rw [show a.eval (.tmp 53) = (.pointer (some ⟨p0, 0, none⟩) : Value) from (hl 53 (by kernel_rfl) (by kernel_rfl))]; exact ⟨by simp [go_sem, cell_below hC H0.out], rfl⟩)
            · exact .moveC (.inr ⟨15, true, 52, by decide, rfl, rfl, rfl⟩) (.inl rfl) rfl (fun a w' hC hs => (hs 5 (by kernel_rfl)))
            · exact .value (.inr ⟨15, true, 52, by decide, rfl, rfl, rfl⟩) (by intro T e; cases e) rfl rfl (fun a w' hC hs hl => by
                have e0 : a.eval (.tmp 54) = (.slice (some ⟨ga, 0, none⟩) n c) := (hl 54 (by kernel_rfl) (by kernel_rfl))
                have e1 : a.eval (.tmp 55) = (.int .i64 (j : Nat)) := (hl 55 (by kernel_rfl) (by kernel_rfl))
                simp only [execOp, e0, e1]
                simp [go_sem, hln])
            · exact .load (.agg #[.bool false, .slice none 0 0, .slice (some ⟨qa, 0, none⟩) 1 da]) (.inr ⟨15, true, 52, by decide, rfl, rfl, rfl⟩) rfl rfl (fun a w' hC hs hl => by rw [show a.eval (.tmp 56) = (.pointer (some ⟨ga, j * 3, none⟩) : Value) from (hl 56 (by kernel_rfl) (by kernel_rfl))]; exact ⟨by simp [go_sem, cell_below hC A0.out, cell_below hC A1.out, cell_below hC A2.out], rfl⟩)
            · exact .fieldAddr (.inr ⟨15, true, 52, by decide, rfl, rfl, rfl⟩) rfl rfl rfl (fun a w' hC hs hl => by rw [show a.eval (.tmp 4) = (.pointer (some ⟨p0, 0, none⟩) : Value) from (hs 4 (by kernel_rfl))]; simp [go_sem])
            · exact .load (.int .i64 (k : Nat)) (.inr ⟨15, true, 52, by decide, rfl, rfl, rfl⟩) rfl rfl (fun a w' hC hs hl => by rw [show a.eval (.tmp 58) = (.pointer (some ⟨p0, 2, none⟩) : Value) from (hl 58 (by kernel_rfl) (by kernel_rfl))]; exact ⟨by simp [go_sem, cell_below hC H2.out], rfl⟩)
            · exact .call (.inr ⟨15, true, 52, by decide, rfl, rfl, rfl⟩) rfl rfl fbk_assayerlaw01_isRat (fun a w' hC hs hl => by
                show Calls _ _ #[a.eval (.tmp 57), a.eval (.tmp 59)] _ _
                rw [show a.eval (.tmp 57) = (.agg #[.bool false, .slice none 0 0, .slice (some ⟨qa, 0, none⟩) 1 da] : Value) from (hl 57 (by kernel_rfl) (by kernel_rfl)), show a.eval (.tmp 59) = (.int .i64 (k : Nat) : Value) from (hl 59 (by kernel_rfl) (by kernel_rfl))]
                exact (isRat_ok w' k q1 _ _ _ (hba.out.below' hC) hca.out).mono fun e w'' ⟨h1, h2⟩ => ⟨_, h1, h2, rfl⟩)
            · exact .value (.inr ⟨15, true, 52, by decide, rfl, rfl, rfl⟩) (by intro T e; cases e) rfl rfl (fun a w' hC hs hl => by
                have e0 : a.eval (.tmp 60) = (.bool true) := (hl 60 (by kernel_rfl) (by kernel_rfl))
                simp only [execOp, e0]
                skip
                simp [go_sem] <;> rfl)
            · exact .pick (b := true) (.inr ⟨9, false, 46, by decide, rfl, rfl, rfl⟩) rfl rfl (fun a w' hC hs hl => ⟨(hl 52 (by kernel_rfl) (by kernel_rfl)), (hl 61 (by kernel_rfl) (by kernel_rfl))⟩)
            · exact .pick (b := false) (.inl rfl) rfl rfl (fun a w' hC hs hl => ⟨(hl 46 (by kernel_rfl) (by kernel_rfl)), (hl 62 (by kernel_rfl) (by kernel_rfl))⟩)
            · intro f wz hC hF _
              have f63 : f 63 = .bool false := hF 63 (by kernel_rfl)
              clear hF
              simp only [patch, List.drop]
              rw [f63]
              clear f63
              try change wpList _ _ _ [] _ _
              generalize f 37 = y37_
              generalize f 38 = y38_
              generalize f 39 = y39_
              generalize f 40 = y40_
              generalize f 41 = y41_
              generalize f 42 = y42_
              generalize f 43 = y43_
              generalize f 44 = y44_
              generalize f 45 = y45_
              generalize f 46 = y46_
              generalize f 47 = y47_
              generalize f 48 = y48_
              generalize f 49 = y49_
              generalize f 50 = y50_
              generalize f 51 = y51_
              generalize f 52 = y52_
              generalize f 53 = y53_
              generalize f 54 = y54_
              generalize f 55 = y55_
              generalize f 56 = y56_
              generalize f 57 = y57_
              generalize f 58 = y58_
              generalize f 59 = y59_
              generalize f 60 = y60_
              generalize f 61 = y61_
              generalize f 62 = y62_
              have DD := hide hC
              have SB := b1.out.size
              have hB1 := Nat.le_trans bB.out SB
              clear y0 y1 y2 z0 z1 z2 hdl hlj2 v0 v1 v2 H0 H1 H2 L0 L1 L2 A0 A1 A2 hC
              go_wp2
              go_roundw
              case rel => exact ⟨j + 1, by omega, by go_num, bx.out.below' DD.out, b1.out.below DD.out hB1, k1.out.keep fun g t cs _ _ hk => hk.below' DD.out, X1.out.keep fun g cs _ hk => hk.below' DD.out⟩
              case measure => simp [intOf]; omega
          · have hdl : decide ((j : Int) < (n : Int)) = false := by simpa using hln
            have H0 := hide y0
            have H1 := hide y1
            have H2 := hide y2
            have L0 := hide z0
            have L1 := hide z1
            have L2 := hide z2
            have hlj2 : ¬ ((n : Int) + 40 ≤ (j : Int)) := by omega
            go_wp2
            refine wp_region_facts 27 (fun w' => Below wr.heap.size wr w') [(37, .eq ((.pointer (some ⟨p0, 1, none⟩) : Value))), (38, .eq (.slice (some ⟨gl, 0, none⟩) (n + 40) d)), (39, .eq (.int .i64 (j : Nat))), (40, .eq ((.pointer (some ⟨gl, j * 3, none⟩) : Value))), (41, .eq (.agg #[.bool false, .slice none 0 0, .slice (some ⟨ql, 0, none⟩) 1 dl])), (42, .eq ((.pointer (some ⟨p0, 2, none⟩) : Value))), (43, .eq (.int .i64 (k : Nat))), (44, .eq (.bool true)), (45, .eq (.bool false)), (46, .eq (.bool false)), (47, .eq (.int .i64 (j : Nat))), (48, .eq ((.pointer (some ⟨p0, 0, none⟩) : Value))), (49, .eq (.slice A n c)), (50, .eq (.int .i64 (n : Nat))), (51, .eq (.bool false)), (52, .eq (.bool false)), (53, .eq (undef)), (54, .eq (undef)), (55, .eq (undef)), (56, .eq (undef)), (57, .eq (undef)), (58, .eq (undef)), (59, .eq (undef)), (60, .eq (undef)), (61, .eq (undef)), (62, .eq (Go.Value.bool false)), (63, .eq (Go.Value.bool false))] [false, false, false, false, false, false, false, false, false, false, false, false, false, false, false, false, false, false, false, false, false, false, false, false, false, false, false, false, false, false, false, false, false, false, false, false, false, true, true, true, true, true, true, true, true, true, true, true, true, true, true, true, true, true, true, true, true, true, true, true, true, true, true, true] mixed (by kernel_rfl) (by kernel_rfl) (by kernel_rfl) (fun _ _ h hb => h.trans (hb.mono h.size)) ((Below.refl _ _).drew) ⟨?_, ?_, ?_, ?_, ?_, ?_, ?_, ?_, ?_, ?_, ?_, ?_, ?_, ?_, ?_, ?_, ?_, ?_, ?_, ?_, ?_, ?_, ?_, ?_, ?_, ?_, ?_, trivial⟩ ?_
            · exact .fieldAddr (.inl rfl) rfl rfl rfl (fun a w' hC hs hl => by rw [show a.eval (.tmp 4) = (.pointer (some ⟨p0, 0, none⟩) : Value) from (hs 4 (by kernel_rfl))]; simp [go_sem])
            · exact .load (.slice (some ⟨gl, 0, none⟩) (n + 40) d) (.inl rfl) rfl rfl (fun a w' hC hs hl => by rw [show a.eval (.tmp 37) = (.pointer (some ⟨p0, 1, none⟩) : Value) from (hl 37 (by kernel_rfl) (by kernel_rfl))]; exact ⟨by simp [go_sem, cell_below hC H1.out], rfl⟩)
            · exact .moveC (.inl rfl) (.inl rfl) rfl (fun a w' hC hs => (hs 5 (by kernel_rfl)))
            · exact .value (.inl rfl) (by intro T e; cases e) rfl rfl (fun a w' hC hs hl => by
                have e0 : a.eval (.tmp 38) = (.slice (some ⟨gl, 0, none⟩) (n + 40) d) := (hl 38 (by kernel_rfl) (by kernel_rfl))
                have e1 : a.eval (.tmp 39) = (.int .i64 (j : Nat)) := (hl 39 (by kernel_rfl) (by kernel_rfl))
                simp only [execOp, e0, e1]
                simp [go_sem, hlj2])
            · exact .load (.agg #[.bool false, .slice none 0 0, .slice (some ⟨ql, 0, none⟩) 1 dl]) (.inl rfl) rfl rfl (fun a w' hC hs hl => by rw [show a.eval (.tmp 40) = (.pointer (some ⟨gl, j * 3, none⟩) : Value) from (hl 40 (by kernel_rfl) (by kernel_rfl))]; exact ⟨by simp [go_sem, cell_below hC L0.out, cell_below hC L1.out, cell_below hC L2.out], rfl⟩)
            · exact .fieldAddr (.inl rfl) rfl rfl rfl (fun a w' hC hs hl => by rw [show a.eval (.tmp 4) = (.pointer (some ⟨p0, 0, none⟩) : Value) from (hs 4 (by kernel_rfl))]; simp [go_sem])
            · exact .load (.int .i64 (k : Nat)) (.inl rfl) rfl rfl (fun a w' hC hs hl => by rw [show a.eval (.tmp 42) = (.pointer (some ⟨p0, 2, none⟩) : Value) from (hl 42 (by kernel_rfl) (by kernel_rfl))]; exact ⟨by simp [go_sem, cell_below hC H2.out], rfl⟩)
            · exact .call (.inl rfl) rfl rfl fbk_assayerlaw01_isRat (fun a w' hC hs hl => by
                show Calls _ _ #[a.eval (.tmp 41), a.eval (.tmp 43)] _ _
                rw [show a.eval (.tmp 41) = (.agg #[.bool false, .slice none 0 0, .slice (some ⟨ql, 0, none⟩) 1 dl] : Value) from (hl 41 (by kernel_rfl) (by kernel_rfl)), show a.eval (.tmp 43) = (.int .i64 (k : Nat) : Value) from (hl 43 (by kernel_rfl) (by kernel_rfl))]
                exact (isRat_ok w' k q1 _ _ _ (hbl.out.below' hC) hcl.out).mono fun e w'' ⟨h1, h2⟩ => ⟨_, h1, h2, rfl⟩)
            · exact .value (.inl rfl) (by intro T e; cases e) rfl rfl (fun a w' hC hs hl => by
                have e0 : a.eval (.tmp 44) = (.bool true) := (hl 44 (by kernel_rfl) (by kernel_rfl))
                simp only [execOp, e0]
                skip
                simp [go_sem] <;> rfl)
            · exact .move (.inl rfl) (.inl rfl) rfl (by kernel_rfl) (by kernel_rfl) rfl
            · exact .moveC (.inr ⟨9, false, 46, by decide, rfl, rfl, rfl⟩) (.inl rfl) rfl (fun a w' hC hs => (hs 5 (by kernel_rfl)))
            · exact .fieldAddr (.inr ⟨9, false, 46, by decide, rfl, rfl, rfl⟩) rfl rfl rfl (fun a w' hC hs hl => by rw [show a.eval (.tmp 4) = (.pointer (some ⟨p0, 0, none⟩) : Value) from (hs 4 (by kernel_rfl))]; simp [go_sem])
            · exact .load (.slice A n c) (.inr ⟨9, false, 46, by decide, rfl, rfl, rfl⟩) rfl rfl (fun a w' hC hs hl => by rw [show a.eval (.tmp 48) = (.pointer (some ⟨p0, 0, none⟩) : Value) from (hl 48 (by kernel_rfl) (by kernel_rfl))]; exact ⟨by simp [go_sem, cell_below hC H0.out], rfl⟩)
            · exact .value (.inr ⟨9, false, 46, by decide, rfl, rfl, rfl⟩) (by intro T e; cases e) rfl rfl (fun a w' hC hs hl => by
                have e0 : a.eval (.tmp 49) = (.slice A n c) := (hl 49 (by kernel_rfl) (by kernel_rfl))
                have e0' : a.tmps[49]?.getD undef = _ := (by simp [Act.eval] : _ = a.eval (.tmp 49)).trans e0
                simp [execOp, resolve, invoke, builtin, go_sem, e0, e0'])
            · exact .value (.inr ⟨9, false, 46, by decide, rfl, rfl, rfl⟩) (by intro T e; cases e) rfl rfl (fun a w' hC hs hl => by
                have e0 : a.eval (.tmp 47) = (.int .i64 (j : Nat)) := (hl 47 (by kernel_rfl) (by kernel_rfl))
                have e1 : a.eval (.tmp 50) = (.int .i64 (n : Nat)) := (hl 50 (by kernel_rfl) (by kernel_rfl))
                simp only [execOp, e0, e1]
                skip
                simp [go_sem, hln])
            · exact .move (.inr ⟨9, false, 46, by decide, rfl, rfl, rfl⟩) (.inl rfl) rfl (by kernel_rfl) (by kernel_rfl) rfl
            · exact .skip ⟨15, false, 52, by decide, rfl, rfl, rfl⟩ (fun _ e => by cases e; exact .inl rfl)
            · exact .skip ⟨15, false, 52, by decide, rfl, rfl, rfl⟩ (fun _ e => by cases e; exact .inl rfl)
            · exact .skip ⟨15, false, 52, by decide, rfl, rfl, rfl⟩ (fun _ e => by cases e; exact .inl rfl)
            · exact .skip ⟨15, false, 52, by decide, rfl, rfl, rfl⟩ (fun _ e => by cases e; exact .inl rfl)
            · exact .skip ⟨15, false, 52, by decide, rfl, rfl, rfl⟩ (fun _ e => by cases e; exact .inl rfl)
            · exact .skip ⟨15, false, 52, by decide, rfl, rfl, rfl⟩ (fun _ e => by cases e; exact .inl rfl)
            · exact .skip ⟨15, false, 52, by decide, rfl, rfl, rfl⟩ (fun _ e => by cases e; exact .inl rfl)
            · exact .skip ⟨15, false, 52, by decide, rfl, rfl, rfl⟩ (fun _ e => by cases e; exact .inl rfl)
            · exact .skip ⟨15, false, 52, by decide, rfl, rfl, rfl⟩ (fun _ e => by cases e; exact .inl rfl)
            · exact .pick (b := false) (.inr ⟨9, false, 46, by decide, rfl, rfl, rfl⟩) rfl rfl (fun a w' hC hs hl => ⟨(hl 52 (by kernel_rfl) (by kernel_rfl)), rfl⟩)
            · exact .pick (b := false) (.inl rfl) rfl rfl (fun a w' hC hs hl => ⟨(hl 46 (by kernel_rfl) (by kernel_rfl)), (hl 62 (by kernel_rfl) (by kernel_rfl))⟩)
            · intro f wz hC hF _
              have f63 : f 63 = .bool false := hF 63 (by kernel_rfl)
              clear hF
              simp only [patch, List.drop]
              rw [f63]
              clear f63
              try change wpList _ _ _ [] _ _
              generalize f 37 = y37_
              generalize f 38 = y38_
              generalize f 39 = y39_
              generalize f 40 = y40_
              generalize f 41 = y41_
              generalize f 42 = y42_
              generalize f 43 = y43_
              generalize f 44 = y44_
              generalize f 45 = y45_
              generalize f 46 = y46_
              generalize f 47 = y47_
              generalize f 48 = y48_
              generalize f 49 = y49_
              generalize f 50 = y50_
              generalize f 51 = y51_
              generalize f 52 = y52_
              generalize f 53 = y53_
              generalize f 54 = y54_
              generalize f 55 = y55_
              generalize f 56 = y56_
              generalize f 57 = y57_
              generalize f 58 = y58_
              generalize f 59 = y59_
              generalize f 60 = y60_
              generalize f 61 = y61_
              generalize f 62 = y62_
              have DD := hide hC
              have SB := b1.out.size
              have hB1 := Nat.le_trans bB.out SB
              clear y0 y1 y2 z0 z1 z2 hdl hlj2 H0 H1 H2 L0 L1 L2 hC
              go_wp2
              go_roundw
              case rel => exact ⟨j + 1, by omega, by go_num, bx.out.below' DD.out, b1.out.below DD.out hB1, k1.out.keep fun g t cs _ _ hk => hk.below' DD.out, X1.out.keep fun g cs _ hk => hk.below' DD.out⟩
              case measure => simp [intOf]; omega
        · obtain rfl : j = n + 40 := by omega
          go_wp2
          go_roundw
          case rel => exact ⟨i + 1, by omega, by go_num, b1, k1, X1⟩
          case measure => simp [intOf]; omega
    · obtain rfl : i = es.length := by omega
      go_wp2
      exact opq_end hR ⟨rfl, hbel.out, bk1.out⟩
end Go.Proofs.YtkefmeddnncacaaDoor
