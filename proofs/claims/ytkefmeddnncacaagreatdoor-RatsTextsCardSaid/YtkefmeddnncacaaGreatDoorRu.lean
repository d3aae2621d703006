/- rats: the document's Parse. -/
import Derived.Test.YtkefmeddnncacaaGreatDoorRt
set_option linter.unusedVariables false
set_option linter.unusedSimpArgs false
set_option maxRecDepth 100000
namespace Go.Proofs.YtkefmeddnncacaaGreatDoor
open Go.RowKit

theorem kcut_some {c : Nat} {a b : List Nat} (h : c ∉ a) : scut c (a ++ c :: b) = (a, b, true) := by
  have hp : ∀ x ∈ a, (x != c) = true := fun x hx => by
    rw [bne_iff_ne]
    intro e; subst e; exact h hx
  unfold scut
  rw [if_pos (by simp), List.takeWhile_append_of_pos hp, List.dropWhile_append_of_pos hp]
  simp
theorem kcut_none {c : Nat} {l : List Nat} (h : c ∉ l) : scut c l = (l, [], false) := by
  unfold scut; rw [if_neg (by simpa using h)]
theorem isNum_no {l : List Nat} {c : Nat} (hc : isDig c = false) (h : c ∈ l) : isNum l = false := by
  rw [Bool.eq_false_iff]
  intro q
  have := isNum_all q c h
  rw [hc] at this; cases this
theorem split_at {l : List Nat} {i c : Nat} (hi : i < l.length) (hc : l.getD i 0 = c) : l = l.take i ++ c :: l.drop (i + 1) := by
  rw [getD_lt hi] at hc
  subst hc
  exact (List.take_append_drop i l).symm.trans (by rw [List.drop_eq_getElem_cons hi])
theorem ks_end {l : List Nat} (h46 : 46 ∉ l) (h47 : 47 ∉ l) : rsplit l = if isNum l = true then some (l, [49]) else none := by
  rw [rsplit_B (kcut_none h46) (kcut_none h47) [49] rfl]
  simp [show isNum [49] = true from by decide]
theorem ks_dot {l : List Nat} {i : Nat} (hi : i < l.length) (h46 : 46 ∉ l.take i) (hc : l.getD i 0 = 46) :
    rsplit l = if isNum (l.take i) && isDigs (l.drop (i + 1)) then some (l.take i ++ l.drop (i + 1), 49 :: List.replicate (min (l.drop (i + 1)).length 200) 48) else none := by
  have e := split_at hi hc
  exact rsplit_A (by conv => lhs; rw [e]
                     exact kcut_some h46)
theorem ks_slash {l : List Nat} {i : Nat} (hi : i < l.length) (h46 : 46 ∉ l.take i) (h47 : 47 ∉ l.take i) (hc : l.getD i 0 = 47) :
    rsplit l = if isNum (l.take i) && isNum (l.drop (i + 1)) && !decide (l.drop (i + 1) = [48]) then some (l.take i, l.drop (i + 1)) else none := by
  have e := split_at hi hc
  have e47 : scut 47 l = (l.take i, l.drop (i + 1), true) := by conv => lhs; rw [e]
                                                                exact kcut_some h47
  by_cases h : 46 ∈ l
  · have h2 : 46 ∈ l.drop (i + 1) := by
      rw [e] at h
      rcases List.mem_append.1 h with q | q
      · exact absurd q h46
      · rcases List.mem_cons.1 q with q | q
        · omega
        · exact q
    rw [isNum_no (c := 46) (by decide) h2]
    simp only [Bool.and_false, Bool.false_and]
    unfold rsplit
    have hcut : (scut 46 l).2.2 = true ∧ 47 ∈ (scut 46 l).1 := by
      unfold scut
      rw [if_pos (by simpa using h)]
      refine ⟨rfl, ?_⟩
      show 47 ∈ l.takeWhile (· != 46)
      have hp : ∀ x ∈ l.take i ++ [47], (x != 46) = true := fun x hx => by
        rw [bne_iff_ne]
        intro q; subst q
        rcases List.mem_append.1 hx with z | z
        · exact h46 z
        · simp at z
      have e2 : l = (l.take i ++ [47]) ++ l.drop (i + 1) := by rw [List.append_assoc]; exact e
      rw [show l.takeWhile (· != 46) = ((l.take i ++ [47]) ++ l.drop (i + 1)).takeWhile (· != 46) from congrArg _ e2, List.takeWhile_append_of_pos hp]
      simp
    rw [if_pos hcut.1, isNum_no (c := 47) (by decide) hcut.2]
    simp
  · rw [rsplit_B (kcut_none h) e47 (l.drop (i + 1)) rfl]
theorem all48_num {l : List Nat} (h : ∀ x ∈ l, isDig x = true) : (l.all (· == 48)) = decide (num l = 0) := by
  rw [Bool.eq_iff_iff, decide_eq_true_eq, num0_iff h, List.all_eq_true]
  simp
theorem byt_ext (s : ByteArray) (a b : Nat) (ha : a ≤ b) (hb : b ≤ s.size) : byt (s.extract a b) = ((byt s).drop a).take (b - a) := by
  unfold byt
  rw [ByteArray.data_extract, Array.toList_extract, List.extract_eq_take_drop, List.map_take, List.map_drop]
theorem byt_eq1 (s : ByteArray) (c : UInt8) : (s.toList == [c]) = decide (byt s = [c.toNat]) := by
  rw [ByteArray.toList_eq]
  unfold byt
  rw [Bool.eq_iff_iff, decide_eq_true_eq, beq_iff_eq]
  constructor
  · intro h; rw [h]; rfl
  · intro h
    rcases hl : s.data.toList with _ | ⟨a, l⟩
    · rw [hl] at h; simp at h
    · rw [hl] at h
      simp only [List.map_cons, List.cons.injEq, List.map_eq_nil_iff] at h
      rw [UInt8.toNat_inj.1 h.1, h.2]
theorem kDigits_B (w : World) (s : ByteArray) (hs : s.size ≤ 9223372036854775807) {r : Bool} (hr : isDigs (byt s) = r) :
    Calls Tryz.prog 83 #[.string s] w fun e w' => ∃ u, e = .returned u ∧ Below w.heap.size w w' ∧ u = .bool r := (kDigits_ok w s hs).mono fun e w' ⟨h1, h2⟩ => ⟨_, h1, h2, by rw [hr]⟩
theorem num_nought {l : List Nat} (h : isNum l = true) (h0 : num l = 0) : l = [48] := by
  have h1 := (num0_iff (isNum_all h)).1 h0
  unfold isNum at h
  simp only [Bool.and_eq_true, Bool.not_eq_true', Bool.and_eq_false_iff, decide_eq_false_iff_not] at h
  rcases l with _ | ⟨a, l⟩
  · simp at h
  · have ha := h1 a List.mem_cons_self
    subst ha
    rcases h.2 with q | q
    · rcases l with _ | ⟨b, l⟩
      · rfl
      · exact absurd (by simp) q
    · simp at q
set_option maxHeartbeats 8000000 in
theorem krParse_P (w : World) (s : ByteArray) (hs : s.size ≤ 4294967000) (r : Rat ⊕ Int) (hr : rmake (isgn (byt s)).1 (rsplit (isgn (byt s)).2) = r) :
    Calls Tryz.prog 13 #[.string s] w fun e w' => RPost r w.heap.size e w' ∧ Below w.heap.size w w' := by
  refine opq fun R hR => ?_
  obtain ⟨d, hd, hcase⟩ : ∃ d : ByteArray, byt d = (isgn (byt s)).2 ∧ ((s.size = 0 ∧ d = s ∧ (isgn (byt s)).1 = false) ∨ ∃ h0 : 0 < s.size, ((s[0]'h0).toNat ≠ 45 ∧ d = s ∧ (isgn (byt s)).1 = false) ∨ ((s[0]'h0).toNat = 45 ∧ d = s.extract 1 s.size ∧ (isgn (byt s)).1 = true)) := by
    unfold isgn
    by_cases h0 : 0 < s.size
    · rw [byt_head s h0]
      by_cases hc : (s[0]'h0).toNat = 45
      · rw [hc, if_pos rfl]
        exact ⟨_, byt_tail s, .inr ⟨h0, .inr ⟨hc, rfl, rfl⟩⟩⟩
      · rw [if_neg (by simpa using hc)]
        exact ⟨_, rfl, .inr ⟨h0, .inl ⟨hc, rfl, rfl⟩⟩⟩
    · have hl : byt s = [] := List.eq_nil_of_length_eq_zero (by rw [byt_length]; omega)
      refine ⟨s, ?_, .inl ⟨by omega, rfl, ?_⟩⟩ <;> rw [hl] <;> rfl
  have hds : d.size ≤ 4294967000 := by
    rcases hcase with ⟨_, rfl, _⟩ | ⟨_, ⟨_, rfl, _⟩ | ⟨_, rfl, _⟩⟩
    · exact hs
    · exact hs
    · have : (s.extract 1 s.size).size = (byt s).tail.length := by rw [← byt_tail, byt_length]
      rw [this, List.length_tail, byt_length]; omega
  rw [← hd] at hr
  replace hr := hide hr
  generalize (isgn (byt s)).1 = b at *
  clear hd
  have b0 := hide ((Below.refl w.heap.size w).alloc (Nat.le_refl _) (.cells #[.bool false, .slice none 0 0, .slice none 0 0] 27))
  have K := hide (Blk.new w 27 #[.bool false, .slice none 0 0, .slice none 0 0])
  have HG := hide (fun i h => byt_get d i h)
  have hl2 := hide (byt_length d)
  go_enter Tryz.func13, Tryz.ntmps13
  rcases hcase with ⟨h0, hd, hb⟩ | ⟨h0, ⟨hc, hd, hb⟩ | ⟨hc, hd, hb⟩⟩
  · subst hb
    have hne4 : s.toList = [] := by
      rw [ByteArray.toList_eq]
      exact List.eq_nil_of_length_eq_zero (by rw [Array.length_toList]; exact h0)
    have hne5 : s.toList.isEmpty = true := by rw [hne4]; rfl
    clear hne4
    subst hd
    clear h0
    go_wp2
    go_loopw [5] (fun iv wr => ∃ i : Nat, i ≤ d.size ∧ iv = .int .i64 (i : Nat) ∧ Hid (46 ∉ (byt d).take i ∧ 47 ∉ (byt d).take i) ∧ Hid (Below w.heap.size w wr) ∧ Hid (Blk wr w.heap.size 27 #[.bool false, .slice none 0 0, .slice none 0 0])) (fun iv _ => d.size - (intOf iv).toNat)
    case atStart => exact ⟨0, by omega, rfl, ⟨by simp, by simp⟩, b0.out, K.out⟩
    case round =>
      obtain ⟨i, hi, rfl, hno, hbel, hK⟩ := hrel
      clear b0 K
      by_cases hlt : i < d.size
      · have hg := HG.out i hlt
        obtain ⟨x, ex⟩ : ∃ x, Hid ((byt d).getD i 0 = x) := ⟨_, hide rfl⟩
        rw [ex.out] at hg
        by_cases h47 : x = 47
        · have q1 : ((x : Int) != 47) = false := by rw [h47]; rfl
          have q2 : ((x : Int) == 46) = false := by rw [h47]; rfl
          have q3 : ((x : Int) == 47) = true := by rw [h47]; rfl
          have hsp := hide (ks_slash (by rw [hl2.out]; exact hlt) hno.out.1 hno.out.2 (by rw [ex.out]; exact h47))
          clear h47
          have ef := byt_ext d 0 i (by omega) (by omega)
          have eg := byt_ext d (i + 1) d.size (by omega) (by omega)
          rw [List.drop_zero, Nat.sub_zero] at ef
          rw [List.take_of_length_le (by rw [List.length_drop, hl2.out]; exact Nat.le_refl _)] at eg
          rw [← ef, ← eg] at hsp
          have sf : (d.extract 0 i).size ≤ 4294967000 := by rw [← byt_length, ef, List.length_take]; omega
          have sg : (d.extract (i + 1) d.size).size ≤ 4294967000 := by rw [← byt_length, eg, List.length_drop, hl2.out]; omega
          clear ef eg
          have b0 := hbel
          have K := hK
          clear hbel hK
          go_wp2_with fail
          generalize d.extract 0 i = f1 at *
          generalize d.extract (i + 1) d.size = g1 at *
          clear q1 q2 q3 hg ex hno
          cases q1 : isNum (byt f1)
          case false =>
            refine (knumber_ok _ f1 (by omega) q1).mono ?_
            rintro e w1 ⟨_, rfl, d0, rfl⟩
            have bz := b0.out.size
            replace K := hide (K.out.below' d0)
            replace b0 := hide (below_tr b0.out d0)
            clear d0
            clear bz
            have er : Hid (r = .inr 4) := by
              show _ = _
              rw [← hr.out, hsp.out]
              rw [q1]; rfl
            clear hr hsp
            have Kc0 : w1.cell? ⟨w.heap.size, 0, none⟩ = some (.bool false) := K.out.at_ 0 rfl
            have Kc1 : w1.cell? ⟨w.heap.size, 1, none⟩ = some (.slice none 0 0) := K.out.at_ 1 rfl
            have Kc2 : w1.cell? ⟨w.heap.size, 2, none⟩ = some (.slice none 0 0) := K.out.at_ 2 rfl
            have p0 : w1.frozen? ⟨w.heap.size, 0, none⟩ = false := K.out.frozen 0
            have p1 : w1.frozen? ⟨w.heap.size, 1, none⟩ = false := K.out.frozen 1
            have p2 : w1.frozen? ⟨w.heap.size, 2, none⟩ = false := K.out.frozen 2
            go_wp2
            refine bodyPost_ret (v := .tuple #[.agg #[.bool false, .slice none 0 0, .slice none 0 0], .int .i64 4]) (by simp [results, Tryz.results13, go_sem, Kc0, Kc1, Kc2, p0, p1, p2]) rfl ?_
            exact opq_end hR ⟨by rw [er.out]; exact rfl, (by (repeat (first | exact b0 | exact Below.refl _ _ | refine Below.setCell ?_ (by first | (simp; done) | (simp; omega)) _ | refine Below.alloc ?_ (by first | (simp; done) | (simp; omega)) _)))⟩
          refine (knumber_ok _ f1 (by omega) q1).mono ?_
          rintro e w1 ⟨_, rfl, d0, rfl⟩
          have bz := b0.out.size
          replace K := hide (K.out.below' d0)
          replace b0 := hide (below_tr b0.out d0)
          clear d0
          clear bz
          cases q2 : isNum (byt g1)
          case false =>
            go_wp2_with fail
            refine (knumber_ok _ g1 (by omega) q2).mono ?_
            rintro e w2 ⟨_, rfl, d0, rfl⟩
            have bz := b0.out.size
            replace K := hide (K.out.below' d0)
            replace b0 := hide (below_tr b0.out d0)
            clear d0
            clear bz
            have er : Hid (r = .inr 4) := by
              show _ = _
              rw [← hr.out, hsp.out]
              rw [q1, q2]; rfl
            clear hr hsp
            have Kc0 : w2.cell? ⟨w.heap.size, 0, none⟩ = some (.bool false) := K.out.at_ 0 rfl
            have Kc1 : w2.cell? ⟨w.heap.size, 1, none⟩ = some (.slice none 0 0) := K.out.at_ 1 rfl
            have Kc2 : w2.cell? ⟨w.heap.size, 2, none⟩ = some (.slice none 0 0) := K.out.at_ 2 rfl
            have p0 : w2.frozen? ⟨w.heap.size, 0, none⟩ = false := K.out.frozen 0
            have p1 : w2.frozen? ⟨w.heap.size, 1, none⟩ = false := K.out.frozen 1
            have p2 : w2.frozen? ⟨w.heap.size, 2, none⟩ = false := K.out.frozen 2
            go_wp2
            refine bodyPost_ret (v := .tuple #[.agg #[.bool false, .slice none 0 0, .slice none 0 0], .int .i64 4]) (by simp [results, Tryz.results13, go_sem, Kc0, Kc1, Kc2, p0, p1, p2]) rfl ?_
            exact opq_end hR ⟨by rw [er.out]; exact rfl, (by (repeat (first | exact b0 | exact Below.refl _ _ | refine Below.setCell ?_ (by first | (simp; done) | (simp; omega)) _ | refine Below.alloc ?_ (by first | (simp; done) | (simp; omega)) _)))⟩
          go_wp2_with fail
          refine (knumber_ok _ g1 (by omega) q2).mono ?_
          rintro e w2 ⟨_, rfl, d0, rfl⟩
          have bz := b0.out.size
          replace K := hide (K.out.below' d0)
          replace b0 := hide (below_tr b0.out d0)
          clear d0
          clear bz
          have st := byt_eq1 g1 48
          by_cases q3 : byt g1 = [48]
          case pos =>
            have st' : (g1.toList == [48]) = true := by rw [st]; simpa using q3
            clear st
            have er : Hid (r = .inr 4) := by
              show _ = _
              rw [← hr.out, hsp.out]
              rw [q1, q2, q3]; rfl
            clear hr hsp
            have Kc0 : w2.cell? ⟨w.heap.size, 0, none⟩ = some (.bool false) := K.out.at_ 0 rfl
            have Kc1 : w2.cell? ⟨w.heap.size, 1, none⟩ = some (.slice none 0 0) := K.out.at_ 1 rfl
            have Kc2 : w2.cell? ⟨w.heap.size, 2, none⟩ = some (.slice none 0 0) := K.out.at_ 2 rfl
            have p0 : w2.frozen? ⟨w.heap.size, 0, none⟩ = false := K.out.frozen 0
            have p1 : w2.frozen? ⟨w.heap.size, 1, none⟩ = false := K.out.frozen 1
            have p2 : w2.frozen? ⟨w.heap.size, 2, none⟩ = false := K.out.frozen 2
            go_wp2
            refine bodyPost_ret (v := .tuple #[.agg #[.bool false, .slice none 0 0, .slice none 0 0], .int .i64 4]) (by simp [results, Tryz.results13, go_sem, Kc0, Kc1, Kc2, p0, p1, p2]) rfl ?_
            exact opq_end hR ⟨by rw [er.out]; exact rfl, (by (repeat (first | exact b0 | exact Below.refl _ _ | refine Below.setCell ?_ (by first | (simp; done) | (simp; omega)) _ | refine Below.alloc ?_ (by first | (simp; done) | (simp; omega)) _)))⟩
          have st' : (g1.toList == [48]) = false := by rw [st]; simpa using q3
          clear st
          have e0 : Hid (rsplit (byt d) = some (byt f1, byt g1)) := by
            show _ = _
            rw [hsp.out, q1, q2, if_pos (by simpa using q3)]
          replace q1 := hide q1
          clear hsp
          have hsp := e0
          clear e0
          have A0 := rsplit_all hsp.out
          have A1 := hide A0.1
          have A2 := hide A0.2.1
          have A3 := hide A0.2.2
          clear A0
          by_cases l1 : 200 < f1.size
          case pos =>
            have er : Hid (r = .inr 3) := by
              show _ = _
              rw [← hr.out, hsp.out]
              rw [rmake]
              simp only [Bool.and_false, Bool.false_and]
              rw [if_neg (by decide), if_pos (.inl (by rw [byt_length]; exact l1))]
            clear hr hsp
            have Kc0 : w2.cell? ⟨w.heap.size, 0, none⟩ = some (.bool false) := K.out.at_ 0 rfl
            have Kc1 : w2.cell? ⟨w.heap.size, 1, none⟩ = some (.slice none 0 0) := K.out.at_ 1 rfl
            have Kc2 : w2.cell? ⟨w.heap.size, 2, none⟩ = some (.slice none 0 0) := K.out.at_ 2 rfl
            have p0 : w2.frozen? ⟨w.heap.size, 0, none⟩ = false := K.out.frozen 0
            have p1 : w2.frozen? ⟨w.heap.size, 1, none⟩ = false := K.out.frozen 1
            have p2 : w2.frozen? ⟨w.heap.size, 2, none⟩ = false := K.out.frozen 2
            go_wp2
            refine bodyPost_ret (v := .tuple #[.agg #[.bool false, .slice none 0 0, .slice none 0 0], .int .i64 3]) (by simp [results, Tryz.results13, go_sem, Kc0, Kc1, Kc2, p0, p1, p2]) rfl ?_
            exact opq_end hR ⟨by rw [er.out]; exact rfl, (by (repeat (first | exact b0 | exact Below.refl _ _ | refine Below.setCell ?_ (by first | (simp; done) | (simp; omega)) _ | refine Below.alloc ?_ (by first | (simp; done) | (simp; omega)) _)))⟩
          by_cases l2 : 200 < g1.size
          case pos =>
            have er : Hid (r = .inr 3) := by
              show _ = _
              rw [← hr.out, hsp.out]
              rw [rmake]
              simp only [Bool.and_false, Bool.false_and]
              rw [if_neg (by decide), if_pos (.inr (by rw [byt_length]; exact l2))]
            clear hr hsp
            have Kc0 : w2.cell? ⟨w.heap.size, 0, none⟩ = some (.bool false) := K.out.at_ 0 rfl
            have Kc1 : w2.cell? ⟨w.heap.size, 1, none⟩ = some (.slice none 0 0) := K.out.at_ 1 rfl
            have Kc2 : w2.cell? ⟨w.heap.size, 2, none⟩ = some (.slice none 0 0) := K.out.at_ 2 rfl
            have p0 : w2.frozen? ⟨w.heap.size, 0, none⟩ = false := K.out.frozen 0
            have p1 : w2.frozen? ⟨w.heap.size, 1, none⟩ = false := K.out.frozen 1
            have p2 : w2.frozen? ⟨w.heap.size, 2, none⟩ = false := K.out.frozen 2
            go_wp2
            refine bodyPost_ret (v := .tuple #[.agg #[.bool false, .slice none 0 0, .slice none 0 0], .int .i64 3]) (by simp [results, Tryz.results13, go_sem, Kc0, Kc1, Kc2, p0, p1, p2]) rfl ?_
            exact opq_end hR ⟨by rw [er.out]; exact rfl, (by (repeat (first | exact b0 | exact Below.refl _ _ | refine Below.setCell ?_ (by first | (simp; done) | (simp; omega)) _ | refine Below.alloc ?_ (by first | (simp; done) | (simp; omega)) _)))⟩
          have er : Hid (r = .inl (mkRat (sgn false (num (byt f1))) (num (byt g1)))) := by
            show _ = _
            rw [← hr.out, hsp.out]
            rw [rmake]
            simp only [Bool.and_false, Bool.false_and]
            rw [if_neg (by decide), if_neg (by rw [byt_length, byt_length]; exact fun q => q.elim l1 l2)]
          clear hr hsp
          go_wp2_with fail
          refine (kNumber_ok _ f1 (by omega) (A1.out)).mono ?_
          rintro e w3 ⟨vN1, rfl, xN1, d0⟩
          have bz := b0.out.size
          replace K := hide (K.out.below' d0)
          replace b0 := hide (below_tr b0.out d0)
          clear d0
          have N1 := hide (xN1.mono (B' := w.heap.size) bz)
          clear xN1 bz
          obtain ⟨AN1, nN1, cN1, rfl⟩ := N1.out.slice
          go_wp2_with fail
          refine (qsigned_R (z := sgn false _) N1.out (sgn_abs false _) (sgn_neg false _)).mono ?_
          rintro e w4 ⟨AS, nS, cS, sS, rfl, d0, xS⟩
          have bz := b0.out.size
          replace N1 := hide (N1.out.below d0)
          replace K := hide (K.out.below' d0)
          replace b0 := hide (below_tr b0.out d0)
          clear d0
          have S := hide (xS.can)
          clear xS bz
          go_wp2_with fail
          refine (kNumber_ok _ g1 (by omega) (A2.out)).mono ?_
          rintro e w5 ⟨vN2, rfl, xN2, d0⟩
          have bz := b0.out.size
          replace N1 := hide (N1.out.below d0)
          replace S := hide (S.out.below d0)
          replace K := hide (K.out.below' d0)
          replace b0 := hide (below_tr b0.out d0)
          clear d0
          have N2 := hide (xN2.mono (B' := w.heap.size) bz)
          clear xN2 bz
          obtain ⟨AN2, nN2, cN2, rfl⟩ := N2.out.slice
          go_wp2_with fail
          refine (krlow_P S.out N2.out.can (by rw [sgn_abs]; exact num_L A1.out (by rw [byt_length]; omega)) (num_L A2.out (by rw [byt_length]; omega)) A3.out).mono ?_
          rintro e w6 ⟨v8, rfl, d0, x8⟩
          have bz := b0.out.size
          replace N1 := hide (N1.out.below d0)
          replace S := hide (S.out.below d0)
          replace N2 := hide (N2.out.below d0)
          replace K := hide (K.out.below' d0)
          replace b0 := hide (below_tr b0.out d0)
          clear d0
          have R8 := hide (x8.mono (B' := w.heap.size) bz)
          clear x8 bz
          obtain ⟨b8, A8, n8, c8, D8, m8, k8, rfl⟩ := R8.out.slice
          have Kc0 : w6.cell? ⟨w.heap.size, 0, none⟩ = some (.bool false) := K.out.at_ 0 rfl
          have Kc1 : w6.cell? ⟨w.heap.size, 1, none⟩ = some (.slice none 0 0) := K.out.at_ 1 rfl
          have Kc2 : w6.cell? ⟨w.heap.size, 2, none⟩ = some (.slice none 0 0) := K.out.at_ 2 rfl
          have p0 : w6.frozen? ⟨w.heap.size, 0, none⟩ = false := K.out.frozen 0
          have p1 : w6.frozen? ⟨w.heap.size, 1, none⟩ = false := K.out.frozen 1
          have p2 : w6.frozen? ⟨w.heap.size, 2, none⟩ = false := K.out.frozen 2
          go_wp2
          refine bodyPost_ret (v := .tuple #[.agg #[.bool b8, .slice A8 n8 c8, .slice D8 m8 k8], .int .i64 0]) (by simp [results, Tryz.results13, go_sem, Kc0, Kc1, Kc2, p0, p1, p2]) rfl ?_
          exact opq_end hR ⟨by rw [er.out]; exact ⟨_, rfl, R8.out.only K.out (by decide) ((((Only.refl _ _).set _ _).set _ _).set _ _)⟩, (by (repeat (first | exact b0 | exact Below.refl _ _ | refine Below.setCell ?_ (by first | (simp; done) | (simp; omega)) _ | refine Below.alloc ?_ (by first | (simp; done) | (simp; omega)) _)))⟩
        by_cases h46 : x = 46
        · have q1 : ((x : Int) == 47) = false := by simp; omega
          have q2 : ((x : Int) == 46) = true := by rw [h46]; rfl
          have q3 : ((x : Int) != 47) = true := by rw [h46]; rfl
          have q4 : ((x : Int) != 46) = false := by rw [h46]; rfl
          have hsp := hide (ks_dot (by rw [hl2.out]; exact hlt) hno.out.1 (by rw [ex.out]; exact h46))
          clear h46 h47
          have ef := byt_ext d 0 i (by omega) (by omega)
          have eg := byt_ext d (i + 1) d.size (by omega) (by omega)
          rw [List.drop_zero, Nat.sub_zero] at ef
          rw [List.take_of_length_le (by rw [List.length_drop, hl2.out]; exact Nat.le_refl _)] at eg
          rw [← ef, ← eg] at hsp
          have sf : (d.extract 0 i).size ≤ 4294967000 := by rw [← byt_length, ef, List.length_take]; omega
          have sg : (d.extract (i + 1) d.size).size ≤ 4294967000 := by rw [← byt_length, eg, List.length_drop, hl2.out]; omega
          clear ef eg
          have b0 := hbel
          have K := hK
          clear hbel hK
          go_wp2_with fail
          generalize d.extract 0 i = f1 at *
          generalize d.extract (i + 1) d.size = g1 at *
          clear q1 q2 q3 q4 hg ex hno
          cases q1 : isNum (byt f1)
          case false =>
            refine (knumber_ok _ f1 (by omega) q1).mono ?_
            rintro e w1 ⟨_, rfl, d0, rfl⟩
            have bz := b0.out.size
            replace K := hide (K.out.below' d0)
            replace b0 := hide (below_tr b0.out d0)
            clear d0
            clear bz
            have er : Hid (r = .inr 4) := by
              show _ = _
              rw [← hr.out, hsp.out]
              rw [q1]; rfl
            clear hr hsp
            have Kc0 : w1.cell? ⟨w.heap.size, 0, none⟩ = some (.bool false) := K.out.at_ 0 rfl
            have Kc1 : w1.cell? ⟨w.heap.size, 1, none⟩ = some (.slice none 0 0) := K.out.at_ 1 rfl
            have Kc2 : w1.cell? ⟨w.heap.size, 2, none⟩ = some (.slice none 0 0) := K.out.at_ 2 rfl
            have p0 : w1.frozen? ⟨w.heap.size, 0, none⟩ = false := K.out.frozen 0
            have p1 : w1.frozen? ⟨w.heap.size, 1, none⟩ = false := K.out.frozen 1
            have p2 : w1.frozen? ⟨w.heap.size, 2, none⟩ = false := K.out.frozen 2
            go_wp2
            refine bodyPost_ret (v := .tuple #[.agg #[.bool false, .slice none 0 0, .slice none 0 0], .int .i64 4]) (by simp [results, Tryz.results13, go_sem, Kc0, Kc1, Kc2, p0, p1, p2]) rfl ?_
            exact opq_end hR ⟨by rw [er.out]; exact rfl, (by (repeat (first | exact b0 | exact Below.refl _ _ | refine Below.setCell ?_ (by first | (simp; done) | (simp; omega)) _ | refine Below.alloc ?_ (by first | (simp; done) | (simp; omega)) _)))⟩
          refine (knumber_ok _ f1 (by omega) q1).mono ?_
          rintro e w1 ⟨_, rfl, d0, rfl⟩
          have bz := b0.out.size
          replace K := hide (K.out.below' d0)
          replace b0 := hide (below_tr b0.out d0)
          clear d0
          clear bz
          cases q2 : isDigs (byt g1)
          case false =>
            go_wp2_with fail
            refine (kDigits_B _ g1 (by omega) q2).mono ?_
            rintro e w2 ⟨_, rfl, d0, rfl⟩
            have bz := b0.out.size
            replace K := hide (K.out.below' d0)
            replace b0 := hide (below_tr b0.out d0)
            clear d0
            clear bz
            have er : Hid (r = .inr 4) := by
              show _ = _
              rw [← hr.out, hsp.out]
              rw [q1, q2]; rfl
            clear hr hsp
            have Kc0 : w2.cell? ⟨w.heap.size, 0, none⟩ = some (.bool false) := K.out.at_ 0 rfl
            have Kc1 : w2.cell? ⟨w.heap.size, 1, none⟩ = some (.slice none 0 0) := K.out.at_ 1 rfl
            have Kc2 : w2.cell? ⟨w.heap.size, 2, none⟩ = some (.slice none 0 0) := K.out.at_ 2 rfl
            have p0 : w2.frozen? ⟨w.heap.size, 0, none⟩ = false := K.out.frozen 0
            have p1 : w2.frozen? ⟨w.heap.size, 1, none⟩ = false := K.out.frozen 1
            have p2 : w2.frozen? ⟨w.heap.size, 2, none⟩ = false := K.out.frozen 2
            go_wp2
            refine bodyPost_ret (v := .tuple #[.agg #[.bool false, .slice none 0 0, .slice none 0 0], .int .i64 4]) (by simp [results, Tryz.results13, go_sem, Kc0, Kc1, Kc2, p0, p1, p2]) rfl ?_
            exact opq_end hR ⟨by rw [er.out]; exact rfl, (by (repeat (first | exact b0 | exact Below.refl _ _ | refine Below.setCell ?_ (by first | (simp; done) | (simp; omega)) _ | refine Below.alloc ?_ (by first | (simp; done) | (simp; omega)) _)))⟩
          go_wp2_with fail
          refine (kDigits_B _ g1 (by omega) q2).mono ?_
          rintro e w2 ⟨_, rfl, d0, rfl⟩
          have bz := b0.out.size
          replace K := hide (K.out.below' d0)
          replace b0 := hide (below_tr b0.out d0)
          clear d0
          clear bz
          have e0 : Hid (rsplit (byt d) = some (byt f1 ++ byt g1, 49 :: List.replicate (min (byt g1).length 200) 48)) := by
            show _ = _
            rw [hsp.out, q1, q2, if_pos (by decide)]
          clear hsp
          have hsp := e0
          clear e0
          have A0 := rsplit_all hsp.out
          have A1 := hide A0.1
          have A3 := hide A0.2.2
          clear A0
          have hp : 1 ≤ f1.size := by
            rcases Nat.eq_zero_or_pos f1.size with q | q
            · rw [byt_nil.2 q] at q1; cases q1
            · exact q
          replace q1 := hide q1
          replace q2 := hide q2
          by_cases l1 : 200 < f1.size + g1.size
          case pos =>
            have er : Hid (r = .inr 3) := by
              show _ = _
              rw [← hr.out, hsp.out]
              rw [rmake]
              simp only [Bool.and_false, Bool.false_and]
              rw [if_neg (by decide), if_pos (.inl (by rw [List.length_append, byt_length, byt_length]; exact l1))]
            clear hr hsp
            have Kc0 : w2.cell? ⟨w.heap.size, 0, none⟩ = some (.bool false) := K.out.at_ 0 rfl
            have Kc1 : w2.cell? ⟨w.heap.size, 1, none⟩ = some (.slice none 0 0) := K.out.at_ 1 rfl
            have Kc2 : w2.cell? ⟨w.heap.size, 2, none⟩ = some (.slice none 0 0) := K.out.at_ 2 rfl
            have p0 : w2.frozen? ⟨w.heap.size, 0, none⟩ = false := K.out.frozen 0
            have p1 : w2.frozen? ⟨w.heap.size, 1, none⟩ = false := K.out.frozen 1
            have p2 : w2.frozen? ⟨w.heap.size, 2, none⟩ = false := K.out.frozen 2
            go_wp2
            refine bodyPost_ret (v := .tuple #[.agg #[.bool false, .slice none 0 0, .slice none 0 0], .int .i64 3]) (by simp [results, Tryz.results13, go_sem, Kc0, Kc1, Kc2, p0, p1, p2]) rfl ?_
            exact opq_end hR ⟨by rw [er.out]; exact rfl, (by (repeat (first | exact b0 | exact Below.refl _ _ | refine Below.setCell ?_ (by first | (simp; done) | (simp; omega)) _ | refine Below.alloc ?_ (by first | (simp; done) | (simp; omega)) _)))⟩
          have hm : min (byt g1).length 200 = g1.size := by rw [byt_length]; omega
          rw [hm] at hsp A3
          have er : Hid (r = .inl (mkRat (sgn false (num (byt f1 ++ byt g1))) (num (49 :: List.replicate g1.size 48)))) := by
            show _ = _
            rw [← hr.out, hsp.out]
            rw [rmake]
            simp only [Bool.and_false, Bool.false_and]
            rw [if_neg (by decide), if_neg (by rw [List.length_append, byt_length, byt_length, List.length_cons, List.length_replicate]; omega)]
          clear hr hsp hm
          have A1' : Hid (∀ x ∈ byt (f1 ++ g1), isDig x = true) := by rw [byt_append]; exact A1.out
          have lf := ByteArray.size_append (a := f1) (b := g1)
          go_wp2_with fail
          refine (kNumber_ok _ (f1 ++ g1) (by rw [lf]; omega) (A1'.out)).mono ?_
          rintro e w3 ⟨vN1, rfl, xN1, d0⟩
          have bz := b0.out.size
          replace K := hide (K.out.below' d0)
          replace b0 := hide (below_tr b0.out d0)
          clear d0
          have N1 := hide (xN1.mono (B' := w.heap.size) bz)
          clear xN1 bz
          obtain ⟨AN1, nN1, cN1, rfl⟩ := N1.out.slice
          rw [byt_append] at N1
          clear A1' lf
          go_wp2
          go_loopw [10, 11] (fun tv iv wr2 => ∃ (j : Nat) (t : ByteArray), j ≤ g1.size ∧ tv = .string t ∧ iv = .int .i64 (j : Nat) ∧ Hid (byt t = 49 :: List.replicate j 48) ∧ Hid (Below w.heap.size w wr2) ∧ Hid (Blk wr2 w.heap.size 27 #[.bool false, .slice none 0 0, .slice none 0 0]) ∧ Hid (NatR (num (byt f1 ++ byt g1)) w.heap.size wr2 (.slice AN1 nN1 cN1))) (fun _ iv _ => g1.size - (intOf iv).toNat)
          case atStart => exact ⟨0, ⟨#[49]⟩, by omega, rfl, rfl, rfl, b0.out, K.out, N1.out⟩
          case round =>
            obtain ⟨j, t, hj, rfl, rfl, ht, hbel2, hK2, hN⟩ := hrel
            clear b0 K N1
            have ts : t.size = j + 1 := by rw [← byt_length, ht.out, List.length_cons, List.length_replicate]
            by_cases hlt2 : j < g1.size
            · have ht2 : Hid (byt (t ++ ⟨#[48]⟩) = 49 :: List.replicate (j + 1) 48) := by
                show _ = _
                rw [byt_append, ht.out, List.replicate_succ', List.cons_append]
                rfl
              go_wp2
              go_roundw
              case rel => exact ⟨j + 1, t ++ ⟨#[48]⟩, by omega, rfl, by go_num, ht2, hbel2, hK2, hN⟩
              case measure => simp [intOf]; omega
            · obtain rfl : j = g1.size := by omega
              have b0 := hbel2
              have K := hK2
              have N1 := hN
              clear hbel2 hK2 hN hlt2 hj
              have A2 : Hid (∀ x ∈ byt t, isDig x = true) := by
                rw [ht.out]
                intro x hx
                rcases List.mem_cons.1 hx with q | q
                · subst q; rfl
                · rw [(List.mem_replicate.1 q).2]; rfl
              rw [← ht.out] at er A3
              go_wp2_with fail
              refine (qsigned_R (z := sgn false _) N1.out (sgn_abs false _) (sgn_neg false _)).mono ?_
              rintro e w91 ⟨AS, nS, cS, sS, rfl, d0, xS⟩
              have bz := b0.out.size
              replace N1 := hide (N1.out.below d0)
              replace K := hide (K.out.below' d0)
              replace b0 := hide (below_tr b0.out d0)
              clear d0
              have S := hide (xS.can)
              clear xS bz
              go_wp2_with fail
              refine (kNumber_ok _ t (by omega) (A2.out)).mono ?_
              rintro e w92 ⟨vN2, rfl, xN2, d0⟩
              have bz := b0.out.size
              replace N1 := hide (N1.out.below d0)
              replace S := hide (S.out.below d0)
              replace K := hide (K.out.below' d0)
              replace b0 := hide (below_tr b0.out d0)
              clear d0
              have N2 := hide (xN2.mono (B' := w.heap.size) bz)
              clear xN2 bz
              obtain ⟨AN2, nN2, cN2, rfl⟩ := N2.out.slice
              go_wp2_with fail
              refine (krlow_P S.out N2.out.can (by rw [sgn_abs]; exact num_L A1.out (by rw [List.length_append, byt_length, byt_length]; omega)) (Nat.le_trans (limbs_length_le.2 (Nat.lt_of_lt_of_le (num_lt _ (dig58 A2.out)) (Nat.le_trans (Nat.pow_le_pow_right (by decide) (show (byt t).length ≤ 300 by rw [byt_length]; omega)) (Nat.pow_le_pow_left (by decide : 10 ≤ 4294967296) 300)))) (by decide)) A3.out).mono ?_
              rintro e w93 ⟨v8, rfl, d0, x8⟩
              have bz := b0.out.size
              replace N1 := hide (N1.out.below d0)
              replace S := hide (S.out.below d0)
              replace N2 := hide (N2.out.below d0)
              replace K := hide (K.out.below' d0)
              replace b0 := hide (below_tr b0.out d0)
              clear d0
              have R8 := hide (x8.mono (B' := w.heap.size) bz)
              clear x8 bz
              obtain ⟨b8, A8, n8, c8, D8, m8, k8, rfl⟩ := R8.out.slice
              have Kc0 : w93.cell? ⟨w.heap.size, 0, none⟩ = some (.bool false) := K.out.at_ 0 rfl
              have Kc1 : w93.cell? ⟨w.heap.size, 1, none⟩ = some (.slice none 0 0) := K.out.at_ 1 rfl
              have Kc2 : w93.cell? ⟨w.heap.size, 2, none⟩ = some (.slice none 0 0) := K.out.at_ 2 rfl
              have p0 : w93.frozen? ⟨w.heap.size, 0, none⟩ = false := K.out.frozen 0
              have p1 : w93.frozen? ⟨w.heap.size, 1, none⟩ = false := K.out.frozen 1
              have p2 : w93.frozen? ⟨w.heap.size, 2, none⟩ = false := K.out.frozen 2
              go_wp2
              refine bodyPost_ret (v := .tuple #[.agg #[.bool b8, .slice A8 n8 c8, .slice D8 m8 k8], .int .i64 0]) (by simp [results, Tryz.results13, go_sem, Kc0, Kc1, Kc2, p0, p1, p2]) rfl ?_
              exact opq_end hR ⟨by rw [er.out]; exact ⟨_, rfl, R8.out.only K.out (by decide) ((((Only.refl _ _).set _ _).set _ _).set _ _)⟩, (by (repeat (first | exact b0 | exact Below.refl _ _ | refine Below.setCell ?_ (by first | (simp; done) | (simp; omega)) _ | refine Below.alloc ?_ (by first | (simp; done) | (simp; omega)) _)))⟩
        · have q1 : ((x : Int) == 47) = false := by simp; omega
          have q2 : ((x : Int) == 46) = false := by simp; omega
          have q3 : ((x : Int) != 47) = true := by simp; omega
          have q4 : ((x : Int) != 46) = true := by simp; omega
          have hn : Hid (46 ∉ (byt d).take (i + 1) ∧ 47 ∉ (byt d).take (i + 1)) := by
            have hx : (byt d)[i]'(by rw [hl2.out]; exact hlt) = x := by rw [← ex.out, getD_lt (by rw [hl2.out]; exact hlt)]
            rw [List.take_succ_eq_append_getElem (by rw [hl2.out]; exact hlt), hx]
            have := hno.out
            constructor
            · simp only [List.mem_append, List.mem_singleton, not_or]; exact ⟨this.1, fun q => h46 q.symm⟩
            · simp only [List.mem_append, List.mem_singleton, not_or]; exact ⟨this.2, fun q => h47 q.symm⟩
          clear h46 h47
          go_wp2
          go_roundw
          case rel => exact ⟨i + 1, by omega, by go_num, hn, hbel, hK⟩
          case measure => simp [intOf]; omega
      · obtain rfl : i = d.size := by omega
        have ef := byt_ext d 0 d.size (by omega) (by omega)
        rw [List.drop_zero, Nat.sub_zero, List.take_of_length_le (by rw [hl2.out]; exact Nat.le_refl _)] at ef
        have hsp : Hid (rsplit (byt d) = if isNum (byt d) = true then some (byt d, [49]) else none) := by
          have hx := hno.out
          rw [List.take_of_length_le (by rw [hl2.out]; exact Nat.le_refl _)] at hx
          exact ks_end hx.1 hx.2
        have hsp2 : Hid (rsplit (byt d) = if isNum (byt d) = true then some (byt d, byt ⟨#[49]⟩) else none) := hsp
        clear hsp
        have hsp := hsp2
        clear hsp2
        clear ef
        have b0 := hbel
        have K := hK
        clear hbel hK
        go_wp2_with fail
        clear hno hlt
        cases q1 : isNum (byt d)
        case false =>
          refine (knumber_ok _ d (by omega) q1).mono ?_
          rintro e w1 ⟨_, rfl, d0, rfl⟩
          have bz := b0.out.size
          replace K := hide (K.out.below' d0)
          replace b0 := hide (below_tr b0.out d0)
          clear d0
          clear bz
          have er : Hid (r = .inr 4) := by
            show _ = _
            rw [← hr.out, hsp.out]
            rw [q1]; rfl
          clear hr hsp
          have Kc0 : w1.cell? ⟨w.heap.size, 0, none⟩ = some (.bool false) := K.out.at_ 0 rfl
          have Kc1 : w1.cell? ⟨w.heap.size, 1, none⟩ = some (.slice none 0 0) := K.out.at_ 1 rfl
          have Kc2 : w1.cell? ⟨w.heap.size, 2, none⟩ = some (.slice none 0 0) := K.out.at_ 2 rfl
          have p0 : w1.frozen? ⟨w.heap.size, 0, none⟩ = false := K.out.frozen 0
          have p1 : w1.frozen? ⟨w.heap.size, 1, none⟩ = false := K.out.frozen 1
          have p2 : w1.frozen? ⟨w.heap.size, 2, none⟩ = false := K.out.frozen 2
          go_wp2
          refine bodyPost_ret (v := .tuple #[.agg #[.bool false, .slice none 0 0, .slice none 0 0], .int .i64 4]) (by simp [results, Tryz.results13, go_sem, Kc0, Kc1, Kc2, p0, p1, p2]) rfl ?_
          exact opq_end hR ⟨by rw [er.out]; exact rfl, (by (repeat (first | exact b0 | exact Below.refl _ _ | refine Below.setCell ?_ (by first | (simp; done) | (simp; omega)) _ | refine Below.alloc ?_ (by first | (simp; done) | (simp; omega)) _)))⟩
        refine (knumber_ok _ d (by omega) q1).mono ?_
        rintro e w1 ⟨_, rfl, d0, rfl⟩
        have bz := b0.out.size
        replace K := hide (K.out.below' d0)
        replace b0 := hide (below_tr b0.out d0)
        clear d0
        clear bz
        go_wp2_with fail
        refine (knumber_ok _ ⟨#[49]⟩ (by decide) (r := true) (by decide)).mono ?_
        rintro e w2 ⟨_, rfl, d0, rfl⟩
        have bz := b0.out.size
        replace K := hide (K.out.below' d0)
        replace b0 := hide (below_tr b0.out d0)
        clear d0
        clear bz
        have e0 : Hid (rsplit (byt d) = some (byt d, byt ⟨#[49]⟩)) := by
          show _ = _
          rw [hsp.out, q1, if_pos (by decide)]
        replace q1 := hide q1
        clear hsp
        have hsp := e0
        clear e0
        have A0 := rsplit_all hsp.out
        have A1 := hide A0.1
        have A2 := hide A0.2.1
        have A3 := hide A0.2.2
        clear A0
        by_cases l1 : 200 < d.size
        case pos =>
          have er : Hid (r = .inr 3) := by
            show _ = _
            rw [← hr.out, hsp.out]
            rw [rmake]
            simp only [Bool.and_false, Bool.false_and]
            rw [if_neg (by decide), if_pos (.inl (by rw [byt_length]; exact l1))]
          clear hr hsp
          have Kc0 : w2.cell? ⟨w.heap.size, 0, none⟩ = some (.bool false) := K.out.at_ 0 rfl
          have Kc1 : w2.cell? ⟨w.heap.size, 1, none⟩ = some (.slice none 0 0) := K.out.at_ 1 rfl
          have Kc2 : w2.cell? ⟨w.heap.size, 2, none⟩ = some (.slice none 0 0) := K.out.at_ 2 rfl
          have p0 : w2.frozen? ⟨w.heap.size, 0, none⟩ = false := K.out.frozen 0
          have p1 : w2.frozen? ⟨w.heap.size, 1, none⟩ = false := K.out.frozen 1
          have p2 : w2.frozen? ⟨w.heap.size, 2, none⟩ = false := K.out.frozen 2
          go_wp2
          refine bodyPost_ret (v := .tuple #[.agg #[.bool false, .slice none 0 0, .slice none 0 0], .int .i64 3]) (by simp [results, Tryz.results13, go_sem, Kc0, Kc1, Kc2, p0, p1, p2]) rfl ?_
          exact opq_end hR ⟨by rw [er.out]; exact rfl, (by (repeat (first | exact b0 | exact Below.refl _ _ | refine Below.setCell ?_ (by first | (simp; done) | (simp; omega)) _ | refine Below.alloc ?_ (by first | (simp; done) | (simp; omega)) _)))⟩
        have er : Hid (r = .inl (mkRat (sgn false (num (byt d))) (num (byt ⟨#[49]⟩)))) := by
          show _ = _
          rw [← hr.out, hsp.out]
          rw [rmake]
          simp only [Bool.and_false, Bool.false_and]
          rw [if_neg (by decide), if_neg (by rw [byt_length, byt_length]; exact fun q => q.elim l1 (show ¬ 200 < ByteArray.size ⟨#[49]⟩ by decide))]
        clear hr hsp
        go_wp2_with fail
        refine (kNumber_ok _ d (by omega) (A1.out)).mono ?_
        rintro e w3 ⟨vN1, rfl, xN1, d0⟩
        have bz := b0.out.size
        replace K := hide (K.out.below' d0)
        replace b0 := hide (below_tr b0.out d0)
        clear d0
        have N1 := hide (xN1.mono (B' := w.heap.size) bz)
        clear xN1 bz
        obtain ⟨AN1, nN1, cN1, rfl⟩ := N1.out.slice
        go_wp2_with fail
        refine (qsigned_R (z := sgn false _) N1.out (sgn_abs false _) (sgn_neg false _)).mono ?_
        rintro e w4 ⟨AS, nS, cS, sS, rfl, d0, xS⟩
        have bz := b0.out.size
        replace N1 := hide (N1.out.below d0)
        replace K := hide (K.out.below' d0)
        replace b0 := hide (below_tr b0.out d0)
        clear d0
        have S := hide (xS.can)
        clear xS bz
        go_wp2_with fail
        refine (kNumber_ok _ ⟨#[49]⟩ (by decide) (A2.out)).mono ?_
        rintro e w5 ⟨vN2, rfl, xN2, d0⟩
        have bz := b0.out.size
        replace N1 := hide (N1.out.below d0)
        replace S := hide (S.out.below d0)
        replace K := hide (K.out.below' d0)
        replace b0 := hide (below_tr b0.out d0)
        clear d0
        have N2 := hide (xN2.mono (B' := w.heap.size) bz)
        clear xN2 bz
        obtain ⟨AN2, nN2, cN2, rfl⟩ := N2.out.slice
        go_wp2_with fail
        refine (krlow_P S.out N2.out.can (by rw [sgn_abs]; exact num_L A1.out (by rw [byt_length]; omega)) (num_L A2.out (by rw [byt_length]; decide)) A3.out).mono ?_
        rintro e w6 ⟨v8, rfl, d0, x8⟩
        have bz := b0.out.size
        replace N1 := hide (N1.out.below d0)
        replace S := hide (S.out.below d0)
        replace N2 := hide (N2.out.below d0)
        replace K := hide (K.out.below' d0)
        replace b0 := hide (below_tr b0.out d0)
        clear d0
        have R8 := hide (x8.mono (B' := w.heap.size) bz)
        clear x8 bz
        obtain ⟨b8, A8, n8, c8, D8, m8, k8, rfl⟩ := R8.out.slice
        have Kc0 : w6.cell? ⟨w.heap.size, 0, none⟩ = some (.bool false) := K.out.at_ 0 rfl
        have Kc1 : w6.cell? ⟨w.heap.size, 1, none⟩ = some (.slice none 0 0) := K.out.at_ 1 rfl
        have Kc2 : w6.cell? ⟨w.heap.size, 2, none⟩ = some (.slice none 0 0) := K.out.at_ 2 rfl
        have p0 : w6.frozen? ⟨w.heap.size, 0, none⟩ = false := K.out.frozen 0
        have p1 : w6.frozen? ⟨w.heap.size, 1, none⟩ = false := K.out.frozen 1
        have p2 : w6.frozen? ⟨w.heap.size, 2, none⟩ = false := K.out.frozen 2
        go_wp2
        refine bodyPost_ret (v := .tuple #[.agg #[.bool b8, .slice A8 n8 c8, .slice D8 m8 k8], .int .i64 0]) (by simp [results, Tryz.results13, go_sem, Kc0, Kc1, Kc2, p0, p1, p2]) rfl ?_
        exact opq_end hR ⟨by rw [er.out]; exact ⟨_, rfl, R8.out.only K.out (by decide) ((((Only.refl _ _).set _ _).set _ _).set _ _)⟩, (by (repeat (first | exact b0 | exact Below.refl _ _ | refine Below.setCell ?_ (by first | (simp; done) | (simp; omega)) _ | refine Below.alloc ?_ (by first | (simp; done) | (simp; omega)) _)))⟩
  · subst hb
    have hne : s ≠ ⟨#[]⟩ := fun q => by rw [q] at h0; exact absurd h0 (by decide)
    have hne2 : decide (s = ⟨#[]⟩) = false := by simpa using hne
    have hne4 : ¬ s.toList = [] := fun q => by
      rw [ByteArray.toList_eq, Array.toList_eq_nil_iff] at q
      exact hne (by obtain ⟨a⟩ := s; exact congrArg _ q)
    have hc2 : ((((s[0]'h0).toNat : Nat) : Int) == 45) = false := by simp; omega
    subst hd
    go_wp2
    go_loopw [5] (fun iv wr => ∃ i : Nat, i ≤ d.size ∧ iv = .int .i64 (i : Nat) ∧ Hid (46 ∉ (byt d).take i ∧ 47 ∉ (byt d).take i) ∧ Hid (Below w.heap.size w wr) ∧ Hid (Blk wr w.heap.size 27 #[.bool false, .slice none 0 0, .slice none 0 0])) (fun iv _ => d.size - (intOf iv).toNat)
    case atStart => exact ⟨0, by omega, rfl, ⟨by simp, by simp⟩, b0.out, K.out⟩
    case round =>
      obtain ⟨i, hi, rfl, hno, hbel, hK⟩ := hrel
      clear b0 K
      by_cases hlt : i < d.size
      · have hg := HG.out i hlt
        obtain ⟨x, ex⟩ : ∃ x, Hid ((byt d).getD i 0 = x) := ⟨_, hide rfl⟩
        rw [ex.out] at hg
        by_cases h47 : x = 47
        · have q1 : ((x : Int) != 47) = false := by rw [h47]; rfl
          have q2 : ((x : Int) == 46) = false := by rw [h47]; rfl
          have q3 : ((x : Int) == 47) = true := by rw [h47]; rfl
          have hsp := hide (ks_slash (by rw [hl2.out]; exact hlt) hno.out.1 hno.out.2 (by rw [ex.out]; exact h47))
          clear h47
          have ef := byt_ext d 0 i (by omega) (by omega)
          have eg := byt_ext d (i + 1) d.size (by omega) (by omega)
          rw [List.drop_zero, Nat.sub_zero] at ef
          rw [List.take_of_length_le (by rw [List.length_drop, hl2.out]; exact Nat.le_refl _)] at eg
          rw [← ef, ← eg] at hsp
          have sf : (d.extract 0 i).size ≤ 4294967000 := by rw [← byt_length, ef, List.length_take]; omega
          have sg : (d.extract (i + 1) d.size).size ≤ 4294967000 := by rw [← byt_length, eg, List.length_drop, hl2.out]; omega
          clear ef eg
          have b0 := hbel
          have K := hK
          clear hbel hK
          go_wp2_with fail
          generalize d.extract 0 i = f1 at *
          generalize d.extract (i + 1) d.size = g1 at *
          clear q1 q2 q3 hg ex hno
          cases q1 : isNum (byt f1)
          case false =>
            refine (knumber_ok _ f1 (by omega) q1).mono ?_
            rintro e w1 ⟨_, rfl, d0, rfl⟩
            have bz := b0.out.size
            replace K := hide (K.out.below' d0)
            replace b0 := hide (below_tr b0.out d0)
            clear d0
            clear bz
            have er : Hid (r = .inr 4) := by
              show _ = _
              rw [← hr.out, hsp.out]
              rw [q1]; rfl
            clear hr hsp
            have Kc0 : w1.cell? ⟨w.heap.size, 0, none⟩ = some (.bool false) := K.out.at_ 0 rfl
            have Kc1 : w1.cell? ⟨w.heap.size, 1, none⟩ = some (.slice none 0 0) := K.out.at_ 1 rfl
            have Kc2 : w1.cell? ⟨w.heap.size, 2, none⟩ = some (.slice none 0 0) := K.out.at_ 2 rfl
            have p0 : w1.frozen? ⟨w.heap.size, 0, none⟩ = false := K.out.frozen 0
            have p1 : w1.frozen? ⟨w.heap.size, 1, none⟩ = false := K.out.frozen 1
            have p2 : w1.frozen? ⟨w.heap.size, 2, none⟩ = false := K.out.frozen 2
            go_wp2
            refine bodyPost_ret (v := .tuple #[.agg #[.bool false, .slice none 0 0, .slice none 0 0], .int .i64 4]) (by simp [results, Tryz.results13, go_sem, Kc0, Kc1, Kc2, p0, p1, p2]) rfl ?_
            exact opq_end hR ⟨by rw [er.out]; exact rfl, (by (repeat (first | exact b0 | exact Below.refl _ _ | refine Below.setCell ?_ (by first | (simp; done) | (simp; omega)) _ | refine Below.alloc ?_ (by first | (simp; done) | (simp; omega)) _)))⟩
          refine (knumber_ok _ f1 (by omega) q1).mono ?_
          rintro e w1 ⟨_, rfl, d0, rfl⟩
          have bz := b0.out.size
          replace K := hide (K.out.below' d0)
          replace b0 := hide (below_tr b0.out d0)
          clear d0
          clear bz
          cases q2 : isNum (byt g1)
          case false =>
            go_wp2_with fail
            refine (knumber_ok _ g1 (by omega) q2).mono ?_
            rintro e w2 ⟨_, rfl, d0, rfl⟩
            have bz := b0.out.size
            replace K := hide (K.out.below' d0)
            replace b0 := hide (below_tr b0.out d0)
            clear d0
            clear bz
            have er : Hid (r = .inr 4) := by
              show _ = _
              rw [← hr.out, hsp.out]
              rw [q1, q2]; rfl
            clear hr hsp
            have Kc0 : w2.cell? ⟨w.heap.size, 0, none⟩ = some (.bool false) := K.out.at_ 0 rfl
            have Kc1 : w2.cell? ⟨w.heap.size, 1, none⟩ = some (.slice none 0 0) := K.out.at_ 1 rfl
            have Kc2 : w2.cell? ⟨w.heap.size, 2, none⟩ = some (.slice none 0 0) := K.out.at_ 2 rfl
            have p0 : w2.frozen? ⟨w.heap.size, 0, none⟩ = false := K.out.frozen 0
            have p1 : w2.frozen? ⟨w.heap.size, 1, none⟩ = false := K.out.frozen 1
            have p2 : w2.frozen? ⟨w.heap.size, 2, none⟩ = false := K.out.frozen 2
            go_wp2
            refine bodyPost_ret (v := .tuple #[.agg #[.bool false, .slice none 0 0, .slice none 0 0], .int .i64 4]) (by simp [results, Tryz.results13, go_sem, Kc0, Kc1, Kc2, p0, p1, p2]) rfl ?_
            exact opq_end hR ⟨by rw [er.out]; exact rfl, (by (repeat (first | exact b0 | exact Below.refl _ _ | refine Below.setCell ?_ (by first | (simp; done) | (simp; omega)) _ | refine Below.alloc ?_ (by first | (simp; done) | (simp; omega)) _)))⟩
          go_wp2_with fail
          refine (knumber_ok _ g1 (by omega) q2).mono ?_
          rintro e w2 ⟨_, rfl, d0, rfl⟩
          have bz := b0.out.size
          replace K := hide (K.out.below' d0)
          replace b0 := hide (below_tr b0.out d0)
          clear d0
          clear bz
          have st := byt_eq1 g1 48
          by_cases q3 : byt g1 = [48]
          case pos =>
            have st' : (g1.toList == [48]) = true := by rw [st]; simpa using q3
            clear st
            have er : Hid (r = .inr 4) := by
              show _ = _
              rw [← hr.out, hsp.out]
              rw [q1, q2, q3]; rfl
            clear hr hsp
            have Kc0 : w2.cell? ⟨w.heap.size, 0, none⟩ = some (.bool false) := K.out.at_ 0 rfl
            have Kc1 : w2.cell? ⟨w.heap.size, 1, none⟩ = some (.slice none 0 0) := K.out.at_ 1 rfl
            have Kc2 : w2.cell? ⟨w.heap.size, 2, none⟩ = some (.slice none 0 0) := K.out.at_ 2 rfl
            have p0 : w2.frozen? ⟨w.heap.size, 0, none⟩ = false := K.out.frozen 0
            have p1 : w2.frozen? ⟨w.heap.size, 1, none⟩ = false := K.out.frozen 1
            have p2 : w2.frozen? ⟨w.heap.size, 2, none⟩ = false := K.out.frozen 2
            go_wp2
            refine bodyPost_ret (v := .tuple #[.agg #[.bool false, .slice none 0 0, .slice none 0 0], .int .i64 4]) (by simp [results, Tryz.results13, go_sem, Kc0, Kc1, Kc2, p0, p1, p2]) rfl ?_
            exact opq_end hR ⟨by rw [er.out]; exact rfl, (by (repeat (first | exact b0 | exact Below.refl _ _ | refine Below.setCell ?_ (by first | (simp; done) | (simp; omega)) _ | refine Below.alloc ?_ (by first | (simp; done) | (simp; omega)) _)))⟩
          have st' : (g1.toList == [48]) = false := by rw [st]; simpa using q3
          clear st
          have e0 : Hid (rsplit (byt d) = some (byt f1, byt g1)) := by
            show _ = _
            rw [hsp.out, q1, q2, if_pos (by simpa using q3)]
          replace q1 := hide q1
          clear hsp
          have hsp := e0
          clear e0
          have A0 := rsplit_all hsp.out
          have A1 := hide A0.1
          have A2 := hide A0.2.1
          have A3 := hide A0.2.2
          clear A0
          by_cases l1 : 200 < f1.size
          case pos =>
            have er : Hid (r = .inr 3) := by
              show _ = _
              rw [← hr.out, hsp.out]
              rw [rmake]
              simp only [Bool.and_false, Bool.false_and]
              rw [if_neg (by decide), if_pos (.inl (by rw [byt_length]; exact l1))]
            clear hr hsp
            have Kc0 : w2.cell? ⟨w.heap.size, 0, none⟩ = some (.bool false) := K.out.at_ 0 rfl
            have Kc1 : w2.cell? ⟨w.heap.size, 1, none⟩ = some (.slice none 0 0) := K.out.at_ 1 rfl
            have Kc2 : w2.cell? ⟨w.heap.size, 2, none⟩ = some (.slice none 0 0) := K.out.at_ 2 rfl
            have p0 : w2.frozen? ⟨w.heap.size, 0, none⟩ = false := K.out.frozen 0
            have p1 : w2.frozen? ⟨w.heap.size, 1, none⟩ = false := K.out.frozen 1
            have p2 : w2.frozen? ⟨w.heap.size, 2, none⟩ = false := K.out.frozen 2
            go_wp2
            refine bodyPost_ret (v := .tuple #[.agg #[.bool false, .slice none 0 0, .slice none 0 0], .int .i64 3]) (by simp [results, Tryz.results13, go_sem, Kc0, Kc1, Kc2, p0, p1, p2]) rfl ?_
            exact opq_end hR ⟨by rw [er.out]; exact rfl, (by (repeat (first | exact b0 | exact Below.refl _ _ | refine Below.setCell ?_ (by first | (simp; done) | (simp; omega)) _ | refine Below.alloc ?_ (by first | (simp; done) | (simp; omega)) _)))⟩
          by_cases l2 : 200 < g1.size
          case pos =>
            have er : Hid (r = .inr 3) := by
              show _ = _
              rw [← hr.out, hsp.out]
              rw [rmake]
              simp only [Bool.and_false, Bool.false_and]
              rw [if_neg (by decide), if_pos (.inr (by rw [byt_length]; exact l2))]
            clear hr hsp
            have Kc0 : w2.cell? ⟨w.heap.size, 0, none⟩ = some (.bool false) := K.out.at_ 0 rfl
            have Kc1 : w2.cell? ⟨w.heap.size, 1, none⟩ = some (.slice none 0 0) := K.out.at_ 1 rfl
            have Kc2 : w2.cell? ⟨w.heap.size, 2, none⟩ = some (.slice none 0 0) := K.out.at_ 2 rfl
            have p0 : w2.frozen? ⟨w.heap.size, 0, none⟩ = false := K.out.frozen 0
            have p1 : w2.frozen? ⟨w.heap.size, 1, none⟩ = false := K.out.frozen 1
            have p2 : w2.frozen? ⟨w.heap.size, 2, none⟩ = false := K.out.frozen 2
            go_wp2
            refine bodyPost_ret (v := .tuple #[.agg #[.bool false, .slice none 0 0, .slice none 0 0], .int .i64 3]) (by simp [results, Tryz.results13, go_sem, Kc0, Kc1, Kc2, p0, p1, p2]) rfl ?_
            exact opq_end hR ⟨by rw [er.out]; exact rfl, (by (repeat (first | exact b0 | exact Below.refl _ _ | refine Below.setCell ?_ (by first | (simp; done) | (simp; omega)) _ | refine Below.alloc ?_ (by first | (simp; done) | (simp; omega)) _)))⟩
          have er : Hid (r = .inl (mkRat (sgn false (num (byt f1))) (num (byt g1)))) := by
            show _ = _
            rw [← hr.out, hsp.out]
            rw [rmake]
            simp only [Bool.and_false, Bool.false_and]
            rw [if_neg (by decide), if_neg (by rw [byt_length, byt_length]; exact fun q => q.elim l1 l2)]
          clear hr hsp
          go_wp2_with fail
          refine (kNumber_ok _ f1 (by omega) (A1.out)).mono ?_
          rintro e w3 ⟨vN1, rfl, xN1, d0⟩
          have bz := b0.out.size
          replace K := hide (K.out.below' d0)
          replace b0 := hide (below_tr b0.out d0)
          clear d0
          have N1 := hide (xN1.mono (B' := w.heap.size) bz)
          clear xN1 bz
          obtain ⟨AN1, nN1, cN1, rfl⟩ := N1.out.slice
          go_wp2_with fail
          refine (qsigned_R (z := sgn false _) N1.out (sgn_abs false _) (sgn_neg false _)).mono ?_
          rintro e w4 ⟨AS, nS, cS, sS, rfl, d0, xS⟩
          have bz := b0.out.size
          replace N1 := hide (N1.out.below d0)
          replace K := hide (K.out.below' d0)
          replace b0 := hide (below_tr b0.out d0)
          clear d0
          have S := hide (xS.can)
          clear xS bz
          go_wp2_with fail
          refine (kNumber_ok _ g1 (by omega) (A2.out)).mono ?_
          rintro e w5 ⟨vN2, rfl, xN2, d0⟩
          have bz := b0.out.size
          replace N1 := hide (N1.out.below d0)
          replace S := hide (S.out.below d0)
          replace K := hide (K.out.below' d0)
          replace b0 := hide (below_tr b0.out d0)
          clear d0
          have N2 := hide (xN2.mono (B' := w.heap.size) bz)
          clear xN2 bz
          obtain ⟨AN2, nN2, cN2, rfl⟩ := N2.out.slice
          go_wp2_with fail
          refine (krlow_P S.out N2.out.can (by rw [sgn_abs]; exact num_L A1.out (by rw [byt_length]; omega)) (num_L A2.out (by rw [byt_length]; omega)) A3.out).mono ?_
          rintro e w6 ⟨v8, rfl, d0, x8⟩
          have bz := b0.out.size
          replace N1 := hide (N1.out.below d0)
          replace S := hide (S.out.below d0)
          replace N2 := hide (N2.out.below d0)
          replace K := hide (K.out.below' d0)
          replace b0 := hide (below_tr b0.out d0)
          clear d0
          have R8 := hide (x8.mono (B' := w.heap.size) bz)
          clear x8 bz
          obtain ⟨b8, A8, n8, c8, D8, m8, k8, rfl⟩ := R8.out.slice
          have Kc0 : w6.cell? ⟨w.heap.size, 0, none⟩ = some (.bool false) := K.out.at_ 0 rfl
          have Kc1 : w6.cell? ⟨w.heap.size, 1, none⟩ = some (.slice none 0 0) := K.out.at_ 1 rfl
          have Kc2 : w6.cell? ⟨w.heap.size, 2, none⟩ = some (.slice none 0 0) := K.out.at_ 2 rfl
          have p0 : w6.frozen? ⟨w.heap.size, 0, none⟩ = false := K.out.frozen 0
          have p1 : w6.frozen? ⟨w.heap.size, 1, none⟩ = false := K.out.frozen 1
          have p2 : w6.frozen? ⟨w.heap.size, 2, none⟩ = false := K.out.frozen 2
          go_wp2
          refine bodyPost_ret (v := .tuple #[.agg #[.bool b8, .slice A8 n8 c8, .slice D8 m8 k8], .int .i64 0]) (by simp [results, Tryz.results13, go_sem, Kc0, Kc1, Kc2, p0, p1, p2]) rfl ?_
          exact opq_end hR ⟨by rw [er.out]; exact ⟨_, rfl, R8.out.only K.out (by decide) ((((Only.refl _ _).set _ _).set _ _).set _ _)⟩, (by (repeat (first | exact b0 | exact Below.refl _ _ | refine Below.setCell ?_ (by first | (simp; done) | (simp; omega)) _ | refine Below.alloc ?_ (by first | (simp; done) | (simp; omega)) _)))⟩
        by_cases h46 : x = 46
        · have q1 : ((x : Int) == 47) = false := by simp; omega
          have q2 : ((x : Int) == 46) = true := by rw [h46]; rfl
          have q3 : ((x : Int) != 47) = true := by rw [h46]; rfl
          have q4 : ((x : Int) != 46) = false := by rw [h46]; rfl
          have hsp := hide (ks_dot (by rw [hl2.out]; exact hlt) hno.out.1 (by rw [ex.out]; exact h46))
          clear h46 h47
          have ef := byt_ext d 0 i (by omega) (by omega)
          have eg := byt_ext d (i + 1) d.size (by omega) (by omega)
          rw [List.drop_zero, Nat.sub_zero] at ef
          rw [List.take_of_length_le (by rw [List.length_drop, hl2.out]; exact Nat.le_refl _)] at eg
          rw [← ef, ← eg] at hsp
          have sf : (d.extract 0 i).size ≤ 4294967000 := by rw [← byt_length, ef, List.length_take]; omega
          have sg : (d.extract (i + 1) d.size).size ≤ 4294967000 := by rw [← byt_length, eg, List.length_drop, hl2.out]; omega
          clear ef eg
          have b0 := hbel
          have K := hK
          clear hbel hK
          go_wp2_with fail
          generalize d.extract 0 i = f1 at *
          generalize d.extract (i + 1) d.size = g1 at *
          clear q1 q2 q3 q4 hg ex hno
          cases q1 : isNum (byt f1)
          case false =>
            refine (knumber_ok _ f1 (by omega) q1).mono ?_
            rintro e w1 ⟨_, rfl, d0, rfl⟩
            have bz := b0.out.size
            replace K := hide (K.out.below' d0)
            replace b0 := hide (below_tr b0.out d0)
            clear d0
            clear bz
            have er : Hid (r = .inr 4) := by
              show _ = _
              rw [← hr.out, hsp.out]
              rw [q1]; rfl
            clear hr hsp
            have Kc0 : w1.cell? ⟨w.heap.size, 0, none⟩ = some (.bool false) := K.out.at_ 0 rfl
            have Kc1 : w1.cell? ⟨w.heap.size, 1, none⟩ = some (.slice none 0 0) := K.out.at_ 1 rfl
            have Kc2 : w1.cell? ⟨w.heap.size, 2, none⟩ = some (.slice none 0 0) := K.out.at_ 2 rfl
            have p0 : w1.frozen? ⟨w.heap.size, 0, none⟩ = false := K.out.frozen 0
            have p1 : w1.frozen? ⟨w.heap.size, 1, none⟩ = false := K.out.frozen 1
            have p2 : w1.frozen? ⟨w.heap.size, 2, none⟩ = false := K.out.frozen 2
            go_wp2
            refine bodyPost_ret (v := .tuple #[.agg #[.bool false, .slice none 0 0, .slice none 0 0], .int .i64 4]) (by simp [results, Tryz.results13, go_sem, Kc0, Kc1, Kc2, p0, p1, p2]) rfl ?_
            exact opq_end hR ⟨by rw [er.out]; exact rfl, (by (repeat (first | exact b0 | exact Below.refl _ _ | refine Below.setCell ?_ (by first | (simp; done) | (simp; omega)) _ | refine Below.alloc ?_ (by first | (simp; done) | (simp; omega)) _)))⟩
          refine (knumber_ok _ f1 (by omega) q1).mono ?_
          rintro e w1 ⟨_, rfl, d0, rfl⟩
          have bz := b0.out.size
          replace K := hide (K.out.below' d0)
          replace b0 := hide (below_tr b0.out d0)
          clear d0
          clear bz
          cases q2 : isDigs (byt g1)
          case false =>
            go_wp2_with fail
            refine (kDigits_B _ g1 (by omega) q2).mono ?_
            rintro e w2 ⟨_, rfl, d0, rfl⟩
            have bz := b0.out.size
            replace K := hide (K.out.below' d0)
            replace b0 := hide (below_tr b0.out d0)
            clear d0
            clear bz
            have er : Hid (r = .inr 4) := by
              show _ = _
              rw [← hr.out, hsp.out]
              rw [q1, q2]; rfl
            clear hr hsp
            have Kc0 : w2.cell? ⟨w.heap.size, 0, none⟩ = some (.bool false) := K.out.at_ 0 rfl
            have Kc1 : w2.cell? ⟨w.heap.size, 1, none⟩ = some (.slice none 0 0) := K.out.at_ 1 rfl
            have Kc2 : w2.cell? ⟨w.heap.size, 2, none⟩ = some (.slice none 0 0) := K.out.at_ 2 rfl
            have p0 : w2.frozen? ⟨w.heap.size, 0, none⟩ = false := K.out.frozen 0
            have p1 : w2.frozen? ⟨w.heap.size, 1, none⟩ = false := K.out.frozen 1
            have p2 : w2.frozen? ⟨w.heap.size, 2, none⟩ = false := K.out.frozen 2
            go_wp2
            refine bodyPost_ret (v := .tuple #[.agg #[.bool false, .slice none 0 0, .slice none 0 0], .int .i64 4]) (by simp [results, Tryz.results13, go_sem, Kc0, Kc1, Kc2, p0, p1, p2]) rfl ?_
            exact opq_end hR ⟨by rw [er.out]; exact rfl, (by (repeat (first | exact b0 | exact Below.refl _ _ | refine Below.setCell ?_ (by first | (simp; done) | (simp; omega)) _ | refine Below.alloc ?_ (by first | (simp; done) | (simp; omega)) _)))⟩
          go_wp2_with fail
          refine (kDigits_B _ g1 (by omega) q2).mono ?_
          rintro e w2 ⟨_, rfl, d0, rfl⟩
          have bz := b0.out.size
          replace K := hide (K.out.below' d0)
          replace b0 := hide (below_tr b0.out d0)
          clear d0
          clear bz
          have e0 : Hid (rsplit (byt d) = some (byt f1 ++ byt g1, 49 :: List.replicate (min (byt g1).length 200) 48)) := by
            show _ = _
            rw [hsp.out, q1, q2, if_pos (by decide)]
          clear hsp
          have hsp := e0
          clear e0
          have A0 := rsplit_all hsp.out
          have A1 := hide A0.1
          have A3 := hide A0.2.2
          clear A0
          have hp : 1 ≤ f1.size := by
            rcases Nat.eq_zero_or_pos f1.size with q | q
            · rw [byt_nil.2 q] at q1; cases q1
            · exact q
          replace q1 := hide q1
          replace q2 := hide q2
          by_cases l1 : 200 < f1.size + g1.size
          case pos =>
            have er : Hid (r = .inr 3) := by
              show _ = _
              rw [← hr.out, hsp.out]
              rw [rmake]
              simp only [Bool.and_false, Bool.false_and]
              rw [if_neg (by decide), if_pos (.inl (by rw [List.length_append, byt_length, byt_length]; exact l1))]
            clear hr hsp
            have Kc0 : w2.cell? ⟨w.heap.size, 0, none⟩ = some (.bool false) := K.out.at_ 0 rfl
            have Kc1 : w2.cell? ⟨w.heap.size, 1, none⟩ = some (.slice none 0 0) := K.out.at_ 1 rfl
            have Kc2 : w2.cell? ⟨w.heap.size, 2, none⟩ = some (.slice none 0 0) := K.out.at_ 2 rfl
            have p0 : w2.frozen? ⟨w.heap.size, 0, none⟩ = false := K.out.frozen 0
            have p1 : w2.frozen? ⟨w.heap.size, 1, none⟩ = false := K.out.frozen 1
            have p2 : w2.frozen? ⟨w.heap.size, 2, none⟩ = false := K.out.frozen 2
            go_wp2
            refine bodyPost_ret (v := .tuple #[.agg #[.bool false, .slice none 0 0, .slice none 0 0], .int .i64 3]) (by simp [results, Tryz.results13, go_sem, Kc0, Kc1, Kc2, p0, p1, p2]) rfl ?_
            exact opq_end hR ⟨by rw [er.out]; exact rfl, (by (repeat (first | exact b0 | exact Below.refl _ _ | refine Below.setCell ?_ (by first | (simp; done) | (simp; omega)) _ | refine Below.alloc ?_ (by first | (simp; done) | (simp; omega)) _)))⟩
          have hm : min (byt g1).length 200 = g1.size := by rw [byt_length]; omega
          rw [hm] at hsp A3
          have er : Hid (r = .inl (mkRat (sgn false (num (byt f1 ++ byt g1))) (num (49 :: List.replicate g1.size 48)))) := by
            show _ = _
            rw [← hr.out, hsp.out]
            rw [rmake]
            simp only [Bool.and_false, Bool.false_and]
            rw [if_neg (by decide), if_neg (by rw [List.length_append, byt_length, byt_length, List.length_cons, List.length_replicate]; omega)]
          clear hr hsp hm
          have A1' : Hid (∀ x ∈ byt (f1 ++ g1), isDig x = true) := by rw [byt_append]; exact A1.out
          have lf := ByteArray.size_append (a := f1) (b := g1)
          go_wp2_with fail
          refine (kNumber_ok _ (f1 ++ g1) (by rw [lf]; omega) (A1'.out)).mono ?_
          rintro e w3 ⟨vN1, rfl, xN1, d0⟩
          have bz := b0.out.size
          replace K := hide (K.out.below' d0)
          replace b0 := hide (below_tr b0.out d0)
          clear d0
          have N1 := hide (xN1.mono (B' := w.heap.size) bz)
          clear xN1 bz
          obtain ⟨AN1, nN1, cN1, rfl⟩ := N1.out.slice
          rw [byt_append] at N1
          clear A1' lf
          go_wp2
          go_loopw [10, 11] (fun tv iv wr2 => ∃ (j : Nat) (t : ByteArray), j ≤ g1.size ∧ tv = .string t ∧ iv = .int .i64 (j : Nat) ∧ Hid (byt t = 49 :: List.replicate j 48) ∧ Hid (Below w.heap.size w wr2) ∧ Hid (Blk wr2 w.heap.size 27 #[.bool false, .slice none 0 0, .slice none 0 0]) ∧ Hid (NatR (num (byt f1 ++ byt g1)) w.heap.size wr2 (.slice AN1 nN1 cN1))) (fun _ iv _ => g1.size - (intOf iv).toNat)
          case atStart => exact ⟨0, ⟨#[49]⟩, by omega, rfl, rfl, rfl, b0.out, K.out, N1.out⟩
          case round =>
            obtain ⟨j, t, hj, rfl, rfl, ht, hbel2, hK2, hN⟩ := hrel
            clear b0 K N1
            have ts : t.size = j + 1 := by rw [← byt_length, ht.out, List.length_cons, List.length_replicate]
            by_cases hlt2 : j < g1.size
            · have ht2 : Hid (byt (t ++ ⟨#[48]⟩) = 49 :: List.replicate (j + 1) 48) := by
                show _ = _
                rw [byt_append, ht.out, List.replicate_succ', List.cons_append]
                rfl
              go_wp2
              go_roundw
              case rel => exact ⟨j + 1, t ++ ⟨#[48]⟩, by omega, rfl, by go_num, ht2, hbel2, hK2, hN⟩
              case measure => simp [intOf]; omega
            · obtain rfl : j = g1.size := by omega
              have b0 := hbel2
              have K := hK2
              have N1 := hN
              clear hbel2 hK2 hN hlt2 hj
              have A2 : Hid (∀ x ∈ byt t, isDig x = true) := by
                rw [ht.out]
                intro x hx
                rcases List.mem_cons.1 hx with q | q
                · subst q; rfl
                · rw [(List.mem_replicate.1 q).2]; rfl
              rw [← ht.out] at er A3
              go_wp2_with fail
              refine (qsigned_R (z := sgn false _) N1.out (sgn_abs false _) (sgn_neg false _)).mono ?_
              rintro e w91 ⟨AS, nS, cS, sS, rfl, d0, xS⟩
              have bz := b0.out.size
              replace N1 := hide (N1.out.below d0)
              replace K := hide (K.out.below' d0)
              replace b0 := hide (below_tr b0.out d0)
              clear d0
              have S := hide (xS.can)
              clear xS bz
              go_wp2_with fail
              refine (kNumber_ok _ t (by omega) (A2.out)).mono ?_
              rintro e w92 ⟨vN2, rfl, xN2, d0⟩
              have bz := b0.out.size
              replace N1 := hide (N1.out.below d0)
              replace S := hide (S.out.below d0)
              replace K := hide (K.out.below' d0)
              replace b0 := hide (below_tr b0.out d0)
              clear d0
              have N2 := hide (xN2.mono (B' := w.heap.size) bz)
              clear xN2 bz
              obtain ⟨AN2, nN2, cN2, rfl⟩ := N2.out.slice
              go_wp2_with fail
              refine (krlow_P S.out N2.out.can (by rw [sgn_abs]; exact num_L A1.out (by rw [List.length_append, byt_length, byt_length]; omega)) (Nat.le_trans (limbs_length_le.2 (Nat.lt_of_lt_of_le (num_lt _ (dig58 A2.out)) (Nat.le_trans (Nat.pow_le_pow_right (by decide) (show (byt t).length ≤ 300 by rw [byt_length]; omega)) (Nat.pow_le_pow_left (by decide : 10 ≤ 4294967296) 300)))) (by decide)) A3.out).mono ?_
              rintro e w93 ⟨v8, rfl, d0, x8⟩
              have bz := b0.out.size
              replace N1 := hide (N1.out.below d0)
              replace S := hide (S.out.below d0)
              replace N2 := hide (N2.out.below d0)
              replace K := hide (K.out.below' d0)
              replace b0 := hide (below_tr b0.out d0)
              clear d0
              have R8 := hide (x8.mono (B' := w.heap.size) bz)
              clear x8 bz
              obtain ⟨b8, A8, n8, c8, D8, m8, k8, rfl⟩ := R8.out.slice
              have Kc0 : w93.cell? ⟨w.heap.size, 0, none⟩ = some (.bool false) := K.out.at_ 0 rfl
              have Kc1 : w93.cell? ⟨w.heap.size, 1, none⟩ = some (.slice none 0 0) := K.out.at_ 1 rfl
              have Kc2 : w93.cell? ⟨w.heap.size, 2, none⟩ = some (.slice none 0 0) := K.out.at_ 2 rfl
              have p0 : w93.frozen? ⟨w.heap.size, 0, none⟩ = false := K.out.frozen 0
              have p1 : w93.frozen? ⟨w.heap.size, 1, none⟩ = false := K.out.frozen 1
              have p2 : w93.frozen? ⟨w.heap.size, 2, none⟩ = false := K.out.frozen 2
              go_wp2
              refine bodyPost_ret (v := .tuple #[.agg #[.bool b8, .slice A8 n8 c8, .slice D8 m8 k8], .int .i64 0]) (by simp [results, Tryz.results13, go_sem, Kc0, Kc1, Kc2, p0, p1, p2]) rfl ?_
              exact opq_end hR ⟨by rw [er.out]; exact ⟨_, rfl, R8.out.only K.out (by decide) ((((Only.refl _ _).set _ _).set _ _).set _ _)⟩, (by (repeat (first | exact b0 | exact Below.refl _ _ | refine Below.setCell ?_ (by first | (simp; done) | (simp; omega)) _ | refine Below.alloc ?_ (by first | (simp; done) | (simp; omega)) _)))⟩
        · have q1 : ((x : Int) == 47) = false := by simp; omega
          have q2 : ((x : Int) == 46) = false := by simp; omega
          have q3 : ((x : Int) != 47) = true := by simp; omega
          have q4 : ((x : Int) != 46) = true := by simp; omega
          have hn : Hid (46 ∉ (byt d).take (i + 1) ∧ 47 ∉ (byt d).take (i + 1)) := by
            have hx : (byt d)[i]'(by rw [hl2.out]; exact hlt) = x := by rw [← ex.out, getD_lt (by rw [hl2.out]; exact hlt)]
            rw [List.take_succ_eq_append_getElem (by rw [hl2.out]; exact hlt), hx]
            have := hno.out
            constructor
            · simp only [List.mem_append, List.mem_singleton, not_or]; exact ⟨this.1, fun q => h46 q.symm⟩
            · simp only [List.mem_append, List.mem_singleton, not_or]; exact ⟨this.2, fun q => h47 q.symm⟩
          clear h46 h47
          go_wp2
          go_roundw
          case rel => exact ⟨i + 1, by omega, by go_num, hn, hbel, hK⟩
          case measure => simp [intOf]; omega
      · obtain rfl : i = d.size := by omega
        have ef := byt_ext d 0 d.size (by omega) (by omega)
        rw [List.drop_zero, Nat.sub_zero, List.take_of_length_le (by rw [hl2.out]; exact Nat.le_refl _)] at ef
        have hsp : Hid (rsplit (byt d) = if isNum (byt d) = true then some (byt d, [49]) else none) := by
          have hx := hno.out
          rw [List.take_of_length_le (by rw [hl2.out]; exact Nat.le_refl _)] at hx
          exact ks_end hx.1 hx.2
        have hsp2 : Hid (rsplit (byt d) = if isNum (byt d) = true then some (byt d, byt ⟨#[49]⟩) else none) := hsp
        clear hsp
        have hsp := hsp2
        clear hsp2
        clear ef
        have b0 := hbel
        have K := hK
        clear hbel hK
        go_wp2_with fail
        clear hno hlt
        cases q1 : isNum (byt d)
        case false =>
          refine (knumber_ok _ d (by omega) q1).mono ?_
          rintro e w1 ⟨_, rfl, d0, rfl⟩
          have bz := b0.out.size
          replace K := hide (K.out.below' d0)
          replace b0 := hide (below_tr b0.out d0)
          clear d0
          clear bz
          have er : Hid (r = .inr 4) := by
            show _ = _
            rw [← hr.out, hsp.out]
            rw [q1]; rfl
          clear hr hsp
          have Kc0 : w1.cell? ⟨w.heap.size, 0, none⟩ = some (.bool false) := K.out.at_ 0 rfl
          have Kc1 : w1.cell? ⟨w.heap.size, 1, none⟩ = some (.slice none 0 0) := K.out.at_ 1 rfl
          have Kc2 : w1.cell? ⟨w.heap.size, 2, none⟩ = some (.slice none 0 0) := K.out.at_ 2 rfl
          have p0 : w1.frozen? ⟨w.heap.size, 0, none⟩ = false := K.out.frozen 0
          have p1 : w1.frozen? ⟨w.heap.size, 1, none⟩ = false := K.out.frozen 1
          have p2 : w1.frozen? ⟨w.heap.size, 2, none⟩ = false := K.out.frozen 2
          go_wp2
          refine bodyPost_ret (v := .tuple #[.agg #[.bool false, .slice none 0 0, .slice none 0 0], .int .i64 4]) (by simp [results, Tryz.results13, go_sem, Kc0, Kc1, Kc2, p0, p1, p2]) rfl ?_
          exact opq_end hR ⟨by rw [er.out]; exact rfl, (by (repeat (first | exact b0 | exact Below.refl _ _ | refine Below.setCell ?_ (by first | (simp; done) | (simp; omega)) _ | refine Below.alloc ?_ (by first | (simp; done) | (simp; omega)) _)))⟩
        refine (knumber_ok _ d (by omega) q1).mono ?_
        rintro e w1 ⟨_, rfl, d0, rfl⟩
        have bz := b0.out.size
        replace K := hide (K.out.below' d0)
        replace b0 := hide (below_tr b0.out d0)
        clear d0
        clear bz
        go_wp2_with fail
        refine (knumber_ok _ ⟨#[49]⟩ (by decide) (r := true) (by decide)).mono ?_
        rintro e w2 ⟨_, rfl, d0, rfl⟩
        have bz := b0.out.size
        replace K := hide (K.out.below' d0)
        replace b0 := hide (below_tr b0.out d0)
        clear d0
        clear bz
        have e0 : Hid (rsplit (byt d) = some (byt d, byt ⟨#[49]⟩)) := by
          show _ = _
          rw [hsp.out, q1, if_pos (by decide)]
        replace q1 := hide q1
        clear hsp
        have hsp := e0
        clear e0
        have A0 := rsplit_all hsp.out
        have A1 := hide A0.1
        have A2 := hide A0.2.1
        have A3 := hide A0.2.2
        clear A0
        by_cases l1 : 200 < d.size
        case pos =>
          have er : Hid (r = .inr 3) := by
            show _ = _
            rw [← hr.out, hsp.out]
            rw [rmake]
            simp only [Bool.and_false, Bool.false_and]
            rw [if_neg (by decide), if_pos (.inl (by rw [byt_length]; exact l1))]
          clear hr hsp
          have Kc0 : w2.cell? ⟨w.heap.size, 0, none⟩ = some (.bool false) := K.out.at_ 0 rfl
          have Kc1 : w2.cell? ⟨w.heap.size, 1, none⟩ = some (.slice none 0 0) := K.out.at_ 1 rfl
          have Kc2 : w2.cell? ⟨w.heap.size, 2, none⟩ = some (.slice none 0 0) := K.out.at_ 2 rfl
          have p0 : w2.frozen? ⟨w.heap.size, 0, none⟩ = false := K.out.frozen 0
          have p1 : w2.frozen? ⟨w.heap.size, 1, none⟩ = false := K.out.frozen 1
          have p2 : w2.frozen? ⟨w.heap.size, 2, none⟩ = false := K.out.frozen 2
          go_wp2
          refine bodyPost_ret (v := .tuple #[.agg #[.bool false, .slice none 0 0, .slice none 0 0], .int .i64 3]) (by simp [results, Tryz.results13, go_sem, Kc0, Kc1, Kc2, p0, p1, p2]) rfl ?_
          exact opq_end hR ⟨by rw [er.out]; exact rfl, (by (repeat (first | exact b0 | exact Below.refl _ _ | refine Below.setCell ?_ (by first | (simp; done) | (simp; omega)) _ | refine Below.alloc ?_ (by first | (simp; done) | (simp; omega)) _)))⟩
        have er : Hid (r = .inl (mkRat (sgn false (num (byt d))) (num (byt ⟨#[49]⟩)))) := by
          show _ = _
          rw [← hr.out, hsp.out]
          rw [rmake]
          simp only [Bool.and_false, Bool.false_and]
          rw [if_neg (by decide), if_neg (by rw [byt_length, byt_length]; exact fun q => q.elim l1 (show ¬ 200 < ByteArray.size ⟨#[49]⟩ by decide))]
        clear hr hsp
        go_wp2_with fail
        refine (kNumber_ok _ d (by omega) (A1.out)).mono ?_
        rintro e w3 ⟨vN1, rfl, xN1, d0⟩
        have bz := b0.out.size
        replace K := hide (K.out.below' d0)
        replace b0 := hide (below_tr b0.out d0)
        clear d0
        have N1 := hide (xN1.mono (B' := w.heap.size) bz)
        clear xN1 bz
        obtain ⟨AN1, nN1, cN1, rfl⟩ := N1.out.slice
        go_wp2_with fail
        refine (qsigned_R (z := sgn false _) N1.out (sgn_abs false _) (sgn_neg false _)).mono ?_
        rintro e w4 ⟨AS, nS, cS, sS, rfl, d0, xS⟩
        have bz := b0.out.size
        replace N1 := hide (N1.out.below d0)
        replace K := hide (K.out.below' d0)
        replace b0 := hide (below_tr b0.out d0)
        clear d0
        have S := hide (xS.can)
        clear xS bz
        go_wp2_with fail
        refine (kNumber_ok _ ⟨#[49]⟩ (by decide) (A2.out)).mono ?_
        rintro e w5 ⟨vN2, rfl, xN2, d0⟩
        have bz := b0.out.size
        replace N1 := hide (N1.out.below d0)
        replace S := hide (S.out.below d0)
        replace K := hide (K.out.below' d0)
        replace b0 := hide (below_tr b0.out d0)
        clear d0
        have N2 := hide (xN2.mono (B' := w.heap.size) bz)
        clear xN2 bz
        obtain ⟨AN2, nN2, cN2, rfl⟩ := N2.out.slice
        go_wp2_with fail
        refine (krlow_P S.out N2.out.can (by rw [sgn_abs]; exact num_L A1.out (by rw [byt_length]; omega)) (num_L A2.out (by rw [byt_length]; decide)) A3.out).mono ?_
        rintro e w6 ⟨v8, rfl, d0, x8⟩
        have bz := b0.out.size
        replace N1 := hide (N1.out.below d0)
        replace S := hide (S.out.below d0)
        replace N2 := hide (N2.out.below d0)
        replace K := hide (K.out.below' d0)
        replace b0 := hide (below_tr b0.out d0)
        clear d0
        have R8 := hide (x8.mono (B' := w.heap.size) bz)
        clear x8 bz
        obtain ⟨b8, A8, n8, c8, D8, m8, k8, rfl⟩ := R8.out.slice
        have Kc0 : w6.cell? ⟨w.heap.size, 0, none⟩ = some (.bool false) := K.out.at_ 0 rfl
        have Kc1 : w6.cell? ⟨w.heap.size, 1, none⟩ = some (.slice none 0 0) := K.out.at_ 1 rfl
        have Kc2 : w6.cell? ⟨w.heap.size, 2, none⟩ = some (.slice none 0 0) := K.out.at_ 2 rfl
        have p0 : w6.frozen? ⟨w.heap.size, 0, none⟩ = false := K.out.frozen 0
        have p1 : w6.frozen? ⟨w.heap.size, 1, none⟩ = false := K.out.frozen 1
        have p2 : w6.frozen? ⟨w.heap.size, 2, none⟩ = false := K.out.frozen 2
        go_wp2
        refine bodyPost_ret (v := .tuple #[.agg #[.bool b8, .slice A8 n8 c8, .slice D8 m8 k8], .int .i64 0]) (by simp [results, Tryz.results13, go_sem, Kc0, Kc1, Kc2, p0, p1, p2]) rfl ?_
        exact opq_end hR ⟨by rw [er.out]; exact ⟨_, rfl, R8.out.only K.out (by decide) ((((Only.refl _ _).set _ _).set _ _).set _ _)⟩, (by (repeat (first | exact b0 | exact Below.refl _ _ | refine Below.setCell ?_ (by first | (simp; done) | (simp; omega)) _ | refine Below.alloc ?_ (by first | (simp; done) | (simp; omega)) _)))⟩
  · replace hd := hd.symm
    subst hb
    have hne : s ≠ ⟨#[]⟩ := fun q => by rw [q] at h0; exact absurd h0 (by decide)
    have hne2 : decide (s = ⟨#[]⟩) = false := by simpa using hne
    have hne4 : ¬ s.toList = [] := fun q => by
      rw [ByteArray.toList_eq, Array.toList_eq_nil_iff] at q
      exact hne (by obtain ⟨a⟩ := s; exact congrArg _ q)
    have hne5 : s.toList.isEmpty = false := by simpa using hne4
    have hc2 : ((((s[0]'h0).toNat : Nat) : Int) == 45) = true := by rw [hc]; rfl
    go_wp2
    go_loopw [5] (fun iv wr => ∃ i : Nat, i ≤ d.size ∧ iv = .int .i64 (i : Nat) ∧ Hid (46 ∉ (byt d).take i ∧ 47 ∉ (byt d).take i) ∧ Hid (Below w.heap.size w wr) ∧ Hid (Blk wr w.heap.size 27 #[.bool false, .slice none 0 0, .slice none 0 0])) (fun iv _ => d.size - (intOf iv).toNat)
    case atStart => exact ⟨0, by omega, rfl, ⟨by simp, by simp⟩, b0.out, K.out⟩
    case round =>
      obtain ⟨i, hi, rfl, hno, hbel, hK⟩ := hrel
      clear b0 K
      by_cases hlt : i < d.size
      · have hg := HG.out i hlt
        obtain ⟨x, ex⟩ : ∃ x, Hid ((byt d).getD i 0 = x) := ⟨_, hide rfl⟩
        rw [ex.out] at hg
        by_cases h47 : x = 47
        · have q1 : ((x : Int) != 47) = false := by rw [h47]; rfl
          have q2 : ((x : Int) == 46) = false := by rw [h47]; rfl
          have q3 : ((x : Int) == 47) = true := by rw [h47]; rfl
          have hsp := hide (ks_slash (by rw [hl2.out]; exact hlt) hno.out.1 hno.out.2 (by rw [ex.out]; exact h47))
          clear h47
          have ef := byt_ext d 0 i (by omega) (by omega)
          have eg := byt_ext d (i + 1) d.size (by omega) (by omega)
          rw [List.drop_zero, Nat.sub_zero] at ef
          rw [List.take_of_length_le (by rw [List.length_drop, hl2.out]; exact Nat.le_refl _)] at eg
          rw [← ef, ← eg] at hsp
          have sf : (d.extract 0 i).size ≤ 4294967000 := by rw [← byt_length, ef, List.length_take]; omega
          have sg : (d.extract (i + 1) d.size).size ≤ 4294967000 := by rw [← byt_length, eg, List.length_drop, hl2.out]; omega
          clear ef eg
          have b0 := hbel
          have K := hK
          clear hbel hK
          go_wp2_with fail
          generalize d.extract 0 i = f1 at *
          generalize d.extract (i + 1) d.size = g1 at *
          clear q1 q2 q3 hg ex hno
          cases q1 : isNum (byt f1)
          case false =>
            refine (knumber_ok _ f1 (by omega) q1).mono ?_
            rintro e w1 ⟨_, rfl, d0, rfl⟩
            have bz := b0.out.size
            replace K := hide (K.out.below' d0)
            replace b0 := hide (below_tr b0.out d0)
            clear d0
            clear bz
            have er : Hid (r = .inr 4) := by
              show _ = _
              rw [← hr.out, hsp.out]
              rw [q1]; rfl
            clear hr hsp
            have Kc0 : w1.cell? ⟨w.heap.size, 0, none⟩ = some (.bool false) := K.out.at_ 0 rfl
            have Kc1 : w1.cell? ⟨w.heap.size, 1, none⟩ = some (.slice none 0 0) := K.out.at_ 1 rfl
            have Kc2 : w1.cell? ⟨w.heap.size, 2, none⟩ = some (.slice none 0 0) := K.out.at_ 2 rfl
            have p0 : w1.frozen? ⟨w.heap.size, 0, none⟩ = false := K.out.frozen 0
            have p1 : w1.frozen? ⟨w.heap.size, 1, none⟩ = false := K.out.frozen 1
            have p2 : w1.frozen? ⟨w.heap.size, 2, none⟩ = false := K.out.frozen 2
            go_wp2
            refine bodyPost_ret (v := .tuple #[.agg #[.bool false, .slice none 0 0, .slice none 0 0], .int .i64 4]) (by simp [results, Tryz.results13, go_sem, Kc0, Kc1, Kc2, p0, p1, p2]) rfl ?_
            exact opq_end hR ⟨by rw [er.out]; exact rfl, (by (repeat (first | exact b0 | exact Below.refl _ _ | refine Below.setCell ?_ (by first | (simp; done) | (simp; omega)) _ | refine Below.alloc ?_ (by first | (simp; done) | (simp; omega)) _)))⟩
          refine (knumber_ok _ f1 (by omega) q1).mono ?_
          rintro e w1 ⟨_, rfl, d0, rfl⟩
          have bz := b0.out.size
          replace K := hide (K.out.below' d0)
          replace b0 := hide (below_tr b0.out d0)
          clear d0
          clear bz
          cases q2 : isNum (byt g1)
          case false =>
            go_wp2_with fail
            refine (knumber_ok _ g1 (by omega) q2).mono ?_
            rintro e w2 ⟨_, rfl, d0, rfl⟩
            have bz := b0.out.size
            replace K := hide (K.out.below' d0)
            replace b0 := hide (below_tr b0.out d0)
            clear d0
            clear bz
            have er : Hid (r = .inr 4) := by
              show _ = _
              rw [← hr.out, hsp.out]
              rw [q1, q2]; rfl
            clear hr hsp
            have Kc0 : w2.cell? ⟨w.heap.size, 0, none⟩ = some (.bool false) := K.out.at_ 0 rfl
            have Kc1 : w2.cell? ⟨w.heap.size, 1, none⟩ = some (.slice none 0 0) := K.out.at_ 1 rfl
            have Kc2 : w2.cell? ⟨w.heap.size, 2, none⟩ = some (.slice none 0 0) := K.out.at_ 2 rfl
            have p0 : w2.frozen? ⟨w.heap.size, 0, none⟩ = false := K.out.frozen 0
            have p1 : w2.frozen? ⟨w.heap.size, 1, none⟩ = false := K.out.frozen 1
            have p2 : w2.frozen? ⟨w.heap.size, 2, none⟩ = false := K.out.frozen 2
            go_wp2
            refine bodyPost_ret (v := .tuple #[.agg #[.bool false, .slice none 0 0, .slice none 0 0], .int .i64 4]) (by simp [results, Tryz.results13, go_sem, Kc0, Kc1, Kc2, p0, p1, p2]) rfl ?_
            exact opq_end hR ⟨by rw [er.out]; exact rfl, (by (repeat (first | exact b0 | exact Below.refl _ _ | refine Below.setCell ?_ (by first | (simp; done) | (simp; omega)) _ | refine Below.alloc ?_ (by first | (simp; done) | (simp; omega)) _)))⟩
          go_wp2_with fail
          refine (knumber_ok _ g1 (by omega) q2).mono ?_
          rintro e w2 ⟨_, rfl, d0, rfl⟩
          have bz := b0.out.size
          replace K := hide (K.out.below' d0)
          replace b0 := hide (below_tr b0.out d0)
          clear d0
          clear bz
          have st := byt_eq1 g1 48
          by_cases q3 : byt g1 = [48]
          case pos =>
            have st' : (g1.toList == [48]) = true := by rw [st]; simpa using q3
            clear st
            have er : Hid (r = .inr 4) := by
              show _ = _
              rw [← hr.out, hsp.out]
              rw [q1, q2, q3]; rfl
            clear hr hsp
            have Kc0 : w2.cell? ⟨w.heap.size, 0, none⟩ = some (.bool false) := K.out.at_ 0 rfl
            have Kc1 : w2.cell? ⟨w.heap.size, 1, none⟩ = some (.slice none 0 0) := K.out.at_ 1 rfl
            have Kc2 : w2.cell? ⟨w.heap.size, 2, none⟩ = some (.slice none 0 0) := K.out.at_ 2 rfl
            have p0 : w2.frozen? ⟨w.heap.size, 0, none⟩ = false := K.out.frozen 0
            have p1 : w2.frozen? ⟨w.heap.size, 1, none⟩ = false := K.out.frozen 1
            have p2 : w2.frozen? ⟨w.heap.size, 2, none⟩ = false := K.out.frozen 2
            go_wp2
            refine bodyPost_ret (v := .tuple #[.agg #[.bool false, .slice none 0 0, .slice none 0 0], .int .i64 4]) (by simp [results, Tryz.results13, go_sem, Kc0, Kc1, Kc2, p0, p1, p2]) rfl ?_
            exact opq_end hR ⟨by rw [er.out]; exact rfl, (by (repeat (first | exact b0 | exact Below.refl _ _ | refine Below.setCell ?_ (by first | (simp; done) | (simp; omega)) _ | refine Below.alloc ?_ (by first | (simp; done) | (simp; omega)) _)))⟩
          have st' : (g1.toList == [48]) = false := by rw [st]; simpa using q3
          clear st
          have e0 : Hid (rsplit (byt d) = some (byt f1, byt g1)) := by
            show _ = _
            rw [hsp.out, q1, q2, if_pos (by simpa using q3)]
          replace q1 := hide q1
          clear hsp
          have hsp := e0
          clear e0
          have A0 := rsplit_all hsp.out
          have A1 := hide A0.1
          have A2 := hide A0.2.1
          have A3 := hide A0.2.2
          clear A0
          have sf := byt_eq1 f1 48
          by_cases q4 : byt f1 = [48]
          case pos =>
            have sf' : (f1.toList == [48]) = true := by rw [sf]; simpa using q4
            clear sf
            have er : Hid (r = .inr 4) := by
              show _ = _
              rw [← hr.out, hsp.out]
              rw [q4]; rfl
            clear hr hsp
            have Kc0 : w2.cell? ⟨w.heap.size, 0, none⟩ = some (.bool false) := K.out.at_ 0 rfl
            have Kc1 : w2.cell? ⟨w.heap.size, 1, none⟩ = some (.slice none 0 0) := K.out.at_ 1 rfl
            have Kc2 : w2.cell? ⟨w.heap.size, 2, none⟩ = some (.slice none 0 0) := K.out.at_ 2 rfl
            have p0 : w2.frozen? ⟨w.heap.size, 0, none⟩ = false := K.out.frozen 0
            have p1 : w2.frozen? ⟨w.heap.size, 1, none⟩ = false := K.out.frozen 1
            have p2 : w2.frozen? ⟨w.heap.size, 2, none⟩ = false := K.out.frozen 2
            go_wp2
            refine bodyPost_ret (v := .tuple #[.agg #[.bool false, .slice none 0 0, .slice none 0 0], .int .i64 4]) (by simp [results, Tryz.results13, go_sem, Kc0, Kc1, Kc2, p0, p1, p2]) rfl ?_
            exact opq_end hR ⟨by rw [er.out]; exact rfl, (by (repeat (first | exact b0 | exact Below.refl _ _ | refine Below.setCell ?_ (by first | (simp; done) | (simp; omega)) _ | refine Below.alloc ?_ (by first | (simp; done) | (simp; omega)) _)))⟩
          have sf' : (f1.toList == [48]) = false := by rw [sf]; simpa using q4
          clear sf
          have n4 : Hid (num (byt f1) ≠ 0) := fun q => q4 (num_nought q1.out q)
          clear q4
          by_cases l1 : 200 < f1.size
          case pos =>
            have er : Hid (r = .inr 3) := by
              show _ = _
              rw [← hr.out, hsp.out]
              rw [rmake, show decide (num (byt f1) = 0) = false by simpa using n4.out]
              simp only [Bool.and_false, Bool.false_and]
              rw [if_neg (by decide), if_pos (.inl (by rw [byt_length]; exact l1))]
            clear hr hsp
            have Kc0 : w2.cell? ⟨w.heap.size, 0, none⟩ = some (.bool false) := K.out.at_ 0 rfl
            have Kc1 : w2.cell? ⟨w.heap.size, 1, none⟩ = some (.slice none 0 0) := K.out.at_ 1 rfl
            have Kc2 : w2.cell? ⟨w.heap.size, 2, none⟩ = some (.slice none 0 0) := K.out.at_ 2 rfl
            have p0 : w2.frozen? ⟨w.heap.size, 0, none⟩ = false := K.out.frozen 0
            have p1 : w2.frozen? ⟨w.heap.size, 1, none⟩ = false := K.out.frozen 1
            have p2 : w2.frozen? ⟨w.heap.size, 2, none⟩ = false := K.out.frozen 2
            go_wp2
            refine bodyPost_ret (v := .tuple #[.agg #[.bool false, .slice none 0 0, .slice none 0 0], .int .i64 3]) (by simp [results, Tryz.results13, go_sem, Kc0, Kc1, Kc2, p0, p1, p2]) rfl ?_
            exact opq_end hR ⟨by rw [er.out]; exact rfl, (by (repeat (first | exact b0 | exact Below.refl _ _ | refine Below.setCell ?_ (by first | (simp; done) | (simp; omega)) _ | refine Below.alloc ?_ (by first | (simp; done) | (simp; omega)) _)))⟩
          by_cases l2 : 200 < g1.size
          case pos =>
            have er : Hid (r = .inr 3) := by
              show _ = _
              rw [← hr.out, hsp.out]
              rw [rmake, show decide (num (byt f1) = 0) = false by simpa using n4.out]
              simp only [Bool.and_false, Bool.false_and]
              rw [if_neg (by decide), if_pos (.inr (by rw [byt_length]; exact l2))]
            clear hr hsp
            have Kc0 : w2.cell? ⟨w.heap.size, 0, none⟩ = some (.bool false) := K.out.at_ 0 rfl
            have Kc1 : w2.cell? ⟨w.heap.size, 1, none⟩ = some (.slice none 0 0) := K.out.at_ 1 rfl
            have Kc2 : w2.cell? ⟨w.heap.size, 2, none⟩ = some (.slice none 0 0) := K.out.at_ 2 rfl
            have p0 : w2.frozen? ⟨w.heap.size, 0, none⟩ = false := K.out.frozen 0
            have p1 : w2.frozen? ⟨w.heap.size, 1, none⟩ = false := K.out.frozen 1
            have p2 : w2.frozen? ⟨w.heap.size, 2, none⟩ = false := K.out.frozen 2
            go_wp2
            refine bodyPost_ret (v := .tuple #[.agg #[.bool false, .slice none 0 0, .slice none 0 0], .int .i64 3]) (by simp [results, Tryz.results13, go_sem, Kc0, Kc1, Kc2, p0, p1, p2]) rfl ?_
            exact opq_end hR ⟨by rw [er.out]; exact rfl, (by (repeat (first | exact b0 | exact Below.refl _ _ | refine Below.setCell ?_ (by first | (simp; done) | (simp; omega)) _ | refine Below.alloc ?_ (by first | (simp; done) | (simp; omega)) _)))⟩
          have er : Hid (r = .inl (mkRat (sgn true (num (byt f1))) (num (byt g1)))) := by
            show _ = _
            rw [← hr.out, hsp.out]
            rw [rmake, show decide (num (byt f1) = 0) = false by simpa using n4.out]
            simp only [Bool.and_false, Bool.false_and]
            rw [if_neg (by decide), if_neg (by rw [byt_length, byt_length]; exact fun q => q.elim l1 l2)]
          clear hr hsp
          go_wp2_with fail
          refine (kNumber_ok _ f1 (by omega) (A1.out)).mono ?_
          rintro e w3 ⟨vN1, rfl, xN1, d0⟩
          have bz := b0.out.size
          replace K := hide (K.out.below' d0)
          replace b0 := hide (below_tr b0.out d0)
          clear d0
          have N1 := hide (xN1.mono (B' := w.heap.size) bz)
          clear xN1 bz
          obtain ⟨AN1, nN1, cN1, rfl⟩ := N1.out.slice
          go_wp2_with fail
          refine (qsigned_R (z := sgn true _) N1.out (sgn_abs true _) (sgn_neg true _)).mono ?_
          rintro e w4 ⟨AS, nS, cS, sS, rfl, d0, xS⟩
          have bz := b0.out.size
          replace N1 := hide (N1.out.below d0)
          replace K := hide (K.out.below' d0)
          replace b0 := hide (below_tr b0.out d0)
          clear d0
          have S := hide (xS.can)
          clear xS bz
          go_wp2_with fail
          refine (kNumber_ok _ g1 (by omega) (A2.out)).mono ?_
          rintro e w5 ⟨vN2, rfl, xN2, d0⟩
          have bz := b0.out.size
          replace N1 := hide (N1.out.below d0)
          replace S := hide (S.out.below d0)
          replace K := hide (K.out.below' d0)
          replace b0 := hide (below_tr b0.out d0)
          clear d0
          have N2 := hide (xN2.mono (B' := w.heap.size) bz)
          clear xN2 bz
          obtain ⟨AN2, nN2, cN2, rfl⟩ := N2.out.slice
          go_wp2_with fail
          refine (krlow_P S.out N2.out.can (by rw [sgn_abs]; exact num_L A1.out (by rw [byt_length]; omega)) (num_L A2.out (by rw [byt_length]; omega)) A3.out).mono ?_
          rintro e w6 ⟨v8, rfl, d0, x8⟩
          have bz := b0.out.size
          replace N1 := hide (N1.out.below d0)
          replace S := hide (S.out.below d0)
          replace N2 := hide (N2.out.below d0)
          replace K := hide (K.out.below' d0)
          replace b0 := hide (below_tr b0.out d0)
          clear d0
          have R8 := hide (x8.mono (B' := w.heap.size) bz)
          clear x8 bz
          obtain ⟨b8, A8, n8, c8, D8, m8, k8, rfl⟩ := R8.out.slice
          have Kc0 : w6.cell? ⟨w.heap.size, 0, none⟩ = some (.bool false) := K.out.at_ 0 rfl
          have Kc1 : w6.cell? ⟨w.heap.size, 1, none⟩ = some (.slice none 0 0) := K.out.at_ 1 rfl
          have Kc2 : w6.cell? ⟨w.heap.size, 2, none⟩ = some (.slice none 0 0) := K.out.at_ 2 rfl
          have p0 : w6.frozen? ⟨w.heap.size, 0, none⟩ = false := K.out.frozen 0
          have p1 : w6.frozen? ⟨w.heap.size, 1, none⟩ = false := K.out.frozen 1
          have p2 : w6.frozen? ⟨w.heap.size, 2, none⟩ = false := K.out.frozen 2
          go_wp2
          refine bodyPost_ret (v := .tuple #[.agg #[.bool b8, .slice A8 n8 c8, .slice D8 m8 k8], .int .i64 0]) (by simp [results, Tryz.results13, go_sem, Kc0, Kc1, Kc2, p0, p1, p2]) rfl ?_
          exact opq_end hR ⟨by rw [er.out]; exact ⟨_, rfl, R8.out.only K.out (by decide) ((((Only.refl _ _).set _ _).set _ _).set _ _)⟩, (by (repeat (first | exact b0 | exact Below.refl _ _ | refine Below.setCell ?_ (by first | (simp; done) | (simp; omega)) _ | refine Below.alloc ?_ (by first | (simp; done) | (simp; omega)) _)))⟩
        by_cases h46 : x = 46
        · have q1 : ((x : Int) == 47) = false := by simp; omega
          have q2 : ((x : Int) == 46) = true := by rw [h46]; rfl
          have q3 : ((x : Int) != 47) = true := by rw [h46]; rfl
          have q4 : ((x : Int) != 46) = false := by rw [h46]; rfl
          have hsp := hide (ks_dot (by rw [hl2.out]; exact hlt) hno.out.1 (by rw [ex.out]; exact h46))
          clear h46 h47
          have ef := byt_ext d 0 i (by omega) (by omega)
          have eg := byt_ext d (i + 1) d.size (by omega) (by omega)
          rw [List.drop_zero, Nat.sub_zero] at ef
          rw [List.take_of_length_le (by rw [List.length_drop, hl2.out]; exact Nat.le_refl _)] at eg
          rw [← ef, ← eg] at hsp
          have sf : (d.extract 0 i).size ≤ 4294967000 := by rw [← byt_length, ef, List.length_take]; omega
          have sg : (d.extract (i + 1) d.size).size ≤ 4294967000 := by rw [← byt_length, eg, List.length_drop, hl2.out]; omega
          clear ef eg
          have b0 := hbel
          have K := hK
          clear hbel hK
          go_wp2_with fail
          generalize d.extract 0 i = f1 at *
          generalize d.extract (i + 1) d.size = g1 at *
          clear q1 q2 q3 q4 hg ex hno
          cases q1 : isNum (byt f1)
          case false =>
            refine (knumber_ok _ f1 (by omega) q1).mono ?_
            rintro e w1 ⟨_, rfl, d0, rfl⟩
            have bz := b0.out.size
            replace K := hide (K.out.below' d0)
            replace b0 := hide (below_tr b0.out d0)
            clear d0
            clear bz
            have er : Hid (r = .inr 4) := by
              show _ = _
              rw [← hr.out, hsp.out]
              rw [q1]; rfl
            clear hr hsp
            have Kc0 : w1.cell? ⟨w.heap.size, 0, none⟩ = some (.bool false) := K.out.at_ 0 rfl
            have Kc1 : w1.cell? ⟨w.heap.size, 1, none⟩ = some (.slice none 0 0) := K.out.at_ 1 rfl
            have Kc2 : w1.cell? ⟨w.heap.size, 2, none⟩ = some (.slice none 0 0) := K.out.at_ 2 rfl
            have p0 : w1.frozen? ⟨w.heap.size, 0, none⟩ = false := K.out.frozen 0
            have p1 : w1.frozen? ⟨w.heap.size, 1, none⟩ = false := K.out.frozen 1
            have p2 : w1.frozen? ⟨w.heap.size, 2, none⟩ = false := K.out.frozen 2
            go_wp2
            refine bodyPost_ret (v := .tuple #[.agg #[.bool false, .slice none 0 0, .slice none 0 0], .int .i64 4]) (by simp [results, Tryz.results13, go_sem, Kc0, Kc1, Kc2, p0, p1, p2]) rfl ?_
            exact opq_end hR ⟨by rw [er.out]; exact rfl, (by (repeat (first | exact b0 | exact Below.refl _ _ | refine Below.setCell ?_ (by first | (simp; done) | (simp; omega)) _ | refine Below.alloc ?_ (by first | (simp; done) | (simp; omega)) _)))⟩
          refine (knumber_ok _ f1 (by omega) q1).mono ?_
          rintro e w1 ⟨_, rfl, d0, rfl⟩
          have bz := b0.out.size
          replace K := hide (K.out.below' d0)
          replace b0 := hide (below_tr b0.out d0)
          clear d0
          clear bz
          cases q2 : isDigs (byt g1)
          case false =>
            go_wp2_with fail
            refine (kDigits_B _ g1 (by omega) q2).mono ?_
            rintro e w2 ⟨_, rfl, d0, rfl⟩
            have bz := b0.out.size
            replace K := hide (K.out.below' d0)
            replace b0 := hide (below_tr b0.out d0)
            clear d0
            clear bz
            have er : Hid (r = .inr 4) := by
              show _ = _
              rw [← hr.out, hsp.out]
              rw [q1, q2]; rfl
            clear hr hsp
            have Kc0 : w2.cell? ⟨w.heap.size, 0, none⟩ = some (.bool false) := K.out.at_ 0 rfl
            have Kc1 : w2.cell? ⟨w.heap.size, 1, none⟩ = some (.slice none 0 0) := K.out.at_ 1 rfl
            have Kc2 : w2.cell? ⟨w.heap.size, 2, none⟩ = some (.slice none 0 0) := K.out.at_ 2 rfl
            have p0 : w2.frozen? ⟨w.heap.size, 0, none⟩ = false := K.out.frozen 0
            have p1 : w2.frozen? ⟨w.heap.size, 1, none⟩ = false := K.out.frozen 1
            have p2 : w2.frozen? ⟨w.heap.size, 2, none⟩ = false := K.out.frozen 2
            go_wp2
            refine bodyPost_ret (v := .tuple #[.agg #[.bool false, .slice none 0 0, .slice none 0 0], .int .i64 4]) (by simp [results, Tryz.results13, go_sem, Kc0, Kc1, Kc2, p0, p1, p2]) rfl ?_
            exact opq_end hR ⟨by rw [er.out]; exact rfl, (by (repeat (first | exact b0 | exact Below.refl _ _ | refine Below.setCell ?_ (by first | (simp; done) | (simp; omega)) _ | refine Below.alloc ?_ (by first | (simp; done) | (simp; omega)) _)))⟩
          go_wp2_with fail
          refine (kDigits_B _ g1 (by omega) q2).mono ?_
          rintro e w2 ⟨_, rfl, d0, rfl⟩
          have bz := b0.out.size
          replace K := hide (K.out.below' d0)
          replace b0 := hide (below_tr b0.out d0)
          clear d0
          clear bz
          have e0 : Hid (rsplit (byt d) = some (byt f1 ++ byt g1, 49 :: List.replicate (min (byt g1).length 200) 48)) := by
            show _ = _
            rw [hsp.out, q1, q2, if_pos (by decide)]
          clear hsp
          have hsp := e0
          clear e0
          have A0 := rsplit_all hsp.out
          have A1 := hide A0.1
          have A3 := hide A0.2.2
          clear A0
          have hp : 1 ≤ f1.size := by
            rcases Nat.eq_zero_or_pos f1.size with q | q
            · rw [byt_nil.2 q] at q1; cases q1
            · exact q
          replace q1 := hide q1
          replace q2 := hide q2
          have al := all48_num A1.out
          rw [List.all_append] at al
          cases a1 : (byt f1).all (· == 48)
          case false =>
            go_wp2_with fail
            refine (knoughts_ok _ f1 (by omega) a1).mono ?_
            rintro e w3 ⟨_, rfl, d0, rfl⟩
            have bz := b0.out.size
            replace K := hide (K.out.below' d0)
            replace b0 := hide (below_tr b0.out d0)
            clear d0
            clear bz
            have n4 : Hid (num (byt f1 ++ byt g1) ≠ 0) := fun q => by rw [a1, q] at al; simp at al
            clear al a1
            by_cases l1 : 200 < f1.size + g1.size
            case pos =>
              have er : Hid (r = .inr 3) := by
                show _ = _
                rw [← hr.out, hsp.out]
                rw [rmake, show decide (num (byt f1 ++ byt g1) = 0) = false by simpa using n4.out]
                simp only [Bool.and_false, Bool.false_and]
                rw [if_neg (by decide), if_pos (.inl (by rw [List.length_append, byt_length, byt_length]; exact l1))]
              clear hr hsp
              have Kc0 : w3.cell? ⟨w.heap.size, 0, none⟩ = some (.bool false) := K.out.at_ 0 rfl
              have Kc1 : w3.cell? ⟨w.heap.size, 1, none⟩ = some (.slice none 0 0) := K.out.at_ 1 rfl
              have Kc2 : w3.cell? ⟨w.heap.size, 2, none⟩ = some (.slice none 0 0) := K.out.at_ 2 rfl
              have p0 : w3.frozen? ⟨w.heap.size, 0, none⟩ = false := K.out.frozen 0
              have p1 : w3.frozen? ⟨w.heap.size, 1, none⟩ = false := K.out.frozen 1
              have p2 : w3.frozen? ⟨w.heap.size, 2, none⟩ = false := K.out.frozen 2
              go_wp2
              refine bodyPost_ret (v := .tuple #[.agg #[.bool false, .slice none 0 0, .slice none 0 0], .int .i64 3]) (by simp [results, Tryz.results13, go_sem, Kc0, Kc1, Kc2, p0, p1, p2]) rfl ?_
              exact opq_end hR ⟨by rw [er.out]; exact rfl, (by (repeat (first | exact b0 | exact Below.refl _ _ | refine Below.setCell ?_ (by first | (simp; done) | (simp; omega)) _ | refine Below.alloc ?_ (by first | (simp; done) | (simp; omega)) _)))⟩
            have hm : min (byt g1).length 200 = g1.size := by rw [byt_length]; omega
            rw [hm] at hsp A3
            have er : Hid (r = .inl (mkRat (sgn true (num (byt f1 ++ byt g1))) (num (49 :: List.replicate g1.size 48)))) := by
              show _ = _
              rw [← hr.out, hsp.out]
              rw [rmake, show decide (num (byt f1 ++ byt g1) = 0) = false by simpa using n4.out]
              simp only [Bool.and_false, Bool.false_and]
              rw [if_neg (by decide), if_neg (by rw [List.length_append, byt_length, byt_length, List.length_cons, List.length_replicate]; omega)]
            clear hr hsp hm
            have A1' : Hid (∀ x ∈ byt (f1 ++ g1), isDig x = true) := by rw [byt_append]; exact A1.out
            have lf := ByteArray.size_append (a := f1) (b := g1)
            go_wp2_with fail
            refine (kNumber_ok _ (f1 ++ g1) (by rw [lf]; omega) (A1'.out)).mono ?_
            rintro e w4 ⟨vN1, rfl, xN1, d0⟩
            have bz := b0.out.size
            replace K := hide (K.out.below' d0)
            replace b0 := hide (below_tr b0.out d0)
            clear d0
            have N1 := hide (xN1.mono (B' := w.heap.size) bz)
            clear xN1 bz
            obtain ⟨AN1, nN1, cN1, rfl⟩ := N1.out.slice
            rw [byt_append] at N1
            clear A1' lf
            go_wp2
            go_loopw [10, 11] (fun tv iv wr2 => ∃ (j : Nat) (t : ByteArray), j ≤ g1.size ∧ tv = .string t ∧ iv = .int .i64 (j : Nat) ∧ Hid (byt t = 49 :: List.replicate j 48) ∧ Hid (Below w.heap.size w wr2) ∧ Hid (Blk wr2 w.heap.size 27 #[.bool false, .slice none 0 0, .slice none 0 0]) ∧ Hid (NatR (num (byt f1 ++ byt g1)) w.heap.size wr2 (.slice AN1 nN1 cN1))) (fun _ iv _ => g1.size - (intOf iv).toNat)
            case atStart => exact ⟨0, ⟨#[49]⟩, by omega, rfl, rfl, rfl, b0.out, K.out, N1.out⟩
            case round =>
              obtain ⟨j, t, hj, rfl, rfl, ht, hbel2, hK2, hN⟩ := hrel
              clear b0 K N1
              have ts : t.size = j + 1 := by rw [← byt_length, ht.out, List.length_cons, List.length_replicate]
              by_cases hlt2 : j < g1.size
              · have ht2 : Hid (byt (t ++ ⟨#[48]⟩) = 49 :: List.replicate (j + 1) 48) := by
                  show _ = _
                  rw [byt_append, ht.out, List.replicate_succ', List.cons_append]
                  rfl
                go_wp2
                go_roundw
                case rel => exact ⟨j + 1, t ++ ⟨#[48]⟩, by omega, rfl, by go_num, ht2, hbel2, hK2, hN⟩
                case measure => simp [intOf]; omega
              · obtain rfl : j = g1.size := by omega
                have b0 := hbel2
                have K := hK2
                have N1 := hN
                clear hbel2 hK2 hN hlt2 hj
                have A2 : Hid (∀ x ∈ byt t, isDig x = true) := by
                  rw [ht.out]
                  intro x hx
                  rcases List.mem_cons.1 hx with q | q
                  · subst q; rfl
                  · rw [(List.mem_replicate.1 q).2]; rfl
                rw [← ht.out] at er A3
                go_wp2_with fail
                refine (qsigned_R (z := sgn true _) N1.out (sgn_abs true _) (sgn_neg true _)).mono ?_
                rintro e w91 ⟨AS, nS, cS, sS, rfl, d0, xS⟩
                have bz := b0.out.size
                replace N1 := hide (N1.out.below d0)
                replace K := hide (K.out.below' d0)
                replace b0 := hide (below_tr b0.out d0)
                clear d0
                have S := hide (xS.can)
                clear xS bz
                go_wp2_with fail
                refine (kNumber_ok _ t (by omega) (A2.out)).mono ?_
                rintro e w92 ⟨vN2, rfl, xN2, d0⟩
                have bz := b0.out.size
                replace N1 := hide (N1.out.below d0)
                replace S := hide (S.out.below d0)
                replace K := hide (K.out.below' d0)
                replace b0 := hide (below_tr b0.out d0)
                clear d0
                have N2 := hide (xN2.mono (B' := w.heap.size) bz)
                clear xN2 bz
                obtain ⟨AN2, nN2, cN2, rfl⟩ := N2.out.slice
                go_wp2_with fail
                refine (krlow_P S.out N2.out.can (by rw [sgn_abs]; exact num_L A1.out (by rw [List.length_append, byt_length, byt_length]; omega)) (Nat.le_trans (limbs_length_le.2 (Nat.lt_of_lt_of_le (num_lt _ (dig58 A2.out)) (Nat.le_trans (Nat.pow_le_pow_right (by decide) (show (byt t).length ≤ 300 by rw [byt_length]; omega)) (Nat.pow_le_pow_left (by decide : 10 ≤ 4294967296) 300)))) (by decide)) A3.out).mono ?_
                rintro e w93 ⟨v8, rfl, d0, x8⟩
                have bz := b0.out.size
                replace N1 := hide (N1.out.below d0)
                replace S := hide (S.out.below d0)
                replace N2 := hide (N2.out.below d0)
                replace K := hide (K.out.below' d0)
                replace b0 := hide (below_tr b0.out d0)
                clear d0
                have R8 := hide (x8.mono (B' := w.heap.size) bz)
                clear x8 bz
                obtain ⟨b8, A8, n8, c8, D8, m8, k8, rfl⟩ := R8.out.slice
                have Kc0 : w93.cell? ⟨w.heap.size, 0, none⟩ = some (.bool false) := K.out.at_ 0 rfl
                have Kc1 : w93.cell? ⟨w.heap.size, 1, none⟩ = some (.slice none 0 0) := K.out.at_ 1 rfl
                have Kc2 : w93.cell? ⟨w.heap.size, 2, none⟩ = some (.slice none 0 0) := K.out.at_ 2 rfl
                have p0 : w93.frozen? ⟨w.heap.size, 0, none⟩ = false := K.out.frozen 0
                have p1 : w93.frozen? ⟨w.heap.size, 1, none⟩ = false := K.out.frozen 1
                have p2 : w93.frozen? ⟨w.heap.size, 2, none⟩ = false := K.out.frozen 2
                go_wp2
                refine bodyPost_ret (v := .tuple #[.agg #[.bool b8, .slice A8 n8 c8, .slice D8 m8 k8], .int .i64 0]) (by simp [results, Tryz.results13, go_sem, Kc0, Kc1, Kc2, p0, p1, p2]) rfl ?_
                exact opq_end hR ⟨by rw [er.out]; exact ⟨_, rfl, R8.out.only K.out (by decide) ((((Only.refl _ _).set _ _).set _ _).set _ _)⟩, (by (repeat (first | exact b0 | exact Below.refl _ _ | refine Below.setCell ?_ (by first | (simp; done) | (simp; omega)) _ | refine Below.alloc ?_ (by first | (simp; done) | (simp; omega)) _)))⟩
          go_wp2_with fail
          refine (knoughts_ok _ f1 (by omega) a1).mono ?_
          rintro e w3 ⟨_, rfl, d0, rfl⟩
          have bz := b0.out.size
          replace K := hide (K.out.below' d0)
          replace b0 := hide (below_tr b0.out d0)
          clear d0
          clear bz
          cases a2 : (byt g1).all (· == 48)
          case true =>
            go_wp2_with fail
            refine (knoughts_ok _ g1 (by omega) a2).mono ?_
            rintro e w4 ⟨_, rfl, d0, rfl⟩
            have bz := b0.out.size
            replace K := hide (K.out.below' d0)
            replace b0 := hide (below_tr b0.out d0)
            clear d0
            clear bz
            have n4 : Hid (decide (num (byt f1 ++ byt g1) = 0) = true) := by rw [← al, a1, a2]; rfl
            clear al a1 a2
            have er : Hid (r = .inr 4) := by
              show _ = _
              rw [← hr.out, hsp.out]
              rw [rmake, n4.out]; rfl
            clear hr hsp
            have Kc0 : w4.cell? ⟨w.heap.size, 0, none⟩ = some (.bool false) := K.out.at_ 0 rfl
            have Kc1 : w4.cell? ⟨w.heap.size, 1, none⟩ = some (.slice none 0 0) := K.out.at_ 1 rfl
            have Kc2 : w4.cell? ⟨w.heap.size, 2, none⟩ = some (.slice none 0 0) := K.out.at_ 2 rfl
            have p0 : w4.frozen? ⟨w.heap.size, 0, none⟩ = false := K.out.frozen 0
            have p1 : w4.frozen? ⟨w.heap.size, 1, none⟩ = false := K.out.frozen 1
            have p2 : w4.frozen? ⟨w.heap.size, 2, none⟩ = false := K.out.frozen 2
            go_wp2
            refine bodyPost_ret (v := .tuple #[.agg #[.bool false, .slice none 0 0, .slice none 0 0], .int .i64 4]) (by simp [results, Tryz.results13, go_sem, Kc0, Kc1, Kc2, p0, p1, p2]) rfl ?_
            exact opq_end hR ⟨by rw [er.out]; exact rfl, (by (repeat (first | exact b0 | exact Below.refl _ _ | refine Below.setCell ?_ (by first | (simp; done) | (simp; omega)) _ | refine Below.alloc ?_ (by first | (simp; done) | (simp; omega)) _)))⟩
          go_wp2_with fail
          refine (knoughts_ok _ g1 (by omega) a2).mono ?_
          rintro e w4 ⟨_, rfl, d0, rfl⟩
          have bz := b0.out.size
          replace K := hide (K.out.below' d0)
          replace b0 := hide (below_tr b0.out d0)
          clear d0
          clear bz
          have n4 : Hid (num (byt f1 ++ byt g1) ≠ 0) := fun q => by rw [a1, a2, q] at al; simp at al
          clear al a1 a2
          by_cases l1 : 200 < f1.size + g1.size
          case pos =>
            have er : Hid (r = .inr 3) := by
              show _ = _
              rw [← hr.out, hsp.out]
              rw [rmake, show decide (num (byt f1 ++ byt g1) = 0) = false by simpa using n4.out]
              simp only [Bool.and_false, Bool.false_and]
              rw [if_neg (by decide), if_pos (.inl (by rw [List.length_append, byt_length, byt_length]; exact l1))]
            clear hr hsp
            have Kc0 : w4.cell? ⟨w.heap.size, 0, none⟩ = some (.bool false) := K.out.at_ 0 rfl
            have Kc1 : w4.cell? ⟨w.heap.size, 1, none⟩ = some (.slice none 0 0) := K.out.at_ 1 rfl
            have Kc2 : w4.cell? ⟨w.heap.size, 2, none⟩ = some (.slice none 0 0) := K.out.at_ 2 rfl
            have p0 : w4.frozen? ⟨w.heap.size, 0, none⟩ = false := K.out.frozen 0
            have p1 : w4.frozen? ⟨w.heap.size, 1, none⟩ = false := K.out.frozen 1
            have p2 : w4.frozen? ⟨w.heap.size, 2, none⟩ = false := K.out.frozen 2
            go_wp2
            refine bodyPost_ret (v := .tuple #[.agg #[.bool false, .slice none 0 0, .slice none 0 0], .int .i64 3]) (by simp [results, Tryz.results13, go_sem, Kc0, Kc1, Kc2, p0, p1, p2]) rfl ?_
            exact opq_end hR ⟨by rw [er.out]; exact rfl, (by (repeat (first | exact b0 | exact Below.refl _ _ | refine Below.setCell ?_ (by first | (simp; done) | (simp; omega)) _ | refine Below.alloc ?_ (by first | (simp; done) | (simp; omega)) _)))⟩
          have hm : min (byt g1).length 200 = g1.size := by rw [byt_length]; omega
          rw [hm] at hsp A3
          have er : Hid (r = .inl (mkRat (sgn true (num (byt f1 ++ byt g1))) (num (49 :: List.replicate g1.size 48)))) := by
            show _ = _
            rw [← hr.out, hsp.out]
            rw [rmake, show decide (num (byt f1 ++ byt g1) = 0) = false by simpa using n4.out]
            simp only [Bool.and_false, Bool.false_and]
            rw [if_neg (by decide), if_neg (by rw [List.length_append, byt_length, byt_length, List.length_cons, List.length_replicate]; omega)]
          clear hr hsp hm
          have A1' : Hid (∀ x ∈ byt (f1 ++ g1), isDig x = true) := by rw [byt_append]; exact A1.out
          have lf := ByteArray.size_append (a := f1) (b := g1)
          go_wp2_with fail
          refine (kNumber_ok _ (f1 ++ g1) (by rw [lf]; omega) (A1'.out)).mono ?_
          rintro e w5 ⟨vN1, rfl, xN1, d0⟩
          have bz := b0.out.size
          replace K := hide (K.out.below' d0)
          replace b0 := hide (below_tr b0.out d0)
          clear d0
          have N1 := hide (xN1.mono (B' := w.heap.size) bz)
          clear xN1 bz
          obtain ⟨AN1, nN1, cN1, rfl⟩ := N1.out.slice
          rw [byt_append] at N1
          clear A1' lf
          go_wp2
          go_loopw [10, 11] (fun tv iv wr2 => ∃ (j : Nat) (t : ByteArray), j ≤ g1.size ∧ tv = .string t ∧ iv = .int .i64 (j : Nat) ∧ Hid (byt t = 49 :: List.replicate j 48) ∧ Hid (Below w.heap.size w wr2) ∧ Hid (Blk wr2 w.heap.size 27 #[.bool false, .slice none 0 0, .slice none 0 0]) ∧ Hid (NatR (num (byt f1 ++ byt g1)) w.heap.size wr2 (.slice AN1 nN1 cN1))) (fun _ iv _ => g1.size - (intOf iv).toNat)
          case atStart => exact ⟨0, ⟨#[49]⟩, by omega, rfl, rfl, rfl, b0.out, K.out, N1.out⟩
          case round =>
            obtain ⟨j, t, hj, rfl, rfl, ht, hbel2, hK2, hN⟩ := hrel
            clear b0 K N1
            have ts : t.size = j + 1 := by rw [← byt_length, ht.out, List.length_cons, List.length_replicate]
            by_cases hlt2 : j < g1.size
            · have ht2 : Hid (byt (t ++ ⟨#[48]⟩) = 49 :: List.replicate (j + 1) 48) := by
                show _ = _
                rw [byt_append, ht.out, List.replicate_succ', List.cons_append]
                rfl
              go_wp2
              go_roundw
              case rel => exact ⟨j + 1, t ++ ⟨#[48]⟩, by omega, rfl, by go_num, ht2, hbel2, hK2, hN⟩
              case measure => simp [intOf]; omega
            · obtain rfl : j = g1.size := by omega
              have b0 := hbel2
              have K := hK2
              have N1 := hN
              clear hbel2 hK2 hN hlt2 hj
              have A2 : Hid (∀ x ∈ byt t, isDig x = true) := by
                rw [ht.out]
                intro x hx
                rcases List.mem_cons.1 hx with q | q
                · subst q; rfl
                · rw [(List.mem_replicate.1 q).2]; rfl
              rw [← ht.out] at er A3
              go_wp2_with fail
              refine (qsigned_R (z := sgn true _) N1.out (sgn_abs true _) (sgn_neg true _)).mono ?_
              rintro e w91 ⟨AS, nS, cS, sS, rfl, d0, xS⟩
              have bz := b0.out.size
              replace N1 := hide (N1.out.below d0)
              replace K := hide (K.out.below' d0)
              replace b0 := hide (below_tr b0.out d0)
              clear d0
              have S := hide (xS.can)
              clear xS bz
              go_wp2_with fail
              refine (kNumber_ok _ t (by omega) (A2.out)).mono ?_
              rintro e w92 ⟨vN2, rfl, xN2, d0⟩
              have bz := b0.out.size
              replace N1 := hide (N1.out.below d0)
              replace S := hide (S.out.below d0)
              replace K := hide (K.out.below' d0)
              replace b0 := hide (below_tr b0.out d0)
              clear d0
              have N2 := hide (xN2.mono (B' := w.heap.size) bz)
              clear xN2 bz
              obtain ⟨AN2, nN2, cN2, rfl⟩ := N2.out.slice
              go_wp2_with fail
              refine (krlow_P S.out N2.out.can (by rw [sgn_abs]; exact num_L A1.out (by rw [List.length_append, byt_length, byt_length]; omega)) (Nat.le_trans (limbs_length_le.2 (Nat.lt_of_lt_of_le (num_lt _ (dig58 A2.out)) (Nat.le_trans (Nat.pow_le_pow_right (by decide) (show (byt t).length ≤ 300 by rw [byt_length]; omega)) (Nat.pow_le_pow_left (by decide : 10 ≤ 4294967296) 300)))) (by decide)) A3.out).mono ?_
              rintro e w93 ⟨v8, rfl, d0, x8⟩
              have bz := b0.out.size
              replace N1 := hide (N1.out.below d0)
              replace S := hide (S.out.below d0)
              replace N2 := hide (N2.out.below d0)
              replace K := hide (K.out.below' d0)
              replace b0 := hide (below_tr b0.out d0)
              clear d0
              have R8 := hide (x8.mono (B' := w.heap.size) bz)
              clear x8 bz
              obtain ⟨b8, A8, n8, c8, D8, m8, k8, rfl⟩ := R8.out.slice
              have Kc0 : w93.cell? ⟨w.heap.size, 0, none⟩ = some (.bool false) := K.out.at_ 0 rfl
              have Kc1 : w93.cell? ⟨w.heap.size, 1, none⟩ = some (.slice none 0 0) := K.out.at_ 1 rfl
              have Kc2 : w93.cell? ⟨w.heap.size, 2, none⟩ = some (.slice none 0 0) := K.out.at_ 2 rfl
              have p0 : w93.frozen? ⟨w.heap.size, 0, none⟩ = false := K.out.frozen 0
              have p1 : w93.frozen? ⟨w.heap.size, 1, none⟩ = false := K.out.frozen 1
              have p2 : w93.frozen? ⟨w.heap.size, 2, none⟩ = false := K.out.frozen 2
              go_wp2
              refine bodyPost_ret (v := .tuple #[.agg #[.bool b8, .slice A8 n8 c8, .slice D8 m8 k8], .int .i64 0]) (by simp [results, Tryz.results13, go_sem, Kc0, Kc1, Kc2, p0, p1, p2]) rfl ?_
              exact opq_end hR ⟨by rw [er.out]; exact ⟨_, rfl, R8.out.only K.out (by decide) ((((Only.refl _ _).set _ _).set _ _).set _ _)⟩, (by (repeat (first | exact b0 | exact Below.refl _ _ | refine Below.setCell ?_ (by first | (simp; done) | (simp; omega)) _ | refine Below.alloc ?_ (by first | (simp; done) | (simp; omega)) _)))⟩
        · have q1 : ((x : Int) == 47) = false := by simp; omega
          have q2 : ((x : Int) == 46) = false := by simp; omega
          have q3 : ((x : Int) != 47) = true := by simp; omega
          have q4 : ((x : Int) != 46) = true := by simp; omega
          have hn : Hid (46 ∉ (byt d).take (i + 1) ∧ 47 ∉ (byt d).take (i + 1)) := by
            have hx : (byt d)[i]'(by rw [hl2.out]; exact hlt) = x := by rw [← ex.out, getD_lt (by rw [hl2.out]; exact hlt)]
            rw [List.take_succ_eq_append_getElem (by rw [hl2.out]; exact hlt), hx]
            have := hno.out
            constructor
            · simp only [List.mem_append, List.mem_singleton, not_or]; exact ⟨this.1, fun q => h46 q.symm⟩
            · simp only [List.mem_append, List.mem_singleton, not_or]; exact ⟨this.2, fun q => h47 q.symm⟩
          clear h46 h47
          go_wp2
          go_roundw
          case rel => exact ⟨i + 1, by omega, by go_num, hn, hbel, hK⟩
          case measure => simp [intOf]; omega
      · obtain rfl : i = d.size := by omega
        have ef := byt_ext d 0 d.size (by omega) (by omega)
        rw [List.drop_zero, Nat.sub_zero, List.take_of_length_le (by rw [hl2.out]; exact Nat.le_refl _)] at ef
        have hsp : Hid (rsplit (byt d) = if isNum (byt d) = true then some (byt d, [49]) else none) := by
          have hx := hno.out
          rw [List.take_of_length_le (by rw [hl2.out]; exact Nat.le_refl _)] at hx
          exact ks_end hx.1 hx.2
        have hsp2 : Hid (rsplit (byt d) = if isNum (byt d) = true then some (byt d, byt ⟨#[49]⟩) else none) := hsp
        clear hsp
        have hsp := hsp2
        clear hsp2
        clear ef
        have b0 := hbel
        have K := hK
        clear hbel hK
        go_wp2_with fail
        clear hno hlt
        cases q1 : isNum (byt d)
        case false =>
          refine (knumber_ok _ d (by omega) q1).mono ?_
          rintro e w1 ⟨_, rfl, d0, rfl⟩
          have bz := b0.out.size
          replace K := hide (K.out.below' d0)
          replace b0 := hide (below_tr b0.out d0)
          clear d0
          clear bz
          have er : Hid (r = .inr 4) := by
            show _ = _
            rw [← hr.out, hsp.out]
            rw [q1]; rfl
          clear hr hsp
          have Kc0 : w1.cell? ⟨w.heap.size, 0, none⟩ = some (.bool false) := K.out.at_ 0 rfl
          have Kc1 : w1.cell? ⟨w.heap.size, 1, none⟩ = some (.slice none 0 0) := K.out.at_ 1 rfl
          have Kc2 : w1.cell? ⟨w.heap.size, 2, none⟩ = some (.slice none 0 0) := K.out.at_ 2 rfl
          have p0 : w1.frozen? ⟨w.heap.size, 0, none⟩ = false := K.out.frozen 0
          have p1 : w1.frozen? ⟨w.heap.size, 1, none⟩ = false := K.out.frozen 1
          have p2 : w1.frozen? ⟨w.heap.size, 2, none⟩ = false := K.out.frozen 2
          go_wp2
          refine bodyPost_ret (v := .tuple #[.agg #[.bool false, .slice none 0 0, .slice none 0 0], .int .i64 4]) (by simp [results, Tryz.results13, go_sem, Kc0, Kc1, Kc2, p0, p1, p2]) rfl ?_
          exact opq_end hR ⟨by rw [er.out]; exact rfl, (by (repeat (first | exact b0 | exact Below.refl _ _ | refine Below.setCell ?_ (by first | (simp; done) | (simp; omega)) _ | refine Below.alloc ?_ (by first | (simp; done) | (simp; omega)) _)))⟩
        refine (knumber_ok _ d (by omega) q1).mono ?_
        rintro e w1 ⟨_, rfl, d0, rfl⟩
        have bz := b0.out.size
        replace K := hide (K.out.below' d0)
        replace b0 := hide (below_tr b0.out d0)
        clear d0
        clear bz
        go_wp2_with fail
        refine (knumber_ok _ ⟨#[49]⟩ (by decide) (r := true) (by decide)).mono ?_
        rintro e w2 ⟨_, rfl, d0, rfl⟩
        have bz := b0.out.size
        replace K := hide (K.out.below' d0)
        replace b0 := hide (below_tr b0.out d0)
        clear d0
        clear bz
        have e0 : Hid (rsplit (byt d) = some (byt d, byt ⟨#[49]⟩)) := by
          show _ = _
          rw [hsp.out, q1, if_pos (by decide)]
        replace q1 := hide q1
        clear hsp
        have hsp := e0
        clear e0
        have A0 := rsplit_all hsp.out
        have A1 := hide A0.1
        have A2 := hide A0.2.1
        have A3 := hide A0.2.2
        clear A0
        have sf := byt_eq1 d 48
        by_cases q4 : byt d = [48]
        case pos =>
          have sf' : (d.toList == [48]) = true := by rw [sf]; simpa using q4
          clear sf
          have er : Hid (r = .inr 4) := by
            show _ = _
            rw [← hr.out, hsp.out]
            rw [q4]; rfl
          clear hr hsp
          have Kc0 : w2.cell? ⟨w.heap.size, 0, none⟩ = some (.bool false) := K.out.at_ 0 rfl
          have Kc1 : w2.cell? ⟨w.heap.size, 1, none⟩ = some (.slice none 0 0) := K.out.at_ 1 rfl
          have Kc2 : w2.cell? ⟨w.heap.size, 2, none⟩ = some (.slice none 0 0) := K.out.at_ 2 rfl
          have p0 : w2.frozen? ⟨w.heap.size, 0, none⟩ = false := K.out.frozen 0
          have p1 : w2.frozen? ⟨w.heap.size, 1, none⟩ = false := K.out.frozen 1
          have p2 : w2.frozen? ⟨w.heap.size, 2, none⟩ = false := K.out.frozen 2
          go_wp2
          refine bodyPost_ret (v := .tuple #[.agg #[.bool false, .slice none 0 0, .slice none 0 0], .int .i64 4]) (by simp [results, Tryz.results13, go_sem, Kc0, Kc1, Kc2, p0, p1, p2]) rfl ?_
          exact opq_end hR ⟨by rw [er.out]; exact rfl, (by (repeat (first | exact b0 | exact Below.refl _ _ | refine Below.setCell ?_ (by first | (simp; done) | (simp; omega)) _ | refine Below.alloc ?_ (by first | (simp; done) | (simp; omega)) _)))⟩
        have sf' : (d.toList == [48]) = false := by rw [sf]; simpa using q4
        clear sf
        have n4 : Hid (num (byt d) ≠ 0) := fun q => q4 (num_nought q1.out q)
        clear q4
        by_cases l1 : 200 < d.size
        case pos =>
          have er : Hid (r = .inr 3) := by
            show _ = _
            rw [← hr.out, hsp.out]
            rw [rmake, show decide (num (byt d) = 0) = false by simpa using n4.out]
            simp only [Bool.and_false, Bool.false_and]
            rw [if_neg (by decide), if_pos (.inl (by rw [byt_length]; exact l1))]
          clear hr hsp
          have Kc0 : w2.cell? ⟨w.heap.size, 0, none⟩ = some (.bool false) := K.out.at_ 0 rfl
          have Kc1 : w2.cell? ⟨w.heap.size, 1, none⟩ = some (.slice none 0 0) := K.out.at_ 1 rfl
          have Kc2 : w2.cell? ⟨w.heap.size, 2, none⟩ = some (.slice none 0 0) := K.out.at_ 2 rfl
          have p0 : w2.frozen? ⟨w.heap.size, 0, none⟩ = false := K.out.frozen 0
          have p1 : w2.frozen? ⟨w.heap.size, 1, none⟩ = false := K.out.frozen 1
          have p2 : w2.frozen? ⟨w.heap.size, 2, none⟩ = false := K.out.frozen 2
          go_wp2
          refine bodyPost_ret (v := .tuple #[.agg #[.bool false, .slice none 0 0, .slice none 0 0], .int .i64 3]) (by simp [results, Tryz.results13, go_sem, Kc0, Kc1, Kc2, p0, p1, p2]) rfl ?_
          exact opq_end hR ⟨by rw [er.out]; exact rfl, (by (repeat (first | exact b0 | exact Below.refl _ _ | refine Below.setCell ?_ (by first | (simp; done) | (simp; omega)) _ | refine Below.alloc ?_ (by first | (simp; done) | (simp; omega)) _)))⟩
        have er : Hid (r = .inl (mkRat (sgn true (num (byt d))) (num (byt ⟨#[49]⟩)))) := by
          show _ = _
          rw [← hr.out, hsp.out]
          rw [rmake, show decide (num (byt d) = 0) = false by simpa using n4.out]
          simp only [Bool.and_false, Bool.false_and]
          rw [if_neg (by decide), if_neg (by rw [byt_length, byt_length]; exact fun q => q.elim l1 (show ¬ 200 < ByteArray.size ⟨#[49]⟩ by decide))]
        clear hr hsp
        go_wp2_with fail
        refine (kNumber_ok _ d (by omega) (A1.out)).mono ?_
        rintro e w3 ⟨vN1, rfl, xN1, d0⟩
        have bz := b0.out.size
        replace K := hide (K.out.below' d0)
        replace b0 := hide (below_tr b0.out d0)
        clear d0
        have N1 := hide (xN1.mono (B' := w.heap.size) bz)
        clear xN1 bz
        obtain ⟨AN1, nN1, cN1, rfl⟩ := N1.out.slice
        go_wp2_with fail
        refine (qsigned_R (z := sgn true _) N1.out (sgn_abs true _) (sgn_neg true _)).mono ?_
        rintro e w4 ⟨AS, nS, cS, sS, rfl, d0, xS⟩
        have bz := b0.out.size
        replace N1 := hide (N1.out.below d0)
        replace K := hide (K.out.below' d0)
        replace b0 := hide (below_tr b0.out d0)
        clear d0
        have S := hide (xS.can)
        clear xS bz
        go_wp2_with fail
        refine (kNumber_ok _ ⟨#[49]⟩ (by decide) (A2.out)).mono ?_
        rintro e w5 ⟨vN2, rfl, xN2, d0⟩
        have bz := b0.out.size
        replace N1 := hide (N1.out.below d0)
        replace S := hide (S.out.below d0)
        replace K := hide (K.out.below' d0)
        replace b0 := hide (below_tr b0.out d0)
        clear d0
        have N2 := hide (xN2.mono (B' := w.heap.size) bz)
        clear xN2 bz
        obtain ⟨AN2, nN2, cN2, rfl⟩ := N2.out.slice
        go_wp2_with fail
        refine (krlow_P S.out N2.out.can (by rw [sgn_abs]; exact num_L A1.out (by rw [byt_length]; omega)) (num_L A2.out (by rw [byt_length]; decide)) A3.out).mono ?_
        rintro e w6 ⟨v8, rfl, d0, x8⟩
        have bz := b0.out.size
        replace N1 := hide (N1.out.below d0)
        replace S := hide (S.out.below d0)
        replace N2 := hide (N2.out.below d0)
        replace K := hide (K.out.below' d0)
        replace b0 := hide (below_tr b0.out d0)
        clear d0
        have R8 := hide (x8.mono (B' := w.heap.size) bz)
        clear x8 bz
        obtain ⟨b8, A8, n8, c8, D8, m8, k8, rfl⟩ := R8.out.slice
        have Kc0 : w6.cell? ⟨w.heap.size, 0, none⟩ = some (.bool false) := K.out.at_ 0 rfl
        have Kc1 : w6.cell? ⟨w.heap.size, 1, none⟩ = some (.slice none 0 0) := K.out.at_ 1 rfl
        have Kc2 : w6.cell? ⟨w.heap.size, 2, none⟩ = some (.slice none 0 0) := K.out.at_ 2 rfl
        have p0 : w6.frozen? ⟨w.heap.size, 0, none⟩ = false := K.out.frozen 0
        have p1 : w6.frozen? ⟨w.heap.size, 1, none⟩ = false := K.out.frozen 1
        have p2 : w6.frozen? ⟨w.heap.size, 2, none⟩ = false := K.out.frozen 2
        go_wp2
        refine bodyPost_ret (v := .tuple #[.agg #[.bool b8, .slice A8 n8 c8, .slice D8 m8 k8], .int .i64 0]) (by simp [results, Tryz.results13, go_sem, Kc0, Kc1, Kc2, p0, p1, p2]) rfl ?_
        exact opq_end hR ⟨by rw [er.out]; exact ⟨_, rfl, R8.out.only K.out (by decide) ((((Only.refl _ _).set _ _).set _ _).set _ _)⟩, (by (repeat (first | exact b0 | exact Below.refl _ _ | refine Below.setCell ?_ (by first | (simp; done) | (simp; omega)) _ | refine Below.alloc ?_ (by first | (simp; done) | (simp; omega)) _)))⟩
end Go.Proofs.YtkefmeddnncacaaGreatDoor
