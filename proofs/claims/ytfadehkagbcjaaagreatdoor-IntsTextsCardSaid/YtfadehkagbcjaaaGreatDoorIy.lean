/- ints: Parse. -/
import Derived.Test.YtfadehkagbcjaaaGreatDoorIA
set_option linter.unusedVariables false
set_option linter.unusedSimpArgs false
set_option maxRecDepth 100000
namespace Go.Proofs.YtfadehkagbcjaaaGreatDoor
open Go.RowKit

set_option maxHeartbeats 1000000 in
theorem iParse_ok (w : World) (s : ByteArray) (hs : s.size ≤ 9223372036854775807) :
    Calls Tryz.prog 99 #[.string s] w fun e w' =>
      (if isNum (isgn (byt s)).2 = true then
        if (isgn (byt s)).2.length ≤ 200 then
          if (isgn (byt s)).1 = true ∧ num (isgn (byt s)).2 = 0 then e = .returned (.tuple #[.agg #[.bool false, .slice none 0 0], .int .i64 4])
          else ∃ v, e = .returned (.tuple #[v, .int .i64 0]) ∧ IntR (sgn (isgn (byt s)).1 (num (isgn (byt s)).2)) w.heap.size w' v
        else e = .returned (.tuple #[.agg #[.bool false, .slice none 0 0], .int .i64 3])
      else e = .returned (.tuple #[.agg #[.bool false, .slice none 0 0], .int .i64 4])) ∧ Hid (Below w.heap.size w w') := by
  refine opq fun R hR => ?_
  obtain ⟨d, hd, hd2, hd3, hd4⟩ := cut_hyphen s
  have T := hide (fun W => Tryz.strings_CutPrefix s hyphen W)
  rw [hd, hd3] at T
  unfold hyphen at T
  have hds : d.size ≤ 9223372036854775807 := by omega
  rw [← hd2] at hR
  have hlen := byt_length d
  rw [hlen] at hR
  generalize (isgn (byt s)).1 = b at *
  clear hd hd2 hd3 hd4
  have B0 := hide ((Below.refl w.heap.size w).alloc (Nat.le_refl _) (.cells #[.bool false, .slice none 0 0] 25))
  have K0 := hide (Blk.new w 25 #[.bool false, .slice none 0 0])
  have PP := hide (Parse_ok (w.alloc (.cells #[.bool false, .slice none 0 0] 25)) d hds)
  go_enter Tryz.func99, Tryz.ntmps99
  go_wp2_with fail
  refine (T.out _).mono ?_
  rintro e w' ⟨rfl, rfl⟩
  go_wp2_with fail
  refine PP.out.mono ?_
  clear PP T
  rintro e w1 ⟨h1, d1⟩
  have K1 := hide (K0.out.below' d1)
  have B1 := hide (B0.out.trans (d1.mono B0.out.size))
  have q0 := K1.out.at_ 0 rfl
  have q1 := K1.out.at_ 1 rfl
  have q2 := K1.out.frozen 0
  have q3 := K1.out.frozen 1
  clear d1 K0 B0
  by_cases hn : isNum (byt d) = true
  case neg =>
    rw [if_neg hn] at h1
    subst h1
    have hn' := hide hn
    clear hn
    go_wp2
    refine bodyPost_ret (v := .tuple #[.agg #[.bool false, .slice none 0 0], .int .i64 4]) (by simp [results, Tryz.results99, go_sem, q0, q1, q2, q3]) rfl ?_
    exact opq_end hR ⟨by rw [if_neg hn'.out], (by (repeat (first | exact B1 | exact Below.refl _ _ | refine Below.setCell ?_ (by first | (simp; done) | (simp; omega)) _ | refine Below.alloc ?_ (by first | (simp; done) | (simp; omega)) _)))⟩
  rw [if_pos hn] at h1
  have hn' := hide hn
  clear hn
  by_cases hl : d.size ≤ 200
  case neg =>
    rw [if_neg hl] at h1
    subst h1
    have hl' := hide hl
    clear hl
    go_wp2
    refine bodyPost_ret (v := .tuple #[.agg #[.bool false, .slice none 0 0], .int .i64 3]) (by simp [results, Tryz.results99, go_sem, q0, q1, q2, q3]) rfl ?_
    exact opq_end hR ⟨by rw [if_pos hn'.out, if_neg hl'.out], (by (repeat (first | exact B1 | exact Below.refl _ _ | refine Below.setCell ?_ (by first | (simp; done) | (simp; omega)) _ | refine Below.alloc ?_ (by first | (simp; done) | (simp; omega)) _)))⟩
  rw [if_pos hl] at h1
  have hl' := hide hl
  clear hl
  obtain ⟨v, rfl, hv⟩ := h1
  have HV := hide (hv.mono (B' := w.heap.size) (by simp))
  obtain ⟨A, c, rfl, _⟩ := hv.can
  clear hv
  generalize num (byt d) = N at *
  have hz := hide (@is_zero_len N)
  by_cases hb : b = true ∧ N = 0
  · have hb' := hide hb
    obtain ⟨rfl, rfl⟩ := hb
    have hn0 := hz.out.2 rfl
    rw [hn0] at *
    clear hn0
    go_wp2
    refine bodyPost_ret (v := .tuple #[.agg #[.bool false, .slice none 0 0], .int .i64 4]) (by simp [results, Tryz.results99, go_sem, q0, q1, q2, q3]) rfl ?_
    exact opq_end hR ⟨by rw [if_pos hn'.out, if_pos hl'.out, if_pos hb'.out], (by (repeat (first | exact B1 | exact Below.refl _ _ | refine Below.setCell ?_ (by first | (simp; done) | (simp; omega)) _ | refine Below.alloc ?_ (by first | (simp; done) | (simp; omega)) _)))⟩
  · have S := hide (isigned_F (z := sgn b N) HV.out (sgn_abs b N) (sgn_neg b N))
    have hlen : b = true → (((limbs N).length : Int) == 0) = false := fun q => by
      rw [beq_nat0]
      exact decide_eq_false (fun q3 => hb ⟨q, hz.out.1 q3⟩)
    have hb' := hide hb
    clear hb hz HV
    generalize (limbs N).length = n at *
    cases b
    all_goals
      first | (have hlen := hlen rfl) | clear hlen
      go_wp2_with fail
      refine S.out.mono ?_
      rintro e w2 ⟨v9, rfl, d2, r9⟩
      obtain ⟨b9, A9, n9, c9, rfl⟩ := r9.slice
      have R9 := hide r9
      have B9 := hide (B1.out.trans (d2.mono B1.out.size))
      have K9 := hide (K1.out.below' d2)
      have q0 := K9.out.at_ 0 rfl
      have q1 := K9.out.at_ 1 rfl
      have q2 := K9.out.frozen 0
      have q3 := K9.out.frozen 1
      clear d2 r9
      go_wp2
      refine bodyPost_ret (v := .tuple #[.agg #[.bool b9, .slice A9 n9 c9], .int .i64 0]) (by simp [results, Tryz.results99, go_sem, q0, q1, q2, q3]) rfl ?_
      exact opq_end hR ⟨by rw [if_pos hn'.out, if_pos hl'.out, if_neg hb'.out]; exact ⟨_, rfl, R9.out.only K9.out (by decide) (((Only.refl _ _).set _ _).set _ _)⟩, (by (repeat (first | exact B9 | exact Below.refl _ _ | refine Below.setCell ?_ (by first | (simp; done) | (simp; omega)) _ | refine Below.alloc ?_ (by first | (simp; done) | (simp; omega)) _)))⟩
end Go.Proofs.YtfadehkagbcjaaaGreatDoor
