/- the reference of ints: Back, Text, Parse; texts and numbers of 64 bits by value. -/
import Derived.Test.YtkefmeddnncacaaGreatDoorRh
import Derived.Test.YtkefmeddnncacaaGreatDoorRo
import Derived.Test.YtkefmeddnncacaaGreatDoorRq
import Derived.Test.YtkefmeddnncacaaGreatDoorBl
import Derived.Test.YtkefmeddnncacaaGreatDoorIy
import Derived.Test.YtkefmeddnncacaaGreatDoorJd
set_option linter.unusedVariables false
set_option linter.unusedSimpArgs false
set_option maxRecDepth 100000
namespace Go.Proofs.YtkefmeddnncacaaGreatDoor
open Go.RowKit

theorem kText_can {w : World} {v : Value} {M : Nat} (h : Can w v M) (hl : L M ≤ 1000000) :
    Calls Tryz.prog 102 #[v] w fun e w' => e = .returned (vstr (bts (txt M))) ∧ Hid (Below w.heap.size w w') := by
  obtain ⟨A, c, rfl, l, r⟩ := h
  have := kText_ok w A _ c _ r (is32_limbs M) hl l
  rw [nv_limbs] at this
  exact this
def bakV (b : Bool) (xs : List Nat) : Int := if iok b xs = true then if -9223372036854775808 ≤ iv b xs ∧ iv b xs < 9223372036854775808 then iv b xs else 0 else 0
def bakK (b : Bool) (xs : List Nat) : Int := if iok b xs = true then if -9223372036854775808 ≤ iv b xs ∧ iv b xs < 9223372036854775808 then 0 else 3 else 1
set_option maxHeartbeats 1000000 in
theorem qText_ok {w : World} {v1 : Value} {x : Int} (h1 : IArg w v1 x) (hl : L x.natAbs ≤ 1000000) :
    Calls Tryz.prog 101 #[v1] w fun e w' => e = .returned (vstr (bts (itxt x))) ∧ Hid (Below w.heap.size w w') := by
  refine opq fun R hR => ?_
  obtain ⟨b1, A1, n1, c1, rfl⟩ := h1.slice
  have S1 := hide hl
  replace h1 := hide h1
  have BW := hide ((Below.refl w.heap.size w).alloc (Nat.le_refl _) (.cells #[.bool b1, .slice A1 n1 c1] 25))
  have K0 := hide (Blk.new w 25 #[.bool b1, .slice A1 n1 c1])
  go_enter Tryz.func101, Tryz.ntmps101
  go_wp2_with fail
  refine (qfit_F h1.out BW.out).mono ?_
  rintro e w1 ⟨_, rfl, d1, f8⟩
  obtain ⟨u8, rfl, hu8⟩ := f8
  obtain ⟨A8, n8, c8, rfl⟩ : ∃ A n c, u8 = .slice A n c := by obtain ⟨A, c, q, _⟩ := hu8; exact ⟨A, _, c, q⟩
  have K1 := hide (K0.out.below' d1)
  have B1 := hide (BW.out.trans (d1.mono BW.out.size))
  have q0 := K1.out.at_ 0 rfl
  have q1 := K1.out.at_ 1 rfl
  have q2 := K1.out.frozen 0
  have q3 := K1.out.frozen 1
  clear d1
  obtain ⟨b, hb⟩ : ∃ b, Hid (decide (x < 0) = b) := ⟨_, rfl⟩
  rw [hb.out]
  obtain ⟨V, hV⟩ : ∃ V, (w1.setCell ⟨w.heap.size, 0, none⟩ (.bool b)).setCell ⟨w.heap.size, 1, none⟩ (.slice A8 n8 c8) = V := ⟨_, rfl⟩
  have KV : Hid (Blk V w.heap.size 25 #[.bool b, .slice A8 n8 c8]) := by
    rw [← hV]; exact (K1.out.set_ 0 _).set_ 1 _
  have BV : Hid (Below w.heap.size w V) := by
    rw [← hV]; exact (B1.out.setCell (p := ⟨w.heap.size, 0, none⟩) (Nat.le_refl _) _).setCell (p := ⟨w.heap.size, 1, none⟩) (Nat.le_refl _) _
  replace hV := hide hV
  have T := hide (kText_can (hu8.below BV.out) S1.out)
  have hT : (bts (txt x.natAbs)).length ≤ 10000001 := by rw [bts, List.length_map]; exact txt_len S1.out
  have e1 : Hid (bts (itxt x) = if b = true then 45 :: bts (txt x.natAbs) else bts (txt x.natAbs)) := by
    show _ = _
    rw [← hb.out]
    unfold itxt
    by_cases hx : x < 0
    · rw [if_pos hx, if_pos (by simpa using hx)]; rfl
    · rw [if_neg hx, if_neg (by simpa using hx)]
  generalize bts (txt x.natAbs) = t at *
  clear K1 B1 BW hu8 h1 S1 hb K0
  cases b
  all_goals
    have c0 := KV.out.at_ 0 rfl
    have c1' := KV.out.at_ 1 rfl
    have hV := hV.out
    go_wp2_with fail
    refine T.out.mono ?_
    rintro e w2 ⟨rfl, d2⟩
    have B2 := hide (below_tr BV.out d2.out)
    clear d2 hV
    go_wp2
    exact opq_end hR ⟨by rw [e1.out]; rfl, B2⟩
theorem byt_tail (s : ByteArray) : byt (s.extract 1 s.size) = (byt s).tail := by
  unfold byt
  rw [ByteArray.data_extract, Array.toList_extract, List.extract_eq_take_drop]
  rw [← List.drop_one, ← List.map_drop]
  congr 1
  rw [List.take_of_length_le (by rw [List.length_drop, Array.length_toList]; exact Nat.le_refl _)]
end Go.Proofs.YtkefmeddnncacaaGreatDoor
