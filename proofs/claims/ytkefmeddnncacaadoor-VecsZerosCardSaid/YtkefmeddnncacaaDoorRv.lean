/- the document's answer for vecs: Check, Zero, Scale. -/
import Derived.Test.YtkefmeddnncacaaDoorVB
import Derived.Test.YtkefmeddnncacaaDoorBo
import Derived.Test.YtkefmeddnncacaaDoorBp
import Derived.Deep.RegionLaw
set_option linter.unusedVariables false
set_option linter.unusedSimpArgs false
set_option maxRecDepth 100000
namespace Go.Proofs.YtkefmeddnncacaaDoor
open Go.RowKit

def zN (z : Int) : Nat := if 65536 < z then 0 else z.toNat
set_option maxHeartbeats 1000000 in
theorem vkZero_P (w : World) (z : Int) (h0 : -9223372036854775808 ≤ z) (h1 : z < 9223372036854775808) :
    Calls Tryd.prog 13 #[.int .i64 z] w fun e w' => ∃ u, e = .returned u ∧ Below w.heap.size w w' ∧ Lst RCan w' u (List.replicate (zN z) 0) := by
  refine opq fun R hR => ?_
  by_cases hb : z < 0 ∨ 65536 < z
  · have e0 : Hid (zN z = 0) := by
      show _ = _
      unfold zN
      split
      · rfl
      · omega
    go_enter Tryd.func13, Tryd.ntmps13
    rcases hb with hb | hb
    · have hd : decide (z < 0) = true := by simpa using hb
      go_wp2
      exact opq_end hR ⟨_, rfl, Below.refl _ _, by rw [e0.out]; exact lst_nil _ _⟩
    · have hd : decide (z < 0) = false := by simp; omega
      have hd2 : decide (z > 65536) = true := by simpa using hb
      go_wp2
      exact opq_end hR ⟨_, rfl, Below.refl _ _, by rw [e0.out]; exact lst_nil _ _⟩
  · obtain ⟨n, rfl⟩ : ∃ n : Nat, z = (n : Nat) := ⟨z.toNat, by omega⟩
    have e0 : Hid (zN (n : Int) = n) := by
      show _ = _
      unfold zN
      rw [if_neg (by omega)]
      rfl
    have hn : n ≤ 65536 := by omega
    have hd : decide ((n : Int) < 0) = false := by simp
    have hd2 : decide ((n : Int) > 65536) = false := by simp; omega
    clear hb
    go_enter Tryd.func13, Tryd.ntmps13
    go_wp2
    clear hd hd2
    go_loopw [3, 4] (fun tv iv wr => ∃ (i : Nat) (A : Option Addr) (c : Nat), i ≤ n ∧ iv = .int .i64 (i : Nat) ∧ tv = .slice A i c ∧ Hid (OLst wr w.heap.size (.slice A i c) (List.replicate i 0)) ∧ Hid (Below w.heap.size w wr)) (fun _ iv _ => n - (intOf iv).toNat)
    case atStart => exact ⟨0, _, _, by omega, rfl, rfl, OLst.nil _ _, Below.refl _ _⟩
    case round =>
      obtain ⟨i, A, c, hi, rfl, rfl, own, hbel⟩ := hrel
      by_cases hlt : i < n
      · go_wp2_with fail
        refine (krOf_P _ 0 (by omega) (by omega)).mono ?_
        rintro e w1 ⟨u, rfl, d0, r⟩
        have r1 := hide r
        have hs0 := hide hbel.out.size
        replace hbel := hide (below_tr hbel.out d0)
        replace d0 := hide d0
        clear r
        obtain ⟨b, A1, n1, c1, D1, m1, k1, rfl⟩ := r1.out.slice
        have K := hide (Blk.new w1 TR #[.bool b, .slice A1 n1 c1, .slice D1 m1 k1])
        have y : Below w1.heap.size w1 (w1.alloc (.cells #[.bool b, .slice A1 n1 c1, .slice D1 m1 k1] TR)) := (Below.refl _ _).alloc (Nat.le_refl _) _
        have O2 := hide (below_tr d0.out y)
        have R2 := hide (r1.out.below y)
        have B2 := hide (below_tr hbel.out y)
        clear r1 hbel y d0
        go_wp2_with (at_builtin; refine wpList_appO rfl _ _ rfl w.heap.size _ (List.replicate i 0) rfl own.out O2.out hs0.out rfl K.out R2.out (by rw [List.length_replicate]; omega) B2.out.size ?_; intro v' w3 q1 q2 q3)
        have q4 : Hid (OLst w3 w.heap.size v' (List.replicate (i + 1) 0)) := by
          show OLst _ _ _ _
          rw [List.replicate_succ']
          exact q1.out
        obtain ⟨A', c', rfl⟩ := q4.out.slice
        rw [List.length_replicate] at q4 ⊢
        have B4 := hide (B2.out.trans q2.out)
        go_roundw
        case rel => exact ⟨i + 1, A', c', by omega, by go_num, rfl, q4, B4⟩
        case measure => simp [intOf]; omega
      · obtain rfl : i = n := by omega
        go_wp2
        exact opq_end hR ⟨_, rfl, hbel.out, by rw [e0.out]; exact own.out.lst (by rw [List.length_replicate]; omega)⟩
end Go.Proofs.YtkefmeddnncacaaDoor
