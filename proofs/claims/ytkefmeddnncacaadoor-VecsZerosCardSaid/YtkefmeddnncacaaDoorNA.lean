/- nats: Check, Add, minus, pairs, Cmp, Clone, Of, Sub. -/
import Derived.Test.YtkefmeddnncacaaDoorCa
import Derived.Test.YtkefmeddnncacaaDoorChecked
import Derived.Test.YtkefmeddnncacaaDoorLa
import Derived.Deep.RegionWith
import Derived.RangeFuncNested
import Derived.RangeFuncBound
import Derived.RangeFuncCalls
import Derived.RangeFuncLeaves
import Derived.RangeFuncFrom
import Derived.RangeFuncOne
import Derived.Shelf.Abstract
import Derived.Shelf.RegionOpen
import Derived.OwnWalkIn
import Derived.TacticsInMore
import Derived.LoopNIn
import Derived.LoopIn
import Derived.Stop.RegionWithIn
import Derived.Sort.AtCallIn
import Derived.WalkSpells
/- nats: Check, fine, at, cut. -/
set_option linter.unusedVariables false
set_option linter.unusedSimpArgs false
namespace Go.Proofs.YtkefmeddnncacaaDoor
open Go.RowKit

set_option maxHeartbeats 400000 in
theorem clip_ok (w : World) (A : Option Addr) (n c : Nat) (hn : n ≤ c) (hm : n ≤ 9223372036854775807) :
    Calls Tryd.prog 217 #[.slice A n c] w fun e w' => e = .returned (.slice A n n) ∧ w = w' := by
  refine opq fun R hR => ?_
  go_enter Tryd.func217, Tryd.ntmps217
  go_wp2
  exact opq_end hR ⟨rfl, rfl⟩

theorem strip_take_zero {xs : List Nat} {k : Nat} (hk : k < xs.length) (h0 : xs.getD k 0 = 0) : strip (xs.take (k + 1)) = strip (xs.take k) := by
  rw [List.take_succ_eq_append_getElem hk]
  rw [getD_lt hk] at h0
  rw [h0, strip_zero]
theorem strip_take_nz {xs : List Nat} {k : Nat} (hk : k < xs.length) (h0 : xs.getD k 0 ≠ 0) : (strip (xs.take (k + 1))).length = k + 1 := by
  rw [getD_lt hk] at h0
  rw [List.take_succ_eq_append_getElem hk, strip_nz _ h0]
  simp; omega

set_option maxHeartbeats 400000 in
theorem cut_ok (w : World) (A : Option Addr) (n c : Nat) (xs : List Nat) (h : Rd w A n xs) (hn : n ≤ c) :
    Calls Tryd.prog 201 #[.slice A n c] w fun e w' => e = .returned (.slice A (strip xs).length (strip xs).length) ∧ w = w' := by
  refine opq fun R hR => ?_
  obtain ⟨hl, hm, h⟩ := h
  go_enter Tryd.func201, Tryd.ntmps201
  go_wp2
  go_loop [3] (fun v => ∃ k : Nat, k ≤ n ∧ v = .int .i64 k ∧ Hid (strip (xs.take k) = strip xs)) (fun v => (intOf v).toNat)
  case atStart => exact ⟨n, Nat.le_refl _, rfl, by rw [List.take_of_length_le (by omega)]; exact rfl⟩
  case round =>
    obtain ⟨k, hk, rfl, hs⟩ := hrel
    rcases Nat.eq_zero_or_pos k with h0 | h0
    · subst h0
      have hs0 : Hid ((strip xs).length = 0) := by rw [← hs.out]; exact rfl
      clear h hl
      go_wp2_with (go_at_call 217; refine (clip_ok _ _ _ _ (by omega) (by omega)).mono ?_; rintro e w' ⟨rfl, rfl⟩)
      exact opq_end hR ⟨by rw [hs0.out]; rfl, rfl⟩
    · obtain ⟨ad, rfl, hb, hc⟩ := h (by omega)
      have hx := hc (k - 1) (by omega)
      clear hc h
      obtain ⟨j, rfl⟩ : ∃ j, k = j + 1 := ⟨k - 1, by omega⟩
      have hj : j < xs.length := by omega
      by_cases hz : xs.getD j 0 = 0
      · have hs2 : Hid (strip (xs.take j) = strip xs) := by rw [← strip_take_zero hj hz]; exact hs
        simp only [Nat.add_sub_cancel, hz] at hx
        clear hs hl hz hj
        go_wp2
        go_round
        case rel => exact ⟨j, by omega, by go_num, hs2⟩
        case measure => simp [intOf]
      · have hs2 : Hid ((strip xs).length = j + 1) := by rw [← hs.out]; exact strip_take_nz hj hz
        have hz' : (((xs.getD j 0 : Nat) : Int) == 0) = false := by rw [beq_nat0]; simpa using hz
        simp only [Nat.add_sub_cancel] at hx
        clear hs hl hz hj
        generalize xs.getD j 0 = x at *
        go_wp2_with (go_at_call 217; refine (clip_ok _ _ _ _ (by omega) (by omega)).mono ?_; rintro e w' ⟨rfl, rfl⟩)
        exact opq_end hR ⟨by rw [hs2.out]; rfl, rfl⟩

end Go.Proofs.YtkefmeddnncacaaDoor

/- nats: Add. -/
set_option linter.unusedVariables false
set_option linter.unusedSimpArgs false
set_option maxRecDepth 100000
namespace Go.Proofs.YtkefmeddnncacaaDoor
open Go.RowKit

theorem info32 : (Tryd.prog.info? 120).map (fun i => (i.zero, i.size, i.bytes)) = some (some (.int .u32 0), 1, 4) := by kernel_rfl

end Go.Proofs.YtkefmeddnncacaaDoor

/- nats: minus. -/
set_option linter.unusedVariables false
set_option linter.unusedSimpArgs false
set_option maxRecDepth 100000
namespace Go.Proofs.YtkefmeddnncacaaDoor
open Go.RowKit

end Go.Proofs.YtkefmeddnncacaaDoor

/- nats: pairs, Cmp. -/
set_option linter.unusedVariables false
set_option linter.unusedSimpArgs false
set_option maxRecDepth 100000
namespace Go.Proofs.YtkefmeddnncacaaDoor
open Go.RowKit Go.Shelf
attribute [local go_sem] Oper.semAt_some

end Go.Proofs.YtkefmeddnncacaaDoor

/- nats: Cmp. -/
set_option linter.unusedVariables false
set_option linter.unusedSimpArgs false
set_option maxRecDepth 100000
namespace Go.Proofs.YtkefmeddnncacaaDoor
open Go.RowKit Go.Shelf
attribute [local go_sem] Oper.semAt_some

end Go.Proofs.YtkefmeddnncacaaDoor

/- nats: Clone, Of, Back, Sub. -/
set_option linter.unusedVariables false
set_option linter.unusedSimpArgs false
set_option maxRecDepth 100000
namespace Go.Proofs.YtkefmeddnncacaaDoor
open Go.RowKit

set_option maxHeartbeats 400000 in
theorem Of_ok (w : World) (x : Nat) (hx : x < 18446744073709551616) :
    Calls Tryd.prog 179 #[.int .u64 (x : Nat)] w fun e w' => ∃ v, e = .returned v ∧ NatR x w.heap.size w' v ∧ Below w.heap.size w w' := by
  refine opq fun R hR => ?_
  go_enter Tryd.func179, Tryd.ntmps179
  have hb := Blk.new w T32 (cellsOf .u32 [x % 4294967296, x / 4294967296])
  have h32 : Is32 [x % 4294967296, x / 4294967296] := is32_cons.2 ⟨by omega, is32_cons.2 ⟨by omega, is32_nil⟩⟩
  have hv : val [x % 4294967296, x / 4294967296] = x := by simp only [val]; omega
  have N := hide (natR_of_blk hb h32 (Nat.le_refl _) (by simp))
  have C := hide (cut_ok (w.alloc (.cells (cellsOf .u32 [x % 4294967296, x / 4294967296]) T32)) (some ⟨w.heap.size, 0, none⟩) 2 2 _ (hb.rd 2 (Nat.le_refl _) (by omega)) (Nat.le_refl _))
  have HB := hide ((Below.refl w.heap.size w).alloc (Nat.le_refl _) (.cells (cellsOf .u32 [x % 4294967296, x / 4294967296]) T32))
  rw [hv] at N
  clear hv h32 hb
  go_wp2_with fail
  refine C.out.mono ?_
  rintro e w' ⟨rfl, rfl⟩
  go_wp2
  exact opq_end hR ⟨_, rfl, N.out, HB.out⟩

theorem NatR.mono {N B B' : Nat} {w : World} {v : Value} (h : NatR N B w v) (hB : B' ≤ B) : NatR N B' w v := by
  obtain ⟨A, c, e, r, f, l⟩ := h
  exact ⟨A, c, e, r, f.mono hB, l⟩
end Go.Proofs.YtkefmeddnncacaaDoor
