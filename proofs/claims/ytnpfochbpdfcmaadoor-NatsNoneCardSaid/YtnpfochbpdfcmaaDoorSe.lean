/- law helpers: TwinNat, LeftNat. -/
import Derived.Test.YtnpfochbpdfcmaaDoorND
import Derived.Test.YtnpfochbpdfcmaaDoorNA
import Derived.Test.YtnpfochbpdfcmaaDoorCa
set_option linter.unusedVariables false
set_option linter.unusedSimpArgs false
set_option maxRecDepth 100000
namespace Go.Proofs.YtnpfochbpdfcmaaDoor
open Go.RowKit

/-- make of no part, with room for so many. -/
theorem mk_room {P : Program} {t e : TypeId} {k : IntKind} {b : Nat} (ht : P.underlying t = some (.slice e)) (he : (P.info? e).map (fun i => (i.zero, i.size, i.bytes)) = some (some (.int k 0), 1, b)) (c : Int) (m : Nat) (hc : c = m) (hb : b * m ≤ 281474976710656) (h63 : m ≤ 9223372036854775807) (w : World) :
    (Instr.makeSlice t (.int .i64 0) (.int .i64 c)).run P w = .ok (.slice (some ⟨w.heap.size, 0, none⟩) 0 m) (w.alloc (.cells (cellsOf k (List.replicate m 0)) e)) := by
  subst hc
  obtain ⟨i0, hi, hz0, hz1, hz2⟩ := info_parts he
  have hb' : (i0.bytes : Int) * (m : Int) ≤ 281474976710656 := by
    rw [hz2]
    have h : ((b * m : Nat) : Int) ≤ 281474976710656 := by omega
    rwa [Int.natCast_mul] at h
  have hr := run_make (P := P) w t e i0 (.int k 0) ht hi hz0 .i64 .i64 0 (m : Int) (by omega) (by omega) hb' (by omega)
  rw [hr, hz1]
  simp only [Int.toNat_natCast, Value.cells, Nat.mul_one, madeCells_one, cellsOf, List.map_replicate]
  rfl
set_option maxHeartbeats 1000000 in
theorem TwinNat_ok (w : World) (A : Option Addr) (n c : Nat) (xs : List Nat) (h : Rd w A n xs) (hn : n ≤ 17592186044416) :
    Calls Tryd.prog 14 #[.slice A n c] w fun e w' => ∃ A' c', e = .returned (.slice A' n c') ∧ n < c' ∧ Hid (Rd w' A' (n + 1) (xs ++ [77])) ∧ Hid (Fr T32 w.heap.size w' A' c') ∧ Hid (w'.ownsRow w.heap.size T32 1 (.slice A' (n + 1) c') (n + 1) ((xs ++ [77]).map fun x => Value.int .u32 (x : Nat))) ∧ Hid (Below w.heap.size w w') := by
  refine opq fun R hR => ?_
  have r1 := hide h
  clear h
  have hmk := mk_room (P := Tryd.prog) (t := 23) (e := 37) (k := .u32) (b := 4) (by kernel_rfl) info32 ((n : Int) + 1) (n + 1) (by omega) (by omega) (by omega)
  go_enter Tryd.func14, Tryd.ntmps14
  go_wp2
  clear hmk
  have own0 : Hid ((w.alloc (.cells (cellsOf .u32 (List.replicate (n + 1) 0)) T32)).ownsRow w.heap.size T32 1 (.slice (some ⟨w.heap.size, 0, none⟩) 0 (n + 1)) 0 ((xs.take 0).map fun x => Value.int .u32 (x : Nat))) :=
    own_blk (Blk.new w T32 _) (Nat.le_refl _) (by rw [cellsOf_size]; simp) (by omega) (by omega) (by simp)
  go_loopw [3, 4] (fun tv iv wr => ∃ i A' c', i ≤ n ∧ iv = .int .i64 (i : Nat) ∧ tv = .slice A' i c' ∧ Hid (wr.ownsRow w.heap.size T32 1 (.slice A' i c') i ((xs.take i).map fun x => Value.int .u32 (x : Nat))) ∧ Hid (Below w.heap.size w wr)) (fun _ iv _ => n - (intOf iv).toNat)
  case atStart => exact ⟨0, _, _, by omega, rfl, rfl, own0, (Below.refl _ _).alloc (Nat.le_refl _) _⟩
  case round =>
    obtain ⟨i, A1, c1, hi, rfl, rfl, own, hbel⟩ := hrel
    have hz := hbel.out.size
    by_cases hlt : i < n
    · obtain ⟨ad, rfl, hb, hc⟩ := (r1.out.below hbel.out).2.2 (by omega)
      have hx := hc i hlt
      have E1 : Hid ((xs.take i) ++ [xs.getD i 0] = xs.take (i + 1)) := by
        show _ = _
        rw [getD_lt (by rw [r1.out.1]; exact hlt), List.take_succ_eq_append_getElem (by rw [r1.out.1]; exact hlt)]
      generalize xs.getD i 0 = x at *
      have O2 := hide (own.out.alloc (.cells (cellsOf .u32 [x]) T32))
      have K0 := Blk.new wr T32 (cellsOf .u32 [x])
      have R0 := hide (K0.rd 1 (by simp) (by omega))
      have B2 := hide (hbel.out.alloc hbel.out.size (.cells (cellsOf .u32 [x]) T32))
      clear K0 hc own
      go_wp2_with (at_builtin; refine wpList_app (k := .u32) (b := 4) (t := 23) (e := 37) (by kernel_rfl) info32 _ rfl _ _ rfl w.heap.size i _ (xs.take i) rfl O2.out (some ⟨wr.heap.size, 0, none⟩) 1 1 [x] rfl R0.out (by omega) (by omega) (by simp; omega) ?_; intro A3 c4 w3 q1 q2 q3 q4 q5; rw [E1.out] at q4)
      have B4 := hide (B2.out.grown q5.out (by simp; omega) (fun k e => own_from O2.out e))
      go_roundw
      case rel => exact ⟨i + 1, _, _, by omega, by go_num, rfl, q4, B4⟩
      case measure => simp [intOf]; omega
    · obtain rfl : i = n := by omega
      have O2 := hide (own.out.alloc (.cells (cellsOf .u32 [77]) T32))
      have K0 := Blk.new wr T32 (cellsOf .u32 [77])
      have R0 := hide (K0.rd 1 (by simp) (by omega))
      have B2 := hide (hbel.out.alloc hbel.out.size (.cells (cellsOf .u32 [77]) T32))
      clear K0 own
      go_wp2_with (at_builtin; refine wpList_app (k := .u32) (b := 4) (t := 23) (e := 37) (by kernel_rfl) info32 _ rfl _ _ rfl w.heap.size i _ (xs.take i) rfl O2.out (some ⟨wr.heap.size, 0, none⟩) 1 1 [77] rfl R0.out (by omega) (by omega) (by simp; omega) ?_; intro A3 c4 w3 q1 q2 q3 q4 q5)
      rw [List.take_of_length_le (by rw [r1.out.1]; exact Nat.le_refl _)] at q2 q4
      have B4 := hide (B2.out.grown q5.out (by simp; omega) (fun k e => own_from O2.out e))
      exact opq_end hR ⟨A3, c4, rfl, q1, q2, q3, q4, B4⟩
end Go.Proofs.YtnpfochbpdfcmaaDoor
