/- nats: nine digits. -/
import Derived.Test.YtcdejccbamjdoaaDoorNq
import Derived.Test.YtcdejccbamjdoaaDoorLd
import Derived.Laws.IdiomStrings
set_option linter.unusedVariables false
set_option linter.unusedSimpArgs false
set_option maxRecDepth 100000
namespace Go.Proofs.YtcdejccbamjdoaaDoor
open Go.RowKit

theorem info8 : (Tryd.prog.info? 5).map (fun i => (i.zero, i.size, i.bytes)) = some (some (.int .u8 0), 1, 1) := by kernel_rfl

theorem nine_ok (w : World) (n : Nat) (hn : n < 1000000000) :
    Calls Tryd.prog 68 #[.int .u32 (n : Nat)] w fun e w' => e = .returned (.string ⟨((dig 9 n).map UInt8.ofNat).toArray⟩) ∧ Below w.heap.size w w' := by
  refine opq fun R hR => ?_
  have hmk := mk_nums (P := Tryd.prog) (t := 94) (e := 5) (k := .u8) (b := 1) (by kernel_rfl) info8 9 9 rfl (by omega) (by omega)
  go_enter Tryd.func68, Tryd.ntmps68
  go_wp2
  clear hmk
  go_loopw [0, 8] (fun nv iv wr => ∃ i m, i ≤ 9 ∧ iv = .int .i64 (i : Nat) ∧ nv = .int .u32 (m : Nat) ∧ Hid (m = n / 10 ^ i) ∧ m ≤ n ∧ Hid (Blk wr w.heap.size 5 (cellsOf .u8 (List.replicate (9 - i) 0 ++ dig i n))) ∧ Hid (Below w.heap.size w wr)) (fun _ iv _ => 9 - (intOf iv).toNat)
  case atStart => exact ⟨0, n, by omega, rfl, rfl, by show _ = _; simp, Nat.le_refl _, Blk.new _ _ _, (Below.refl _ _).alloc (Nat.le_refl _) _⟩
  case round =>
    obtain ⟨i, m, hi, rfl, rfl, hm, hmn, hblk, hbel⟩ := hrel
    by_cases hlt : i < 9
    · have hcell := hblk.out.cell (8 - i)
      rw [cellsOf_get _ _ _ (by simp [dig_length]; omega)] at hcell
      have hfro := hblk.out.frozen (8 - i)
      have e1 := dig_put hlt m hm.out
      have S2 := hide (hblk.out.set_ (8 - i) (.int .u8 ((48 + m % 10 : Nat) : Int)))
      rw [cellsOf_set, e1] at S2
      have S3 := hide (hbel.out.setCell (p := ⟨w.heap.size, 8 - i, none⟩) (Nat.le_refl _) (.int .u8 ((48 + m % 10 : Nat) : Int)))
      have e2 : Hid (m / 10 = n / 10 ^ (i + 1)) := by
        show _ = _
        rw [hm.out, Nat.div_div_eq_div_mul, Nat.pow_succ]
      clear e1
      go_wp2
      go_roundw
      case rel => exact ⟨i + 1, m / 10, by omega, by go_num, by go_num, e2, by omega, S2, S3⟩
      case measure => simp [intOf]; omega
    · obtain rfl : i = 9 := by omega
      have hb := hblk.out
      rw [Nat.sub_self, List.replicate_zero, List.nil_append] at hb
      have hconv := run_convert_bytes_back (P := Tryd.prog) wr 94 9 5 ⟨w.heap.size, 0, none⟩ 9 ((dig 9 n).map UInt8.ofNat) (by kernel_rfl) (by kernel_rfl) (by kernel_rfl) (fun j hj => by
        rw [List.length_map, dig_length] at hj
        rw [add0, hb.cell, cellsOf_get _ _ _ (by rw [dig_length]; exact hj), getD_lt (by rw [dig_length]; exact hj), List.getElem_map]
        have := dig_lt _ (List.getElem_mem (l := dig 9 n) (n := j) (by rw [dig_length]; exact hj))
        generalize (dig 9 n)[j] = x at *
        have e : (UInt8.ofNat x).toNat = x := by rw [UInt8.toNat_ofNat']; omega
        rw [e])
      rw [List.length_map, dig_length] at hconv
      clear hb
      go_wp2
      exact opq_end hR ⟨rfl, hbel.out⟩
end Go.Proofs.YtcdejccbamjdoaaDoor
