/- nats: back. -/
import Derived.Test.YtcdejccbamjdoaaDoorNh
set_option linter.unusedVariables false
set_option linter.unusedSimpArgs false
set_option maxRecDepth 100000
namespace Go.Proofs.YtcdejccbamjdoaaDoor
open Go.RowKit

theorem run_max_int {P : Program} (ts : Array TypeId) (t : TypeId) (a b : Int) (m : Nat) (h : (m : Int) = max a b) (W : World) :
    (Builtin.max_ ts t #[.int .i64 a, .int .i64 b]).run P W = .ok (.int .i64 (m : Int)) W := by
  have e : (if b > a then b else a) = (m : Int) := by split <;> omega
  simp [Builtin.max_, Builtin.max2]
  simpa using e
theorem below_drewN {B : Nat} {w W : World} (h : Below B w W) (n : Nat) : Below B w (W.drewN n) := ⟨h.os, h.tape, h.output, h.size, h.block⟩
theorem getD_drop (xs : List Nat) (k j : Nat) : (xs.drop k).getD j 0 = xs.getD (j + k) 0 := by
  simp [List.getD_eq_getElem?_getD, List.getElem?_drop, Nat.add_comm]

theorem or_high {x y : Nat} (hx : x < 4294967296) (hy : y < 4294967296) : bits BinOp.or IntKind.u64 ((y : Int) * 4294967296) (x : Int) = ((y * 4294967296 + x : Nat) : Int) := by
  have e : (y : Int) * 4294967296 = ((y * 4294967296 : Nat) : Int) := by simp
  rw [e, u64_or_nat _ _ (by omega) (by omega), nat_join 32 _ _ (by rw [show (2 : Nat) ^ 32 = 4294967296 from rfl]; exact Nat.mul_mod_left _ _) hx]

set_option maxHeartbeats 1000000 in
theorem back_ok (w : World) (A : Option Addr) (n c b : Nat) (xs : List Nat) (h : Rd w A n xs) (h32 : Is32 xs) (hn : n ≤ 17592186044416) (hb : b ≤ 1125899906842624) :
    Calls Tryd.prog 65 #[.slice A n c, .int .u64 (b : Nat)] w fun e w' => ∃ v, e = .returned v ∧ NatR (val xs / 2 ^ b) w.heap.size w' v ∧ Below w.heap.size w w' := by
  refine opq fun R hR => ?_
  have r1 := hide h
  have p1 := hide h32
  have hv := hide (back_val xs h32 b)
  have pd := hide (is32_drop h32 (b / 32))
  have ld := hide (List.length_drop (i := b / 32) (l := xs))
  rw [h.1] at ld
  clear h h32
  have hs0 : 0 < 2 ^ (b % 32) := Nat.pow_pos (by omega)
  have hsc := hide (pow_comp (b % 32) (by omega))
  obtain ⟨k, hk⟩ : ∃ k, Hid (b / 32 = k) := ⟨_, hide rfl⟩
  obtain ⟨s, es⟩ : ∃ s, Hid (2 ^ (b % 32) = s) := ⟨_, hide rfl⟩
  rw [es.out] at hs0 hsc hv
  rw [hk.out] at hv pd ld
  have hk1 : ((b : Int)) / 32 = (k : Nat) := by have := hk.out; omega
  have hk2 : k ≤ 35184372088832 := by have := hk.out; omega
  obtain ⟨m, hm⟩ : ∃ m, Hid (n - k = m) := ⟨_, hide rfl⟩
  rw [hm.out] at ld
  have hm2 : m ≤ 17592186044416 := by have := hm.out; omega
  have hmax := fun ts t => run_max_int (P := Tryd.prog) ts t 0 ((n : Int) - k) m (by have := hm.out; omega)
  have hmk := mk_nums (P := Tryd.prog) (t := 23) (e := 55) (k := .u32) (b := 4) (by kernel_rfl) info32 (m : Int) m rfl (by omega) (by omega)
  go_enter Tryd.func65, Tryd.ntmps65
  go_wp2
  clear hmk hmax
  go_loopw [19] (fun iv wr => ∃ i zs, i ≤ m ∧ iv = .int .i64 (i : Nat) ∧ Hid (Blk wr w.heap.size T32 (cellsOf .u32 zs)) ∧ Hid (Below w.heap.size w wr) ∧ Hid (BkInv m i s (xs.drop k) zs)) (fun iv _ => m - (intOf iv).toNat)
  case atStart => exact ⟨0, _, by omega, rfl, Blk.new _ _ _, (Below.refl _ _).alloc (Nat.le_refl _) _, BkInv.start _ _ _⟩
  case round =>
    obtain ⟨i, zs, hi, rfl, hblk, hbel, hinv⟩ := hrel
    have hz := hinv.out.len hi
    by_cases hlt : i < m
    · have hcell := hblk.out.cell i
      rw [cellsOf_get _ _ _ (by omega)] at hcell
      have hfro := hblk.out.frozen i
      have G1 := hide (at_nat wr A n c xs (i + k + 1) (r1.out.below hbel.out) p1.out)
      have G2 := hide (at_nat wr A n c xs (i + k) (r1.out.below hbel.out) p1.out)
      have b1 := is32_get p1.out (i + k + 1)
      have b2 := is32_get p1.out (i + k)
      have S1 := hide (hinv.out.step hlt pd.out hs0 hsc.out)
      rw [getD_drop, getD_drop, show i + 1 + k = i + k + 1 from by omega] at S1
      obtain ⟨x, ex⟩ : ∃ x, Hid (xs.getD (i + k) 0 = x) := ⟨_, hide rfl⟩
      obtain ⟨y, ey⟩ : ∃ y, Hid (xs.getD (i + k + 1) 0 = y) := ⟨_, hide rfl⟩
      rw [ex.out] at G2 b2 S1
      rw [ey.out] at G1 b1 S1
      have e1 := or_high (x := x) (y := y) b2 b1
      obtain ⟨z, ez⟩ : ∃ z, Hid (y * 4294967296 + x = z) := ⟨_, hide rfl⟩
      rw [ez.out] at e1
      have e2 : (z : Int) / 2 ^ (b % 32) % 4294967296 = ((bkd x y s : Nat) : Int) := by
        rw [bkd, ez.out, ← es.out]; simp
      have S2 := hide (hblk.out.set_ i (.int .u32 ((bkd x y s : Nat) : Int)))
      rw [cellsOf_set] at S2
      have S3 := hide (hbel.out.setCell (p := ⟨w.heap.size, i, none⟩) (Nat.le_refl _) (.int .u32 ((bkd x y s : Nat) : Int)))
      clear hz
      go_wp2_with fail
      refine G1.out.mono ?_
      rintro e w' ⟨rfl, rfl⟩
      go_wp2_with fail
      refine G2.out.mono ?_
      rintro e w' ⟨rfl, rfl⟩
      go_wp2
      go_roundw
      case rel => exact ⟨i + 1, _, by omega, by go_num, S2, S3, S1⟩
      case measure => simp [intOf]; omega
    · obtain rfl : i = m := by omega
      have hi2 := hinv.out
      rw [← ld.out] at hi2
      obtain ⟨e32, ev⟩ := hi2.fin
      rw [hv.out] at ev
      have C := hide (cut_ok wr (some ⟨w.heap.size, 0, none⟩) i i zs (by have := hblk.out.rd i (by omega) (by omega); rw [List.take_of_length_le (by omega)] at this; exact this) (Nat.le_refl _))
      have N := hide (natR_of_blk hblk.out e32 (Nat.le_refl _) (by omega))
      rw [ev] at N
      clear hz ev e32 hi2
      go_wp2_with (go_at_call 59; refine C.out.mono ?_; rintro e w' ⟨rfl, rfl⟩)
      exact opq_end hR ⟨_, rfl, N.out, hbel.out⟩
end Go.Proofs.YtcdejccbamjdoaaDoor
