/- nats: minus. -/
import Derived.Test.YtcdejccbamjdoaaDoorNb
import Derived.Deep.RegionWith
set_option linter.unusedVariables false
set_option linter.unusedSimpArgs false
set_option maxRecDepth 100000
namespace Go.Proofs.YtcdejccbamjdoaaDoor
open Go.RowKit

theorem max_u32 : IntKind.u32.max = ((4294967295 : Nat) : Int) := by decide
theorem sub_bits {x y z : Nat} (hx : x < 4294967296) (hy : y < 4294967296) (hz : z < 2) :
    bits BinOp.or IntKind.u32 (bits BinOp.and IntKind.u32 (bits BinOp.xor IntKind.u32 IntKind.u32.max (x : Int)) (y : Int))
      (bits BinOp.and IntKind.u32 (bits BinOp.xor IntKind.u32 IntKind.u32.max (bits BinOp.xor IntKind.u32 (x : Int) (y : Int))) (((x : Int) - y - z) % 4294967296)) / 2147483648 = (subb x y z : Nat) := by
  rw [subd_int hx hy hz, max_u32, u32_xor_nat _ _ (by decide) hx, u32_xor_nat _ _ hx hy, u32_xor_nat _ _ (by decide) (Nat.xor_lt_two_pow (n := 32) hx hy),
    u32_and_nat _ _ (Nat.xor_lt_two_pow (n := 32) (by decide) hx) hy, u32_and_nat _ _ (Nat.xor_lt_two_pow (n := 32) (by decide) (Nat.xor_lt_two_pow (n := 32) hx hy)) (subd_lt _ _ _),
    u32_or_nat _ _ (Nat.and_lt_two_pow (n := 32) _ hy) (Nat.and_lt_two_pow (n := 32) _ (subd_lt _ _ _))]
  have := sub_borrow hx hy hz rfl
  omega

set_option maxHeartbeats 400000 in
theorem sub32_ok (w : World) (x y z : Nat) (hx : x < 4294967296) (hy : y < 4294967296) (hz : z < 2) :
    Calls Tryd.prog 78 #[.int .u32 (x : Nat), .int .u32 (y : Nat), .int .u32 (z : Nat)] w fun e w' => e = .returned (.tuple #[.int .u32 (subd x y z : Nat), .int .u32 (subb x y z : Nat)]) ∧ w = w' := by
  refine opq fun R hR => ?_
  go_enter Tryd.func78, Tryd.ntmps78
  go_wp2
  refine opq_end hR ⟨?_, rfl⟩
  rw [← subd_int hx hy hz, ← sub_bits hx hy hz]

set_option maxHeartbeats 400000 in
theorem minus_ok (w : World) (A A' : Option Addr) (n n' c c' : Nat) (xs ys : List Nat) (h : Rd w A n xs) (h' : Rd w A' n' ys) (h32 : Is32 xs) (h32' : Is32 ys) (hn : n ≤ 35184372087808) (hl : n' ≤ n) (hv : val ys ≤ val xs) :
    Calls Tryd.prog 66 #[.slice A n c, .slice A' n' c'] w fun e w' => ∃ v, e = .returned v ∧ NatR (val xs - val ys) w.heap.size w' v ∧ Below w.heap.size w w' := by
  refine opq fun R hR => ?_
  have r1 := hide h
  have r2 := hide h'
  have p1 := hide h32
  have p2 := hide h32'
  have hv := hide hv
  clear h h' h32 h32'
  have hmk := mk_nums (P := Tryd.prog) (t := 23) (e := 55) (k := .u32) (b := 4) (by kernel_rfl) info32 (n : Int) n rfl (by omega) (by omega)
  go_enter Tryd.func66, Tryd.ntmps66
  go_wp2
  clear hmk
  go_loopw [6, 13] (fun cv iv wr => ∃ k cy zs, k ≤ n ∧ iv = .int .i64 (k : Nat) ∧ cv = .int .u32 (cy : Nat) ∧ cy < 2 ∧ Hid (Blk wr w.heap.size T32 (cellsOf .u32 zs)) ∧ Hid (Below w.heap.size w wr) ∧ Hid (SubInv n k cy xs ys zs)) (fun _ iv _ => n - (intOf iv).toNat)
  case atStart => exact ⟨0, 0, _, by omega, rfl, rfl, by omega, Blk.new _ _ _, (Below.refl _ _).alloc (Nat.le_refl _) _, SubInv.start _ _ _⟩
  case round =>
    obtain ⟨k, cy, zs, hk, rfl, rfl, hcy, hblk, hbel, hinv⟩ := hrel
    have hz := hinv.out.len hk
    by_cases hlt : k < n
    · obtain ⟨ad, rfl, hb, hc⟩ := (r1.out.below hbel.out).2.2 (by omega)
      have hx := hc k hlt
      have hcell := hblk.out.cell k
      rw [cellsOf_get _ _ _ (by omega)] at hcell
      have hfro := hblk.out.frozen k
      have G2 := hide (at_nat wr.drew A' n' c' ys k (r2.out.below hbel.out.drew) p2.out)
      have b1 := is32_get p1.out k
      have b2 := is32_get p2.out k
      have S1 := hide (hinv.out.step hlt p1.out p2.out)
      have S2 := hide (hblk.out.set_ k (.int .u32 ((subd (xs.getD k 0) (ys.getD k 0) cy : Nat) : Int)))
      rw [cellsOf_set] at S2
      have S3 := hide (hbel.out.setCell (p := ⟨w.heap.size, k, none⟩) (Nat.le_refl _) (.int .u32 ((subd (xs.getD k 0) (ys.getD k 0) cy : Nat) : Int)))
      generalize xs.getD k 0 = x at *
      generalize ys.getD k 0 = y at *
      clear hz hc
      go_wp2
      have hwr := wrap_u32_nat b2
      go_region_with (first
        | (go_at_call 58; refine G2.out.mono ?_; rintro e w' ⟨rfl, rfl⟩)
        | (go_at_call 78; refine (sub32_ok _ x y cy b1 b2 (by omega)).mono ?_; rintro e w' ⟨rfl, rfl⟩))
      all_goals
        go_wp2
        go_roundw
        case rel => exact ⟨k + 1, _, _, by omega, by go_num, rfl, S1.out.cy, S2.drew, S3.drew, S1⟩
        case measure => simp [intOf]; omega
    · obtain rfl : k = n := by omega
      obtain ⟨e32, ev⟩ := hinv.out.fin r1.out.1 (by rw [r2.out.1]; omega) hv.out
      have C := hide (cut_ok wr (some ⟨w.heap.size, 0, none⟩) k k zs (by have := hblk.out.rd k (by omega) (by omega); rw [List.take_of_length_le (by omega)] at this; exact this) (Nat.le_refl _))
      have N := hide (natR_of_blk hblk.out e32 (Nat.le_refl _) (by omega))
      rw [ev] at N
      clear hz ev e32
      go_wp2_with (go_at_call 59; refine C.out.mono ?_; rintro e w' ⟨rfl, rfl⟩)
      exact opq_end hR ⟨_, rfl, N.out, hbel.out⟩
end Go.Proofs.YtcdejccbamjdoaaDoor
