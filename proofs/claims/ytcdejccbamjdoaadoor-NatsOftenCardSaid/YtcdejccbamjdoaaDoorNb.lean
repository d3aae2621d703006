/- nats: Add. -/
import Derived.Test.YtcdejccbamjdoaaDoorNa
import Derived.Test.YtcdejccbamjdoaaDoorLm2
set_option linter.unusedVariables false
set_option linter.unusedSimpArgs false
set_option maxRecDepth 100000
namespace Go.Proofs.YtcdejccbamjdoaaDoor
open Go.RowKit

theorem info32 : (Tryd.prog.info? 55).map (fun i => (i.zero, i.size, i.bytes)) = some (some (.int .u32 0), 1, 4) := by kernel_rfl

set_option maxHeartbeats 400000 in
theorem add32_ok (w : World) (x y z : Nat) (hx : x < 4294967296) (hy : y < 4294967296) (hz : z < 4294967296) :
    Calls Tryd.prog 57 #[.int .u32 (x : Nat), .int .u32 (y : Nat), .int .u32 (z : Nat)] w fun e w' => e = .returned (.tuple #[.int .u32 ((x + y + z) % 4294967296 : Nat), .int .u32 ((x + y + z) / 4294967296 : Nat)]) ∧ w = w' := by
  refine opq fun R hR => ?_
  go_enter Tryd.func57, Tryd.ntmps57
  go_wp2
  exact opq_end hR ⟨rfl, rfl⟩

set_option maxHeartbeats 400000 in
theorem Add_ok (w : World) (A A' : Option Addr) (n n' c c' : Nat) (xs ys : List Nat) (h : Rd w A n xs) (h' : Rd w A' n' ys) (h32 : Is32 xs) (h32' : Is32 ys) (hn : n ≤ 35184372087808) (hn' : n' ≤ 35184372087808) (hc : n ≤ c) (hc' : n' ≤ c') :
    Calls Tryd.prog 34 #[.slice A n c, .slice A' n' c'] w fun e w' => ∃ v, e = .returned v ∧ NatR (nv xs + nv ys) w.heap.size w' v ∧ Below w.heap.size w w' := by
  refine opq fun R hR => ?_
  have F1 := hide (fine_any w A n c xs h h32 hc)
  have F2 := hide (fine_any w A' n' c' ys h' h32' hc')
  clear h h' h32 h32'
  go_enter Tryd.func34, Tryd.ntmps34
  go_wp2_with fail
  refine F1.out.mono ?_
  rintro e w' ⟨A1, n1, c1, xs1, rfl, rfl, r1, p1, q1, q2⟩
  go_wp2_with fail
  refine F2.out.mono ?_
  rintro e w' ⟨A2, n2, c2, ys1, rfl, rfl, r2, p2, q3, q4⟩
  obtain ⟨m, hm⟩ : ∃ m, Hid (m = max n1 n2) := ⟨_, rfl⟩
  have hm1 : n1 ≤ m := by rw [hm.out]; omega
  have hm2 : n2 ≤ m := by rw [hm.out]; omega
  have hm3 : m ≤ 35184372087808 := by rw [hm.out]; omega
  have hmk := mk_nums (P := Tryd.prog) (t := 23) (e := 55) (k := .u32) (b := 4) (by kernel_rfl) info32 ((m : Int) + 1) (m + 1) (by omega) (by omega) (by omega)
  have hmax := fun ts t => run_max_nat (P := Tryd.prog) ts t n1 n2 m hm.out
  go_wp2
  clear hmk hmax
  go_loopw [6, 21] (fun cv iv wr => ∃ k cy zs, k ≤ m + 1 ∧ iv = .int .i64 (k : Nat) ∧ cv = .int .u32 (cy : Nat) ∧ cy < 2 ∧ Hid (Blk wr w.heap.size T32 (cellsOf .u32 zs)) ∧ Hid (Below w.heap.size w wr) ∧ Hid (AddInv (m + 1) k cy xs1 ys1 zs)) (fun _ iv _ => m + 1 - (intOf iv).toNat)
  case atStart => exact ⟨0, 0, _, by omega, rfl, rfl, by omega, Blk.new _ _ _, (Below.refl _ _).alloc (Nat.le_refl _) _, AddInv.start _ _ _⟩
  case round =>
    obtain ⟨k, cy, zs, hk, rfl, rfl, hcy, hblk, hbel, hinv⟩ := hrel
    have hz := hinv.out.len hk
    by_cases hlt : k < m + 1
    · have hcell := hblk.out.cell k
      rw [cellsOf_get _ _ _ (by omega)] at hcell
      have hfro := hblk.out.frozen k
      have G1 := hide (at_nat wr A1 n1 c1 xs1 k (r1.out.below hbel.out) p1.out.1)
      have G2 := hide (at_nat wr A2 n2 c2 ys1 k (r2.out.below hbel.out) p2.out.1)
      have b1 := is32_get p1.out.1 k
      have b2 := is32_get p2.out.1 k
      have S1 := hide (hinv.out.step hlt p1.out.1 p2.out.1)
      have S2 := hide (hblk.out.set_ k (.int .u32 (((xs1.getD k 0 + ys1.getD k 0 + cy) % 4294967296 : Nat) : Int)))
      rw [cellsOf_set] at S2
      have S3 := hide (hbel.out.setCell (p := ⟨w.heap.size, k, none⟩) (Nat.le_refl _) (.int .u32 (((xs1.getD k 0 + ys1.getD k 0 + cy) % 4294967296 : Nat) : Int)))
      generalize xs1.getD k 0 = x at *
      generalize ys1.getD k 0 = y at *
      clear hz
      go_wp2_with fail
      refine G1.out.mono ?_; rintro e w' ⟨rfl, rfl⟩
      go_wp2_with fail
      refine G2.out.mono ?_; rintro e w' ⟨rfl, rfl⟩
      go_wp2_with fail
      refine (add32_ok _ x y cy b1 b2 (by omega)).mono ?_; rintro e w' ⟨rfl, rfl⟩
      go_wp2
      go_roundw
      case rel => exact ⟨k + 1, _, _, by omega, by go_num, rfl, S1.out.cy, S2, S3, S1⟩
      case measure => simp [intOf]; omega
    · obtain rfl : k = m + 1 := by omega
      obtain ⟨e32, ev⟩ := hinv.out.fin p1.out.1 p2.out.1 (by rw [r1.out.1]; omega) (by rw [r2.out.1]; omega)
      have C := hide (cut_ok wr (some ⟨w.heap.size, 0, none⟩) (m + 1) (m + 1) zs (by have := hblk.out.rd (m + 1) (by omega) (by omega); rw [List.take_of_length_le (by omega)] at this; exact this) (Nat.le_refl _))
      have N := hide (natR_of_blk hblk.out e32 (Nat.le_refl _) (by omega))
      rw [ev, p1.out.2.2, p2.out.2.2] at N
      clear hz ev e32
      go_wp2_with (go_at_call 59; refine C.out.mono ?_; rintro e w' ⟨rfl, rfl⟩)
      exact opq_end hR ⟨_, rfl, N.out, hbel.out⟩
end Go.Proofs.YtcdejccbamjdoaaDoor
