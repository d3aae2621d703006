/- nats: Mul. -/
import Derived.Test.YtcdejccbamjdoaaDoorNf
import Derived.Test.YtcdejccbamjdoaaDoorLm3
set_option linter.unusedVariables false
set_option linter.unusedSimpArgs false
set_option maxRecDepth 100000
namespace Go.Proofs.YtcdejccbamjdoaaDoor
open Go.RowKit

set_option maxHeartbeats 1000000 in
theorem Mul_ok (w : World) (A A' : Option Addr) (n n' c c' : Nat) (xs ys : List Nat) (h : Rd w A n xs) (h' : Rd w A' n' ys) (h32 : Is32 xs) (h32' : Is32 ys) (hn : n ≤ 17592186044416) (hn' : n' ≤ 17592186044416) (hc : n ≤ c) (hc' : n' ≤ c') :
    Calls Tryd.prog 35 #[.slice A n c, .slice A' n' c'] w fun e w' => ∃ v, e = .returned v ∧ NatR (nv xs * nv ys) w.heap.size w' v ∧ Below w.heap.size w w' := by
  refine opq fun R hR => ?_
  have F1 := hide (fine_any w A n c xs h h32 hc)
  have F2 := hide (fine_any w A' n' c' ys h' h32' hc')
  clear h h' h32 h32'
  go_enter Tryd.func35, Tryd.ntmps35
  go_wp2_with fail
  refine F1.out.mono ?_
  rintro e w' ⟨A1, n1, c1, xs1, rfl, rfl, r1, p1, q1, q2⟩
  go_wp2_with fail
  refine F2.out.mono ?_
  rintro e w' ⟨A2, n2, c2, ys1, rfl, rfl, r2, p2, q3, q4⟩
  clear F1 F2
  have hmk := mk_nums (P := Tryd.prog) (t := 23) (e := 55) (k := .u32) (b := 4) (by kernel_rfl) info32 ((n1 : Int) + n2) (n1 + n2) (by omega) (by omega) (by omega)
  go_wp2
  clear hmk
  go_loopw [23] (fun iv wr => ∃ i zs, i ≤ n1 ∧ iv = .int .i64 (i : Nat) ∧ Hid (Blk wr w.heap.size T32 (cellsOf .u32 zs)) ∧ Hid (Below w.heap.size w wr) ∧ Hid (MulOut i xs1 ys1 zs)) (fun iv _ => n1 - (intOf iv).toNat)
  case atStart => exact ⟨0, _, by omega, rfl, Blk.new _ _ _, (Below.refl _ _).alloc (Nat.le_refl _) _, by rw [← r1.out.1, ← r2.out.1]; exact MulOut.start _ _⟩
  case round =>
    obtain ⟨i, zs, hi, rfl, hblk, hbel, hinv⟩ := hrel
    by_cases hlt : i < n1
    · obtain ⟨ad, rfl, hb, hcl⟩ := (r1.out.below hbel.out).2.2 (by omega)
      have hx := hcl i hlt
      have bx := is32_get p1.out.1 i
      obtain ⟨x, ex⟩ : ∃ x, Hid (xs1.getD i 0 = x) := ⟨_, rfl⟩
      rw [ex.out] at hx bx
      clear hcl
      have hz0 := hinv.out.len
      rw [r1.out.1, r2.out.1] at hz0
      have S0 := hide (MulIn.start (i := i) (x := x) (ys := ys1) hinv.out.is32)
      have S1 := hide (fun zs' h (K : MulIn i ys1.length h (xs1.getD i 0) ys1 zs zs') => hinv.out.step (by rw [r1.out.1]; exact hlt) K)
      rw [ex.out, r2.out.1] at S1
      clear hinv ex
      go_wp2
      obtain ⟨wo, rfl⟩ : ∃ wo : World, wo = wr := ⟨_, rfl⟩
      go_loopw [8, 30] (fun hv kv wr => ∃ k hc zs', k ≤ n2 ∧ kv = .int .i64 (k : Nat) ∧ hv = .int .u64 (hc : Nat) ∧ hc < 4294967296 ∧ Hid (Blk wr w.heap.size T32 (cellsOf .u32 zs')) ∧ Hid (Below w.heap.size w wr) ∧ Hid (MulIn i k hc x ys1 zs zs')) (fun _ kv _ => n2 - (intOf kv).toNat)
      case atStart => exact ⟨0, 0, zs, by omega, rfl, rfl, by omega, hblk, hbel, S0⟩
      case round =>
        obtain ⟨k, hc, zs', hk, rfl, rfl, hhc, hblk', hbel', hin⟩ := hrel
        have hlen := hin.out.len
        by_cases hlt2 : k < n2
        · obtain ⟨ad2, rfl, hb2, hcl2⟩ := (r2.out.below hbel'.out).2.2 (by omega)
          have hy := hcl2 k hlt2
          have hcell := hblk'.out.cell (i + k)
          rw [cellsOf_get _ _ _ (by omega)] at hcell
          have hfro := hblk'.out.frozen (i + k)
          have by_ := is32_get p2.out.1 k
          have bo := is32_get hin.out.is32 (i + k)
          have T1 := hide (hin.out.step bx p2.out.1 (by omega))
          have T2 := hide (hblk'.out.set_ (i + k) (.int .u32 (((hc + (x * ys1.getD k 0 + zs'.getD (i + k) 0)) % 4294967296 : Nat) : Int)))
          rw [cellsOf_set] at T2
          have T3 := hide (hbel'.out.setCell (p := ⟨w.heap.size, i + k, none⟩) (Nat.le_refl _) (.int .u32 (((hc + (x * ys1.getD k 0 + zs'.getD (i + k) 0)) % 4294967296 : Nat) : Int)))
          have T4 := hide T1.out.hi
          have hr := mul_room bx by_ hhc bo
          generalize ys1.getD k 0 = y at *
          generalize zs'.getD (i + k) 0 = o at *
          have hxy1 : (0 : Int) ≤ (x : Int) * y := Int.mul_nonneg (by omega) (by omega)
          have hxy2 : (x : Int) * y ≤ 18446744065119617025 := by
            have : x * y ≤ 4294967295 * 4294967295 := Nat.mul_le_mul (by omega) (by omega)
            have : ((x * y : Nat) : Int) ≤ 18446744065119617025 := by omega
            rwa [Int.natCast_mul] at this
          have hr2 : (hc : Int) + ((x : Int) * y + o) < 18446744073709551616 := by
            have : ((hc + (x * y + o) : Nat) : Int) < 18446744073709551616 := by omega
            rwa [Int.natCast_add, Int.natCast_add, Int.natCast_mul] at this
          clear hcl2 hlen hr hz0
          go_wp2
          go_roundw
          case rel => exact ⟨k + 1, _, _, by omega, by go_num, rfl, T4.out, T2, T3, T1⟩
          case measure => simp [intOf]; omega
        · obtain rfl : k = n2 := by omega
          have hcell := hblk'.out.cell (i + k)
          rw [cellsOf_get _ _ _ (by omega)] at hcell
          have hfro := hblk'.out.frozen (i + k)
          have U1 := hide (S1.out zs' hc hin.out)
          have U2 := hide (hblk'.out.set_ (i + k) (.int .u32 ((hc : Nat) : Int)))
          rw [cellsOf_set] at U2
          have U3 := hide (hbel'.out.setCell (p := ⟨w.heap.size, i + k, none⟩) (Nat.le_refl _) (.int .u32 ((hc : Nat) : Int)))
          generalize zs'.getD (i + k) 0 = o at *
          clear hlen hz0
          go_wp2
          go_roundw
          case rel => exact ⟨i + 1, _, by omega, by go_num, U2, U3, U1⟩
          case measure => simp [intOf]; omega
    · obtain rfl : i = n1 := by omega
      have hz := hinv.out.len
      rw [r1.out.1, r2.out.1] at hz
      have hv := hinv.out
      rw [← r1.out.1] at hv
      have ev := hv.fin
      have C := hide (cut_ok wr (some ⟨w.heap.size, 0, none⟩) (i + n2) (i + n2) zs (by have := hblk.out.rd (i + n2) (by omega) (by omega); rw [List.take_of_length_le (by omega)] at this; exact this) (Nat.le_refl _))
      have N := hide (natR_of_blk hblk.out hinv.out.is32 (Nat.le_refl _) (by omega))
      rw [ev, p1.out.2.2, p2.out.2.2] at N
      clear hz ev hv
      go_wp2_with (go_at_call 59; refine C.out.mono ?_; rintro e w' ⟨rfl, rfl⟩)
      exact opq_end hR ⟨_, rfl, N.out, hbel.out⟩
end Go.Proofs.YtcdejccbamjdoaaDoor
