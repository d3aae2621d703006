/- nats: Mul, shift, back, noughts, Gcd, short. -/
import Derived.Test.YtfpnhggbfakdkaaDoorNA
import Derived.Test.YtfpnhggbfakdkaaDoorLa
import Derived.Lib.TrailingZeros
import Derived.Deep.LoopGhost
/- nats: Mul. -/
set_option linter.unusedVariables false
set_option linter.unusedSimpArgs false
set_option maxRecDepth 100000
namespace Go.Proofs.YtfpnhggbfakdkaaDoor
open Go.RowKit

set_option maxHeartbeats 1000000 in
theorem Mul_ok (w : World) (A A' : Option Addr) (n n' c c' : Nat) (xs ys : List Nat) (h : Rd w A n xs) (h' : Rd w A' n' ys) (h32 : Is32 xs) (h32' : Is32 ys) (hn : n ≤ 17592186044416) (hn' : n' ≤ 17592186044416) (hc : n ≤ c) (hc' : n' ≤ c') :
    Calls Tryd.prog 84 #[.slice A n c, .slice A' n' c'] w fun e w' => ∃ v, e = .returned v ∧ NatR (nv xs * nv ys) w.heap.size w' v ∧ Below w.heap.size w w' := by
  refine opq fun R hR => ?_
  have F1 := hide (fine_any w A n c xs h h32 hc)
  have F2 := hide (fine_any w A' n' c' ys h' h32' hc')
  clear h h' h32 h32'
  go_enter Tryd.func84, Tryd.ntmps84
  go_wp2_with fail
  refine F1.out.mono ?_
  rintro e w' ⟨A1, n1, c1, xs1, rfl, rfl, r1, p1, q1, q2⟩
  go_wp2_with fail
  refine F2.out.mono ?_
  rintro e w' ⟨A2, n2, c2, ys1, rfl, rfl, r2, p2, q3, q4⟩
  clear F1 F2
  have hmk := mk_nums (P := Tryd.prog) (t := 40) (e := 85) (k := .u32) (b := 4) (by kernel_rfl) info32 ((n1 : Int) + n2) (n1 + n2) (by omega) (by omega) (by omega)
  go_wp2
  clear hmk
  go_loopw [23] (fun iv wr => ∃ i zs, i ≤ n1 ∧ iv = .int .i64 (i : Nat) ∧ Hid (Blk wr w.heap.size T32 (cellsOf .u32 zs)) ∧ Hid (Below w.heap.size w wr) ∧ Hid (MulOut i xs1 ys1 zs)) (fun iv _ => n1 - (intOf iv).toNat)
  case atStart => exact ⟨0, _, by omega, rfl, Blk.new _ _ _, (Below.refl _ _).alloc (Nat.le_refl _) _, by rw [← r1.out.1, ← r2.out.1]; exact MulOut.start _ _⟩
  case round =>
    obtain ⟨i, zs, hi, rfl, hblk, hbel, hinv⟩ := hrel
    by_cases hlt : i < n1
    · obtain ⟨ad, rfl, hb, hcl⟩ := (r1.out.below hbel.out).2.2 (by omega)
      have hx := hcl i hlt
      have bx := is32_get p1.out.1 i
      obtain ⟨x, ex⟩ : ∃ x, Hid (xs1.getD i 0 = x) := ⟨_, rfl⟩
      rw [ex.out] at hx bx
      clear hcl
      have hz0 := hinv.out.len
      rw [r1.out.1, r2.out.1] at hz0
      have S0 := hide (MulIn.start (i := i) (x := x) (ys := ys1) hinv.out.is32)
      have S1 := hide (fun zs' h (K : MulIn i ys1.length h (xs1.getD i 0) ys1 zs zs') => hinv.out.step (by rw [r1.out.1]; exact hlt) K)
      rw [ex.out, r2.out.1] at S1
      clear hinv ex
      go_wp2
      obtain ⟨wo, rfl⟩ : ∃ wo : World, wo = wr := ⟨_, rfl⟩
      go_loopw [8, 30] (fun hv kv wr => ∃ k hc zs', k ≤ n2 ∧ kv = .int .i64 (k : Nat) ∧ hv = .int .u64 (hc : Nat) ∧ hc < 4294967296 ∧ Hid (Blk wr w.heap.size T32 (cellsOf .u32 zs')) ∧ Hid (Below w.heap.size w wr) ∧ Hid (MulIn i k hc x ys1 zs zs')) (fun _ kv _ => n2 - (intOf kv).toNat)
      case atStart => exact ⟨0, 0, zs, by omega, rfl, rfl, by omega, hblk, hbel, S0⟩
      case round =>
        obtain ⟨k, hc, zs', hk, rfl, rfl, hhc, hblk', hbel', hin⟩ := hrel
        have hlen := hin.out.len
        by_cases hlt2 : k < n2
        · obtain ⟨ad2, rfl, hb2, hcl2⟩ := (r2.out.below hbel'.out).2.2 (by omega)
          have hy := hcl2 k hlt2
          have hcell := hblk'.out.cell (i + k)
          rw [cellsOf_get _ _ _ (by omega)] at hcell
          have hfro := hblk'.out.frozen (i + k)
          have by_ := is32_get p2.out.1 k
          have bo := is32_get hin.out.is32 (i + k)
          have T1 := hide (hin.out.step bx p2.out.1 (by omega))
          have T2 := hide (hblk'.out.set_ (i + k) (.int .u32 (((hc + (x * ys1.getD k 0 + zs'.getD (i + k) 0)) % 4294967296 : Nat) : Int)))
          rw [cellsOf_set] at T2
          have T3 := hide (hbel'.out.setCell (p := ⟨w.heap.size, i + k, none⟩) (Nat.le_refl _) (.int .u32 (((hc + (x * ys1.getD k 0 + zs'.getD (i + k) 0)) % 4294967296 : Nat) : Int)))
          have T4 := hide T1.out.hi
          have hr := mul_room bx by_ hhc bo
          generalize ys1.getD k 0 = y at *
          generalize zs'.getD (i + k) 0 = o at *
          have hxy1 : (0 : Int) ≤ (x : Int) * y := Int.mul_nonneg (by omega) (by omega)
          have hxy2 : (x : Int) * y ≤ 18446744065119617025 := by
            have : x * y ≤ 4294967295 * 4294967295 := Nat.mul_le_mul (by omega) (by omega)
            have : ((x * y : Nat) : Int) ≤ 18446744065119617025 := by omega
            rwa [Int.natCast_mul] at this
          have hr2 : (hc : Int) + ((x : Int) * y + o) < 18446744073709551616 := by
            have : ((hc + (x * y + o) : Nat) : Int) < 18446744073709551616 := by omega
            rwa [Int.natCast_add, Int.natCast_add, Int.natCast_mul] at this
          clear hcl2 hlen hr hz0
          go_wp2
          go_roundw
          case rel => exact ⟨k + 1, _, _, by omega, by go_num, rfl, T4.out, T2, T3, T1⟩
          case measure => simp [intOf]; omega
        · obtain rfl : k = n2 := by omega
          have hcell := hblk'.out.cell (i + k)
          rw [cellsOf_get _ _ _ (by omega)] at hcell
          have hfro := hblk'.out.frozen (i + k)
          have U1 := hide (S1.out zs' hc hin.out)
          have U2 := hide (hblk'.out.set_ (i + k) (.int .u32 ((hc : Nat) : Int)))
          rw [cellsOf_set] at U2
          have U3 := hide (hbel'.out.setCell (p := ⟨w.heap.size, i + k, none⟩) (Nat.le_refl _) (.int .u32 ((hc : Nat) : Int)))
          generalize zs'.getD (i + k) 0 = o at *
          clear hlen hz0
          go_wp2
          go_roundw
          case rel => exact ⟨i + 1, _, by omega, by go_num, U2, U3, U1⟩
          case measure => simp [intOf]; omega
    · obtain rfl : i = n1 := by omega
      have hz := hinv.out.len
      rw [r1.out.1, r2.out.1] at hz
      have hv := hinv.out
      rw [← r1.out.1] at hv
      have ev := hv.fin
      have C := hide (cut_ok wr (some ⟨w.heap.size, 0, none⟩) (i + n2) (i + n2) zs (by have := hblk.out.rd (i + n2) (by omega) (by omega); rw [List.take_of_length_le (by omega)] at this; exact this) (Nat.le_refl _))
      have N := hide (natR_of_blk hblk.out hinv.out.is32 (Nat.le_refl _) (by omega))
      rw [ev, p1.out.2.2, p2.out.2.2] at N
      clear hz ev hv
      go_wp2_with (go_at_call 92; refine C.out.mono ?_; rintro e w' ⟨rfl, rfl⟩)
      exact opq_end hR ⟨_, rfl, N.out, hbel.out⟩
end Go.Proofs.YtfpnhggbfakdkaaDoor

/- nats: shift, back. -/
set_option linter.unusedVariables false
set_option linter.unusedSimpArgs false
set_option maxRecDepth 100000
namespace Go.Proofs.YtfpnhggbfakdkaaDoor
open Go.RowKit

theorem s_le {S s : Nat} (h : 2 ^ S = s) (hS : S < 32) : s ≤ 2147483648 := by
  rw [← h]
  exact Nat.pow_le_pow_right (n := 2) (by omega) (show S ≤ 31 by omega)
theorem shl_lt {S s x : Nat} (h : 2 ^ S = s) (hx : x < 4294967296) (hS : S < 32) : x * s < 18446744073709551616 := by
  have := s_le h hS
  have : x * s ≤ 4294967295 * 2147483648 := Nat.mul_le_mul (by omega) this
  omega
theorem shl_u64 {S s x : Nat} (h : 2 ^ S = s) (hx : x < 4294967296) (hS : S < 32) : IntKind.u64.wrap ((x : Int) * 2 ^ S) = ((x * s : Nat) : Int) := by
  have e : (x : Int) * 2 ^ S = ((x * s : Nat) : Int) := by rw [← h]; simp
  have := shl_lt h hx hS
  rw [e, IntKind.wrap_u64]
  omega
theorem or_join {S s c y o : Nat} (h : 2 ^ S = s) (hsc : s * c = 4294967296) (hS : S < 32) (ho : o < s) : ∀ x, y = x * s → bits BinOp.or IntKind.u32 (o : Int) ((y : Int) % 4294967296) = ((y % 4294967296 + o : Nat) : Int) := by
  rintro x rfl
  have := s_le h hS
  have e : ((x * s : Nat) : Int) % 4294967296 = ((x * s % 4294967296 : Nat) : Int) := by omega
  rw [e, u32_or_nat _ _ (by omega) (Nat.mod_lt _ (by omega)), Nat.or_comm, nat_join S _ _ (by rw [h]; exact lo_mod hsc) (by rw [h]; exact ho)]
set_option maxHeartbeats 1000000 in
theorem shift_ok (w : World) (A : Option Addr) (n c b : Nat) (xs : List Nat) (h : Rd w A n xs) (h32 : Is32 xs) (hn : n ≤ 17592186044416) (hb : b ≤ 562949953421312) :
    Calls Tryd.prog 77 #[.slice A n c, .int .u64 (b : Nat)] w fun e w' => ∃ v, e = .returned v ∧ NatR (val xs * 2 ^ b) w.heap.size w' v ∧ Below w.heap.size w w' := by
  refine opq fun R hR => ?_
  have r1 := hide h
  have p1 := hide h32
  clear h h32
  have hs0 : 0 < 2 ^ (b % 32) := Nat.pow_pos (by omega)
  have hsc := hide (pow_comp (b % 32) (by omega))
  have hps := hide (pow_split b)
  obtain ⟨k, hk⟩ : ∃ k, Hid (b / 32 = k) := ⟨_, hide rfl⟩
  obtain ⟨s, es⟩ : ∃ s, Hid (2 ^ (b % 32) = s) := ⟨_, hide rfl⟩
  rw [es.out] at hs0 hsc hps
  rw [hk.out] at hps
  have hk1 : ((b : Int)) / 32 = (k : Nat) := by have := hk.out; omega
  have hk2 : k ≤ 17592186044416 := by have := hk.out; omega
  have hmk := mk_nums (P := Tryd.prog) (t := 40) (e := 85) (k := .u32) (b := 4) (by kernel_rfl) info32 ((n : Int) + k + 1) (n + k + 1) (by omega) (by omega) (by omega)
  go_enter Tryd.func77, Tryd.ntmps77
  go_wp2
  clear hmk
  go_loopw [21] (fun iv wr => ∃ i zs, i ≤ n ∧ iv = .int .i64 (i : Nat) ∧ Hid (Blk wr w.heap.size T32 (cellsOf .u32 zs)) ∧ Hid (Below w.heap.size w wr) ∧ Hid (ShInv i k s xs zs)) (fun iv _ => n - (intOf iv).toNat)
  case atStart => exact ⟨0, _, by omega, rfl, Blk.new _ _ _, (Below.refl _ _).alloc (Nat.le_refl _) _, by rw [← r1.out.1]; exact ShInv.start _ hs0⟩
  case round =>
    obtain ⟨i, zs, hi, rfl, hblk, hbel, hinv⟩ := hrel
    by_cases hlt : i < n
    · obtain ⟨ad, rfl, hb, hcl⟩ := (r1.out.below hbel.out).2.2 (by omega)
      have hx := hcl i hlt
      have bx := is32_get p1.out i
      have hlen := hinv.out.len
      rw [r1.out.1] at hlen
      have hcell := hblk.out.cell (i + k)
      rw [cellsOf_get _ _ _ (by omega)] at hcell
      have hfro := hblk.out.frozen (i + k)
      have hcell2 := hblk.out.cell (i + k + 1)
      rw [cellsOf_get _ _ _ (by omega)] at hcell2
      have hfro2 := hblk.out.frozen (i + k + 1)
      obtain ⟨o, eo⟩ : ∃ o, Hid (zs.getD (i + k) 0 = o) := ⟨_, hide rfl⟩
      rw [eo.out] at hcell
      obtain ⟨x, ex⟩ : ∃ x, Hid (xs.getD i 0 = x) := ⟨_, hide rfl⟩
      rw [ex.out] at hx bx
      have lo := hinv.out.low
      have bo := is32_get hinv.out.is32 (i + k)
      rw [eo.out] at lo bo
      have S1 := hide (hinv.out.step (by rw [r1.out.1]; exact hlt) p1.out hs0 hsc.out)
      rw [ex.out, eo.out] at S1
      have e1 : IntKind.u64.wrap ((x : Int) * 2 ^ (b % 32)) = ((x * s : Nat) : Int) := shl_u64 es.out bx (by omega)
      have e2 := or_join (y := x * s) (o := o) es.out hsc.out (by omega) lo x rfl
      have yb := shl_lt es.out bx (by omega)
      obtain ⟨y, hy⟩ : ∃ y, Hid (x * s = y) := ⟨_, hide rfl⟩
      rw [hy.out] at e1 e2 yb S1
      obtain ⟨z, hz⟩ : ∃ z, Hid (y % 4294967296 + o = z) := ⟨_, hide rfl⟩
      rw [hz.out] at e2 S1
      have e3 : (y : Int) / 4294967296 % 4294967296 = ((y / 4294967296 : Nat) : Int) := by omega
      have S2 := hide ((hblk.out.set_ (i + k) (.int .u32 (z : Int))).set_ (i + k + 1) (.int .u32 ((y / 4294967296 : Nat) : Int)))
      rw [cellsOf_set, cellsOf_set] at S2
      have S3 := hide ((hbel.out.setCell (p := ⟨w.heap.size, i + k, none⟩) (Nat.le_refl _) (.int .u32 (z : Int))).setCell (p := ⟨w.heap.size, i + k + 1, none⟩) (Nat.le_refl _) (.int .u32 ((y / 4294967296 : Nat) : Int)))
      clear hcl hlen e3
      go_wp2
      go_roundw
      case rel => exact ⟨i + 1, _, by omega, by go_num, S2, S3, S1⟩
      case measure => simp [intOf]; omega
    · obtain rfl : i = n := by omega
      have hz := hinv.out.len
      rw [r1.out.1] at hz
      have hv := hinv.out
      rw [← r1.out.1] at hv
      have ev := hv.fin
      rw [hps.out] at ev
      have C := hide (cut_ok wr (some ⟨w.heap.size, 0, none⟩) (i + k + 1) (i + k + 1) zs (by have := hblk.out.rd (i + k + 1) (by omega) (by omega); rw [List.take_of_length_le (by omega)] at this; exact this) (Nat.le_refl _))
      have N := hide (natR_of_blk hblk.out hinv.out.is32 (Nat.le_refl _) (by omega))
      rw [ev] at N
      clear hz ev hv
      go_wp2_with (go_at_call 92; refine C.out.mono ?_; rintro e w' ⟨rfl, rfl⟩)
      exact opq_end hR ⟨_, rfl, N.out, hbel.out⟩
end Go.Proofs.YtfpnhggbfakdkaaDoor

/- nats: back. -/
set_option linter.unusedVariables false
set_option linter.unusedSimpArgs false
set_option maxRecDepth 100000
namespace Go.Proofs.YtfpnhggbfakdkaaDoor
open Go.RowKit

theorem run_max_int {P : Program} (ts : Array TypeId) (t : TypeId) (a b : Int) (m : Nat) (h : (m : Int) = max a b) (W : World) :
    (Builtin.max_ ts t #[.int .i64 a, .int .i64 b]).run P W = .ok (.int .i64 (m : Int)) W := by
  have e : (if b > a then b else a) = (m : Int) := by split <;> omega
  simp [Builtin.max_, Builtin.max2]
  simpa using e
theorem below_drewN {B : Nat} {w W : World} (h : Below B w W) (n : Nat) : Below B w (W.drewN n) := ⟨h.os, h.tape, h.output, h.size, h.block⟩
theorem getD_drop (xs : List Nat) (k j : Nat) : (xs.drop k).getD j 0 = xs.getD (j + k) 0 := by
  simp [List.getD_eq_getElem?_getD, List.getElem?_drop, Nat.add_comm]

theorem or_high {x y : Nat} (hx : x < 4294967296) (hy : y < 4294967296) : bits BinOp.or IntKind.u64 ((y : Int) * 4294967296) (x : Int) = ((y * 4294967296 + x : Nat) : Int) := by
  have e : (y : Int) * 4294967296 = ((y * 4294967296 : Nat) : Int) := by simp
  rw [e, u64_or_nat _ _ (by omega) (by omega), nat_join 32 _ _ (by rw [show (2 : Nat) ^ 32 = 4294967296 from rfl]; exact Nat.mul_mod_left _ _) hx]

set_option maxHeartbeats 1000000 in
theorem back_ok (w : World) (A : Option Addr) (n c b : Nat) (xs : List Nat) (h : Rd w A n xs) (h32 : Is32 xs) (hn : n ≤ 17592186044416) (hb : b ≤ 1125899906842624) :
    Calls Tryd.prog 75 #[.slice A n c, .int .u64 (b : Nat)] w fun e w' => ∃ v, e = .returned v ∧ NatR (val xs / 2 ^ b) w.heap.size w' v ∧ Below w.heap.size w w' := by
  refine opq fun R hR => ?_
  have r1 := hide h
  have p1 := hide h32
  have hv := hide (back_val xs h32 b)
  have pd := hide (is32_drop h32 (b / 32))
  have ld := hide (List.length_drop (i := b / 32) (l := xs))
  rw [h.1] at ld
  clear h h32
  have hs0 : 0 < 2 ^ (b % 32) := Nat.pow_pos (by omega)
  have hsc := hide (pow_comp (b % 32) (by omega))
  obtain ⟨k, hk⟩ : ∃ k, Hid (b / 32 = k) := ⟨_, hide rfl⟩
  obtain ⟨s, es⟩ : ∃ s, Hid (2 ^ (b % 32) = s) := ⟨_, hide rfl⟩
  rw [es.out] at hs0 hsc hv
  rw [hk.out] at hv pd ld
  have hk1 : ((b : Int)) / 32 = (k : Nat) := by have := hk.out; omega
  have hk2 : k ≤ 35184372088832 := by have := hk.out; omega
  obtain ⟨m, hm⟩ : ∃ m, Hid (n - k = m) := ⟨_, hide rfl⟩
  rw [hm.out] at ld
  have hm2 : m ≤ 17592186044416 := by have := hm.out; omega
  have hmax := fun ts t => run_max_int (P := Tryd.prog) ts t 0 ((n : Int) - k) m (by have := hm.out; omega)
  have hmk := mk_nums (P := Tryd.prog) (t := 40) (e := 85) (k := .u32) (b := 4) (by kernel_rfl) info32 (m : Int) m rfl (by omega) (by omega)
  go_enter Tryd.func75, Tryd.ntmps75
  go_wp2
  clear hmk hmax
  go_loopw [19] (fun iv wr => ∃ i zs, i ≤ m ∧ iv = .int .i64 (i : Nat) ∧ Hid (Blk wr w.heap.size T32 (cellsOf .u32 zs)) ∧ Hid (Below w.heap.size w wr) ∧ Hid (BkInv m i s (xs.drop k) zs)) (fun iv _ => m - (intOf iv).toNat)
  case atStart => exact ⟨0, _, by omega, rfl, Blk.new _ _ _, (Below.refl _ _).alloc (Nat.le_refl _) _, BkInv.start _ _ _⟩
  case round =>
    obtain ⟨i, zs, hi, rfl, hblk, hbel, hinv⟩ := hrel
    have hz := hinv.out.len hi
    by_cases hlt : i < m
    · have hcell := hblk.out.cell i
      rw [cellsOf_get _ _ _ (by omega)] at hcell
      have hfro := hblk.out.frozen i
      have G1 := hide (at_nat wr A n c xs (i + k + 1) (r1.out.below hbel.out) p1.out)
      have G2 := hide (at_nat wr A n c xs (i + k) (r1.out.below hbel.out) p1.out)
      have b1 := is32_get p1.out (i + k + 1)
      have b2 := is32_get p1.out (i + k)
      have S1 := hide (hinv.out.step hlt pd.out hs0 hsc.out)
      rw [getD_drop, getD_drop, show i + 1 + k = i + k + 1 from by omega] at S1
      obtain ⟨x, ex⟩ : ∃ x, Hid (xs.getD (i + k) 0 = x) := ⟨_, hide rfl⟩
      obtain ⟨y, ey⟩ : ∃ y, Hid (xs.getD (i + k + 1) 0 = y) := ⟨_, hide rfl⟩
      rw [ex.out] at G2 b2 S1
      rw [ey.out] at G1 b1 S1
      have e1 := or_high (x := x) (y := y) b2 b1
      obtain ⟨z, ez⟩ : ∃ z, Hid (y * 4294967296 + x = z) := ⟨_, hide rfl⟩
      rw [ez.out] at e1
      have e2 : (z : Int) / 2 ^ (b % 32) % 4294967296 = ((bkd x y s : Nat) : Int) := by
        rw [bkd, ez.out, ← es.out]; simp
      have S2 := hide (hblk.out.set_ i (.int .u32 ((bkd x y s : Nat) : Int)))
      rw [cellsOf_set] at S2
      have S3 := hide (hbel.out.setCell (p := ⟨w.heap.size, i, none⟩) (Nat.le_refl _) (.int .u32 ((bkd x y s : Nat) : Int)))
      clear hz
      go_wp2_with fail
      refine G1.out.mono ?_
      rintro e w' ⟨rfl, rfl⟩
      go_wp2_with fail
      refine G2.out.mono ?_
      rintro e w' ⟨rfl, rfl⟩
      go_wp2
      go_roundw
      case rel => exact ⟨i + 1, _, by omega, by go_num, S2, S3, S1⟩
      case measure => simp [intOf]; omega
    · obtain rfl : i = m := by omega
      have hi2 := hinv.out
      rw [← ld.out] at hi2
      obtain ⟨e32, ev⟩ := hi2.fin
      rw [hv.out] at ev
      have C := hide (cut_ok wr (some ⟨w.heap.size, 0, none⟩) i i zs (by have := hblk.out.rd i (by omega) (by omega); rw [List.take_of_length_le (by omega)] at this; exact this) (Nat.le_refl _))
      have N := hide (natR_of_blk hblk.out e32 (Nat.le_refl _) (by omega))
      rw [ev] at N
      clear hz ev e32 hi2
      go_wp2_with (go_at_call 92; refine C.out.mono ?_; rintro e w' ⟨rfl, rfl⟩)
      exact opq_end hR ⟨_, rfl, N.out, hbel.out⟩
end Go.Proofs.YtfpnhggbfakdkaaDoor

/- nats: noughts. -/
set_option linter.unusedVariables false
set_option linter.unusedSimpArgs false
set_option maxRecDepth 100000
namespace Go.Proofs.YtfpnhggbfakdkaaDoor
open Go.RowKit

/-- The table of the library lies where it was laid. -/
structure Tab (w : World) : Prop where
  cell : ∀ j, j < 32 → w.cell? ⟨0, j, none⟩ = some (.int .u8 (Lib.deBruijn32tab.getD j 0 : Nat))
theorem Tab.below {w w' : World} (h : Tab w) (hb : Below w.heap.size w w') : Tab w' := ⟨fun j hj => cell_below hb (h.cell j hj)⟩
theorem Tab.drew {w : World} (h : Tab w) : Tab w.drew := ⟨h.cell⟩
theorem Tab.drewN {w : World} (h : Tab w) (n : Nat) : Tab (w.drewN n) := ⟨h.cell⟩

theorem tz_key (x a : Nat) (hx : x < 4294967296) (hx0 : x ≠ 0) (hlow : x &&& (4294967296 - x) = a) :
    bits BinOp.and IntKind.u32 (x : Int) (-(x : Int) % 4294967296) * 125613361 % 4294967296 / 134217728 = ((a * 125613361 % 4294967296 / 134217728 : Nat) : Int) := by
  have e1 : -(x : Int) % 4294967296 = ((4294967296 - x : Nat) : Int) := by omega
  rw [e1, u32_and_nat x _ hx (by omega), hlow]
  omega
set_option maxHeartbeats 400000 in
theorem tz_core (x k idx : Nat) (w : World) (hx0 : ((x : Int) == 0) = false)
    (key : bits BinOp.and IntKind.u32 (x : Int) (-(x : Int) % 4294967296) * 125613361 % 4294967296 / 134217728 = (idx : Int))
    (hi : idx < 32) (hk : k < 32) (hcell : w.cell? ⟨0, idx, none⟩ = some (.int .u8 (k : Nat))) :
    Calls Tryd.prog 90 #[.int .u32 (x : Nat)] w fun e w' => e = .returned (.int .i64 (k : Nat)) ∧ w = w' := by
  refine opq fun R hR => ?_
  go_enter Tryd.func90, Tryd.ntmps90
  go_wp2_with (simp only [key])
  exact opq_end hR ⟨rfl, rfl⟩
theorem tz_ok (x : Nat) (hx : x < 4294967296) (hx0 : x ≠ 0) (w : World) (hT : Tab w) :
    Calls Tryd.prog 90 #[.int .u32 (x : Nat)] w fun e w' => ∃ k m, e = .returned (.int .i64 (k : Nat)) ∧ w = w' ∧ k < 32 ∧ Hid (x = 2 ^ k * (2 * m + 1)) := by
  obtain ⟨hlow, hk⟩ := Lib.lowest_bit 32 x hx0 hx
  obtain ⟨m, hm, _⟩ := Lib.ctzFrom_spec 32 x (by omega) hx
  have e : Lib.ctz 32 x = Lib.ctzFrom 32 x := by simp [Lib.ctz, hx0]
  obtain ⟨hi, htab⟩ := Lib.deBruijn32_at _ hk
  have hcell := hT.cell _ hi
  rw [htab] at hcell
  refine (tz_core x _ _ w (by simp; omega) (tz_key x _ hx hx0 hlow) hi hk hcell).mono ?_
  rintro e1 w' ⟨h1, h2⟩
  exact ⟨_, m, h1, h2, hk, by rw [e]; exact hm⟩

theorem odd_up {x t m v : Nat} (hx : x = 2 ^ t * (2 * m + 1)) (ht : t < 32) : x + 4294967296 * v = 2 ^ t * (2 * (m + 2 ^ (31 - t) * v) + 1) := by
  have e : (4294967296 : Nat) = 2 ^ t * (2 * 2 ^ (31 - t)) := by
    rw [← Nat.pow_succ', ← Nat.pow_add, show t + (31 - t + 1) = 32 from by omega]
  rw [hx, e, Nat.mul_assoc (2 ^ t), ← Nat.mul_add]
  congr 1
  rw [Nat.mul_add, Nat.mul_assoc]
  omega
theorem tz_lift {xs : List Nat} {i t m x : Nat} (hz : val xs = 4294967296 ^ i * val (xs.drop i)) (hx : xs.getD i 0 = x) (e : x = 2 ^ t * (2 * m + 1)) (ht : t < 32) : ∃ m', val xs = 2 ^ (32 * i + t) * (2 * m' + 1) := by
  refine ⟨m + 2 ^ (31 - t) * val (xs.drop (i + 1)), ?_⟩
  rw [hz, drop_val, hx, odd_up e ht, show (4294967296 : Nat) = 2 ^ 32 from rfl, ← Nat.pow_mul, ← Nat.mul_assoc, ← Nat.pow_add]
theorem tz_next {xs : List Nat} {i : Nat} (hz : val xs = 4294967296 ^ i * val (xs.drop i)) (hx : xs.getD i 0 = 0) : val xs = 4294967296 ^ (i + 1) * val (xs.drop (i + 1)) := by
  rw [hz, drop_val, hx, Nat.pow_succ, Nat.mul_assoc, Nat.zero_add]

set_option maxHeartbeats 400000 in
theorem noughts_ok (w : World) (A : Option Addr) (n c : Nat) (xs : List Nat) (h : Rd w A n xs) (h32 : Is32 xs) (hn : n ≤ 17592186044416) (h0 : val xs ≠ 0) (hT : Tab w) :
    Calls Tryd.prog 74 #[.slice A n c] w fun e w' => ∃ k m, e = .returned (.int .u64 (k : Nat)) ∧ w = w' ∧ k ≤ 32 * n ∧ Hid (val xs = 2 ^ k * (2 * m + 1)) := by
  refine opq fun R hR => ?_
  have r1 := hide h
  have p1 := hide h32
  have n0 := hide h0
  have T := hide hT
  clear h h32 h0 hT
  go_enter Tryd.func74, Tryd.ntmps74
  go_wp2
  go_loop [2, 7] (fun nv iv => ∃ i, i ≤ n ∧ iv = .int .i64 (i : Nat) ∧ nv = .int .u64 ((32 * i : Nat) : Int) ∧ Hid (val xs = 4294967296 ^ i * val (xs.drop i))) (fun _ iv => n - (intOf iv).toNat)
  case atStart => exact ⟨0, by omega, rfl, rfl, by show _ = _; simp⟩
  case round =>
    obtain ⟨i, hi, rfl, rfl, hz⟩ := hrel
    by_cases hlt : i < n
    · obtain ⟨ad, rfl, hb, hcl⟩ := r1.out.2.2 (by omega)
      have hx := hcl i hlt
      have bx := is32_get p1.out i
      obtain ⟨x, ex⟩ : ∃ x, Hid (xs.getD i 0 = x) := ⟨_, hide rfl⟩
      rw [ex.out] at hx bx
      clear hcl
      by_cases hx0 : x = 0
      · have Z := hide (tz_next hz.out (by rw [ex.out, hx0]))
        subst hx0
        go_wp2
        go_round
        case rel => exact ⟨i + 1, by omega, by go_num, by go_num, Z⟩
        case measure => simp [intOf]; omega
      · have e1 : ((x : Int) != 0) = true := by simp; omega
        have G := hide (tz_ok x bx hx0 w T.out)
        have L := hide (fun t m e ht => tz_lift (t := t) (m := m) hz.out ex.out e ht)
        clear hx0
        go_wp2_with (go_at_call 90; refine G.out.mono ?_; rintro e w' ⟨t, m, rfl, rfl, ht, em⟩)
        obtain ⟨m', em'⟩ := L.out t m em.out ht
        exact opq_end hR ⟨32 * i + t, m', by rfl, rfl, by omega, em'⟩
    · exfalso
      obtain rfl : i = n := by omega
      have := hz.out
      rw [List.drop_of_length_le (by rw [r1.out.1]; exact Nat.le_refl _)] at this
      exact n0.out (by rw [this]; rfl)
end Go.Proofs.YtfpnhggbfakdkaaDoor

/- nats: contracts at numbers that may be. -/
set_option linter.unusedVariables false
set_option linter.unusedSimpArgs false
set_option maxRecDepth 100000
namespace Go.Proofs.YtfpnhggbfakdkaaDoor
open Go.RowKit

/-- The value reads as the number N. -/
def Can (w : World) (v : Value) (N : Nat) : Prop := ∃ A c, v = .slice A (limbs N).length c ∧ (limbs N).length ≤ c ∧ Rd w A (limbs N).length (limbs N)
theorem NatR.can {N B : Nat} {w : World} {v : Value} (h : NatR N B w v) : Can w v N := by
  obtain ⟨A, c, e, r, f, l⟩ := h
  exact ⟨A, c, e, l, r⟩
theorem NatR.below {N B : Nat} {w w' : World} {v : Value} (h : NatR N B w v) (hb : Below w.heap.size w w') : NatR N B w' v := by
  obtain ⟨A, c, e, r, f, l⟩ := h
  exact ⟨A, c, e, r.below hb, f.below hb, l⟩
theorem Can.below {w w' : World} {v : Value} {N : Nat} (h : Can w v N) (hb : Below w.heap.size w w') : Can w' v N := by
  obtain ⟨A, c, e, l, r⟩ := h
  exact ⟨A, c, e, l, r.below hb⟩
/-- Numbers that a call may be asked for. -/
def Sm (N : Nat) : Prop := (limbs N).length ≤ 17592186044416
theorem limbs_len_mono {M N : Nat} (h : M ≤ N) : (limbs M).length ≤ (limbs N).length := limbs_length_le.2 (Nat.lt_of_le_of_lt h (limbs_length_le.1 (Nat.le_refl _)))
theorem Sm.mono {M N : Nat} (h : Sm N) (hl : M ≤ N) : Sm M := Nat.le_trans (limbs_len_mono hl) h
theorem is_zero_len {N : Nat} : (limbs N).length = 0 ↔ N = 0 := by rw [List.length_eq_zero_iff, limbs_eq_nil]

theorem Cmp_can {w : World} {v v' : Value} {M N : Nat} (h : Can w v M) (h' : Can w v' N) (s : Sm M) (s' : Sm N) :
    Calls Tryd.prog 76 #[v, v'] w fun e w' => e = .returned (.int .i64 (cmpN M N)) ∧ Below w.heap.size w w' := by
  obtain ⟨A, c, rfl, l, r⟩ := h
  obtain ⟨A', c', rfl, l', r'⟩ := h'
  have s0 : (limbs M).length ≤ 17592186044416 := s
  have s1 : (limbs N).length ≤ 17592186044416 := s'
  have := Cmp_ok w A A' _ _ c c' _ _ r r' (is32_limbs M) (is32_limbs N) (by omega) (by omega) l l'
  rw [nv_limbs, nv_limbs] at this
  exact this
theorem minus_can {w : World} {v v' : Value} {M N : Nat} (h : Can w v M) (h' : Can w v' N) (s : Sm M) (hl : N ≤ M) :
    Calls Tryd.prog 78 #[v, v'] w fun e w' => ∃ u, e = .returned u ∧ Hid (NatR (M - N) w.heap.size w' u) ∧ Hid (Below w.heap.size w w') := by
  obtain ⟨A, c, rfl, l, r⟩ := h
  obtain ⟨A', c', rfl, l', r'⟩ := h'
  have s0 : (limbs M).length ≤ 17592186044416 := s
  have := minus_ok w A A' _ _ c c' _ _ r r' (is32_limbs M) (is32_limbs N) (by omega) (limbs_len_mono hl) (by rw [val_limbs, val_limbs]; exact hl)
  rw [val_limbs, val_limbs] at this
  exact this
theorem back_can {w : World} {v : Value} {N : Nat} (b : Nat) (h : Can w v N) (s : Sm N) (hb : b ≤ 1125899906842624) :
    Calls Tryd.prog 75 #[v, .int .u64 (b : Nat)] w fun e w' => ∃ u, e = .returned u ∧ Hid (NatR (N / 2 ^ b) w.heap.size w' u) ∧ Hid (Below w.heap.size w w') := by
  obtain ⟨A, c, rfl, l, r⟩ := h
  have := back_ok w A _ c b _ r (is32_limbs N) s hb
  rw [val_limbs] at this
  exact this
theorem shift_can {w : World} {v : Value} {N : Nat} (b : Nat) (h : Can w v N) (s : Sm N) (hb : b ≤ 562949953421312) :
    Calls Tryd.prog 77 #[v, .int .u64 (b : Nat)] w fun e w' => ∃ u, e = .returned u ∧ Hid (NatR (N * 2 ^ b) w.heap.size w' u) ∧ Hid (Below w.heap.size w w') := by
  obtain ⟨A, c, rfl, l, r⟩ := h
  have := shift_ok w A _ c b _ r (is32_limbs N) s hb
  rw [val_limbs] at this
  exact this
theorem noughts_can {w : World} {v : Value} {N : Nat} (h : Can w v N) (s : Sm N) (h0 : N ≠ 0) (hT : Tab w) :
    Calls Tryd.prog 74 #[v] w fun e w' => ∃ k m, e = .returned (.int .u64 (k : Nat)) ∧ w = w' ∧ k ≤ 562949953421312 ∧ Hid (N = 2 ^ k * (2 * m + 1)) := by
  obtain ⟨A, c, rfl, l, r⟩ := h
  have s0 : (limbs N).length ≤ 17592186044416 := s
  have := noughts_ok w A _ c _ r (is32_limbs N) s (by rw [val_limbs]; exact h0) hT
  rw [val_limbs] at this
  refine this.mono ?_
  rintro e w' ⟨k, m, h1, h2, h3, h4⟩
  exact ⟨k, m, h1, h2, by omega, h4⟩

theorem clone_fine (w : World) (A : Option Addr) (n c : Nat) (xs : List Nat) (h : Rd w A n xs) (hc : Is32 xs ∧ chk xs = true) (hn : n ≤ 17592186044416) :
    Calls Tryd.prog 72 #[.slice A n c] w fun e w' => ∃ A' c', e = .returned (.slice A' (limbs (val xs)).length c') ∧ Hid (NatR (val xs) w.heap.size w' (.slice A' (limbs (val xs)).length c')) ∧ Hid (Below w.heap.size w w') := by
  refine (clone_ok w A n c xs h (by omega)).mono ?_
  rintro e w' ⟨A', c', rfl, h1, h2, h3, h4, _⟩
  have e1 := limbs_val_chk hc.1 hc.2
  have e2 : (limbs (val xs)).length = n := by rw [e1]; exact h.1
  exact ⟨A', c', by rw [e2], ⟨A', c', rfl, by rw [e2, e1]; exact h2, h3, by omega⟩, h4⟩
theorem run_min_nat {P : Program} (ts : Array TypeId) (t : TypeId) (k : IntKind) (a b m : Nat) (h : m = min a b) (W : World) :
    (Builtin.min_ ts t #[.int k (a : Int), .int k (b : Int)]).run P W = .ok (.int k (m : Int)) W := by
  have e : (if (b : Int) < a then (b : Int) else a) = (m : Int) := by split <;> omega
  simp [Builtin.min_, Builtin.min2]
  simpa using e
end Go.Proofs.YtfpnhggbfakdkaaDoor

/- nats: Gcd. -/
set_option linter.unusedVariables false
set_option linter.unusedSimpArgs false
set_option maxRecDepth 100000
namespace Go.Proofs.YtfpnhggbfakdkaaDoor
open Go.RowKit

theorem sm_of_len {xs : List Nat} {n : Nat} (h32 : Is32 xs) (hl : xs.length = n) (hn : n ≤ 17592186044416) : Sm (val xs) :=
  Nat.le_trans (limbs_length_le.2 (by rw [← hl]; exact val_lt h32)) hn

set_option maxHeartbeats 2000000 in
theorem Gcd_ok (w : World) (A A' : Option Addr) (n n' c c' : Nat) (xs ys : List Nat) (h : Rd w A n xs) (h' : Rd w A' n' ys) (h32 : Is32 xs) (h32' : Is32 ys) (hn : n ≤ 8796093022208) (hn' : n' ≤ 8796093022208) (hc : n ≤ c) (hc' : n' ≤ c') (hT : Tab w) :
    Calls Tryd.prog 53 #[.slice A n c, .slice A' n' c'] w fun e w' => ∃ v, e = .returned v ∧ NatR (Nat.gcd (nv xs) (nv ys)) w.heap.size w' v ∧ Below w.heap.size w w' := by
  refine opq fun R hR => ?_
  have F1 := hide (fine_any w A n c xs h h32 hc)
  have F2 := hide (fun w1 (hb : Below w.heap.size w w1) => fine_any w1 A' n' c' ys (h'.below hb) h32' hc')
  have T := hide hT
  clear h h' h32 h32' hT
  go_enter Tryd.func53, Tryd.ntmps53
  go_wp2_with fail
  refine F1.out.mono ?_
  rintro e w' ⟨A1, n1, c1, xs1, rfl, rfl, r1, p1, q1, q2⟩
  go_wp2_with fail
  refine (clone_fine w A1 n1 c1 xs1 r1.out ⟨p1.out.1, p1.out.2.1⟩ (by omega)).mono ?_
  rintro e w1 ⟨A1', c1', rfl, N1, B1⟩
  have S1 : Hid (Sm (nv xs)) := by rw [← p1.out.2.2]; exact sm_of_len p1.out.1 r1.out.1 (by omega)
  rw [p1.out.2.2] at *
  clear F1 r1 p1
  go_wp2_with fail
  refine (F2.out w1 B1.out).mono ?_
  rintro e w' ⟨A2, n2, c2, ys1, rfl, rfl, r2, p2, q3, q4⟩
  go_wp2_with fail
  refine (clone_fine w1 A2 n2 c2 ys1 r2.out ⟨p2.out.1, p2.out.2.1⟩ (by omega)).mono ?_
  rintro e w2 ⟨A2', c2', rfl, N2, B2⟩
  have S2 : Hid (Sm (nv ys)) := by rw [← p2.out.2.2]; exact sm_of_len p2.out.1 r2.out.1 (by omega)
  rw [p2.out.2.2] at *
  clear F2 r2 p2
  have M1 := hide (N1.out.below B2.out)
  have M2 := hide (N2.out.mono B1.out.size)
  have B3 := hide (below_tr B1.out B2.out)
  have T2 := hide (T.out.below B3.out)
  clear N1 N2 B1 B2
  generalize nv xs = a at *
  generalize nv ys = b at *
  by_cases ha : a = 0
  · subst ha
    rw [limbs_zero] at *
    have e0 : Hid (Nat.gcd 0 b = b) := Nat.gcd_zero_left b
    go_wp2
    exact opq_end hR ⟨_, rfl, by rw [e0.out]; exact M2.out, B3.out⟩
  · have la : ((limbs a).length == 0) = false := by simp [limbs_eq_nil, ha]
    have la' : (((limbs a).length : Int) == 0) = false := by rw [beq_nat0]; simpa using la
    by_cases hb : b = 0
    · subst hb
      have e0 : Hid (Nat.gcd a 0 = a) := Nat.gcd_zero_right a
      rw [limbs_zero] at *
      generalize (limbs a).length = la1 at *
      go_wp2
      exact opq_end hR ⟨_, rfl, by rw [e0.out]; exact M1.out, B3.out⟩
    · have lb' : (((limbs b).length : Int) == 0) = false := by rw [beq_nat0]; simp [limbs_eq_nil, hb]
      clear la
      have C1 := hide M1.out.can
      have C2 := hide M2.out.can
      generalize (limbs a).length = la1 at *
      generalize (limbs b).length = lb1 at *
      have HA := hide ha
      have HB := hide hb
      clear ha hb
      go_wp2_with fail
      refine (noughts_can C1.out S1.out HA.out T2.out).mono ?_
      rintro e w' ⟨kn, x, rfl, rfl, hkn, ea⟩
      go_wp2_with fail
      refine (noughts_can C2.out S2.out HB.out T2.out).mono ?_
      rintro e w' ⟨km, y, rfl, rfl, hkm, eb⟩
      go_wp2_with fail
      refine (back_can kn C1.out S1.out (by omega)).mono ?_
      rintro e w3 ⟨v1, rfl, N3, B4⟩
      go_wp2_with fail
      refine (back_can km (C2.out.below B4.out) S2.out (by omega)).mono ?_
      rintro e w4 ⟨v2, rfl, N4, B5⟩
      have P1 : Hid (a / 2 ^ kn = 2 * x + 1) := div_pow_odd ea.out
      have P2 : Hid (b / 2 ^ km = 2 * y + 1) := div_pow_odd eb.out
      have W := hide (gcd_whole ea.out eb.out)
      have S3 := hide (S1.out.mono (le_of_tz ea.out))
      have S4 := hide (S2.out.mono (le_of_tz eb.out))
      have K1 := hide ((N3.out.below B5.out).mono B3.out.size)
      have K2 := hide (N4.out.mono (Nat.le_trans B3.out.size B4.out.size))
      have K3 := hide (below_tr (below_tr B3.out B4.out) B5.out)
      rw [P1.out] at K1
      rw [P2.out] at K2
      clear N3 N4 B4 B5 P1 P2 ea eb M1 M2 C1 C2 S1 S2 HA HB
      obtain ⟨mn, emn⟩ : ∃ mn, Hid (mn = min kn km) := ⟨_, hide rfl⟩
      have hmin := fun ts t => run_min_nat (P := Tryd.prog) ts t .u64 kn km mn emn.out
      have hmn : mn ≤ 562949953421312 := by rw [emn.out]; omega
      rw [← emn.out] at W
      go_wp2
      go_loopg [0, 1] (2 * x + 1 + (2 * y + 1)) (fun gk av bv wr => ∃ p q, Hid (gk = p + q) ∧ Hid (NatR p w.heap.size wr av) ∧ Hid (NatR q w.heap.size wr bv) ∧ Hid (p % 2 = 1 ∧ q % 2 = 1 ∧ Nat.gcd p q = Nat.gcd (2 * x + 1) (2 * y + 1)) ∧ Hid (Sm p) ∧ Hid (Sm q) ∧ Hid (Below w.heap.size w wr))
      case atStart => exact ⟨_, _, hide rfl, K1, K2, hide ⟨by omega, by omega, rfl⟩, S3, S4, K3⟩
      case round =>
        obtain ⟨p, q, hg, hp, hq, ho, sp, sq, hb⟩ := hrel
        have C := hide (Cmp_can hp.out.can hq.out.can sp.out sq.out)
        rcases cmpN_cases p q with ⟨hlt, ec⟩ | ⟨heq, ec⟩ | ⟨hlt, ec⟩
        · rw [ec] at C
          have L := hide hlt
          clear hlt ec
          go_wp2_with fail
          refine C.out.mono ?_
          rintro e w5 ⟨rfl, b5⟩
          have B5 := hide b5
          clear b5
          have B6 := hide (below_tr hb.out B5.out)
          go_wp2_with fail
          refine (minus_can (hq.out.can.below B5.out) (hp.out.can.below B5.out) sq.out (Nat.le_of_lt L.out)).mono ?_
          rintro e w6 ⟨u1, rfl, N6, b6⟩
          have B7 := hide (below_tr B6.out b6.out)
          have SD := hide (sq.out.mono (Nat.sub_le q p))
          have D0 : Hid (q - p ≠ 0) := Nat.sub_ne_zero_of_lt L.out
          go_wp2_with fail
          refine (noughts_can N6.out.can SD.out D0.out (T.out.below B7.out)).mono ?_
          rintro e w' ⟨kd, z, rfl, rfl, hkd, ed⟩
          go_wp2_with fail
          refine (back_can kd N6.out.can SD.out (by omega)).mono ?_
          rintro e w7 ⟨u2, rfl, N7, b7⟩
          have PD : Hid ((q - p) / 2 ^ kd = 2 * z + 1) := div_pow_odd ed.out
          have LD := hide (le_of_tz ed.out)
          have G := hide (gcd_step ho.out.1 L.out ed.out)
          rw [PD.out] at N7
          have Q1 := hide (((hp.out.below B5.out).below b6.out).below b7.out)
          have Q2 := hide (N7.out.mono B7.out.size)
          have Q3 := hide (below_tr B7.out b7.out)
          go_wp2
          go_roundg (p + (2 * z + 1))
          case measure => have := LD.out; have := hg.out; have := L.out; have := ho.out.1; have := ho.out.2.1; omega
          case rel => exact ⟨p, 2 * z + 1, hide rfl, Q1, Q2, hide ⟨ho.out.1, by omega, by rw [G.out]; exact ho.out.2.2⟩, sp, hide (SD.out.mono LD.out), Q3⟩
        · rw [ec] at C
          have G : Hid (p = Nat.gcd (2 * x + 1) (2 * y + 1)) := by rw [← ho.out.2.2, heq]; exact (Nat.gcd_self q).symm
          clear heq ec
          go_wp2_with fail
          refine C.out.mono ?_
          rintro e w5 ⟨rfl, b5⟩
          have B5 := hide b5
          clear b5
          go_wp2_with fail
          refine (shift_can mn (hp.out.can.below B5.out) sp.out (by omega)).mono ?_
          rintro e w6 ⟨u1, rfl, N6, b6⟩
          go_wp2
          refine opq_end hR ⟨_, rfl, ?_, below_tr (below_tr hb.out B5.out) b6.out⟩
          rw [W.out, ← G.out]
          exact N6.out.mono (Nat.le_trans hb.out.size B5.out.size)
        · rw [ec] at C
          have L := hide hlt
          clear hlt ec
          go_wp2_with fail
          refine C.out.mono ?_
          rintro e w5 ⟨rfl, b5⟩
          have B5 := hide b5
          clear b5
          have B6 := hide (below_tr hb.out B5.out)
          go_wp2_with fail
          refine (minus_can (hp.out.can.below B5.out) (hq.out.can.below B5.out) sp.out (Nat.le_of_lt L.out)).mono ?_
          rintro e w6 ⟨u1, rfl, N6, b6⟩
          have B7 := hide (below_tr B6.out b6.out)
          have SD := hide (sp.out.mono (Nat.sub_le p q))
          have D0 : Hid (p - q ≠ 0) := Nat.sub_ne_zero_of_lt L.out
          go_wp2_with fail
          refine (noughts_can N6.out.can SD.out D0.out (T.out.below B7.out)).mono ?_
          rintro e w' ⟨kd, z, rfl, rfl, hkd, ed⟩
          go_wp2_with fail
          refine (back_can kd N6.out.can SD.out (by omega)).mono ?_
          rintro e w7 ⟨u2, rfl, N7, b7⟩
          have PD : Hid ((p - q) / 2 ^ kd = 2 * z + 1) := div_pow_odd ed.out
          have LD := hide (le_of_tz ed.out)
          have G := hide (gcd_step ho.out.2.1 L.out ed.out)
          rw [PD.out] at N7
          have Q1 := hide (((hq.out.below B5.out).below b6.out).below b7.out)
          have Q2 := hide (N7.out.mono B7.out.size)
          have Q3 := hide (below_tr B7.out b7.out)
          go_wp2
          go_roundg (q + (2 * z + 1))
          case measure => have := LD.out; have := hg.out; have := L.out; have := ho.out.1; have := ho.out.2.1; omega
          case rel => exact ⟨q, 2 * z + 1, hide rfl, Q1, Q2, hide ⟨ho.out.2.1, by omega, by rw [G.out, Nat.gcd_comm]; exact ho.out.2.2⟩, sq, hide (SD.out.mono LD.out), Q3⟩
end Go.Proofs.YtfpnhggbfakdkaaDoor

/- nats: short. -/
set_option linter.unusedVariables false
set_option linter.unusedSimpArgs false
set_option maxRecDepth 100000
namespace Go.Proofs.YtfpnhggbfakdkaaDoor
open Go.RowKit

set_option maxHeartbeats 400000 in
theorem div32_ok (w : World) (x y z : Nat) (hx : x < z) (hy : y < 4294967296) (hz : z < 4294967296) :
    Calls Tryd.prog 105 #[.int .u32 (x : Nat), .int .u32 (y : Nat), .int .u32 (z : Nat)] w fun e w' => e = .returned (.tuple #[.int .u32 ((x * 4294967296 + y) / z : Nat), .int .u32 ((x * 4294967296 + y) % z : Nat)]) ∧ ∃ nq, w.drewN nq = w' := by
  refine opq fun R hR => ?_
  have e1 : ((z : Int) != 0) = true := by simp; omega
  have e2 : decide ((z : Int) ≤ x) = false := by simp; omega
  have e2' : decide (z ≤ x) = false := by simp; omega
  have e3 := or_high hy (Nat.lt_trans hx hz)
  have q1 := short_room hx hy
  have q2 : (x * 4294967296 + y) % z < z := Nat.mod_lt _ (by omega)
  obtain ⟨s, es⟩ : ∃ s, Hid (x * 4294967296 + y = s) := ⟨_, hide rfl⟩
  rw [es.out] at e3 q1 q2
  have sb : s < 18446744073709551616 := by have := es.out; omega
  have z0 : (0 : Int) < z := by omega
  have q3 : (s : Int) / z < 4294967296 := by have : ((s / z : Nat) : Int) < 4294967296 := by omega
                                             rwa [Int.natCast_ediv] at this
  have q4 : (s : Int) % z < 4294967296 := by have : ((s % z : Nat) : Int) < 4294967296 := by omega
                                             rwa [Int.natCast_emod] at this
  go_enter Tryd.func105, Tryd.ntmps105
  go_wp2
  go_quiet (fail)
  go_wp2
  refine opq_end hR ⟨?_, nq, rfl⟩
  have v1 : IntKind.u64.wrap ((s : Int) / z) % 4294967296 = ((s / z : Nat) : Int) := by
    rw [IntKind.wrap_u64, ← Int.natCast_ediv]
    clear q3
    generalize s / z = q at *
    omega
  show Ending.returned (.tuple #[.int .u32 (IntKind.u64.wrap ((s : Int) / z) % 4294967296), .int .u32 ((s : Int) % z)]) = _
  rw [v1, es.out, ← Int.natCast_emod]

set_option maxHeartbeats 400000 in
theorem short_ok (w : World) (A : Option Addr) (n c b : Nat) (xs : List Nat) (h : Rd w A n xs) (h32 : Is32 xs) (hn : n ≤ 35184372087808) (hb0 : 0 < b) (hb : b < 4294967296) :
    Calls Tryd.prog 101 #[.slice A n c, .int .u32 (b : Nat)] w fun e w' => ∃ v, e = .returned (.tuple #[v, .int .u32 (val xs % b : Nat)]) ∧ NatR (val xs / b) w.heap.size w' v ∧ Below w.heap.size w w' := by
  refine opq fun R hR => ?_
  have r1 := hide h
  have p1 := hide h32
  clear h h32
  have hmk := mk_nums (P := Tryd.prog) (t := 40) (e := 85) (k := .u32) (b := 4) (by kernel_rfl) info32 (n : Int) n rfl (by omega) (by omega)
  go_enter Tryd.func101, Tryd.ntmps101
  go_wp2
  clear hmk
  go_loopw [5, 6] (fun rv iv wr => ∃ i r zs, i ≤ n ∧ iv = .int .i64 ((i : Int) - 1) ∧ rv = .int .u32 (r : Nat) ∧ r < b ∧ Hid (Blk wr w.heap.size T32 (cellsOf .u32 zs)) ∧ Hid (Below w.heap.size w wr) ∧ Hid (ShortInv i r b xs zs)) (fun _ iv _ => (intOf iv + 1).toNat)
  case atStart => exact ⟨n, 0, _, by omega, rfl, rfl, hb0, Blk.new _ _ _, (Below.refl _ _).alloc (Nat.le_refl _) _, by rw [← r1.out.1]; exact ShortInv.start _ hb0⟩
  case round =>
    obtain ⟨i, r, zs, hi, rfl, rfl, hr, hblk, hbel, hinv⟩ := hrel
    have hz := hinv.out.len
    rw [r1.out.1] at hz
    rcases i with _ | i
    · obtain ⟨ev, er⟩ := hinv.out.fin
      have C := hide (cut_ok wr (some ⟨w.heap.size, 0, none⟩) n n zs (by have := hblk.out.rd n (by omega) (by omega); rw [List.take_of_length_le (by omega)] at this; exact this) (Nat.le_refl _))
      have N := hide (natR_of_blk hblk.out hinv.out.is32 (Nat.le_refl _) (by omega))
      rw [ev] at N
      have ER := hide er
      clear hz ev er
      go_wp2_with (go_at_call 92; refine C.out.mono ?_; rintro e w' ⟨rfl, rfl⟩)
      exact opq_end hR ⟨_, by rw [← ER.out]; rfl, N.out, hbel.out⟩
    · obtain ⟨ad, rfl, hb1, hcl⟩ := (r1.out.below hbel.out).2.2 (by omega)
      have hx := hcl i (by omega)
      have bx := is32_get p1.out i
      have hcell := hblk.out.cell i
      rw [cellsOf_get _ _ _ (by omega)] at hcell
      have hfro := hblk.out.frozen i
      have S1 := hide (hinv.out.step (by rw [r1.out.1]; omega) p1.out)
      have S4 := hide S1.out.lt
      obtain ⟨x, ex⟩ : ∃ x, Hid (xs.getD i 0 = x) := ⟨_, hide rfl⟩
      rw [ex.out] at hx bx S1 S4
      have G := hide (fun W => div32_ok W r x b hr bx hb)
      obtain ⟨qq, eq⟩ : ∃ qq, Hid ((r * 4294967296 + x) / b = qq) := ⟨_, hide rfl⟩
      obtain ⟨rr, er⟩ : ∃ rr, Hid ((r * 4294967296 + x) % b = rr) := ⟨_, hide rfl⟩
      rw [eq.out, er.out] at S1 G
      rw [er.out] at S4
      have S2 := hide (hblk.out.set_ i (.int .u32 ((qq : Nat) : Int)))
      rw [cellsOf_set] at S2
      have S3 := hide (hbel.out.setCell (p := ⟨w.heap.size, i, none⟩) (Nat.le_refl _) (.int .u32 ((qq : Nat) : Int)))
      have ei : ((i + 1 : Nat) : Int) - 1 = (i : Int) := by omega
      rw [ei]
      clear hcl hz ei
      go_wp2_with fail
      refine (G.out _).mono ?_
      rintro e w' ⟨rfl, nq, rfl⟩
      go_wp2
      go_roundw
      case rel => exact ⟨i, rr, _, by omega, rfl, rfl, S4.out, S2.drewN nq, below_drewN S3.out nq, S1⟩
      case measure => simp [intOf]
end Go.Proofs.YtfpnhggbfakdkaaDoor
