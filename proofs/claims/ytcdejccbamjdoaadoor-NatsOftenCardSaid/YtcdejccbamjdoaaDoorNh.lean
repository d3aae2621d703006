/- nats: shift, back. -/
import Derived.Test.YtcdejccbamjdoaaDoorNg
import Derived.Test.YtcdejccbamjdoaaDoorLm4
set_option linter.unusedVariables false
set_option linter.unusedSimpArgs false
set_option maxRecDepth 100000
namespace Go.Proofs.YtcdejccbamjdoaaDoor
open Go.RowKit

theorem s_le {S s : Nat} (h : 2 ^ S = s) (hS : S < 32) : s ≤ 2147483648 := by
  rw [← h]
  exact Nat.pow_le_pow_right (n := 2) (by omega) (show S ≤ 31 by omega)
theorem shl_lt {S s x : Nat} (h : 2 ^ S = s) (hx : x < 4294967296) (hS : S < 32) : x * s < 18446744073709551616 := by
  have := s_le h hS
  have : x * s ≤ 4294967295 * 2147483648 := Nat.mul_le_mul (by omega) this
  omega
theorem shl_u64 {S s x : Nat} (h : 2 ^ S = s) (hx : x < 4294967296) (hS : S < 32) : IntKind.u64.wrap ((x : Int) * 2 ^ S) = ((x * s : Nat) : Int) := by
  have e : (x : Int) * 2 ^ S = ((x * s : Nat) : Int) := by rw [← h]; simp
  have := shl_lt h hx hS
  rw [e, IntKind.wrap_u64]
  omega
theorem or_join {S s c y o : Nat} (h : 2 ^ S = s) (hsc : s * c = 4294967296) (hS : S < 32) (ho : o < s) : ∀ x, y = x * s → bits BinOp.or IntKind.u32 (o : Int) ((y : Int) % 4294967296) = ((y % 4294967296 + o : Nat) : Int) := by
  rintro x rfl
  have := s_le h hS
  have e : ((x * s : Nat) : Int) % 4294967296 = ((x * s % 4294967296 : Nat) : Int) := by omega
  rw [e, u32_or_nat _ _ (by omega) (Nat.mod_lt _ (by omega)), Nat.or_comm, nat_join S _ _ (by rw [h]; exact lo_mod hsc) (by rw [h]; exact ho)]
set_option maxHeartbeats 1000000 in
theorem shift_ok (w : World) (A : Option Addr) (n c b : Nat) (xs : List Nat) (h : Rd w A n xs) (h32 : Is32 xs) (hn : n ≤ 17592186044416) (hb : b ≤ 562949953421312) :
    Calls Tryd.prog 64 #[.slice A n c, .int .u64 (b : Nat)] w fun e w' => ∃ v, e = .returned v ∧ NatR (val xs * 2 ^ b) w.heap.size w' v ∧ Below w.heap.size w w' := by
  refine opq fun R hR => ?_
  have r1 := hide h
  have p1 := hide h32
  clear h h32
  have hs0 : 0 < 2 ^ (b % 32) := Nat.pow_pos (by omega)
  have hsc := hide (pow_comp (b % 32) (by omega))
  have hps := hide (pow_split b)
  obtain ⟨k, hk⟩ : ∃ k, Hid (b / 32 = k) := ⟨_, hide rfl⟩
  obtain ⟨s, es⟩ : ∃ s, Hid (2 ^ (b % 32) = s) := ⟨_, hide rfl⟩
  rw [es.out] at hs0 hsc hps
  rw [hk.out] at hps
  have hk1 : ((b : Int)) / 32 = (k : Nat) := by have := hk.out; omega
  have hk2 : k ≤ 17592186044416 := by have := hk.out; omega
  have hmk := mk_nums (P := Tryd.prog) (t := 23) (e := 55) (k := .u32) (b := 4) (by kernel_rfl) info32 ((n : Int) + k + 1) (n + k + 1) (by omega) (by omega) (by omega)
  go_enter Tryd.func64, Tryd.ntmps64
  go_wp2
  clear hmk
  go_loopw [21] (fun iv wr => ∃ i zs, i ≤ n ∧ iv = .int .i64 (i : Nat) ∧ Hid (Blk wr w.heap.size T32 (cellsOf .u32 zs)) ∧ Hid (Below w.heap.size w wr) ∧ Hid (ShInv i k s xs zs)) (fun iv _ => n - (intOf iv).toNat)
  case atStart => exact ⟨0, _, by omega, rfl, Blk.new _ _ _, (Below.refl _ _).alloc (Nat.le_refl _) _, by rw [← r1.out.1]; exact ShInv.start _ hs0⟩
  case round =>
    obtain ⟨i, zs, hi, rfl, hblk, hbel, hinv⟩ := hrel
    by_cases hlt : i < n
    · obtain ⟨ad, rfl, hb, hcl⟩ := (r1.out.below hbel.out).2.2 (by omega)
      have hx := hcl i hlt
      have bx := is32_get p1.out i
      have hlen := hinv.out.len
      rw [r1.out.1] at hlen
      have hcell := hblk.out.cell (i + k)
      rw [cellsOf_get _ _ _ (by omega)] at hcell
      have hfro := hblk.out.frozen (i + k)
      have hcell2 := hblk.out.cell (i + k + 1)
      rw [cellsOf_get _ _ _ (by omega)] at hcell2
      have hfro2 := hblk.out.frozen (i + k + 1)
      obtain ⟨o, eo⟩ : ∃ o, Hid (zs.getD (i + k) 0 = o) := ⟨_, hide rfl⟩
      rw [eo.out] at hcell
      obtain ⟨x, ex⟩ : ∃ x, Hid (xs.getD i 0 = x) := ⟨_, hide rfl⟩
      rw [ex.out] at hx bx
      have lo := hinv.out.low
      have bo := is32_get hinv.out.is32 (i + k)
      rw [eo.out] at lo bo
      have S1 := hide (hinv.out.step (by rw [r1.out.1]; exact hlt) p1.out hs0 hsc.out)
      rw [ex.out, eo.out] at S1
      have e1 : IntKind.u64.wrap ((x : Int) * 2 ^ (b % 32)) = ((x * s : Nat) : Int) := shl_u64 es.out bx (by omega)
      have e2 := or_join (y := x * s) (o := o) es.out hsc.out (by omega) lo x rfl
      have yb := shl_lt es.out bx (by omega)
      obtain ⟨y, hy⟩ : ∃ y, Hid (x * s = y) := ⟨_, hide rfl⟩
      rw [hy.out] at e1 e2 yb S1
      obtain ⟨z, hz⟩ : ∃ z, Hid (y % 4294967296 + o = z) := ⟨_, hide rfl⟩
      rw [hz.out] at e2 S1
      have e3 : (y : Int) / 4294967296 % 4294967296 = ((y / 4294967296 : Nat) : Int) := by omega
      have S2 := hide ((hblk.out.set_ (i + k) (.int .u32 (z : Int))).set_ (i + k + 1) (.int .u32 ((y / 4294967296 : Nat) : Int)))
      rw [cellsOf_set, cellsOf_set] at S2
      have S3 := hide ((hbel.out.setCell (p := ⟨w.heap.size, i + k, none⟩) (Nat.le_refl _) (.int .u32 (z : Int))).setCell (p := ⟨w.heap.size, i + k + 1, none⟩) (Nat.le_refl _) (.int .u32 ((y / 4294967296 : Nat) : Int)))
      clear hcl hlen e3
      go_wp2
      go_roundw
      case rel => exact ⟨i + 1, _, by omega, by go_num, S2, S3, S1⟩
      case measure => simp [intOf]; omega
    · obtain rfl : i = n := by omega
      have hz := hinv.out.len
      rw [r1.out.1] at hz
      have hv := hinv.out
      rw [← r1.out.1] at hv
      have ev := hv.fin
      rw [hps.out] at ev
      have C := hide (cut_ok wr (some ⟨w.heap.size, 0, none⟩) (i + k + 1) (i + k + 1) zs (by have := hblk.out.rd (i + k + 1) (by omega) (by omega); rw [List.take_of_length_le (by omega)] at this; exact this) (Nat.le_refl _))
      have N := hide (natR_of_blk hblk.out hinv.out.is32 (Nat.le_refl _) (by omega))
      rw [ev] at N
      clear hz ev hv
      go_wp2_with (go_at_call 59; refine C.out.mono ?_; rintro e w' ⟨rfl, rfl⟩)
      exact opq_end hR ⟨_, rfl, N.out, hbel.out⟩
end Go.Proofs.YtcdejccbamjdoaaDoor
