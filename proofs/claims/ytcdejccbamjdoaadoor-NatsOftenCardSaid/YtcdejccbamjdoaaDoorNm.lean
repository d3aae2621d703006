/- nats: short. -/
import Derived.Test.YtcdejccbamjdoaaDoorNl
import Derived.Test.YtcdejccbamjdoaaDoorLm6
set_option linter.unusedVariables false
set_option linter.unusedSimpArgs false
set_option maxRecDepth 100000
namespace Go.Proofs.YtcdejccbamjdoaaDoor
open Go.RowKit

set_option maxHeartbeats 400000 in
theorem div32_ok (w : World) (x y z : Nat) (hx : x < z) (hy : y < 4294967296) (hz : z < 4294967296) :
    Calls Tryd.prog 76 #[.int .u32 (x : Nat), .int .u32 (y : Nat), .int .u32 (z : Nat)] w fun e w' => e = .returned (.tuple #[.int .u32 ((x * 4294967296 + y) / z : Nat), .int .u32 ((x * 4294967296 + y) % z : Nat)]) ∧ ∃ nq, w.drewN nq = w' := by
  refine opq fun R hR => ?_
  have e1 : ((z : Int) != 0) = true := by simp; omega
  have e2 : decide ((z : Int) ≤ x) = false := by simp; omega
  have e2' : decide (z ≤ x) = false := by simp; omega
  have e3 := or_high hy (Nat.lt_trans hx hz)
  have q1 := short_room hx hy
  have q2 : (x * 4294967296 + y) % z < z := Nat.mod_lt _ (by omega)
  obtain ⟨s, es⟩ : ∃ s, Hid (x * 4294967296 + y = s) := ⟨_, hide rfl⟩
  rw [es.out] at e3 q1 q2
  have sb : s < 18446744073709551616 := by have := es.out; omega
  have z0 : (0 : Int) < z := by omega
  have q3 : (s : Int) / z < 4294967296 := by have : ((s / z : Nat) : Int) < 4294967296 := by omega
                                             rwa [Int.natCast_ediv] at this
  have q4 : (s : Int) % z < 4294967296 := by have : ((s % z : Nat) : Int) < 4294967296 := by omega
                                             rwa [Int.natCast_emod] at this
  go_enter Tryd.func76, Tryd.ntmps76
  go_wp2
  go_quiet (fail)
  go_wp2
  refine opq_end hR ⟨?_, nq, rfl⟩
  have v1 : IntKind.u64.wrap ((s : Int) / z) % 4294967296 = ((s / z : Nat) : Int) := by
    rw [IntKind.wrap_u64, ← Int.natCast_ediv]
    clear q3
    generalize s / z = q at *
    omega
  show Ending.returned (.tuple #[.int .u32 (IntKind.u64.wrap ((s : Int) / z) % 4294967296), .int .u32 ((s : Int) % z)]) = _
  rw [v1, es.out, ← Int.natCast_emod]

set_option maxHeartbeats 400000 in
theorem short_ok (w : World) (A : Option Addr) (n c b : Nat) (xs : List Nat) (h : Rd w A n xs) (h32 : Is32 xs) (hn : n ≤ 35184372087808) (hb0 : 0 < b) (hb : b < 4294967296) :
    Calls Tryd.prog 61 #[.slice A n c, .int .u32 (b : Nat)] w fun e w' => ∃ v, e = .returned (.tuple #[v, .int .u32 (val xs % b : Nat)]) ∧ NatR (val xs / b) w.heap.size w' v ∧ Below w.heap.size w w' := by
  refine opq fun R hR => ?_
  have r1 := hide h
  have p1 := hide h32
  clear h h32
  have hmk := mk_nums (P := Tryd.prog) (t := 23) (e := 55) (k := .u32) (b := 4) (by kernel_rfl) info32 (n : Int) n rfl (by omega) (by omega)
  go_enter Tryd.func61, Tryd.ntmps61
  go_wp2
  clear hmk
  go_loopw [5, 6] (fun rv iv wr => ∃ i r zs, i ≤ n ∧ iv = .int .i64 ((i : Int) - 1) ∧ rv = .int .u32 (r : Nat) ∧ r < b ∧ Hid (Blk wr w.heap.size T32 (cellsOf .u32 zs)) ∧ Hid (Below w.heap.size w wr) ∧ Hid (ShortInv i r b xs zs)) (fun _ iv _ => (intOf iv + 1).toNat)
  case atStart => exact ⟨n, 0, _, by omega, rfl, rfl, hb0, Blk.new _ _ _, (Below.refl _ _).alloc (Nat.le_refl _) _, by rw [← r1.out.1]; exact ShortInv.start _ hb0⟩
  case round =>
    obtain ⟨i, r, zs, hi, rfl, rfl, hr, hblk, hbel, hinv⟩ := hrel
    have hz := hinv.out.len
    rw [r1.out.1] at hz
    rcases i with _ | i
    · obtain ⟨ev, er⟩ := hinv.out.fin
      have C := hide (cut_ok wr (some ⟨w.heap.size, 0, none⟩) n n zs (by have := hblk.out.rd n (by omega) (by omega); rw [List.take_of_length_le (by omega)] at this; exact this) (Nat.le_refl _))
      have N := hide (natR_of_blk hblk.out hinv.out.is32 (Nat.le_refl _) (by omega))
      rw [ev] at N
      have ER := hide er
      clear hz ev er
      go_wp2_with (go_at_call 59; refine C.out.mono ?_; rintro e w' ⟨rfl, rfl⟩)
      exact opq_end hR ⟨_, by rw [← ER.out]; rfl, N.out, hbel.out⟩
    · obtain ⟨ad, rfl, hb1, hcl⟩ := (r1.out.below hbel.out).2.2 (by omega)
      have hx := hcl i (by omega)
      have bx := is32_get p1.out i
      have hcell := hblk.out.cell i
      rw [cellsOf_get _ _ _ (by omega)] at hcell
      have hfro := hblk.out.frozen i
      have S1 := hide (hinv.out.step (by rw [r1.out.1]; omega) p1.out)
      have S4 := hide S1.out.lt
      obtain ⟨x, ex⟩ : ∃ x, Hid (xs.getD i 0 = x) := ⟨_, hide rfl⟩
      rw [ex.out] at hx bx S1 S4
      have G := hide (fun W => div32_ok W r x b hr bx hb)
      obtain ⟨qq, eq⟩ : ∃ qq, Hid ((r * 4294967296 + x) / b = qq) := ⟨_, hide rfl⟩
      obtain ⟨rr, er⟩ : ∃ rr, Hid ((r * 4294967296 + x) % b = rr) := ⟨_, hide rfl⟩
      rw [eq.out, er.out] at S1 G
      rw [er.out] at S4
      have S2 := hide (hblk.out.set_ i (.int .u32 ((qq : Nat) : Int)))
      rw [cellsOf_set] at S2
      have S3 := hide (hbel.out.setCell (p := ⟨w.heap.size, i, none⟩) (Nat.le_refl _) (.int .u32 ((qq : Nat) : Int)))
      have ei : ((i + 1 : Nat) : Int) - 1 = (i : Int) := by omega
      rw [ei]
      clear hcl hz ei
      go_wp2_with fail
      refine (G.out _).mono ?_
      rintro e w' ⟨rfl, nq, rfl⟩
      go_wp2
      go_roundw
      case rel => exact ⟨i, rr, _, by omega, rfl, rfl, S4.out, S2.drewN nq, below_drewN S3.out nq, S1⟩
      case measure => simp [intOf]
end Go.Proofs.YtcdejccbamjdoaaDoor
