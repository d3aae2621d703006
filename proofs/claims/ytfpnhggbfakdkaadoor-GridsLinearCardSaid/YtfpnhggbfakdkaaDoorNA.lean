/- nats: Check, Add, minus, pairs, Cmp, Clone, Of, Sub. -/
import Derived.Test.YtfpnhggbfakdkaaDoorCa
import Derived.Test.YtfpnhggbfakdkaaDoorChecked
import Derived.Test.YtfpnhggbfakdkaaDoorLa
import Derived.Deep.RegionWith
import Derived.RangeFuncNested
import Derived.RangeFuncBound
import Derived.RangeFuncCalls
import Derived.RangeFuncLeaves
import Derived.RangeFuncFrom
import Derived.RangeFuncOne
import Derived.Shelf.Abstract
import Derived.Shelf.RegionOpen
import Derived.OwnWalkIn
import Derived.TacticsInMore
import Derived.LoopNIn
import Derived.LoopIn
import Derived.Stop.RegionWithIn
import Derived.Sort.AtCallIn
import Derived.WalkSpells
/- nats: Check, fine, at, cut. -/
set_option linter.unusedVariables false
set_option linter.unusedSimpArgs false
namespace Go.Proofs.YtfpnhggbfakdkaaDoor
open Go.RowKit

set_option maxHeartbeats 400000 in
theorem Check_ok (w : World) (A : Option Addr) (n c : Nat) (xs : List Nat) (h : Rd w A n xs) :
    Calls Tryd.prog 51 #[.slice A n c] w fun e w' => e = .returned (.bool (chk xs)) ∧ w = w' := by
  refine opq fun R hR => ?_
  obtain ⟨hl, hm, h⟩ := h
  rcases Nat.eq_zero_or_pos n with h0 | h0
  · subst h0
    have hx : xs = [] := List.eq_nil_of_length_eq_zero hl
    subst hx
    go_enter Tryd.func51, Tryd.ntmps51
    go_wp2
    exact opq_end hR ⟨rfl, rfl⟩
  · obtain ⟨ad, rfl, hb, hc⟩ := h h0
    have hk := hc (n-1) (by omega)
    have e1 : ((n : Int) == 0) = false := by simp; omega
    have hx : Hid (xs.getD (n-1) 0 = xs.getLastD 1) := by
      show _ = _
      rw [List.getLastD_eq_getLast?, List.getLast?_eq_getElem?, hl, List.getD_eq_getElem?_getD, List.getElem?_eq_getElem (by omega)]
      rfl
    clear h hc hl
    generalize xs.getD (n-1) 0 = x at *
    go_enter Tryd.func51, Tryd.ntmps51
    go_wp2
    refine opq_end hR ⟨ret_bool ?_, rfl⟩
    unfold chk
    rw [← hx.out]
    exact bne_nat0 x

set_option maxHeartbeats 400000 in
theorem at_ok (w : World) (A : Option Addr) (n c : Nat) (xs : List Nat) (i : Int) (h : Rd w A n xs) (h32 : Is32 xs) :
    Calls Tryd.prog 91 #[.slice A n c, .int .i64 i] w fun e w' => e = .returned (.int .u64 (if 0 ≤ i then xs.getD i.toNat 0 else 0 : Nat)) ∧ w = w' := by
  refine opq fun R hR => ?_
  have hlt := is32_get h32 i.toNat
  obtain ⟨hl, hm, h⟩ := h
  by_cases h0 : i < 0
  · have e1 : decide (i < 0) = true := by simpa using h0
    go_enter Tryd.func91, Tryd.ntmps91
    go_wp2
    exact opq_end hR ⟨ret_nat (by rw [if_neg (by omega)]), rfl⟩
  · have e0 : decide (i < 0) = false := by simpa using h0
    obtain ⟨k, rfl⟩ : ∃ k : Nat, i = k := ⟨i.toNat, by omega⟩
    by_cases h1 : n ≤ k
    · have e1 : decide ((n:Int) ≤ k) = true := by simpa using h1
      clear h hlt
      go_enter Tryd.func91, Tryd.ntmps91
      go_wp2
      exact opq_end hR ⟨ret_nat (by rw [if_pos (by omega), getD_ge (by simp; omega)]), rfl⟩
    · have e1 : decide ((n:Int) ≤ k) = false := by simpa using h1
      obtain ⟨ad, rfl, hb, hc⟩ := h (by omega)
      have hk := hc k (by omega)
      have hi : k < n := by omega
      clear hc h0 h1 h h32
      simp only [Int.toNat_natCast] at *
      obtain ⟨x, hx⟩ : ∃ x, Hid (xs.getD k 0 = x) := ⟨_, rfl⟩
      rw [hx.out] at hk hlt
      go_enter Tryd.func91, Tryd.ntmps91
      go_wp2
      exact opq_end hR ⟨ret_nat (by rw [if_pos (by omega), hx.out]), rfl⟩

set_option maxHeartbeats 400000 in
theorem fine_ok (w : World) (A : Option Addr) (n c : Nat) (xs : List Nat) (h : Rd w A n xs) :
    Calls Tryd.prog 73 #[.slice A n c] w fun e w' => e = .returned (if chk xs then .slice A n c else .slice none 0 0) ∧ w = w' := by
  refine opq fun R hR => ?_
  have H := hide (Check_ok w A n c xs h)
  cases hc : chk xs
  all_goals
    rw [hc] at H
    go_enter Tryd.func73, Tryd.ntmps73
    go_wp2_with (go_at_call 51; refine H.out.mono ?_; rintro e w' ⟨rfl, rfl⟩)
    exact opq_end hR ⟨by simp [hc], rfl⟩

set_option maxHeartbeats 400000 in
theorem clip_ok (w : World) (A : Option Addr) (n c : Nat) (hn : n ≤ c) (hm : n ≤ 9223372036854775807) :
    Calls Tryd.prog 99 #[.slice A n c] w fun e w' => e = .returned (.slice A n n) ∧ w = w' := by
  refine opq fun R hR => ?_
  go_enter Tryd.func99, Tryd.ntmps99
  go_wp2
  exact opq_end hR ⟨rfl, rfl⟩

theorem strip_take_zero {xs : List Nat} {k : Nat} (hk : k < xs.length) (h0 : xs.getD k 0 = 0) : strip (xs.take (k + 1)) = strip (xs.take k) := by
  rw [List.take_succ_eq_append_getElem hk]
  rw [getD_lt hk] at h0
  rw [h0, strip_zero]
theorem strip_take_nz {xs : List Nat} {k : Nat} (hk : k < xs.length) (h0 : xs.getD k 0 ≠ 0) : (strip (xs.take (k + 1))).length = k + 1 := by
  rw [getD_lt hk] at h0
  rw [List.take_succ_eq_append_getElem hk, strip_nz _ h0]
  simp; omega

set_option maxHeartbeats 400000 in
theorem cut_ok (w : World) (A : Option Addr) (n c : Nat) (xs : List Nat) (h : Rd w A n xs) (hn : n ≤ c) :
    Calls Tryd.prog 92 #[.slice A n c] w fun e w' => e = .returned (.slice A (strip xs).length (strip xs).length) ∧ w = w' := by
  refine opq fun R hR => ?_
  obtain ⟨hl, hm, h⟩ := h
  go_enter Tryd.func92, Tryd.ntmps92
  go_wp2
  go_loop [3] (fun v => ∃ k : Nat, k ≤ n ∧ v = .int .i64 k ∧ Hid (strip (xs.take k) = strip xs)) (fun v => (intOf v).toNat)
  case atStart => exact ⟨n, Nat.le_refl _, rfl, by rw [List.take_of_length_le (by omega)]; exact rfl⟩
  case round =>
    obtain ⟨k, hk, rfl, hs⟩ := hrel
    rcases Nat.eq_zero_or_pos k with h0 | h0
    · subst h0
      have hs0 : Hid ((strip xs).length = 0) := by rw [← hs.out]; exact rfl
      clear h hl
      go_wp2_with (go_at_call 99; refine (clip_ok _ _ _ _ (by omega) (by omega)).mono ?_; rintro e w' ⟨rfl, rfl⟩)
      exact opq_end hR ⟨by rw [hs0.out]; rfl, rfl⟩
    · obtain ⟨ad, rfl, hb, hc⟩ := h (by omega)
      have hx := hc (k - 1) (by omega)
      clear hc h
      obtain ⟨j, rfl⟩ : ∃ j, k = j + 1 := ⟨k - 1, by omega⟩
      have hj : j < xs.length := by omega
      by_cases hz : xs.getD j 0 = 0
      · have hs2 : Hid (strip (xs.take j) = strip xs) := by rw [← strip_take_zero hj hz]; exact hs
        simp only [Nat.add_sub_cancel, hz] at hx
        clear hs hl hz hj
        go_wp2
        go_round
        case rel => exact ⟨j, by omega, by go_num, hs2⟩
        case measure => simp [intOf]
      · have hs2 : Hid ((strip xs).length = j + 1) := by rw [← hs.out]; exact strip_take_nz hj hz
        have hz' : (((xs.getD j 0 : Nat) : Int) == 0) = false := by rw [beq_nat0]; simpa using hz
        simp only [Nat.add_sub_cancel] at hx
        clear hs hl hz hj
        generalize xs.getD j 0 = x at *
        go_wp2_with (go_at_call 99; refine (clip_ok _ _ _ _ (by omega) (by omega)).mono ?_; rintro e w' ⟨rfl, rfl⟩)
        exact opq_end hR ⟨by rw [hs2.out]; rfl, rfl⟩

theorem at_nat (w : World) (A : Option Addr) (n c : Nat) (xs : List Nat) (k : Nat) (h : Rd w A n xs) (h32 : Is32 xs) :
    Calls Tryd.prog 91 #[.slice A n c, .int .i64 (k : Nat)] w fun e w' => e = .returned (.int .u64 (xs.getD k 0 : Nat)) ∧ w = w' :=
  (at_ok w A n c xs k h h32).mono fun e w' ⟨h1, h2⟩ => ⟨by rw [h1, if_pos (by omega)]; rfl, h2⟩
/-- fine, all at once: what it answers reads as a number that may be. -/
theorem fine_any (w : World) (A : Option Addr) (n c : Nat) (xs : List Nat) (h : Rd w A n xs) (h32 : Is32 xs) (hc : n ≤ c) :
    Calls Tryd.prog 73 #[.slice A n c] w fun e w' => ∃ A' n' c' xs', e = .returned (.slice A' n' c') ∧ w = w' ∧ Hid (Rd w A' n' xs') ∧ Hid (Is32 xs' ∧ chk xs' = true ∧ val xs' = nv xs) ∧ n' ≤ n ∧ n' ≤ c' := by
  refine (fine_ok w A n c xs h).mono ?_
  rintro e w' ⟨rfl, rfl⟩
  by_cases hx : chk xs = true
  · exact ⟨A, n, c, xs, by rw [if_pos hx], rfl, h, ⟨h32, hx, by rw [nv, if_pos hx]⟩, Nat.le_refl _, hc⟩
  · exact ⟨none, 0, 0, [], by rw [if_neg hx], rfl, Rdk.nil _ _ _, ⟨is32_nil, rfl, by rw [nv, if_neg hx]; rfl⟩, by omega, by omega⟩
end Go.Proofs.YtfpnhggbfakdkaaDoor

/- nats: Add. -/
set_option linter.unusedVariables false
set_option linter.unusedSimpArgs false
set_option maxRecDepth 100000
namespace Go.Proofs.YtfpnhggbfakdkaaDoor
open Go.RowKit

theorem info32 : (Tryd.prog.info? 85).map (fun i => (i.zero, i.size, i.bytes)) = some (some (.int .u32 0), 1, 4) := by kernel_rfl

set_option maxHeartbeats 400000 in
theorem add32_ok (w : World) (x y z : Nat) (hx : x < 4294967296) (hy : y < 4294967296) (hz : z < 4294967296) :
    Calls Tryd.prog 104 #[.int .u32 (x : Nat), .int .u32 (y : Nat), .int .u32 (z : Nat)] w fun e w' => e = .returned (.tuple #[.int .u32 ((x + y + z) % 4294967296 : Nat), .int .u32 ((x + y + z) / 4294967296 : Nat)]) ∧ w = w' := by
  refine opq fun R hR => ?_
  go_enter Tryd.func104, Tryd.ntmps104
  go_wp2
  exact opq_end hR ⟨rfl, rfl⟩

set_option maxHeartbeats 400000 in
theorem Add_ok (w : World) (A A' : Option Addr) (n n' c c' : Nat) (xs ys : List Nat) (h : Rd w A n xs) (h' : Rd w A' n' ys) (h32 : Is32 xs) (h32' : Is32 ys) (hn : n ≤ 35184372087808) (hn' : n' ≤ 35184372087808) (hc : n ≤ c) (hc' : n' ≤ c') :
    Calls Tryd.prog 97 #[.slice A n c, .slice A' n' c'] w fun e w' => ∃ v, e = .returned v ∧ NatR (nv xs + nv ys) w.heap.size w' v ∧ Below w.heap.size w w' := by
  refine opq fun R hR => ?_
  have F1 := hide (fine_any w A n c xs h h32 hc)
  have F2 := hide (fine_any w A' n' c' ys h' h32' hc')
  clear h h' h32 h32'
  go_enter Tryd.func97, Tryd.ntmps97
  go_wp2_with fail
  refine F1.out.mono ?_
  rintro e w' ⟨A1, n1, c1, xs1, rfl, rfl, r1, p1, q1, q2⟩
  go_wp2_with fail
  refine F2.out.mono ?_
  rintro e w' ⟨A2, n2, c2, ys1, rfl, rfl, r2, p2, q3, q4⟩
  obtain ⟨m, hm⟩ : ∃ m, Hid (m = max n1 n2) := ⟨_, rfl⟩
  have hm1 : n1 ≤ m := by rw [hm.out]; omega
  have hm2 : n2 ≤ m := by rw [hm.out]; omega
  have hm3 : m ≤ 35184372087808 := by rw [hm.out]; omega
  have hmk := mk_nums (P := Tryd.prog) (t := 40) (e := 85) (k := .u32) (b := 4) (by kernel_rfl) info32 ((m : Int) + 1) (m + 1) (by omega) (by omega) (by omega)
  have hmax := fun ts t => run_max_nat (P := Tryd.prog) ts t n1 n2 m hm.out
  go_wp2
  clear hmk hmax
  go_loopw [6, 21] (fun cv iv wr => ∃ k cy zs, k ≤ m + 1 ∧ iv = .int .i64 (k : Nat) ∧ cv = .int .u32 (cy : Nat) ∧ cy < 2 ∧ Hid (Blk wr w.heap.size T32 (cellsOf .u32 zs)) ∧ Hid (Below w.heap.size w wr) ∧ Hid (AddInv (m + 1) k cy xs1 ys1 zs)) (fun _ iv _ => m + 1 - (intOf iv).toNat)
  case atStart => exact ⟨0, 0, _, by omega, rfl, rfl, by omega, Blk.new _ _ _, (Below.refl _ _).alloc (Nat.le_refl _) _, AddInv.start _ _ _⟩
  case round =>
    obtain ⟨k, cy, zs, hk, rfl, rfl, hcy, hblk, hbel, hinv⟩ := hrel
    have hz := hinv.out.len hk
    by_cases hlt : k < m + 1
    · have hcell := hblk.out.cell k
      rw [cellsOf_get _ _ _ (by omega)] at hcell
      have hfro := hblk.out.frozen k
      have G1 := hide (at_nat wr A1 n1 c1 xs1 k (r1.out.below hbel.out) p1.out.1)
      have G2 := hide (at_nat wr A2 n2 c2 ys1 k (r2.out.below hbel.out) p2.out.1)
      have b1 := is32_get p1.out.1 k
      have b2 := is32_get p2.out.1 k
      have S1 := hide (hinv.out.step hlt p1.out.1 p2.out.1)
      have S2 := hide (hblk.out.set_ k (.int .u32 (((xs1.getD k 0 + ys1.getD k 0 + cy) % 4294967296 : Nat) : Int)))
      rw [cellsOf_set] at S2
      have S3 := hide (hbel.out.setCell (p := ⟨w.heap.size, k, none⟩) (Nat.le_refl _) (.int .u32 (((xs1.getD k 0 + ys1.getD k 0 + cy) % 4294967296 : Nat) : Int)))
      generalize xs1.getD k 0 = x at *
      generalize ys1.getD k 0 = y at *
      clear hz
      go_wp2_with fail
      refine G1.out.mono ?_; rintro e w' ⟨rfl, rfl⟩
      go_wp2_with fail
      refine G2.out.mono ?_; rintro e w' ⟨rfl, rfl⟩
      go_wp2_with fail
      refine (add32_ok _ x y cy b1 b2 (by omega)).mono ?_; rintro e w' ⟨rfl, rfl⟩
      go_wp2
      go_roundw
      case rel => exact ⟨k + 1, _, _, by omega, by go_num, rfl, S1.out.cy, S2, S3, S1⟩
      case measure => simp [intOf]; omega
    · obtain rfl : k = m + 1 := by omega
      obtain ⟨e32, ev⟩ := hinv.out.fin p1.out.1 p2.out.1 (by rw [r1.out.1]; omega) (by rw [r2.out.1]; omega)
      have C := hide (cut_ok wr (some ⟨w.heap.size, 0, none⟩) (m + 1) (m + 1) zs (by have := hblk.out.rd (m + 1) (by omega) (by omega); rw [List.take_of_length_le (by omega)] at this; exact this) (Nat.le_refl _))
      have N := hide (natR_of_blk hblk.out e32 (Nat.le_refl _) (by omega))
      rw [ev, p1.out.2.2, p2.out.2.2] at N
      clear hz ev e32
      go_wp2_with (go_at_call 92; refine C.out.mono ?_; rintro e w' ⟨rfl, rfl⟩)
      exact opq_end hR ⟨_, rfl, N.out, hbel.out⟩
end Go.Proofs.YtfpnhggbfakdkaaDoor

/- nats: minus. -/
set_option linter.unusedVariables false
set_option linter.unusedSimpArgs false
set_option maxRecDepth 100000
namespace Go.Proofs.YtfpnhggbfakdkaaDoor
open Go.RowKit

theorem max_u32 : IntKind.u32.max = ((4294967295 : Nat) : Int) := by decide
theorem sub_bits {x y z : Nat} (hx : x < 4294967296) (hy : y < 4294967296) (hz : z < 2) :
    bits BinOp.or IntKind.u32 (bits BinOp.and IntKind.u32 (bits BinOp.xor IntKind.u32 IntKind.u32.max (x : Int)) (y : Int))
      (bits BinOp.and IntKind.u32 (bits BinOp.xor IntKind.u32 IntKind.u32.max (bits BinOp.xor IntKind.u32 (x : Int) (y : Int))) (((x : Int) - y - z) % 4294967296)) / 2147483648 = (subb x y z : Nat) := by
  rw [subd_int hx hy hz, max_u32, u32_xor_nat _ _ (by decide) hx, u32_xor_nat _ _ hx hy, u32_xor_nat _ _ (by decide) (Nat.xor_lt_two_pow (n := 32) hx hy),
    u32_and_nat _ _ (Nat.xor_lt_two_pow (n := 32) (by decide) hx) hy, u32_and_nat _ _ (Nat.xor_lt_two_pow (n := 32) (by decide) (Nat.xor_lt_two_pow (n := 32) hx hy)) (subd_lt _ _ _),
    u32_or_nat _ _ (Nat.and_lt_two_pow (n := 32) _ hy) (Nat.and_lt_two_pow (n := 32) _ (subd_lt _ _ _))]
  have := sub_borrow hx hy hz rfl
  omega

set_option maxHeartbeats 400000 in
theorem sub32_ok (w : World) (x y z : Nat) (hx : x < 4294967296) (hy : y < 4294967296) (hz : z < 2) :
    Calls Tryd.prog 94 #[.int .u32 (x : Nat), .int .u32 (y : Nat), .int .u32 (z : Nat)] w fun e w' => e = .returned (.tuple #[.int .u32 (subd x y z : Nat), .int .u32 (subb x y z : Nat)]) ∧ w = w' := by
  refine opq fun R hR => ?_
  go_enter Tryd.func94, Tryd.ntmps94
  go_wp2
  refine opq_end hR ⟨?_, rfl⟩
  rw [← subd_int hx hy hz, ← sub_bits hx hy hz]

set_option maxHeartbeats 400000 in
theorem minus_ok (w : World) (A A' : Option Addr) (n n' c c' : Nat) (xs ys : List Nat) (h : Rd w A n xs) (h' : Rd w A' n' ys) (h32 : Is32 xs) (h32' : Is32 ys) (hn : n ≤ 35184372087808) (hl : n' ≤ n) (hv : val ys ≤ val xs) :
    Calls Tryd.prog 78 #[.slice A n c, .slice A' n' c'] w fun e w' => ∃ v, e = .returned v ∧ NatR (val xs - val ys) w.heap.size w' v ∧ Below w.heap.size w w' := by
  refine opq fun R hR => ?_
  have r1 := hide h
  have r2 := hide h'
  have p1 := hide h32
  have p2 := hide h32'
  have hv := hide hv
  clear h h' h32 h32'
  have hmk := mk_nums (P := Tryd.prog) (t := 40) (e := 85) (k := .u32) (b := 4) (by kernel_rfl) info32 (n : Int) n rfl (by omega) (by omega)
  go_enter Tryd.func78, Tryd.ntmps78
  go_wp2
  clear hmk
  go_loopw [6, 13] (fun cv iv wr => ∃ k cy zs, k ≤ n ∧ iv = .int .i64 (k : Nat) ∧ cv = .int .u32 (cy : Nat) ∧ cy < 2 ∧ Hid (Blk wr w.heap.size T32 (cellsOf .u32 zs)) ∧ Hid (Below w.heap.size w wr) ∧ Hid (SubInv n k cy xs ys zs)) (fun _ iv _ => n - (intOf iv).toNat)
  case atStart => exact ⟨0, 0, _, by omega, rfl, rfl, by omega, Blk.new _ _ _, (Below.refl _ _).alloc (Nat.le_refl _) _, SubInv.start _ _ _⟩
  case round =>
    obtain ⟨k, cy, zs, hk, rfl, rfl, hcy, hblk, hbel, hinv⟩ := hrel
    have hz := hinv.out.len hk
    by_cases hlt : k < n
    · obtain ⟨ad, rfl, hb, hc⟩ := (r1.out.below hbel.out).2.2 (by omega)
      have hx := hc k hlt
      have hcell := hblk.out.cell k
      rw [cellsOf_get _ _ _ (by omega)] at hcell
      have hfro := hblk.out.frozen k
      have G2 := hide (at_nat wr.drew A' n' c' ys k (r2.out.below hbel.out.drew) p2.out)
      have b1 := is32_get p1.out k
      have b2 := is32_get p2.out k
      have S1 := hide (hinv.out.step hlt p1.out p2.out)
      have S2 := hide (hblk.out.set_ k (.int .u32 ((subd (xs.getD k 0) (ys.getD k 0) cy : Nat) : Int)))
      rw [cellsOf_set] at S2
      have S3 := hide (hbel.out.setCell (p := ⟨w.heap.size, k, none⟩) (Nat.le_refl _) (.int .u32 ((subd (xs.getD k 0) (ys.getD k 0) cy : Nat) : Int)))
      generalize xs.getD k 0 = x at *
      generalize ys.getD k 0 = y at *
      clear hz hc
      go_wp2
      have hwr := wrap_u32_nat b2
      go_region_with (first
        | (go_at_call 91; refine G2.out.mono ?_; rintro e w' ⟨rfl, rfl⟩)
        | (go_at_call 94; refine (sub32_ok _ x y cy b1 b2 (by omega)).mono ?_; rintro e w' ⟨rfl, rfl⟩))
      all_goals
        go_wp2
        go_roundw
        case rel => exact ⟨k + 1, _, _, by omega, by go_num, rfl, S1.out.cy, S2.drew, S3.drew, S1⟩
        case measure => simp [intOf]; omega
    · obtain rfl : k = n := by omega
      obtain ⟨e32, ev⟩ := hinv.out.fin r1.out.1 (by rw [r2.out.1]; omega) hv.out
      have C := hide (cut_ok wr (some ⟨w.heap.size, 0, none⟩) k k zs (by have := hblk.out.rd k (by omega) (by omega); rw [List.take_of_length_le (by omega)] at this; exact this) (Nat.le_refl _))
      have N := hide (natR_of_blk hblk.out e32 (Nat.le_refl _) (by omega))
      rw [ev] at N
      clear hz ev e32
      go_wp2_with (go_at_call 92; refine C.out.mono ?_; rintro e w' ⟨rfl, rfl⟩)
      exact opq_end hR ⟨_, rfl, N.out, hbel.out⟩
end Go.Proofs.YtfpnhggbfakdkaaDoor

/- nats: pairs, Cmp. -/
set_option linter.unusedVariables false
set_option linter.unusedSimpArgs false
set_option maxRecDepth 100000
namespace Go.Proofs.YtfpnhggbfakdkaaDoor
open Go.RowKit Go.Shelf
attribute [local go_sem] Oper.semAt_some

set_option maxHeartbeats 400000 in
theorem pairs_ok (w : World) (A A' : Option Addr) (n n' c c' : Nat) :
    Calls Tryd.prog 93 #[.slice A n c, .slice A' n' c'] w fun e w' => e = .returned (.func (.func 100) #[] #[.pointer (some ⟨w.heap.size, 0, none⟩), .pointer (some ⟨w.heap.size + 1, 0, none⟩)]) ∧
      (w.alloc (.cells #[.slice A n c] 40)).alloc (.cells #[.slice A' n' c'] 40) = w' := by
  refine opq fun R hR => ?_
  go_enter Tryd.func93, Tryd.ntmps93
  go_wp2
  exact opq_end hR ⟨rfl, rfl⟩

set_option maxHeartbeats 2000000 in
theorem pairs1_in (q l Ba Bb n₀ : Nat) (A A' : Option Addr) (n n' c c' m : Nat) (xs ys : List Nat) (hm : m = max n n') (hm3 : m ≤ 35184372087808) (J Jx : List (Nat × Nat) → World → Prop) (hq : 1 ≤ q)
    (hY : ∀ pre x W, J pre W → pre.length < m → YieldAt Fence.wide (q - 1) Tryd.prog l #[.int .u64 (x.1 : Int), .int .u64 (x.2 : Int)] W fun e W' =>
      (e = .returned (.bool true) ∧ J (pre ++ [x]) W' ∧ Below n₀ W W') ∨ (e = .returned (.bool false) ∧ Jx (pre ++ [x]) W'))
    (hJd : ∀ pre W, J pre W → J pre W.drew)
    (W : World) (hBa : W.cell? ⟨Ba, 0, none⟩ = some (.slice A n c)) (hBb : W.cell? ⟨Bb, 0, none⟩ = some (.slice A' n' c')) (ha : Ba < n₀) (hb : Bb < n₀)
    (hx : ∀ W', Below n₀ W W' → Rd W' A n xs) (hy : ∀ W', Below n₀ W W' → Rd W' A' n' ys) (h32 : Is32 xs) (h32' : Is32 ys) (h0 : J [] W) :
    CallsIn Fence.wide q Tryd.prog 100 #[.func (.yield l) #[] #[], .pointer (some ⟨Ba, 0, none⟩), .pointer (some ⟨Bb, 0, none⟩)] W fun e W' => (∃ v, e = .returned v) ∧
      ((∃ zs, zs = prs m m xs ys ∧ J zs W') ∨ (∃ pre, (∃ k, k ≤ m ∧ pre = prs m k xs ys) ∧ Jx pre W')) := by
  refine callsIn_of_wp Tryd.func100 rfl trivial ?_ rfl
  simp only [Tryd.ntmps100, List.size_toArray, List.length_cons, List.length_nil, Nat.reduceAdd, Nat.reduceSub, Array.replicate_succ, Array.replicate_zero, List.push_toArray, List.append_toArray, List.nil_append, List.cons_append]
  have hm0 := hide hm
  have hmax := fun ts t => run_max_nat (P := Tryd.prog) ts t n n' m hm
  clear hm
  gi_wp2
  gi_loopw [4] (fun iv wr => ∃ k j : Nat, k + j = m ∧ iv = .int .i64 ((j : Int) - 1) ∧ J (prs m k xs ys) wr ∧ Hid (Below n₀ W wr)) (fun iv _ => (intOf iv + 1).toNat)
  case atStart => exact ⟨0, m, by omega, rfl, h0, Below.refl _ _⟩
  case round =>
    obtain ⟨k, j, hkj, rfl, hJs, hB⟩ := hrel
    have hca : wr.cell? ⟨Ba, 0, none⟩ = some (.slice A n c) := (hB.out.cell (p := ⟨Ba, 0, none⟩) ha).trans hBa
    have hcb : wr.cell? ⟨Bb, 0, none⟩ = some (.slice A' n' c') := (hB.out.cell (p := ⟨Bb, 0, none⟩) hb).trans hBb
    clear hBa hBb hmax
    rcases j with _ | j
    · have HJ := hide hJs
      obtain rfl : k = m := by omega
      clear hJs hY hJd hx hy h0
      gi_wp2
      go_end0
      exact ⟨⟨_, rfl⟩, .inl ⟨_, rfl, HJ.out⟩⟩
    · have HP := hide (prs_succ m k xs ys)
      rw [show m - 1 - k = j from by omega] at HP
      have ej : ((j + 1 : Nat) : Int) - 1 = (j : Int) := by omega
      rw [ej]
      have e0 : decide (0 ≤ (j : Int)) = true := by simp
      have HY : YieldAt Fence.wide (q - 1) Tryd.prog l #[.int .u64 ((xs.getD j 0 : Nat) : Int), .int .u64 ((ys.getD j 0 : Nat) : Int)] wr.drew fun e W' => ∃ t : Bool, e = .returned (.bool t) ∧ Hid ((t = true ∧ J (prs m (k + 1) xs ys) W' ∧ Below n₀ wr W') ∨ (t = false ∧ Jx (prs m (k + 1) xs ys) W')) := by
        obtain ⟨fn, tmps, assign, body, hy1, hR1⟩ := hY (prs m k xs ys) (xs.getD j 0, ys.getD j 0) wr.drew (hJd _ _ hJs) (by rw [prs_length]; omega)
        refine ⟨fn, tmps, assign, body, hy1, hR1.mono ?_⟩
        rw [← HP.out]
        rintro e W' (⟨h1, h2, h3⟩ | ⟨h1, h2⟩)
        · exact ⟨true, h1, .inl ⟨rfl, h2, ((Below.refl n₀ wr).drew).trans h3⟩⟩
        · exact ⟨false, h1, .inr ⟨rfl, h2⟩⟩
      have G1 := hide (at_nat wr.drew A n c xs j (hx wr.drew hB.out.drew) h32)
      have G2 := hide (at_nat wr.drew A' n' c' ys j (hy wr.drew hB.out.drew) h32')
      obtain ⟨fn, tmps, assign, body, hy1, hR1⟩ := HY
      have HR := hide hR1
      generalize xs.getD j 0 = x at *
      generalize ys.getD j 0 = y at *
      clear hJs hY hJd hx hy h0 ej hR1
      gi_wp2
      gi_region_with (first
        | (refine ⟨trivial, ?_⟩; gi_at_call_has 91 (Value.slice A n c); refine (callsIn_wide.2 G1.out).mono ?_; rintro e w' ⟨rfl, rfl⟩)
        | (refine ⟨trivial, ?_⟩; gi_at_call 91; refine (callsIn_wide.2 G2.out).mono ?_; rintro e w' ⟨rfl, rfl⟩)
        | (refine HR.out.mono ?_; rintro e W3 ⟨t, rfl, hZ⟩))
      all_goals
        rcases hZ.out with ⟨rfl, hJ3, hk3⟩ | ⟨rfl, hJx3⟩
        · have HJ3 := hide hJ3
          have HK3 := hide (hB.out.trans hk3)
          clear hJ3 hk3 hZ
          gi_wp2
          go_roundw
          case rel => exact ⟨k + 1, j, by omega, rfl, HJ3.out, HK3⟩
          case measure => simp [intOf]
        · have HX := hide hJx3
          clear hJx3 hZ
          gi_wp2
          refine bodyPost_ret (results_none rfl _ _ _) rfl ?_
          exact ⟨⟨_, rfl⟩, .inr ⟨_, ⟨k + 1, by omega, rfl⟩, HX.out⟩⟩

/-- The closure of pairs, as the law for a range over it asks. -/
theorem pairs1_stops (q : Nat) (hq : 1 ≤ q) (Ba Bb n₀ : Nat) (A A' : Option Addr) (n n' c c' m : Nat) (xs ys : List Nat) (hm : m = max n n') (hm3 : m ≤ 35184372087808) (w : World) (hBa : w.cell? ⟨Ba, 0, none⟩ = some (.slice A n c)) (hBb : w.cell? ⟨Bb, 0, none⟩ = some (.slice A' n' c')) (ha : Ba < n₀) (hb : Bb < n₀) (hn₀ : n₀ ≤ w.heap.size)
    (hx : ∀ W', Below n₀ w W' → Rd W' A n xs) (hy : ∀ W', Below n₀ w W' → Rd W' A' n' ys) (h32 : Is32 xs) (h32' : Is32 ys) :
    SeqStopsK Fence.wide q Tryd.prog 100 #[.pointer (some ⟨Ba, 0, none⟩), .pointer (some ⟨Bb, 0, none⟩)] (fun x : Nat × Nat => #[Value.int .u64 (x.1 : Int), .int .u64 (x.2 : Int)]) (Below n₀) (fun zs => zs = prs m m xs ys) (fun pre => ∃ k, k ≤ m ∧ pre = prs m k xs ys) m w :=
  fun l J Jx W hW hJ _ hY h0 =>
    pairs1_in q l Ba Bb n₀ A A' n n' c c' m xs ys hm hm3 J Jx hq hY (fun pre W1 h => hJ pre W1 W1.drew none h ⟨rfl, rfl, rfl, Nat.le_refl _, fun _ _ _ => rfl⟩ (fun r e => by cases e)) W
      ((hW.cell (p := ⟨Ba, 0, none⟩) (Nat.lt_of_lt_of_le ha hn₀)).trans hBa) ((hW.cell (p := ⟨Bb, 0, none⟩) (Nat.lt_of_lt_of_le hb hn₀)).trans hBb) ha hb
      (fun W' h => hx W' ((hW.mono hn₀).trans h)) (fun W' h => hy W' ((hW.mono hn₀).trans h)) h32 h32' h0

end Go.Proofs.YtfpnhggbfakdkaaDoor

/- nats: Cmp. -/
set_option linter.unusedVariables false
set_option linter.unusedSimpArgs false
set_option maxRecDepth 100000
namespace Go.Proofs.YtfpnhggbfakdkaaDoor
open Go.RowKit Go.Shelf
attribute [local go_sem] Oper.semAt_some

set_option maxHeartbeats 2000000 in
theorem Cmp_ok (w : World) (A A' : Option Addr) (n n' c c' : Nat) (xs ys : List Nat) (h : Rd w A n xs) (h' : Rd w A' n' ys) (h32 : Is32 xs) (h32' : Is32 ys) (hn : n ≤ 35184372087808) (hn' : n' ≤ 35184372087808) (hc : n ≤ c) (hc' : n' ≤ c') :
    Calls Tryd.prog 76 #[.slice A n c, .slice A' n' c'] w fun e w' => e = .returned (.int .i64 (cmpN (nv xs) (nv ys))) ∧ Below w.heap.size w w' := by
  refine (callsIn_wide (n := 3)).1 ?_
  have F1 := hide (fine_any (w.alloc (.cells #[.int .i64 0] 3)) A n c xs (h.below ((Below.refl _ _).alloc (Nat.le_refl _) _)) h32 hc)
  have F2 := hide (fine_any (w.alloc (.cells #[.int .i64 0] 3)) A' n' c' ys (h'.below ((Below.refl _ _).alloc (Nat.le_refl _) _)) h32' hc')
  clear h h' h32 h32'
  refine callsIn_of_wp_marks Tryd.func76 rfl trivial ?_ rfl
  simp only [Tryd.ntmps76, List.size_toArray, List.length_cons, List.length_nil, Nat.reduceAdd, Nat.reduceSub, Array.replicate_succ, Array.replicate_zero, List.push_toArray, List.append_toArray, List.nil_append, List.cons_append]
  gi_wp2_with fail
  refine ⟨trivial, ?_⟩
  refine (callsIn_wide.2 F1.out).mono ?_
  rintro e w' ⟨A1, n1, c1, xs1, rfl, rfl, r1, p1, q1, q2⟩
  gi_wp2_with fail
  refine ⟨trivial, ?_⟩
  refine (callsIn_wide.2 F2.out).mono ?_
  rintro e w' ⟨A2, n2, c2, ys1, rfl, rfl, r2, p2, q3, q4⟩
  gi_wp2_with fail
  refine ⟨trivial, ?_⟩
  refine (callsIn_wide.2 (pairs_ok _ A1 A2 n1 n2 c1 c2)).mono ?_
  rintro e w' ⟨rfl, rfl⟩
  gi_wp2
  have hlen1 : n1 ≤ 35184372087808 := by omega
  have hlen2 : n2 ≤ 35184372087808 := by omega
  have b0 : Below w.heap.size w (w.alloc (.cells #[.int .i64 0] 3)) := (Below.refl _ _).alloc (Nat.le_refl _) _
  have b2 : Below w.heap.size w (((w.alloc (.cells #[.int .i64 0] 3)).alloc (.cells #[.slice A1 n1 c1] 40)).alloc (.cells #[.slice A2 n2 c2] 40)) := (b0.alloc (by simp) _).alloc (by simp; omega) _
  have b1 : Below (w.heap.size + 1) (w.alloc (.cells #[.int .i64 0] 3)) (((w.alloc (.cells #[.int .i64 0] 3)).alloc (.cells #[.slice A1 n1 c1] 40)).alloc (.cells #[.slice A2 n2 c2] 40)) := ((Below.refl _ _).alloc (by simp) _).alloc (by simp) _
  have kA : Blk (((w.alloc (.cells #[.int .i64 0] 3)).alloc (.cells #[.slice A1 n1 c1] 40)).alloc (.cells #[.slice A2 n2 c2] 40)) (w.heap.size + 1) 40 #[.slice A1 n1 c1] := by
    have := (Blk.new (w.alloc (.cells #[.int .i64 0] 3)) 40 #[.slice A1 n1 c1]).alloc (.cells #[.slice A2 n2 c2] 40)
    rw [World.size_alloc] at this
    exact this
  have kB : Blk (((w.alloc (.cells #[.int .i64 0] 3)).alloc (.cells #[.slice A1 n1 c1] 40)).alloc (.cells #[.slice A2 n2 c2] 40)) (w.heap.size + 1 + 1) 40 #[.slice A2 n2 c2] := by
    have := Blk.new ((w.alloc (.cells #[.int .i64 0] 3)).alloc (.cells #[.slice A1 n1 c1] 40)) 40 #[.slice A2 n2 c2]
    rw [World.size_alloc, World.size_alloc] at this
    exact this
  have kR : Blk (((w.alloc (.cells #[.int .i64 0] 3)).alloc (.cells #[.slice A1 n1 c1] 40)).alloc (.cells #[.slice A2 n2 c2] 40)) w.heap.size 3 #[.int .i64 0] := ((Blk.new w 3 #[.int .i64 0]).alloc _).alloc _
  have hsz : (((w.alloc (.cells #[.int .i64 0] 3)).alloc (.cells #[.slice A1 n1 c1] 40)).alloc (.cells #[.slice A2 n2 c2] 40)).heap.size = w.heap.size + 1 + 1 + 1 := by simp
  obtain ⟨W0, hW0⟩ : ∃ W0, ((w.alloc (.cells #[.int .i64 0] 3)).alloc (.cells #[.slice A1 n1 c1] 40)).alloc (.cells #[.slice A2 n2 c2] 40) = W0 := ⟨_, rfl⟩
  rw [hW0] at b2 b1 kA kB kR hsz ⊢
  clear hW0
  have R1 := hide (r1.out.below (b1.mono (by simp)))
  have R2 := hide (r2.out.below (b1.mono (by simp)))
  have P1 := hide p1.out.1
  have P2 := hide p2.out.1
  have HV := hide (cmpR_prs p1.out.1 p2.out.1 (max n1 n2) (by rw [r1.out.1]; omega) (by rw [r2.out.1]; omega))
  rw [p1.out.2.2, p2.out.2.2] at HV
  have HB2 := hide b2
  have HR := hide kR
  have HA := hide kA
  have HBk := hide kB
  have HS := hide hsz
  clear b2 kR kA kB hsz F1 F2 r1 r2 p1 p2 b0 b1
  have hst := pairs1_stops (3 - 1) (by omega) (w.heap.size + 1) (w.heap.size + 1 + 1) (w.heap.size + 1 + 1 + 1) A1 A2 n1 n2 c1 c2 (max n1 n2) xs1 ys1 rfl (by omega) W0 (HA.out.cell 0) (HBk.out.cell 0) (by omega) (by omega) (by rw [HS.out]; exact Nat.le_refl _)
    (fun W' hb => R1.out.below (hb.mono (by rw [HS.out]; exact Nat.le_refl _))) (fun W' hb => R2.out.below (hb.mono (by rw [HS.out]; exact Nat.le_refl _))) P1.out P2.out
  refine wpIn_rangeFunc_ownF rfl (by omega) (gf := 100) (lb := #[.pointer (some ⟨w.heap.size + 1, 0, none⟩), .pointer (some ⟨w.heap.size + 1 + 1, 0, none⟩)]) rfl trivial (enters_of Tryd.func100 (by kernel_rfl) rfl)
    hst belowK_t (belowK_b (by rw [HS.out]; exact Nat.le_refl _)) (Below.refl _ _) (fun _ => rfl)
    (fun pre W => (Hid (cmpP pre = none) ∧ W.cell? ⟨w.heap.size, 0, none⟩ = some (.int .i64 0) ∧ W.frozen? ⟨w.heap.size, 0, none⟩ = false) ∧ Hid (Below w.heap.size w W))
    (fun c pre W => (c = .ret ∧ ∃ p, cmpP pre = some p ∧ W.cell? ⟨w.heap.size, 0, none⟩ = some (.int .i64 (cmpR (some p)))) ∧ Hid (Below w.heap.size w W))
    (OwnFrom.and (Own.from (fun s A B row hs hg hr => ⟨hs.1, cell_kept hs.2.1 hg hr, (frozen_kept hs.2.1 hg hr).trans hs.2.2⟩) _) (ownFrom_below (n₀ := w.heap.size) (w₀ := w) (Nat.le_refl _) (by rw [HS.out]; omega)))
    (fun c => OwnFrom.and (Own.from (fun s A B row hs hg hr => by obtain ⟨h1, p, h2, h3⟩ := hs; exact ⟨h1, p, h2, cell_kept h3 hg hr⟩) _) (ownFrom_below (n₀ := w.heap.size) (w₀ := w) (Nat.le_refl _) (by rw [HS.out]; omega)))
    ⟨⟨rfl, HR.out.cell 0, HR.out.frozen 0⟩, HB2.out⟩
    (fun x => { tmps := #[.slice A n c, .slice A' n' c', undef, undef, .pointer (some ⟨w.heap.size, 0, none⟩), .int .u64 (x.1 : Int), .int .u64 (x.2 : Int), .slice A n c, .slice A1 n1 c1, .slice A' n' c', .slice A2 n2 c2,
      .func (.func 100) #[] #[.pointer (some ⟨w.heap.size + 1, 0, none⟩), .pointer (some ⟨w.heap.size + 1 + 1, 0, none⟩)], .int .u64 (x.1 : Int), .int .u64 (x.2 : Int), undef, undef, undef, undef, undef, undef], defers := [] }) ?assign ?body ?done ?stop
  case assign =>
    intro l x W K hK
    gi_wp2
    exact hK
  case body =>
    rintro l pre x W ⟨⟨hp, hcr, hfr⟩, hB⟩ _
    have HP := hide hp
    have HB := hide hB
    clear hp hB
    obtain ⟨x1, x2⟩ := x
    dsimp only at *
    by_cases hne : x1 = x2
    · have e1 : ((x1 : Int) != x2) = false := by rw [hne]; simp
      have HM := hide (cmpP_miss (x := (x1, x2)) HP.out.out hne)
      clear HP hne
      gi_wp2
      exact ⟨KeepsOthers.refl _, Below.refl _ _, ⟨HM.out, hcr, hfr⟩, HB.out⟩
    · have e1 : ((x1 : Int) != x2) = true := by simp; omega
      have HH := hide (cmpP_hit (x := (x1, x2)) HP.out.out hne)
      have HB' := hide (fun v => HB.out.out.setCell (p := ⟨w.heap.size, 0, none⟩) (Nat.le_refl _) v)
      clear HP
      by_cases hlt : x1 < x2
      · have e2 : decide (x1 < x2) = true := by simpa using hlt
        have e3 : Hid (cmpR (some (x1, x2)) = -1) := if_pos hlt
        clear hne hlt
        gi_wp2
        exact ⟨KeepsOthers.setCell _ _ _, ⟨rfl, _, HH.out, by rw [e3.out]; exact World.cell?_setCell_same' _ _ _ (by rw [hcr]; rfl)⟩, HB'.out _⟩
      · have e2 : decide (x1 < x2) = false := by simpa using hlt
        have e3 : Hid (cmpR (some (x1, x2)) = 1) := if_neg hlt
        clear hne hlt
        gi_wp2
        exact ⟨KeepsOthers.setCell _ _ _, ⟨rfl, _, HH.out, by rw [e3.out]; exact World.cell?_setCell_same' _ _ _ (by rw [hcr]; rfl)⟩, HB'.out _⟩
  case done =>
    rintro D zs W hD rfl ⟨⟨hp, hcr, hfr⟩, hB⟩ hK
    have e := HV.out
    rw [hp.out] at e
    have HE := hide e
    clear e hp
    have hK' := (KeepsOthers.setCell W ⟨w.heap.size, 0, none⟩ (.int .i64 0)).same D _ hK rfl
    have hc5 := cell_kept (World.cell?_setCell_same' W ⟨w.heap.size, 0, none⟩ (.int .i64 0) (by rw [hcr]; rfl)) (grownBy_putObj' _ D (.deferred none)) (fun r e => by cases e; exact ⟨_, hK', rfl⟩)
    have HB3 := hide ((hB.out.setCell (p := ⟨w.heap.size, 0, none⟩) (Nat.le_refl _) (.int .i64 0)).trans (belowK_b (w := W0) (n₀ := w.heap.size) (by rw [HS.out]; omega) _ D _ (.deferred none) hD hK' rfl rfl))
    clear hst
    gi_wp2
    refine ⟨by simp, .inl ⟨_, _, rfl, run_takeDeferred hK', ?_⟩⟩
    refine ⟨.int .i64 0, ?_, by rw [← HE.out]; rfl, HB3.out⟩
    simp [results, Tryd.f76, go_sem, hc5]
  case stop =>
    rintro D c pre W hD ⟨k, hk, rfl⟩ ⟨⟨rfl, p, hp, hcr⟩, hB⟩ hK
    obtain ⟨qs, hqs⟩ := prs_prefix (max n1 n2) k hk xs1 ys1
    have e := HV.out
    rw [hqs, cmpP_prefix hp] at e
    have HE := hide e
    clear e hp hqs hst
    have hc5 := cell_kept hcr (grownBy_putObj' _ D (.deferred none)) (fun r e => by cases e; exact ⟨_, hK, rfl⟩)
    have HB3 := hide (hB.out.trans (belowK_b (w := W0) (n₀ := w.heap.size) (by rw [HS.out]; omega) W D _ (.deferred none) hD hK rfl rfl))
    gi_wp2
    refine ⟨by simp, .inl ⟨_, _, rfl, run_takeDeferred hK, ?_⟩⟩
    refine ⟨.int .i64 (cmpR (some p)), ?_, by rw [HE.out], HB3.out⟩
    simp [results, Tryd.f76, go_sem, hc5]
end Go.Proofs.YtfpnhggbfakdkaaDoor

/- nats: Clone, Of, Back, Sub. -/
set_option linter.unusedVariables false
set_option linter.unusedSimpArgs false
set_option maxRecDepth 100000
namespace Go.Proofs.YtfpnhggbfakdkaaDoor
open Go.RowKit

set_option maxHeartbeats 400000 in
theorem clone_ok (w : World) (A : Option Addr) (n c : Nat) (xs : List Nat) (h : Rd w A n xs) (hn : n ≤ 35184372087808) :
    Calls Tryd.prog 72 #[.slice A n c] w fun e w' => ∃ A' c', e = .returned (.slice A' n c') ∧ n ≤ c' ∧ Rd w' A' n xs ∧ Fr T32 w.heap.size w' A' c' ∧ Below w.heap.size w w' ∧ w'.ownsRow w.heap.size T32 1 (.slice A' n c') n (xs.map fun x => Value.int .u32 (x : Nat)) := by
  refine opq fun R hR => ?_
  have H := hide h
  clear h
  have hnil := fun W => Lib.run_eql_slice_nil (P := Tryd.prog) W 40 85 A n c 0 0 (by kernel_rfl)
  go_enter Tryd.func72, Tryd.ntmps72
  rcases A with _ | ad
  · have hn0 : n = 0 := by
      rcases Nat.eq_zero_or_pos n with h0 | h0
      · exact h0
      · obtain ⟨ad, h, _⟩ := H.out.2.2 h0; cases h
    subst hn0
    go_wp2
    exact opq_end hR ⟨none, 0, rfl, Nat.le_refl _, by rw [H.out.nil_iff]; exact Rdk.nil _ _ _, .inl rfl, Below.refl _ _, by rw [H.out.nil_iff]; exact World.ownsRow_nil _ _ _ _⟩
  · have bA : Below w.heap.size w (w.alloc (.cells #[] 85)) := (Below.refl _ _).alloc (Nat.le_refl _) _
    have own : (w.alloc (.cells #[] 85)).ownsRow w.heap.size 85 1 (.slice (some ⟨w.heap.size, 0, none⟩) 0 0) 0 (([] : List Nat).map fun x => Value.int .u32 (x : Nat)) :=
      own_blk (Blk.new w 85 #[]) (Nat.le_refl _) rfl (by omega) (Nat.le_refl _) rfl
    have HR := hide (H.out.below bA)
    have HW := hide own
    have HA := hide bA
    clear own bA
    go_wp2_with (at_builtin; refine wpList_app (k := .u32) (b := 4) (t := 40) (e := 85) (by kernel_rfl) info32 _ rfl _ _ rfl w.heap.size 0 _ [] rfl HW.out (some ad) n c xs rfl HR.out (by omega) (by omega) (by simp) ?_; intro A' c' w' q1 q2 q3 q4 q5)
    rw [List.nil_append, Nat.zero_add] at *
    exact opq_end hR ⟨A', c', rfl, q1, q2.out, q3.out, HA.out.grown q5.out (by simp) (fun k e => by cases e; exact Nat.le_refl _), q4.out⟩

set_option maxHeartbeats 400000 in
theorem Of_ok (w : World) (x : Nat) (hx : x < 18446744073709551616) :
    Calls Tryd.prog 80 #[.int .u64 (x : Nat)] w fun e w' => ∃ v, e = .returned v ∧ NatR x w.heap.size w' v ∧ Below w.heap.size w w' := by
  refine opq fun R hR => ?_
  go_enter Tryd.func80, Tryd.ntmps80
  have hb := Blk.new w T32 (cellsOf .u32 [x % 4294967296, x / 4294967296])
  have h32 : Is32 [x % 4294967296, x / 4294967296] := is32_cons.2 ⟨by omega, is32_cons.2 ⟨by omega, is32_nil⟩⟩
  have hv : val [x % 4294967296, x / 4294967296] = x := by simp only [val]; omega
  have N := hide (natR_of_blk hb h32 (Nat.le_refl _) (by simp))
  have C := hide (cut_ok (w.alloc (.cells (cellsOf .u32 [x % 4294967296, x / 4294967296]) T32)) (some ⟨w.heap.size, 0, none⟩) 2 2 _ (hb.rd 2 (Nat.le_refl _) (by omega)) (Nat.le_refl _))
  have HB := hide ((Below.refl w.heap.size w).alloc (Nat.le_refl _) (.cells (cellsOf .u32 [x % 4294967296, x / 4294967296]) T32))
  rw [hv] at N
  clear hv h32 hb
  go_wp2_with fail
  refine C.out.mono ?_
  rintro e w' ⟨rfl, rfl⟩
  go_wp2
  exact opq_end hR ⟨_, rfl, N.out, HB.out⟩

theorem NatR.mono {N B B' : Nat} {w : World} {v : Value} (h : NatR N B w v) (hB : B' ≤ B) : NatR N B' w v := by
  obtain ⟨A, c, e, r, f, l⟩ := h
  exact ⟨A, c, e, r, f.mono hB, l⟩
set_option maxHeartbeats 400000 in
theorem Sub_ok (w : World) (A A' : Option Addr) (n n' c c' : Nat) (xs ys : List Nat) (h : Rd w A n xs) (h' : Rd w A' n' ys) (h32 : Is32 xs) (h32' : Is32 ys) (hn : n ≤ 35184372087808) (hn' : n' ≤ 35184372087808) (hc : n ≤ c) (hc' : n' ≤ c') :
    Calls Tryd.prog 98 #[.slice A n c, .slice A' n' c'] w fun e w' =>
      (if chk xs = true ∧ chk ys = true ∧ val ys ≤ val xs then ∃ v, e = .returned (.tuple #[v, .int .i64 0]) ∧ NatR (val xs - val ys) w.heap.size w' v
        else e = .returned (.tuple #[.slice none 0 0, .int .i64 1])) ∧ Below w.heap.size w w' := by
  refine opq fun R hR => ?_
  have C1 := hide (Check_ok w A n c xs h)
  have C2 := hide (Check_ok w A' n' c' ys h')
  have C3 := hide (Cmp_ok w A A' n n' c c' xs ys h h' h32 h32' hn hn' hc hc')
  cases hx : chk xs
  · rw [hx] at C1
    go_enter Tryd.func98, Tryd.ntmps98
    go_wp2_with fail
    refine C1.out.mono ?_
    rintro e w' ⟨rfl, rfl⟩
    go_wp2
    exact opq_end hR ⟨by rw [if_neg (by rw [hx]; simp)]; rfl, Below.refl _ _⟩
  · cases hy : chk ys
    · rw [hx] at C1
      rw [hy] at C2
      go_enter Tryd.func98, Tryd.ntmps98
      go_wp2_with fail
      refine C1.out.mono ?_
      rintro e w' ⟨rfl, rfl⟩
      go_wp2_with fail
      refine C2.out.mono ?_
      rintro e w' ⟨rfl, rfl⟩
      go_wp2
      exact opq_end hR ⟨by rw [if_neg (by rw [hy]; simp)]; rfl, Below.refl _ _⟩
    · rw [hx] at C1
      rw [hy] at C2
      by_cases hv : val ys ≤ val xs
      · have e1 : Hid (decide (cmpN (nv xs) (nv ys) < 0) = false) := by
          show _ = _
          simp only [cmpN, nv, hx, hy, if_true, decide_eq_false_iff_not]
          rw [if_neg (by omega)]
          split <;> omega
        have hl : n' ≤ n := by rw [← h.1, ← h'.1]; exact len_le_of_val h32 h32' hy hv
        have H1 := hide h
        have H2 := hide h'
        have H3 := hide h32
        have H4 := hide h32'
        have H5 := hide hv
        clear h h' h32 h32' hv
        generalize cmpN (nv xs) (nv ys) = r at *
        have e2 := e1.out
        go_enter Tryd.func98, Tryd.ntmps98
        go_wp2_with fail
        refine C1.out.mono ?_
        rintro e w' ⟨rfl, rfl⟩
        go_wp2_with fail
        refine C2.out.mono ?_
        rintro e w' ⟨rfl, rfl⟩
        go_wp2_with fail
        refine C3.out.mono ?_
        rintro e w' ⟨rfl, hb⟩
        have HB := hide hb
        clear hb
        go_wp2_with fail
        refine (minus_ok _ A A' n n' c c' xs ys (H1.out.below HB.out) (H2.out.below HB.out) H3.out H4.out hn hl H5.out).mono ?_
        rintro e w2 ⟨v, rfl, hN, hb2⟩
        have HN := hide hN
        have HB2 := hide hb2
        clear hN hb2
        go_wp2
        exact opq_end hR ⟨by rw [if_pos ⟨hx, hy, H5.out⟩]; exact ⟨v, rfl, HN.out.mono HB.out.size⟩, below_tr HB.out HB2.out⟩
      · have e1 : Hid (decide (cmpN (nv xs) (nv ys) < 0) = true) := by
          show _ = _
          simp only [cmpN, nv, hx, hy, if_true, decide_eq_true_eq]
          rw [if_pos (by omega)]
          omega
        have H5 := hide hv
        clear h h' h32 h32' hv
        generalize cmpN (nv xs) (nv ys) = r at *
        have e2 := e1.out
        go_enter Tryd.func98, Tryd.ntmps98
        go_wp2_with fail
        refine C1.out.mono ?_
        rintro e w' ⟨rfl, rfl⟩
        go_wp2_with fail
        refine C2.out.mono ?_
        rintro e w' ⟨rfl, rfl⟩
        go_wp2_with fail
        refine C3.out.mono ?_
        rintro e w' ⟨rfl, hb⟩
        have HB := hide hb
        clear hb
        go_wp2
        exact opq_end hR ⟨by rw [if_neg (fun q => H5.out q.2.2)]; rfl, HB.out⟩
end Go.Proofs.YtfpnhggbfakdkaaDoor
