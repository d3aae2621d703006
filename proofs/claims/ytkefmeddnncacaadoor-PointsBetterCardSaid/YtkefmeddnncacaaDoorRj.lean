/- the document's answer for nats: small, up, down, Of. -/
import Derived.Test.YtkefmeddnncacaaDoorRN
import Derived.Test.YtkefmeddnncacaaDoorLi
import Derived.Test.YtkefmeddnncacaaDoorNC
set_option linter.unusedVariables false
set_option linter.unusedSimpArgs false
set_option maxRecDepth 100000
namespace Go.Proofs.YtkefmeddnncacaaDoor
open Go.RowKit

/-- By one part, in place: the parts below i are as they were. -/
structure RShort (i r b : Nat) (xs zs : List Nat) : Prop where
  s : ShortInv i r b xs zs
  low : ∀ j, j < i → zs.getD j 0 = xs.getD j 0
theorem RShort.start {b : Nat} {xs : List Nat} (h : Is32 xs) (hb : 0 < b) : RShort xs.length 0 b xs xs :=
  ⟨⟨rfl, h, hb, by rw [List.drop_length]; simp [val]⟩, fun _ _ => rfl⟩
theorem RShort.step {i r b : Nat} {xs zs : List Nat} (H : RShort (i + 1) r b xs zs) (hi : i < xs.length) (hx : Is32 xs) : RShort i ((r * 4294967296 + xs.getD i 0) % b) b xs (zs.set i ((r * 4294967296 + xs.getD i 0) / b)) :=
  ⟨H.s.step hi hx, fun j hj => by rw [bel_getD_set _ _ _ _ (by omega)]; exact H.low j (by omega)⟩
set_option maxHeartbeats 2000000 in
theorem ksmall_ok (w : World) (A : Option Addr) (n c b : Nat) (xs : List Nat) (h : Rd w A n xs) (h32 : Is32 xs) (hn : n ≤ 17592186044416) (hb0 : 0 < b) (hb : b < 4294967296) :
    Calls Tryd.prog 231 #[.slice A n c, .int .u32 (b : Nat)] w fun e w' => ∃ v, e = .returned (.tuple #[v, .int .u32 (val xs % b : Nat)]) ∧ NatR (val xs / b) w.heap.size w' v ∧ Below w.heap.size w w' := by
  refine opq fun R hR => ?_
  have TW := hide (rTwin_ok w A n c xs h hn)
  have p1 := hide h32
  have lx := hide h.1
  have hbz : ((b : Int) == 0) = false := by simp; omega
  clear h h32
  go_enter Tryd.func231, Tryd.ntmps231
  go_wp2_with fail
  refine TW.out.mono ?_
  rintro e w1 ⟨A1, c1, rfl, q1, q2, q3, q4, B1⟩
  clear TW q2 q3
  have hz := B1.out.size
  have S0 : Hid (RShort n 0 b xs xs) := by rw [← lx.out]; exact RShort.start p1.out hb0
  go_wp2
  go_loopw [7, 8] (fun rv iv wr => ∃ i r zs, i ≤ n ∧ iv = .int .i64 ((i : Int) - 1) ∧ rv = .int .u64 (r : Nat) ∧ r < b ∧ Hid (wr.ownsRow w.heap.size T32 1 (.slice A1 n c1) n (zs.map fun x => Value.int .u32 (x : Nat))) ∧ Hid (Below w.heap.size w wr) ∧ Hid (RShort i r b xs zs)) (fun _ iv _ => (intOf iv + 1).toNat)
  case atStart => exact ⟨n, 0, xs, Nat.le_refl _, rfl, rfl, hb0, q4, B1, S0⟩
  case round =>
    obtain ⟨i, r, zs, hi, rfl, rfl, hr, own, hbel, hinv⟩ := hrel
    clear S0 q4
    have hlen := hinv.out.s.len
    rw [lx.out] at hlen
    rcases i with _ | i
    · obtain ⟨ev, er⟩ := hinv.out.s.fin
      obtain ⟨A2, c2, e2, l2, rd2, _⟩ := own_rd own.out
      cases e2
      have C := hide (rtrim_ok wr A1 n c1 zs rd2 q1)
      have N : Hid (NatR (val zs) w.heap.size wr (.slice A1 (strip zs).length c1)) := natR_of_own own.out hinv.out.s.is32
      rw [ev] at N
      have ER := hide er
      clear ev er rd2 hlen
      go_wp2_with fail
      refine C.out.mono ?_
      rintro e w' ⟨rfl, rfl⟩
      go_wp2
      exact opq_end hR ⟨_, by rw [← ER.out]; rfl, N.out, hbel.out⟩
    · obtain ⟨g, c2, e2, l2, m2, hB, hpb⟩ := own_pb own.out (by omega)
      cases e2
      have hx := hpb.cell i (by omega)
      have hfro := hpb.frozen i
      rw [hinv.out.low i (by omega)] at hx
      have bx := is32_get p1.out i
      have S1 := hide (hinv.out.step (by rw [lx.out]; omega) p1.out)
      have S4 := hide S1.out.s.lt
      have hqr := hide (short_room hr bx)
      obtain ⟨x, ex⟩ : ∃ x, Hid (xs.getD i 0 = x) := ⟨_, hide rfl⟩
      rw [ex.out] at hx bx S1 S4 hqr
      have o1 := or_high (y := r) bx (by omega)
      obtain ⟨s, es⟩ : ∃ s, Hid (r * 4294967296 + x = s) := ⟨_, hide rfl⟩
      rw [es.out] at o1 S1 S4 hqr
      have s64 : s < 18446744073709551616 := by have := es.out; omega
      obtain ⟨qq, eq⟩ : ∃ qq, Hid (s / b = qq) := ⟨_, hide rfl⟩
      obtain ⟨rr, er⟩ : ∃ rr, Hid (s % b = rr) := ⟨_, hide rfl⟩
      rw [eq.out, er.out] at S1
      rw [er.out] at S4
      rw [eq.out] at hqr
      have hqq := hqr.out
      have hrr := S4.out
      have w1 : IntKind.u64.wrap ((s : Int) / b) = (qq : Int) := by rw [← Int.natCast_ediv, eq.out, IntKind.wrap_u64]; omega
      have w2 : (s : Int) % b = (rr : Int) := by rw [← Int.natCast_emod, er.out]
      have S2 := hide (own.out.stored i (.int .u32 ((qq : Nat) : Int))).1
      rw [← List.map_set (f := fun x => Value.int .u32 ((x : Nat) : Int))] at S2
      have S3 := hide (hbel.out.setCell (p := ⟨g, i, none⟩) hB (.int .u32 ((qq : Nat) : Int)))
      have ei : ((i + 1 : Nat) : Int) - 1 = (i : Int) := by omega
      rw [ei]
      clear hlen hpb l2 m2 ei
      go_wp2
      go_roundw
      case rel => exact ⟨i, rr, _, by omega, rfl, by first | rfl | (rw [w2]) | (rw [← er.out]; rfl), hrr, S2, S3, S1⟩
      case measure => simp [intOf]
set_option maxHeartbeats 2000000 in
theorem kup_ok (w : World) (A : Option Addr) (n c b : Nat) (xs : List Nat) (h : Rd w A n xs) (h32 : Is32 xs) (hn : n ≤ 17592186044416) (hb : b < 32) :
    Calls Tryd.prog 232 #[.slice A n c, .int .u64 (b : Nat)] w fun e w' => ∃ zs, e = .returned (.slice (some ⟨w.heap.size, 0, none⟩) (n + 1) (n + 1)) ∧ Hid (Blk w' w.heap.size T32 (cellsOf .u32 zs)) ∧ zs.length = n + 1 ∧ Is32 zs ∧ val zs = val xs * 2 ^ b ∧ Below w.heap.size w w' := by
  refine opq fun R hR => ?_
  have r1 := hide h
  have p1 := hide h32
  clear h h32
  have hs0 : 0 < 2 ^ b := Nat.pow_pos (by omega)
  have hsc := hide (pow_comp b hb)
  obtain ⟨s, es⟩ : ∃ s, Hid (2 ^ b = s) := ⟨_, hide rfl⟩
  rw [es.out] at hs0 hsc
  have hmk := mk_nums (P := Tryd.prog) (t := 47) (e := 120) (k := .u32) (b := 4) (by kernel_rfl) info32 ((n : Int) + 1) (n + 1) (by omega) (by omega) (by omega)
  go_enter Tryd.func232, Tryd.ntmps232
  go_wp2
  clear hmk
  go_loopw [6] (fun iv wr => ∃ i zs, i ≤ n ∧ iv = .int .i64 (i : Nat) ∧ Hid (Blk wr w.heap.size T32 (cellsOf .u32 zs)) ∧ Hid (Below w.heap.size w wr) ∧ Hid (ShInv i 0 s xs zs)) (fun iv _ => n - (intOf iv).toNat)
  case atStart => exact ⟨0, _, by omega, rfl, Blk.new _ _ _, (Below.refl _ _).alloc (Nat.le_refl _) _, by have := ShInv.start (skip := 0) xs hs0; rw [r1.out.1] at this; exact this⟩
  case round =>
    obtain ⟨i, zs, hi, rfl, hblk, hbel, hinv⟩ := hrel
    have hlen := hinv.out.len
    rw [r1.out.1] at hlen
    by_cases hlt : i < n
    · obtain ⟨ad, rfl, hb1, hcl⟩ := (r1.out.below hbel.out).2.2 (by omega)
      have hx := hcl i hlt
      have bx := is32_get p1.out i
      have hcell := hblk.out.cell i
      rw [cellsOf_get _ _ _ (by omega)] at hcell
      have hfro := hblk.out.frozen i
      have hcell2 := hblk.out.cell (i + 1)
      rw [cellsOf_get _ _ _ (by omega)] at hcell2
      have hfro2 := hblk.out.frozen (i + 1)
      obtain ⟨o, eo⟩ : ∃ o, Hid (zs.getD i 0 = o) := ⟨_, hide rfl⟩
      rw [eo.out] at hcell
      obtain ⟨x, ex⟩ : ∃ x, Hid (xs.getD i 0 = x) := ⟨_, hide rfl⟩
      rw [ex.out] at hx bx
      have lo := hinv.out.low
      rw [Nat.add_zero] at lo
      have bo := is32_get hinv.out.is32 i
      rw [eo.out] at lo bo
      have S1 := hide (hinv.out.step (by rw [r1.out.1]; exact hlt) p1.out hs0 hsc.out)
      simp only [Nat.add_zero] at S1
      rw [ex.out, eo.out] at S1
      have e1 : IntKind.u64.wrap ((x : Int) * 2 ^ b) = ((x * s : Nat) : Int) := shl_u64 es.out bx (by omega)
      have e2 := or_join (y := x * s) (o := o) es.out hsc.out (by omega) lo x rfl
      have yb := shl_lt es.out bx (by omega)
      obtain ⟨y, hy⟩ : ∃ y, Hid (x * s = y) := ⟨_, hide rfl⟩
      rw [hy.out] at e1 e2 yb S1
      obtain ⟨z, hz⟩ : ∃ z, Hid (y % 4294967296 + o = z) := ⟨_, hide rfl⟩
      rw [hz.out] at e2 S1
      have e3 : (y : Int) / 4294967296 % 4294967296 = ((y / 4294967296 : Nat) : Int) := by omega
      have S2 := hide ((hblk.out.set_ i (.int .u32 (z : Int))).set_ (i + 1) (.int .u32 ((y / 4294967296 : Nat) : Int)))
      rw [cellsOf_set, cellsOf_set] at S2
      have S3 := hide ((hbel.out.setCell (p := ⟨w.heap.size, i, none⟩) (Nat.le_refl _) (.int .u32 (z : Int))).setCell (p := ⟨w.heap.size, i + 1, none⟩) (Nat.le_refl _) (.int .u32 ((y / 4294967296 : Nat) : Int)))
      clear hcl hlen e3
      go_wp2
      go_roundw
      case rel => exact ⟨i + 1, _, by omega, by go_num, S2, S3, S1⟩
      case measure => simp [intOf]; omega
    · obtain rfl : i = n := by omega
      have hv := hinv.out
      rw [← r1.out.1] at hv
      have ev := hv.fin
      rw [Nat.pow_zero, Nat.one_mul] at ev
      replace ev := hide ev
      clear hv
      go_wp2
      exact opq_end hR ⟨zs, rfl, hblk, hlen, hinv.out.is32, by rw [ev.out, es.out], hbel.out⟩
theorem or_low {x y : Nat} (hx : x < 4294967296) (hy : y < 4294967296) : bits BinOp.or IntKind.u64 (x : Int) ((y : Int) * 4294967296) = ((y * 4294967296 + x : Nat) : Int) := by
  have e : (y : Int) * 4294967296 = ((y * 4294967296 : Nat) : Int) := by simp
  rw [e, u64_or_nat _ _ (by omega) (by omega), Nat.or_comm, nat_join 32 _ _ (by rw [show (2 : Nat) ^ 32 = 4294967296 from rfl]; exact Nat.mul_mod_left _ _) hx]
/-- A shift to the right in place. -/
structure RDn (k s : Nat) (xs zs : List Nat) : Prop where
  len : zs.length = xs.length
  far : ∀ j, k ≤ j → zs.getD j 0 = xs.getD j 0
  inv : BkInv xs.length k s xs (zs.take k ++ List.replicate (xs.length - k) 0)
theorem RDn.start (s : Nat) (xs : List Nat) : RDn 0 s xs xs := ⟨rfl, fun _ _ => rfl, by simpa using BkInv.start xs.length s xs⟩
theorem take_set_succ {zs : List Nat} {k v : Nat} (h : k < zs.length) : (zs.set k v).take (k + 1) = zs.take k ++ [v] := by
  rw [List.take_add_one, List.take_set_of_le (Nat.le_refl _), List.getElem?_set_self h]
  rfl
theorem RDn.step {k s c : Nat} {xs zs : List Nat} (H : RDn k s xs zs) (hk : k < xs.length) (hx : Is32 xs) (hs : 0 < s) (hsc : s * c = 4294967296) :
    RDn (k + 1) s xs (zs.set k (bkd (xs.getD k 0) (xs.getD (k + 1) 0) s)) := by
  have hl := H.len
  refine ⟨by rw [List.length_set, hl], fun j hj => by rw [bel_getD_set _ _ _ _ (by omega)]; exact H.far j (by omega), ?_⟩
  rw [take_set_succ (by omega)]
  have h := H.inv.step hk hx hs hsc
  have e : (zs.take k ++ List.replicate (xs.length - k) 0).set k (bkd (xs.getD k 0) (xs.getD (k + 1) 0) s) = zs.take k ++ [bkd (xs.getD k 0) (xs.getD (k + 1) 0) s] ++ List.replicate (xs.length - (k + 1)) 0 := by
    rw [show xs.length - k = xs.length - (k + 1) + 1 by omega]
    exact set_at _ _ _ _ (by rw [List.length_take]; omega)
  rw [e] at h
  exact h
theorem RDn.fin {s : Nat} {xs zs : List Nat} (H : RDn xs.length s xs zs) : Is32 zs ∧ val zs = val xs / s := by
  have h := H.inv.fin
  rw [Nat.sub_self, List.replicate_zero, List.append_nil, List.take_of_length_le (by rw [H.len]; exact Nat.le_refl _)] at h
  exact h
set_option maxHeartbeats 2000000 in
theorem kdown_ok (w : World) (A : Option Addr) (n c b : Nat) (xs : List Nat) (h : Rd w A n xs) (h32 : Is32 xs) (hn : n ≤ 17592186044416) (hb : b < 32) :
    Calls Tryd.prog 236 #[.slice A n c, .int .u64 (b : Nat)] w fun e w' => ∃ v, e = .returned v ∧ NatR (val xs / 2 ^ b) w.heap.size w' v ∧ Below w.heap.size w w' := by
  refine opq fun R hR => ?_
  have TW := hide (rTwin_ok w A n c xs h hn)
  have p1 := hide h32
  have lx := hide h.1
  clear h h32
  have hs0 : 0 < 2 ^ b := Nat.pow_pos (by omega)
  have hsc := hide (pow_comp b hb)
  obtain ⟨s, es⟩ : ∃ s, Hid (2 ^ b = s) := ⟨_, hide rfl⟩
  rw [es.out] at hs0 hsc
  go_enter Tryd.func236, Tryd.ntmps236
  go_wp2_with fail
  refine TW.out.mono ?_
  rintro e w1 ⟨A1, c1, rfl, q1, q2, q3, q4, B1⟩
  clear TW q2 q3
  have hz := B1.out.size
  have S0 : Hid (RDn 0 s xs xs) := RDn.start _ _
  go_wp2
  go_loopw [6] (fun iv wr => ∃ i zs, i ≤ n ∧ iv = .int .i64 (i : Nat) ∧ Hid (wr.ownsRow w.heap.size T32 1 (.slice A1 n c1) n (zs.map fun x => Value.int .u32 (x : Nat))) ∧ Hid (Below w.heap.size w wr) ∧ Hid (RDn i s xs zs)) (fun iv _ => n - (intOf iv).toNat)
  case atStart => exact ⟨0, xs, by omega, rfl, q4, B1, S0⟩
  case round =>
    obtain ⟨i, zs, hi, rfl, own, hbel, hinv⟩ := hrel
    clear S0 q4
    have hlen := hinv.out.len
    rw [lx.out] at hlen
    by_cases hlt : i < n
    · obtain ⟨g, c2, e2, l2, m2, hB, hpb⟩ := own_pb own.out (by omega)
      cases e2
      have hx := hpb.cell i (by omega)
      have hfro := hpb.frozen i
      rw [hinv.out.far i (by omega)] at hx
      have bx := is32_get p1.out i
      have by_ := is32_get p1.out (i + 1)
      have S1 := hide (hinv.out.step (by rw [lx.out]; exact hlt) p1.out hs0 hsc.out)
      have C2 : Hid (i + 1 < n → wr.cell? ⟨g, i + 1, none⟩ = some (.int .u32 (xs.getD (i + 1) 0 : Nat))) := fun q => by
        have := hpb.cell (i + 1) (by omega)
        rwa [hinv.out.far (i + 1) (by omega)] at this
      have E2 : n ≤ i + 1 → xs.getD (i + 1) 0 = 0 := fun q => getD_ge (by rw [lx.out]; exact q)
      obtain ⟨x, ex⟩ : ∃ x, Hid (xs.getD i 0 = x) := ⟨_, hide rfl⟩
      obtain ⟨y, ey⟩ : ∃ y, Hid (xs.getD (i + 1) 0 = y) := ⟨_, hide rfl⟩
      rw [ex.out] at hx bx S1
      rw [ey.out] at by_ S1 C2 E2
      have e1 := hide (or_low (x := x) (y := y) bx by_)
      obtain ⟨z, ez⟩ : ∃ z, Hid (y * 4294967296 + x = z) := ⟨_, hide rfl⟩
      rw [ez.out] at e1
      have e2 : (z : Int) / 2 ^ b % 4294967296 = ((bkd x y s : Nat) : Int) := by
        rw [bkd, ez.out, ← es.out]; simp
      have S2 := hide (own.out.stored i (.int .u32 ((bkd x y s : Nat) : Int))).1
      rw [← List.map_set (f := fun x => Value.int .u32 ((x : Nat) : Int))] at S2
      have S3 := hide (hbel.out.setCell (p := ⟨g, i, none⟩) hB (.int .u32 ((bkd x y s : Nat) : Int)))
      clear hlen hpb l2 m2
      by_cases h1 : i + 1 < n
      · have hy := C2.out h1
        have e1' := e1.out
        clear C2 E2
        go_wp2
        go_roundw
        case rel => exact ⟨i + 1, _, by omega, by go_num, S2, S3, S1⟩
        case measure => simp [intOf]; omega
      · have y0 := E2 (by omega)
        subst y0
        have ez' : z = x := by have := ez.out; omega
        subst ez'
        clear C2 E2
        go_wp2
        go_roundw
        case rel => exact ⟨i + 1, _, by omega, by go_num, S2, S3, S1⟩
        case measure => simp [intOf]; omega
    · obtain rfl : i = n := by omega
      have hi2 := hinv.out
      rw [← lx.out] at hi2
      obtain ⟨e32, ev⟩ := hi2.fin
      obtain ⟨A2, c2, e2, l2, rd2, _⟩ := own_rd own.out
      cases e2
      have C := hide (rtrim_ok wr A1 i c1 zs rd2 q1)
      have N : Hid (NatR (val zs) w.heap.size wr (.slice A1 (strip zs).length c1)) := natR_of_own own.out e32
      rw [ev, ← es.out] at N
      clear ev rd2 hlen e32 hi2
      go_wp2_with fail
      refine C.out.mono ?_
      rintro e w' ⟨rfl, rfl⟩
      go_wp2
      exact opq_end hR ⟨_, rfl, N.out, hbel.out⟩
set_option maxHeartbeats 1000000 in
theorem kOf_ok (w : World) (n : Nat) (hn : n < 18446744073709551616) :
    Calls Tryd.prog 181 #[.int .u64 (n : Nat)] w fun e w' => ∃ v, e = .returned v ∧ NatR n w.heap.size w' v ∧ Below w.heap.size w w' := by
  refine opq fun R hR => ?_
  have K := hide (Blk.new w T32 (cellsOf .u32 [n % 4294967296, n / 4294967296]))
  have h32 : Hid (Is32 [n % 4294967296, n / 4294967296]) := is32_cons.2 ⟨Nat.mod_lt _ (by omega), is32_cons.2 ⟨by omega, is32_nil⟩⟩
  have C := hide (rtrim_ok (w.alloc (.cells (cellsOf .u32 [n % 4294967296, n / 4294967296]) T32)) (some ⟨w.heap.size, 0, none⟩) 2 2 _ (K.out.rd 2 (by simp) (by omega)) (Nat.le_refl _))
  have N := hide (natR_trim K.out h32.out (Nat.le_refl _) (n := 2) rfl (by omega))
  have ev : val [n % 4294967296, n / 4294967296] = n := by rw [val_cons, val_cons, val_nil]; omega
  rw [ev] at N
  have B := hide ((Below.refl w.heap.size w).alloc (Nat.le_refl _) (.cells (cellsOf .u32 [n % 4294967296, n / 4294967296]) T32))
  clear K h32 ev
  go_enter Tryd.func181, Tryd.ntmps181
  go_wp2_with fail
  refine C.out.mono ?_
  rintro e w' ⟨rfl, rfl⟩
  go_wp2
  exact opq_end hR ⟨_, rfl, N.out, B.out⟩
end Go.Proofs.YtkefmeddnncacaaDoor
