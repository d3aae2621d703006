/- The references of nats: Check fit trim Cmp Add Mul Twin less Sub; law helpers TwinNat LeftNat greatNat. -/
import Derived.Test.YtkefmeddnncacaaDoorLa
import Derived.Test.YtkefmeddnncacaaDoorND
import Derived.Test.YtkefmeddnncacaaDoorNA
import Derived.Test.YtkefmeddnncacaaDoorCa
/- Plain lemmas: the document's sums. No program in sight. -/
set_option linter.unusedVariables false
set_option linter.unusedSimpArgs false
namespace Go.Proofs.YtkefmeddnncacaaDoor

/-- Behind i parts of a sum: zs: the parts; n: what is carried. -/
structure RAdd (i n : Nat) (xs ys zs : List Nat) : Prop where
  len : zs.length = i
  is32 : Is32 zs
  cy : n < 2
  eq : val zs + 4294967296 ^ i * n = val (xs.take i) + val (ys.take i)
theorem RAdd.start (xs ys : List Nat) : RAdd 0 0 xs ys [] := ⟨rfl, is32_nil, by omega, by simp [val]⟩
theorem RAdd.step {i n : Nat} {xs ys zs : List Nat} (H : RAdd i n xs ys zs) (hx : Is32 xs) (hy : Is32 ys) :
    RAdd (i + 1) ((n + xs.getD i 0 + ys.getD i 0) / 4294967296) xs ys (zs ++ [(n + xs.getD i 0 + ys.getD i 0) % 4294967296]) := by
  have e := Nat.mod_add_div (n + xs.getD i 0 + ys.getD i 0) 4294967296
  have b1 := is32_get hx i
  have b2 := is32_get hy i
  have b3 := H.cy
  refine ⟨by simp [H.len], is32_append.2 ⟨H.is32, is32_cons.2 ⟨Nat.mod_lt _ (by omega), is32_nil⟩⟩, by omega, ?_⟩
  rw [val_append, H.len, val_cons, val_nil, val_take_succ, val_take_succ, Nat.pow_succ]
  have h := H.eq
  generalize xs.getD i 0 = x at *
  generalize ys.getD i 0 = y at *
  generalize (n + x + y) % 4294967296 = r at *
  generalize (n + x + y) / 4294967296 = q at *
  generalize 4294967296 ^ i = p at *
  have a : p * (r + 4294967296 * q) = p * n + (p * x + p * y) := by rw [e, Nat.mul_add, Nat.mul_add]; omega
  rw [Nat.mul_add, ← Nat.mul_assoc] at a
  rw [Nat.mul_zero, Nat.add_zero]
  omega
theorem RAdd.fin {i : Nat} {xs ys zs : List Nat} (H : RAdd i 0 xs ys zs) (h1 : xs.length ≤ i) (h2 : ys.length ≤ i) : val zs = val xs + val ys := by
  have h := H.eq
  rw [List.take_of_length_le h1, List.take_of_length_le h2, Nat.mul_zero, Nat.add_zero] at h
  exact h
theorem RAdd.over {i n m : Nat} {xs ys zs : List Nat} (H : RAdd i n xs ys zs) (hx : Is32 xs) (hy : Is32 ys) (h1 : xs.length ≤ m) (h2 : ys.length ≤ m) (hi : m < i) : n = 0 := by
  have h := H.eq
  rw [List.take_of_length_le (by omega), List.take_of_length_le (by omega)] at h
  have a := Nat.lt_of_lt_of_le (val_lt hx) (Nat.pow_le_pow_right (show 0 < 4294967296 by omega) h1)
  have b := Nat.lt_of_lt_of_le (val_lt hy) (Nat.pow_le_pow_right (show 0 < 4294967296 by omega) h2)
  obtain ⟨d, rfl⟩ : ∃ d, i = m + 1 + d := ⟨i - (m + 1), by omega⟩
  rcases Nat.eq_zero_or_pos n with h0 | h0
  · exact h0
  · exfalso
    have c : 4294967296 ^ (m + 1 + d) * 1 ≤ 4294967296 ^ (m + 1 + d) * n := Nat.mul_le_mul_left _ h0
    have f : 4294967296 ^ (m + 1) ≤ 4294967296 ^ (m + 1 + d) := Nat.pow_le_pow_right (by omega) (by omega)
    rw [Nat.pow_succ] at f
    generalize 4294967296 ^ m = p at *
    generalize 4294967296 ^ (m + 1 + d) = r at *
    omega
end Go.Proofs.YtkefmeddnncacaaDoor

/- Plain lemmas: the document's differences. No program in sight. -/
set_option linter.unusedVariables false
set_option linter.unusedSimpArgs false
namespace Go.Proofs.YtkefmeddnncacaaDoor

theorem bel_getD_set (xs : List Nat) (i j v : Nat) (h : j ≠ i) : (xs.set i v).getD j 0 = xs.getD j 0 := by
  rw [getD_set, if_neg (by omega)]
/-- Behind k parts of a difference in place: zs: what is there; o: what is owed. -/
structure RSub (k o : Nat) (xs ys zs : List Nat) : Prop where
  len : zs.length = xs.length
  is32 : Is32 zs
  cy : o < 2
  far : ∀ j, k ≤ j → zs.getD j 0 = xs.getD j 0
  eq : val (zs.take k) + val (ys.take k) = val (xs.take k) + 4294967296 ^ k * o
theorem RSub.start {xs ys : List Nat} (h : Is32 xs) : RSub 0 0 xs ys xs := ⟨rfl, h, by omega, fun _ _ => rfl, by simp [val]⟩
theorem RSub.step {k o d o' : Nat} {xs ys zs : List Nat} (H : RSub k o xs ys zs) (hk : k < xs.length) (hd : d < 4294967296) (ho : o' < 2) (h : d + ys.getD k 0 + o = xs.getD k 0 + 4294967296 * o') : RSub (k + 1) o' xs ys (zs.set k d) := by
  refine ⟨by rw [List.length_set, H.len], is32_set H.is32 _ _ hd, ho, fun j hj => ?_, ?_⟩
  · rw [getD_set, if_neg (by omega)]
    exact H.far j (by omega)
  · rw [val_take_succ, val_take_succ, val_take_succ, List.take_set_of_le (Nat.le_refl _), getD_set, if_pos ⟨rfl, by rw [H.len]; exact hk⟩, Nat.pow_succ]
    have e := H.eq
    generalize ys.getD k 0 = y at *
    generalize xs.getD k 0 = x at *
    generalize 4294967296 ^ k = p at *
    have a : p * d + p * y + p * o = p * x + p * 4294967296 * o' := by
      rw [← Nat.mul_add, ← Nat.mul_add, h, Nat.mul_add, Nat.mul_assoc]
    omega
theorem RSub.fin {o : Nat} {xs ys zs : List Nat} (H : RSub xs.length o xs ys zs) (hy : ys.length ≤ xs.length) (hl : val ys ≤ val xs) : val zs = val xs - val ys := by
  have e := H.eq
  rw [List.take_of_length_le (by rw [H.len]; exact Nat.le_refl _), List.take_of_length_le hy, List.take_of_length_le (Nat.le_refl _)] at e
  have b := val_lt H.is32
  rw [H.len] at b
  rcases Nat.eq_zero_or_pos o with h0 | h0
  · subst h0
    rw [Nat.mul_zero] at e
    omega
  · exfalso
    have : 4294967296 ^ xs.length * 1 ≤ 4294967296 ^ xs.length * o := Nat.mul_le_mul_left _ h0
    omega
end Go.Proofs.YtkefmeddnncacaaDoor

/- law helpers: TwinNat, LeftNat. -/
set_option linter.unusedVariables false
set_option linter.unusedSimpArgs false
set_option maxRecDepth 100000
namespace Go.Proofs.YtkefmeddnncacaaDoor
open Go.RowKit

/-- make of no part, with room for so many. -/
theorem mk_room {P : Program} {t e : TypeId} {k : IntKind} {b : Nat} (ht : P.underlying t = some (.slice e)) (he : (P.info? e).map (fun i => (i.zero, i.size, i.bytes)) = some (some (.int k 0), 1, b)) (c : Int) (m : Nat) (hc : c = m) (hb : b * m ≤ 281474976710656) (h63 : m ≤ 9223372036854775807) (w : World) :
    (Instr.makeSlice t (.int .i64 0) (.int .i64 c)).run P w = .ok (.slice (some ⟨w.heap.size, 0, none⟩) 0 m) (w.alloc (.cells (cellsOf k (List.replicate m 0)) e)) := by
  subst hc
  obtain ⟨i0, hi, hz0, hz1, hz2⟩ := info_parts he
  have hb' : (i0.bytes : Int) * (m : Int) ≤ 281474976710656 := by
    rw [hz2]
    have h : ((b * m : Nat) : Int) ≤ 281474976710656 := by omega
    rwa [Int.natCast_mul] at h
  have hr := run_make (P := P) w t e i0 (.int k 0) ht hi hz0 .i64 .i64 0 (m : Int) (by omega) (by omega) hb' (by omega)
  rw [hr, hz1]
  simp only [Int.toNat_natCast, Value.cells, Nat.mul_one, madeCells_one, cellsOf, List.map_replicate]
  rfl
set_option maxHeartbeats 1000000 in
theorem TwinNat_ok (w : World) (A : Option Addr) (n c : Nat) (xs : List Nat) (h : Rd w A n xs) (hn : n ≤ 17592186044416) :
    Calls Tryd.prog 84 #[.slice A n c] w fun e w' => ∃ A' c', e = .returned (.slice A' n c') ∧ n < c' ∧ Hid (Rd w' A' (n + 1) (xs ++ [77])) ∧ Hid (Fr T32 w.heap.size w' A' c') ∧ Hid (w'.ownsRow w.heap.size T32 1 (.slice A' (n + 1) c') (n + 1) ((xs ++ [77]).map fun x => Value.int .u32 (x : Nat))) ∧ Hid (Below w.heap.size w w') := by
  refine opq fun R hR => ?_
  have r1 := hide h
  clear h
  have hmk := mk_room (P := Tryd.prog) (t := 46) (e := 120) (k := .u32) (b := 4) (by kernel_rfl) info32 ((n : Int) + 1) (n + 1) (by omega) (by omega) (by omega)
  go_enter Tryd.func84, Tryd.ntmps84
  go_wp2
  clear hmk
  have own0 : Hid ((w.alloc (.cells (cellsOf .u32 (List.replicate (n + 1) 0)) T32)).ownsRow w.heap.size T32 1 (.slice (some ⟨w.heap.size, 0, none⟩) 0 (n + 1)) 0 ((xs.take 0).map fun x => Value.int .u32 (x : Nat))) :=
    own_blk (Blk.new w T32 _) (Nat.le_refl _) (by rw [cellsOf_size]; simp) (by omega) (by omega) (by simp)
  go_loopw [3, 4] (fun tv iv wr => ∃ i A' c', i ≤ n ∧ iv = .int .i64 (i : Nat) ∧ tv = .slice A' i c' ∧ Hid (wr.ownsRow w.heap.size T32 1 (.slice A' i c') i ((xs.take i).map fun x => Value.int .u32 (x : Nat))) ∧ Hid (Below w.heap.size w wr)) (fun _ iv _ => n - (intOf iv).toNat)
  case atStart => exact ⟨0, _, _, by omega, rfl, rfl, own0, (Below.refl _ _).alloc (Nat.le_refl _) _⟩
  case round =>
    obtain ⟨i, A1, c1, hi, rfl, rfl, own, hbel⟩ := hrel
    have hz := hbel.out.size
    by_cases hlt : i < n
    · obtain ⟨ad, rfl, hb, hc⟩ := (r1.out.below hbel.out).2.2 (by omega)
      have hx := hc i hlt
      have E1 : Hid ((xs.take i) ++ [xs.getD i 0] = xs.take (i + 1)) := by
        show _ = _
        rw [getD_lt (by rw [r1.out.1]; exact hlt), List.take_succ_eq_append_getElem (by rw [r1.out.1]; exact hlt)]
      generalize xs.getD i 0 = x at *
      have O2 := hide (own.out.alloc (.cells (cellsOf .u32 [x]) T32))
      have K0 := Blk.new wr T32 (cellsOf .u32 [x])
      have R0 := hide (K0.rd 1 (by simp) (by omega))
      have B2 := hide (hbel.out.alloc hbel.out.size (.cells (cellsOf .u32 [x]) T32))
      clear K0 hc own
      go_wp2_with (at_builtin; refine wpList_app (k := .u32) (b := 4) (t := 46) (e := 120) (by kernel_rfl) info32 _ rfl _ _ rfl w.heap.size i _ (xs.take i) rfl O2.out (some ⟨wr.heap.size, 0, none⟩) 1 1 [x] rfl R0.out (by omega) (by omega) (by simp; omega) ?_; intro A3 c4 w3 q1 q2 q3 q4 q5; rw [E1.out] at q4)
      have B4 := hide (B2.out.grown q5.out (by simp; omega) (fun k e => own_from O2.out e))
      go_roundw
      case rel => exact ⟨i + 1, _, _, by omega, by go_num, rfl, q4, B4⟩
      case measure => simp [intOf]; omega
    · obtain rfl : i = n := by omega
      have O2 := hide (own.out.alloc (.cells (cellsOf .u32 [77]) T32))
      have K0 := Blk.new wr T32 (cellsOf .u32 [77])
      have R0 := hide (K0.rd 1 (by simp) (by omega))
      have B2 := hide (hbel.out.alloc hbel.out.size (.cells (cellsOf .u32 [77]) T32))
      clear K0 own
      go_wp2_with (at_builtin; refine wpList_app (k := .u32) (b := 4) (t := 46) (e := 120) (by kernel_rfl) info32 _ rfl _ _ rfl w.heap.size i _ (xs.take i) rfl O2.out (some ⟨wr.heap.size, 0, none⟩) 1 1 [77] rfl R0.out (by omega) (by omega) (by simp; omega) ?_; intro A3 c4 w3 q1 q2 q3 q4 q5)
      rw [List.take_of_length_le (by rw [r1.out.1]; exact Nat.le_refl _)] at q2 q4
      have B4 := hide (B2.out.grown q5.out (by simp; omega) (fun k e => own_from O2.out e))
      exact opq_end hR ⟨A3, c4, rfl, q1, q2, q3, q4, B4⟩
end Go.Proofs.YtkefmeddnncacaaDoor

/- law helpers: LeftNat. -/
set_option linter.unusedVariables false
set_option linter.unusedSimpArgs false
set_option maxRecDepth 100000
namespace Go.Proofs.YtkefmeddnncacaaDoor
open Go.RowKit

theorem LeftNat_ok (w : World) (A A' : Option Addr) (n c c' : Nat) (xs : List Nat) (h : Rd w A (n + 1) (xs ++ [77])) (h' : Rd w A' n xs) (hc : n < c) :
    Calls Tryd.prog 91 #[.slice A n c, .slice A' n c'] w fun e w' => e = .returned (.bool true) ∧ Hid (Below w.heap.size w w') := by
  refine opq fun R hR => ?_
  have r1 := hide h
  have r2 := hide h'
  have hm := h.2.1
  clear h h'
  obtain ⟨ad, rfl, hb, hcl⟩ := r1.out.2.2 (by omega)
  have h77 := hcl n (by omega)
  rw [List.getD_eq_getElem?_getD, List.getElem?_append_right (by rw [r2.out.1]; exact Nat.le_refl _), r2.out.1, Nat.sub_self] at h77
  have hxs := hide (fun j (hj : j < n) => hcl j (by omega))
  clear hcl
  go_enter Tryd.func91, Tryd.ntmps91
  go_wp2
  go_loopw [5] (fun iv wr => ∃ i : Nat, i ≤ n ∧ iv = .int .i64 (i : Nat) ∧ Hid (Below w.heap.size w wr)) (fun iv _ => n - (intOf iv).toNat)
  case atStart => exact ⟨0, by omega, rfl, Below.refl _ _⟩
  case round =>
    obtain ⟨i, hi, rfl, hbel⟩ := hrel
    by_cases hlt : i < n
    · have hx := cell_below hbel.out (hxs.out i hlt)
      rw [List.getD_eq_getElem?_getD, List.getElem?_append_left (by rw [r2.out.1]; exact hlt), ← List.getD_eq_getElem?_getD] at hx
      obtain ⟨ad', rfl, hb', hc'⟩ := (r2.out.below hbel.out).2.2 (by omega)
      have hy := hc' i hlt
      clear hc'
      generalize xs.getD i 0 = x at *
      go_wp2
      go_quiet (fail)
      have B1 := hide (bel_drewN hbel.out nq)
      go_wp2
      go_roundw
      case rel => exact ⟨i + 1, by omega, by go_num, B1⟩
      case measure => simp [intOf]; omega
    · obtain rfl : i = n := by omega
      have h78 := cell_below hbel.out h77
      go_wp2
      exact opq_end hR ⟨rfl, hbel⟩
end Go.Proofs.YtkefmeddnncacaaDoor

/- law helpers: greatNat. -/
set_option linter.unusedVariables false
set_option linter.unusedSimpArgs false
set_option maxRecDepth 100000
namespace Go.Proofs.YtkefmeddnncacaaDoor
open Go.RowKit

end Go.Proofs.YtkefmeddnncacaaDoor

/- the document's answer for nats: Check, fit, trim, Cmp. -/
set_option linter.unusedVariables false
set_option linter.unusedSimpArgs false
set_option maxRecDepth 100000
namespace Go.Proofs.YtkefmeddnncacaaDoor
open Go.RowKit

theorem rCheck_ok (w : World) (A : Option Addr) (n c : Nat) (xs : List Nat) (h : Rd w A n xs) :
    Calls Tryd.prog 207 #[.slice A n c] w fun e w' => e = .returned (.bool (chk xs)) ∧ w = w' := by
  refine opq fun R hR => ?_
  obtain ⟨hl, hm, h⟩ := h
  rcases Nat.eq_zero_or_pos n with h0 | h0
  · subst h0
    have hx : xs = [] := List.eq_nil_of_length_eq_zero hl
    subst hx
    go_enter Tryd.func207, Tryd.ntmps207
    go_wp2
    exact opq_end hR ⟨rfl, rfl⟩
  · obtain ⟨ad, rfl, hb, hc⟩ := h h0
    have hk := hc (n-1) (by omega)
    have e1 : ((n : Int) == 0) = false := by simp; omega
    have hx : Hid (xs.getD (n-1) 0 = xs.getLastD 1) := by
      show _ = _
      rw [List.getLastD_eq_getLast?, List.getLast?_eq_getElem?, hl, List.getD_eq_getElem?_getD, List.getElem?_eq_getElem (by omega)]
      rfl
    clear h hc hl
    generalize xs.getD (n-1) 0 = x at *
    go_enter Tryd.func207, Tryd.ntmps207
    go_wp2
    refine opq_end hR ⟨ret_bool ?_, rfl⟩
    unfold chk
    rw [← hx.out]
    exact bne_nat0 x
theorem rfit_ok (w : World) (A : Option Addr) (n c : Nat) (xs : List Nat) (h : Rd w A n xs) :
    Calls Tryd.prog 221 #[.slice A n c] w fun e w' => e = .returned (if chk xs then .slice A n c else .slice none 0 0) ∧ w = w' := by
  refine opq fun R hR => ?_
  have H := hide (rCheck_ok w A n c xs h)
  cases hc : chk xs
  all_goals
    rw [hc] at H
    go_enter Tryd.func221, Tryd.ntmps221
    go_wp2_with (go_at_call 207; refine H.out.mono ?_; rintro e w' ⟨rfl, rfl⟩)
    exact opq_end hR ⟨by simp [hc], rfl⟩
theorem rfit_any (w : World) (A : Option Addr) (n c : Nat) (xs : List Nat) (h : Rd w A n xs) (h32 : Is32 xs) (hc : n ≤ c) :
    Calls Tryd.prog 221 #[.slice A n c] w fun e w' => ∃ A' n' c' xs', e = .returned (.slice A' n' c') ∧ w = w' ∧ Hid (Rd w A' n' xs') ∧ Hid (Is32 xs' ∧ chk xs' = true ∧ val xs' = nv xs) ∧ n' ≤ n ∧ n' ≤ c' := by
  refine (rfit_ok w A n c xs h).mono ?_
  rintro e w' ⟨rfl, rfl⟩
  by_cases hx : chk xs = true
  · exact ⟨A, n, c, xs, by rw [if_pos hx], rfl, h, ⟨h32, hx, by rw [nv, if_pos hx]⟩, Nat.le_refl _, hc⟩
  · exact ⟨none, 0, 0, [], by rw [if_neg hx], rfl, Rdk.nil _ _ _, ⟨is32_nil, rfl, by rw [nv, if_neg hx]; rfl⟩, by omega, by omega⟩
def lenOf' : Value → Nat
  | .slice _ n _ => n
  | _ => 0
theorem rtrim_ok (w : World) (A : Option Addr) (n c : Nat) (xs : List Nat) (h : Rd w A n xs) (hn : n ≤ c) :
    Calls Tryd.prog 204 #[.slice A n c] w fun e w' => e = .returned (.slice A (strip xs).length c) ∧ w = w' := by
  refine opq fun R hR => ?_
  obtain ⟨hl, hm, h⟩ := h
  go_enter Tryd.func204, Tryd.ntmps204
  go_wp2
  go_loop [0] (fun v => ∃ k : Nat, k ≤ n ∧ v = .slice A k c ∧ Hid (strip (xs.take k) = strip xs)) (fun v => lenOf' v)
  case atStart => exact ⟨n, Nat.le_refl _, rfl, by rw [List.take_of_length_le (by omega)]; exact rfl⟩
  case round =>
    obtain ⟨k, hk, rfl, hs⟩ := hrel
    rcases Nat.eq_zero_or_pos k with h0 | h0
    · subst h0
      have hs0 : Hid ((strip xs).length = 0) := by rw [← hs.out]; exact rfl
      clear h hl
      go_wp2
      exact opq_end hR ⟨by rw [hs0.out], rfl⟩
    · obtain ⟨ad, rfl, hb, hc⟩ := h (by omega)
      have hx := hc (k - 1) (by omega)
      clear hc h
      obtain ⟨j, rfl⟩ : ∃ j, k = j + 1 := ⟨k - 1, by omega⟩
      have hj : j < xs.length := by omega
      by_cases hz : xs.getD j 0 = 0
      · have hs2 : Hid (strip (xs.take j) = strip xs) := by rw [← strip_take_zero hj hz]; exact hs
        simp only [Nat.add_sub_cancel, hz] at hx
        clear hs hl hz hj
        go_wp2
        go_round
        case rel => exact ⟨j, by omega, rfl, hs2⟩
        case measure => simp [lenOf']
      · have hs2 : Hid ((strip xs).length = j + 1) := by rw [← hs.out]; exact strip_take_nz hj hz
        have hz' : (((xs.getD j 0 : Nat) : Int) == 0) = false := by rw [beq_nat0]; simpa using hz
        simp only [Nat.add_sub_cancel] at hx
        clear hs hl hz hj
        generalize xs.getD j 0 = x at *
        go_wp2
        exact opq_end hR ⟨by rw [hs2.out], rfl⟩
theorem val_lt_of_len {xs ys : List Nat} (hx : Is32 xs) (hy : Is32 ys) (hc : chk ys = true) (h : xs.length < ys.length) : val xs < val ys := by
  have h1 := val_lt hx
  have h2 : 4294967296 ^ xs.length ≤ val ys := by
    refine Nat.le_of_not_lt fun q => ?_
    have := limbs_length_le.2 q
    rw [limbs_val_chk hy hc] at this
    omega
  omega
theorem val_parts (xs : List Nat) (i : Nat) : val xs = val (xs.take i) + 4294967296 ^ i * (xs.getD i 0 + 4294967296 * val (xs.drop (i + 1))) := by
  rw [val_cut xs i, drop_val]
theorem take_lt_pow {xs : List Nat} (h : Is32 xs) (i : Nat) : val (xs.take i) < 4294967296 ^ i :=
  Nat.lt_of_lt_of_le (val_lt (is32_take h i)) (Nat.pow_le_pow_right (by omega) (by rw [List.length_take]; omega))
theorem val_lt_at {xs ys : List Nat} {i : Nat} (hx : Is32 xs) (h : xs.drop (i + 1) = ys.drop (i + 1)) (hl : xs.getD i 0 < ys.getD i 0) : val xs < val ys := by
  rw [val_parts xs i, val_parts ys i, h]
  have a := take_lt_pow hx i
  generalize val (ys.drop (i + 1)) = z at *
  generalize val (xs.take i) = p at *
  generalize val (ys.take i) = q at *
  generalize xs.getD i 0 = x at *
  generalize ys.getD i 0 = y at *
  have : 4294967296 ^ i * (x + 4294967296 * z) + 4294967296 ^ i ≤ 4294967296 ^ i * (y + 4294967296 * z) := by
    rw [← Nat.mul_succ]
    exact Nat.mul_le_mul_left _ (by omega)
  omega
theorem drop_step {xs ys : List Nat} {i : Nat} (h : xs.drop (i + 1) = ys.drop (i + 1)) (hx : i < xs.length) (hy : i < ys.length) (e : xs.getD i 0 = ys.getD i 0) : xs.drop i = ys.drop i := by
  rw [getD_lt hx, getD_lt hy] at e
  rw [List.drop_eq_getElem_cons hx, List.drop_eq_getElem_cons hy, h, e]

set_option maxHeartbeats 1000000 in
theorem rCmp_ok (w : World) (A A' : Option Addr) (n n' c c' : Nat) (xs ys : List Nat) (h : Rd w A n xs) (h' : Rd w A' n' ys) (h32 : Is32 xs) (h32' : Is32 ys) (hc : n ≤ c) (hc' : n' ≤ c') :
    Calls Tryd.prog 224 #[.slice A n c, .slice A' n' c'] w fun e w' => e = .returned (.int .i64 (cmpN (nv xs) (nv ys))) ∧ Below w.heap.size w w' := by
  refine opq fun R hR => ?_
  have F1 := hide (rfit_any w A n c xs h h32 hc)
  have F2 := hide (rfit_any w A' n' c' ys h' h32' hc')
  clear h h' h32 h32'
  go_enter Tryd.func224, Tryd.ntmps224
  go_wp2_with fail
  refine F1.out.mono ?_
  rintro e w' ⟨A1, n1, c1, xs1, rfl, rfl, r1, p1, q1, q2⟩
  go_wp2_with fail
  refine F2.out.mono ?_
  rintro e w' ⟨A2, n2, c2, ys1, rfl, rfl, r2, p2, q3, q4⟩
  rw [← p1.out.2.2, ← p2.out.2.2] at hR
  have m1 := r1.out.2.1
  have m2 := r2.out.2.1
  clear F1 F2
  by_cases hlt : n1 < n2
  · have hv := hide (cmpN_lt (val_lt_of_len p1.out.1 p2.out.1 p2.out.2.1 (by rw [r1.out.1, r2.out.1]; exact hlt)))
    go_wp2
    exact opq_end hR ⟨by rw [hv.out]; rfl, Below.refl _ _⟩
  by_cases hgt : n2 < n1
  · have hv := hide (cmpN_gt (val_lt_of_len p2.out.1 p1.out.1 p1.out.2.1 (by rw [r1.out.1, r2.out.1]; exact hgt)))
    go_wp2
    exact opq_end hR ⟨by rw [hv.out]; rfl, Below.refl _ _⟩
  obtain rfl : n1 = n2 := by omega
  go_wp2
  go_loopw [5] (fun iv wr => ∃ i, i ≤ n1 ∧ iv = .int .i64 ((i : Int) - 1) ∧ Hid (xs1.drop i = ys1.drop i) ∧ Hid (Below w.heap.size w wr)) (fun iv _ => (intOf iv + 1).toNat)
  case atStart => exact ⟨n1, by omega, rfl, by show _ = _; rw [List.drop_of_length_le (by rw [r1.out.1]; exact Nat.le_refl _), List.drop_of_length_le (by rw [r2.out.1]; exact Nat.le_refl _)], Below.refl _ _⟩
  case round =>
    obtain ⟨i, hi, rfl, hs, hbel⟩ := hrel
    rcases i with _ | i
    · have e : Hid (cmpN (val xs1) (val ys1) = 0) := by
        have := hs.out
        rw [List.drop_zero, List.drop_zero] at this
        rw [this]
        exact cmpN_eq _
      go_wp2
      exact opq_end hR ⟨by rw [e.out]; rfl, hbel.out⟩
    · have ei : ((i + 1 : Nat) : Int) - 1 = (i : Int) := by omega
      rw [ei]
      obtain ⟨ad, rfl, hb, hc1⟩ := (r1.out.below hbel.out).2.2 (by omega)
      obtain ⟨ad', rfl, hb', hc2⟩ := (r2.out.below hbel.out).2.2 (by omega)
      have hx := hc1 i (by omega)
      have hy := hc2 i (by omega)
      have S1 := hide (fun h => cmpN_lt (val_lt_at p1.out.1 hs.out h))
      have S2 := hide (fun h => cmpN_gt (val_lt_at p2.out.1 hs.out.symm h))
      have S3 := hide (fun h => drop_step hs.out (by rw [r1.out.1]; omega) (by rw [r2.out.1]; omega) h)
      generalize xs1.getD i 0 = x at *
      generalize ys1.getD i 0 = y at *
      clear hc1 hc2
      rcases Nat.lt_trichotomy x y with h | h | h
      · have E := hide (S1.out h)
        go_wp2
        go_quiet (fail)
        have B1 := hide (bel_drewN hbel.out nq)
        go_wp2
        exact opq_end hR ⟨by rw [E.out]; rfl, B1.out⟩
      · have E := hide (S3.out h)
        subst h
        go_wp2
        go_quiet (fail)
        have B1 := hide (bel_drewN hbel.out nq)
        go_wp2
        go_quiet (fail)
        have B2 := hide (bel_drewN B1.out nq)
        go_wp2
        go_roundw
        case rel => exact ⟨i, by omega, rfl, E, bel_drewN hbel.out _⟩
        case measure => simp [intOf] <;> omega
      · have E := hide (S2.out h)
        go_wp2
        go_quiet (fail)
        have B1 := hide (bel_drewN hbel.out nq)
        go_wp2
        go_quiet (fail)
        have B2 := hide (bel_drewN B1.out nq)
        go_wp2
        exact opq_end hR ⟨by rw [E.out]; rfl, B2.out⟩
end Go.Proofs.YtkefmeddnncacaaDoor

/- the document's answer for nats: Add. -/
set_option linter.unusedVariables false
set_option linter.unusedSimpArgs false
set_option maxRecDepth 100000
namespace Go.Proofs.YtkefmeddnncacaaDoor
open Go.RowKit

theorem natR_of_own {w : World} {B n : Nat} {A : Option Addr} {c : Nat} {zs : List Nat} (h : w.ownsRow B T32 1 (.slice A n c) n (zs.map fun x => Value.int .u32 (x : Nat))) (h32 : Is32 zs) :
    NatR (val zs) B w (.slice A (strip zs).length c) := by
  obtain ⟨A', c', e, hn, hr, hf⟩ := own_rd h
  cases e
  have hl : zs.length = n := hr.1
  have hs := strip_length_le zs
  refine ⟨A, c, by rw [limbs_val h32], ?_, hf, by rw [limbs_val h32]; omega⟩
  rw [limbs_val h32]
  have := hr.take (strip zs).length (by omega)
  rw [← strip_eq_take] at this
  exact this
set_option maxHeartbeats 2000000 in
theorem rAdd_ok (w : World) (A A' : Option Addr) (n n' c c' : Nat) (xs ys : List Nat) (h : Rd w A n xs) (h' : Rd w A' n' ys) (h32 : Is32 xs) (h32' : Is32 ys) (hn : n ≤ 17592186044416) (hn' : n' ≤ 17592186044416) (hc : n ≤ c) (hc' : n' ≤ c') :
    Calls Tryd.prog 223 #[.slice A n c, .slice A' n' c'] w fun e w' => ∃ v, e = .returned v ∧ NatR (nv xs + nv ys) w.heap.size w' v ∧ Below w.heap.size w w' := by
  refine opq fun R hR => ?_
  have F1 := hide (rfit_any w A n c xs h h32 hc)
  have F2 := hide (rfit_any w A' n' c' ys h' h32' hc')
  clear h h' h32 h32'
  go_enter Tryd.func223, Tryd.ntmps223
  go_wp2_with fail
  refine F1.out.mono ?_
  rintro e w' ⟨A1, n1, c1, xs1, rfl, rfl, r1, p1, q1, q2⟩
  go_wp2_with fail
  refine F2.out.mono ?_
  rintro e w' ⟨A2, n2, c2, ys1, rfl, rfl, r2, p2, q3, q4⟩
  rw [← p1.out.2.2, ← p2.out.2.2] at hR
  clear F1 F2
  obtain ⟨m, hm⟩ : ∃ m, Hid (m = max n1 n2) := ⟨_, rfl⟩
  have hm1 : n1 ≤ m := by rw [hm.out]; omega
  have hm2 : n2 ≤ m := by rw [hm.out]; omega
  have hm3 : m ≤ 17592186044416 := by rw [hm.out]; omega
  go_wp2
  go_loopw [5, 6, 7] (fun ov nv iv wr => ∃ i cy zs A c, i ≤ m + 1 ∧ iv = .int .i64 (i : Nat) ∧ nv = .int .u64 (cy : Nat) ∧ cy < 2 ∧ ov = .slice A i c ∧ Hid (wr.ownsRow w.heap.size T32 1 (.slice A i c) i (zs.map fun x => Value.int .u32 (x : Nat))) ∧ Hid (Below w.heap.size w wr) ∧ Hid (RAdd i cy xs1 ys1 zs)) (fun _ _ iv _ => m + 1 - (intOf iv).toNat)
  case atStart => exact ⟨0, 0, [], none, 0, by omega, rfl, rfl, by omega, rfl, World.ownsRow_nil _ _ _ _, Below.refl _ _, RAdd.start _ _⟩
  case round =>
    obtain ⟨i, cy, zs, A3, c3, hi, rfl, rfl, hcy, rfl, own, hbel, hinv⟩ := hrel
    have hz := hbel.out.size
    by_cases hend : n1 ≤ i ∧ n2 ≤ i ∧ cy = 0
    · obtain ⟨e1, e2, rfl⟩ := hend
      have ev := hinv.out.fin (by rw [r1.out.1]; exact e1) (by rw [r2.out.1]; exact e2)
      have N := hide (natR_of_own own.out hinv.out.is32)
      rw [ev] at N
      obtain ⟨A4, c4, q5, q6, q7, _⟩ := own_rd own.out
      cases q5
      have C := hide (rtrim_ok wr A3 i c3 zs q7 q6)
      clear ev q6 q7
      go_wp2_with fail
      refine C.out.mono ?_
      rintro e w' ⟨rfl, rfl⟩
      go_wp2
      exact opq_end hR ⟨_, rfl, N.out, hbel.out⟩
    have him : i ≤ m := by
      by_cases q : i ≤ m
      · exact q
      · exfalso
        have := hinv.out.over p1.out.1 p2.out.1 (m := m) (by rw [r1.out.1]; exact hm1) (by rw [r2.out.1]; exact hm2) (by omega)
        exact hend ⟨by omega, by omega, this⟩
    have S1 := hide (hinv.out.step p1.out.1 p2.out.1)
    have b1 := is32_get p1.out.1 i
    have b2 := is32_get p2.out.1 i
    have E1 : n1 ≤ i → xs1.getD i 0 = 0 := fun q => getD_ge (by rw [r1.out.1]; exact q)
    have E2 : n2 ≤ i → ys1.getD i 0 = 0 := fun q => getD_ge (by rw [r2.out.1]; exact q)
    have C1 : Hid (i < n1 → ∃ ad, A1 = some ad ∧ wr.cell? (ad.add i) = some (.int .u32 (xs1.getD i 0 : Nat))) := fun q => by
      obtain ⟨ad, e, _, hc⟩ := (r1.out.below hbel.out).2.2 (by omega)
      exact ⟨ad, e, hc i q⟩
    have C2 : Hid (i < n2 → ∃ ad, A2 = some ad ∧ wr.cell? (ad.add i) = some (.int .u32 (ys1.getD i 0 : Nat))) := fun q => by
      obtain ⟨ad, e, _, hc⟩ := (r2.out.below hbel.out).2.2 (by omega)
      exact ⟨ad, e, hc i q⟩
    generalize xs1.getD i 0 = x at *
    generalize ys1.getD i 0 = y at *
    obtain ⟨t, et⟩ : ∃ t, Hid ((cy + x + y) % 4294967296 = t) := ⟨_, hide rfl⟩
    obtain ⟨q, eq⟩ : ∃ q, Hid ((cy + x + y) / 4294967296 = q) := ⟨_, hide rfl⟩
    rw [et.out, eq.out] at S1
    have hq := S1.out.cy
    have O2 := hide (own.out.alloc (.cells (cellsOf .u32 [t]) T32))
    have K0 := Blk.new wr T32 (cellsOf .u32 [t])
    have R0 := hide (K0.rd 1 (by simp) (by omega))
    have B2 := hide (hbel.out.alloc hbel.out.size (.cells (cellsOf .u32 [t]) T32))
    clear K0 hinv own
    by_cases g1 : i < n1
    · by_cases g2 : i < n2
      · obtain ⟨ad, rfl, hx⟩ := C1.out g1
        obtain ⟨ad2, rfl, hy⟩ := C2.out g2
        have et2 : ((cy : Int) + x + y) % 4294967296 = (t : Int) := by have := et.out; omega
        have eq2 : ((cy : Int) + x + y) / 4294967296 = (q : Int) := by have := eq.out; omega
        clear C1 C2 E1 E2
        go_wp2_with (at_builtin; refine wpList_app (k := .u32) (b := 4) (t := 47) (e := 120) (by kernel_rfl) info32 _ rfl _ _ rfl w.heap.size i _ zs rfl O2.out (some ⟨wr.heap.size, 0, none⟩) 1 1 [t] rfl R0.out (by omega) (by omega) (by simp; omega) ?_; intro A4 c4 w3 q5 q6 q7 q8 q9)
        have B4 := hide (B2.out.grown q9.out (by simp; omega) (fun k e => own_from O2.out e))
        go_roundw
        case rel => exact ⟨i + 1, q, _, A4, c4, by omega, by go_num, rfl, hq, rfl, q8, B4, S1⟩
        case measure => simp [intOf]; omega
      · obtain ⟨ad, rfl, hx⟩ := C1.out g1
        have y0 := E2 (by omega)
        subst y0
        have et2 : ((cy : Int) + x) % 4294967296 = (t : Int) := by have := et.out; omega
        have eq2 : ((cy : Int) + x) / 4294967296 = (q : Int) := by have := eq.out; omega
        clear C1 C2 E1 E2
        go_wp2_with (at_builtin; refine wpList_app (k := .u32) (b := 4) (t := 47) (e := 120) (by kernel_rfl) info32 _ rfl _ _ rfl w.heap.size i _ zs rfl O2.out (some ⟨wr.heap.size, 0, none⟩) 1 1 [t] rfl R0.out (by omega) (by omega) (by simp; omega) ?_; intro A4 c4 w3 q5 q6 q7 q8 q9)
        have B4 := hide (B2.out.grown q9.out (by simp; omega) (fun k e => own_from O2.out e))
        go_roundw
        case rel => exact ⟨i + 1, q, _, A4, c4, by omega, by go_num, rfl, hq, rfl, q8, B4, S1⟩
        case measure => simp [intOf]; omega
    · by_cases g2 : i < n2
      · have x0 := E1 (by omega)
        subst x0
        obtain ⟨ad2, rfl, hy⟩ := C2.out g2
        have et2 : ((cy : Int) + y) % 4294967296 = (t : Int) := by have := et.out; omega
        have eq2 : ((cy : Int) + y) / 4294967296 = (q : Int) := by have := eq.out; omega
        clear C1 C2 E1 E2
        go_wp2_with (at_builtin; refine wpList_app (k := .u32) (b := 4) (t := 47) (e := 120) (by kernel_rfl) info32 _ rfl _ _ rfl w.heap.size i _ zs rfl O2.out (some ⟨wr.heap.size, 0, none⟩) 1 1 [t] rfl R0.out (by omega) (by omega) (by simp; omega) ?_; intro A4 c4 w3 q5 q6 q7 q8 q9)
        have B4 := hide (B2.out.grown q9.out (by simp; omega) (fun k e => own_from O2.out e))
        go_roundw
        case rel => exact ⟨i + 1, q, _, A4, c4, by omega, by go_num, rfl, hq, rfl, q8, B4, S1⟩
        case measure => simp [intOf]; omega
      · have x0 := E1 (by omega)
        subst x0
        have y0 := E2 (by omega)
        subst y0
        obtain rfl : t = cy := by have := et.out; omega
        have eq2 : ((t : Int)) / 4294967296 = (q : Int) := by have := eq.out; omega
        have cy1 : 0 < t := by omega
        have cy2 : decide ((0 : Int) < t) = true := by simp; omega
        clear C1 C2 E1 E2
        go_wp2_with (at_builtin; refine wpList_app (k := .u32) (b := 4) (t := 47) (e := 120) (by kernel_rfl) info32 _ rfl _ _ rfl w.heap.size i _ zs rfl O2.out (some ⟨wr.heap.size, 0, none⟩) 1 1 [t] rfl R0.out (by omega) (by omega) (by simp; omega) ?_; intro A4 c4 w3 q5 q6 q7 q8 q9)
        have B4 := hide (B2.out.grown q9.out (by simp; omega) (fun k e => own_from O2.out e))
        go_roundw
        case rel => exact ⟨i + 1, q, _, A4, c4, by omega, by go_num, rfl, hq, rfl, q8, B4, S1⟩
        case measure => simp [intOf]; omega
end Go.Proofs.YtkefmeddnncacaaDoor

/- the document's answer for nats: Mul. -/
set_option linter.unusedVariables false
set_option linter.unusedSimpArgs false
set_option maxRecDepth 100000
namespace Go.Proofs.YtkefmeddnncacaaDoor
open Go.RowKit

theorem natR_trim {w : World} {g B n : Nat} {zs : List Nat} (h : Blk w g T32 (cellsOf .u32 zs)) (h32 : Is32 zs) (hB : B ≤ g) (hn : zs.length = n) (hm : n ≤ 9223372036854775807) :
    NatR (val zs) B w (.slice (some ⟨g, 0, none⟩) (strip zs).length n) := by
  have hl := strip_length_le zs
  refine ⟨_, n, by rw [limbs_val h32], ?_, .inr ⟨g, _, rfl, hB, h, by rw [cellsOf_size]; omega⟩, by rw [limbs_val h32]; omega⟩
  rw [limbs_val h32]
  have := h.rd (strip zs).length hl (by omega)
  rw [← strip_eq_take] at this
  exact this
set_option maxHeartbeats 2000000 in
theorem rMul_ok (w : World) (A A' : Option Addr) (n n' c c' : Nat) (xs ys : List Nat) (h : Rd w A n xs) (h' : Rd w A' n' ys) (h32 : Is32 xs) (h32' : Is32 ys) (hn : n ≤ 17592186044416) (hn' : n' ≤ 17592186044416) (hc : n ≤ c) (hc' : n' ≤ c') :
    Calls Tryd.prog 212 #[.slice A n c, .slice A' n' c'] w fun e w' => ∃ v, e = .returned v ∧ NatR (nv xs * nv ys) w.heap.size w' v ∧ Below w.heap.size w w' := by
  refine opq fun R hR => ?_
  have F1 := hide (rfit_any w A n c xs h h32 hc)
  have F2 := hide (rfit_any w A' n' c' ys h' h32' hc')
  clear h h' h32 h32'
  go_enter Tryd.func212, Tryd.ntmps212
  go_wp2_with fail
  refine F1.out.mono ?_
  rintro e w' ⟨A1, n1, c1, xs1, rfl, rfl, r1, p1, q1, q2⟩
  go_wp2_with fail
  refine F2.out.mono ?_
  rintro e w' ⟨A2, n2, c2, ys1, rfl, rfl, r2, p2, q3, q4⟩
  clear F1 F2
  have hmk := mk_nums (P := Tryd.prog) (t := 47) (e := 120) (k := .u32) (b := 4) (by kernel_rfl) info32 ((n1 : Int) + n2) (n1 + n2) (by omega) (by omega) (by omega)
  go_wp2
  clear hmk
  go_loopw [6] (fun iv wr => ∃ i zs, i ≤ n1 ∧ iv = .int .i64 (i : Nat) ∧ Hid (Blk wr w.heap.size T32 (cellsOf .u32 zs)) ∧ Hid (Below w.heap.size w wr) ∧ Hid (MulOut i xs1 ys1 zs)) (fun iv _ => n1 - (intOf iv).toNat)
  case atStart => exact ⟨0, _, by omega, rfl, Blk.new _ _ _, (Below.refl _ _).alloc (Nat.le_refl _) _, by rw [← r1.out.1, ← r2.out.1]; exact MulOut.start _ _⟩
  case round =>
    obtain ⟨i, zs, hi, rfl, hblk, hbel, hinv⟩ := hrel
    by_cases hlt : i < n1
    · have bx := is32_get p1.out.1 i
      obtain ⟨x, ex⟩ : ∃ x, Hid (xs1.getD i 0 = x) := ⟨_, rfl⟩
      rw [ex.out] at bx
      obtain ⟨ad, rfl, hb0, _⟩ := r1.out.2.2 (by omega)
      have hz0 := hinv.out.len
      rw [r1.out.1, r2.out.1] at hz0
      have S0 := hide (MulIn.start (i := i) (x := x) (ys := ys1) hinv.out.is32)
      have S1 := hide (fun zs' h (K : MulIn i ys1.length h (xs1.getD i 0) ys1 zs zs') => hinv.out.step (by rw [r1.out.1]; exact hlt) K)
      rw [ex.out, r2.out.1] at S1
      clear hinv
      go_wp2
      obtain ⟨wo, rfl⟩ : ∃ wo : World, wo = wr := ⟨_, rfl⟩
      go_loopw [7, 8] (fun hv kv wr => ∃ k hc zs', k ≤ n2 ∧ kv = .int .i64 (k : Nat) ∧ hv = .int .u64 (hc : Nat) ∧ hc < 4294967296 ∧ Hid (Blk wr w.heap.size T32 (cellsOf .u32 zs')) ∧ Hid (Below w.heap.size w wr) ∧ Hid (MulIn i k hc x ys1 zs zs')) (fun _ kv _ => n2 - (intOf kv).toNat)
      case atStart => exact ⟨0, 0, zs, by omega, rfl, rfl, by omega, hblk, hbel, S0⟩
      case round =>
        obtain ⟨k, hc, zs', hk, rfl, rfl, hhc, hblk', hbel', hin⟩ := hrel
        have hlen := hin.out.len
        by_cases hlt2 : k < n2
        · obtain ⟨ad1, e1, hb1, hcl1⟩ := (r1.out.below hbel'.out).2.2 (by omega)
          cases e1
          have hx := hcl1 i hlt
          rw [ex.out] at hx
          obtain ⟨ad2, rfl, hb2, hcl2⟩ := (r2.out.below hbel'.out).2.2 (by omega)
          have hy := hcl2 k hlt2
          have hcell := hblk'.out.cell (i + k)
          rw [cellsOf_get _ _ _ (by omega)] at hcell
          have hfro := hblk'.out.frozen (i + k)
          have by_ := is32_get p2.out.1 k
          have bo := is32_get hin.out.is32 (i + k)
          have T1 := hide (hin.out.step bx p2.out.1 (by omega))
          have T4 := hide T1.out.hi
          have hr := mul_room bx by_ hhc bo
          generalize ys1.getD k 0 = y at *
          generalize zs'.getD (i + k) 0 = o at *
          obtain ⟨xy, exy⟩ : ∃ xy, Hid (x * y = xy) := ⟨_, hide rfl⟩
          have wxy : (x : Int) * y = (xy : Int) := by rw [← Int.natCast_mul, exy.out]
          rw [exy.out] at T1 T4 hr
          obtain ⟨s, es⟩ : ∃ s, Hid (hc + (xy + o) = s) := ⟨_, hide rfl⟩
          have ws : (hc : Int) + xy + o = (s : Int) := by have := es.out; omega
          have hxy : xy < 18446744073709551616 := by omega
          rw [es.out] at T1 T4 hr
          clear hcl1 hcl2 hlen hz0 S1
          go_wp2
          go_quiet (fail)
          have T2 := hide ((hblk'.out.drewN nq).set_ (i + k) (.int .u32 ((s % 4294967296 : Nat) : Int)))
          rw [cellsOf_set] at T2
          have T3 := hide ((bel_drewN hbel'.out nq).setCell (p := ⟨w.heap.size, i + k, none⟩) (Nat.le_refl _) (.int .u32 ((s % 4294967296 : Nat) : Int)))
          go_wp2
          go_roundw
          case rel => exact ⟨k + 1, _, _, by omega, by go_num, rfl, T4.out, T2, T3, T1⟩
          case measure => simp [intOf]; omega
        · obtain rfl : k = n2 := by omega
          have hcell := hblk'.out.cell (i + k)
          rw [cellsOf_get _ _ _ (by omega)] at hcell
          have hfro := hblk'.out.frozen (i + k)
          have U1 := hide (S1.out zs' hc hin.out)
          have U2 := hide (hblk'.out.set_ (i + k) (.int .u32 ((hc : Nat) : Int)))
          rw [cellsOf_set] at U2
          have U3 := hide (hbel'.out.setCell (p := ⟨w.heap.size, i + k, none⟩) (Nat.le_refl _) (.int .u32 ((hc : Nat) : Int)))
          generalize zs'.getD (i + k) 0 = o at *
          clear hlen hz0
          go_wp2
          go_roundw
          case rel => exact ⟨i + 1, _, by omega, by go_num, U2, U3, U1⟩
          case measure => simp [intOf]; omega
    · obtain rfl : i = n1 := by omega
      have hz := hinv.out.len
      rw [r1.out.1, r2.out.1] at hz
      have hv := hinv.out
      rw [← r1.out.1] at hv
      have ev := hv.fin
      have C := hide (rtrim_ok wr (some ⟨w.heap.size, 0, none⟩) (i + n2) (i + n2) zs (by have := hblk.out.rd (i + n2) (by omega) (by omega); rw [List.take_of_length_le (by omega)] at this; exact this) (Nat.le_refl _))
      have N := hide (natR_trim hblk.out hinv.out.is32 (Nat.le_refl _) hz (by omega))
      rw [ev, p1.out.2.2, p2.out.2.2] at N
      clear hz ev hv
      go_wp2_with fail
      refine C.out.mono ?_
      rintro e w' ⟨rfl, rfl⟩
      go_wp2
      exact opq_end hR ⟨_, rfl, N.out, hbel.out⟩
end Go.Proofs.YtkefmeddnncacaaDoor

/- the document's answer for nats: Twin, less, Sub. -/
set_option linter.unusedVariables false
set_option linter.unusedSimpArgs false
set_option maxRecDepth 100000
namespace Go.Proofs.YtkefmeddnncacaaDoor
open Go.RowKit

theorem rTwin_ok (w : World) (A : Option Addr) (n c : Nat) (xs : List Nat) (h : Rd w A n xs) (hn : n ≤ 17592186044416) :
    Calls Tryd.prog 220 #[.slice A n c] w fun e w' => ∃ A' c', e = .returned (.slice A' n c') ∧ n ≤ c' ∧ Hid (Rd w' A' n xs) ∧ Hid (Fr T32 w.heap.size w' A' c') ∧ Hid (w'.ownsRow w.heap.size T32 1 (.slice A' n c') n (xs.map fun x => Value.int .u32 (x : Nat))) ∧ Hid (Below w.heap.size w w') := by
  refine opq fun R hR => ?_
  have HR := hide h
  have own := hide (World.ownsRow_nil w w.heap.size T32 1)
  clear h
  go_enter Tryd.func220, Tryd.ntmps220
  go_wp2_with (at_builtin; refine wpList_app (k := .u32) (b := 4) (t := 47) (e := 120) (by kernel_rfl) info32 _ rfl _ _ rfl w.heap.size 0 _ [] rfl own.out A n c xs rfl HR.out (by omega) (by omega) (by simp) ?_; intro A' c' w' q1 q2 q3 q4 q5)
  rw [List.nil_append, Nat.zero_add] at *
  exact opq_end hR ⟨A', c', rfl, q1, q2, q3, q4, (Below.refl _ _).grown q5.out (by simp) (fun k e => by cases e)⟩

theorem rsub_digit {x y o : Nat} (hx : x < 4294967296) (hy : y < 4294967296) (ho : o < 2) {m1 m2 : Nat} (h1 : (x + 18446744073709551616 - o) % 18446744073709551616 = m1) (h2 : (m1 + 18446744073709551616 - y) % 18446744073709551616 = m2) :
    m2 % 4294967296 < 4294967296 ∧ m2 / 9223372036854775808 < 2 ∧ m2 % 4294967296 + y + o = x + 4294967296 * (m2 / 9223372036854775808) := by omega
set_option maxHeartbeats 2000000 in
theorem rless_ok (w : World) (A A' : Option Addr) (n n' c c' : Nat) (xs ys : List Nat) (h : Rd w A n xs) (h' : Rd w A' n' ys) (h32 : Is32 xs) (h32' : Is32 ys) (hn : n ≤ 17592186044416) (hl : n' ≤ n) (hv : val ys ≤ val xs) :
    Calls Tryd.prog 237 #[.slice A n c, .slice A' n' c'] w fun e w' => ∃ v, e = .returned v ∧ NatR (val xs - val ys) w.heap.size w' v ∧ Below w.heap.size w w' := by
  refine opq fun R hR => ?_
  have TW := hide (rTwin_ok w A n c xs h hn)
  have r2 := hide h'
  have p1 := hide h32
  have p2 := hide h32'
  have lx := hide h.1
  have hv := hide hv
  clear h h' h32 h32'
  go_enter Tryd.func237, Tryd.ntmps237
  go_wp2_with fail
  refine TW.out.mono ?_
  rintro e w1 ⟨A1, c1, rfl, q1, q2, q3, q4, B1⟩
  clear TW
  have hz := B1.out.size
  rcases Nat.eq_zero_or_pos n with h0 | h0
  · subst h0
    have ex : xs = [] := List.eq_nil_of_length_eq_zero lx.out
    subst ex
    have C := hide (rtrim_ok w1 A1 0 c1 [] q2.out (by omega))
    have N : Hid (NatR (val [] - val ys) w.heap.size w1 (.slice A1 (strip []).length c1)) := by
      have := natR_of_own (zs := []) q4.out is32_nil
      rw [show val [] - val ys = val [] from by simp [val]]
      exact this
    go_wp2
    go_loop [7] (fun iv => iv = .int .i64 0) (fun _ => 0)
    case atStart => rfl
    case round =>
      obtain rfl := hrel
      go_wp2_with fail
      refine C.out.mono ?_
      rintro e w' ⟨rfl, rfl⟩
      go_wp2
      exact opq_end hR ⟨_, rfl, N.out, B1.out⟩
  obtain ⟨g, c2, e2, l2, m2, hB, hpb⟩ := own_pb q4.out h0
  cases e2
  have O0 := hide q4.out
  have S0 := hide (RSub.start (ys := ys) p1.out)
  clear q2 q3 q4 hpb
  go_wp2
  go_loopw [6, 7] (fun ov iv wr => ∃ k o zs, k ≤ n ∧ iv = .int .i64 (k : Nat) ∧ ov = .int .u64 (o : Nat) ∧ o < 2 ∧ Hid (wr.ownsRow w.heap.size T32 1 (.slice (some ⟨g, 0, none⟩) n c1) n (zs.map fun x => Value.int .u32 (x : Nat))) ∧ Hid (Below w.heap.size w wr) ∧ Hid (RSub k o xs ys zs)) (fun _ iv _ => n - (intOf iv).toNat)
  case atStart => exact ⟨0, 0, xs, by omega, rfl, rfl, by omega, O0, B1, S0⟩
  case round =>
    obtain ⟨k, o, zs, hk, rfl, rfl, ho, own, hbel, hinv⟩ := hrel
    clear O0 S0
    have hpb : Hid (PB .u32 wr g T32 zs) := by
      obtain ⟨g', c', e, _, _, _, h⟩ := own_pb own.out h0
      cases e
      exact h
    have hlen := hinv.out.len
    rw [lx.out] at hlen
    by_cases hlt : k < n
    · have hx := hpb.out.cell k (by omega)
      have hfro := hpb.out.frozen k
      rw [hinv.out.far k (Nat.le_refl _)] at hx
      have b1 := is32_get p1.out k
      have b2 := is32_get p2.out k
      have E2 : n' ≤ k → ys.getD k 0 = 0 := fun q => getD_ge (by rw [r2.out.1]; exact q)
      have C2 : Hid (k < n' → ∃ ad, A' = some ad ∧ wr.cell? (ad.add k) = some (.int .u32 (ys.getD k 0 : Nat))) := fun q => by
        obtain ⟨ad, e, _, hc⟩ := (r2.out.below hbel.out).2.2 (by omega)
        exact ⟨ad, e, hc k q⟩
      have ST := hide (fun d o' h1 h2 h3 => hinv.out.step (d := d) (o' := o') (by rw [lx.out]; exact hlt) h1 h2 h3)
      generalize xs.getD k 0 = x at *
      generalize ys.getD k 0 = y at *
      obtain ⟨m1, e1⟩ : ∃ m, Hid ((x + 18446744073709551616 - o) % 18446744073709551616 = m) := ⟨_, hide rfl⟩
      obtain ⟨m2, e2⟩ : ∃ m, Hid ((m1 + 18446744073709551616 - y) % 18446744073709551616 = m) := ⟨_, hide rfl⟩
      have w1 : IntKind.u64.wrap ((x : Int) - o) = (m1 : Int) := by rw [IntKind.wrap_u64]; have := e1.out; omega
      have w2 : IntKind.u64.wrap ((m1 : Int) - y) = (m2 : Int) := by rw [IntKind.wrap_u64]; have := e1.out; have := e2.out; omega
      have l1 : m1 < 18446744073709551616 := by have := e1.out; omega
      have l2 : m2 < 18446744073709551616 := by have := e2.out; omega
      obtain ⟨s1, s2, s3⟩ := rsub_digit b1 b2 ho e1.out e2.out
      have S1 := hide (ST.out _ _ s1 s2 s3)
      have T2 := hide (own.out.stored k (.int .u32 ((m2 % 4294967296 : Nat) : Int))).1
      rw [← List.map_set (f := fun x => Value.int .u32 ((x : Nat) : Int))] at T2
      have T3 := hide (hbel.out.setCell (p := ⟨g, k, none⟩) hB (.int .u32 ((m2 % 4294967296 : Nat) : Int)))
      clear ST hlen s1 s3
      by_cases g2 : k < n'
      · obtain ⟨ad2, rfl, hy⟩ := C2.out g2
        clear C2 E2
        go_wp2
        go_roundw
        case rel => exact ⟨k + 1, m2 / 9223372036854775808, _, by omega, by go_num, rfl, s2, T2, T3, S1⟩
        case measure => simp [intOf]; omega
      · have y0 := E2 (by omega)
        subst y0
        have e3 : m2 = m1 := by have := e2.out; omega
        subst e3
        clear C2 E2 w2
        go_wp2
        go_roundw
        case rel => exact ⟨k + 1, m2 / 9223372036854775808, _, by omega, by go_num, rfl, s2, T2, T3, S1⟩
        case measure => simp [intOf]; omega
    · obtain rfl : k = n := by omega
      have hi := hinv.out
      rw [← lx.out] at hi
      have ev := hi.fin (by rw [r2.out.1, lx.out]; exact hl) hv.out
      have C := hide (rtrim_ok wr (some ⟨g, 0, none⟩) k c1 zs (by have := hpb.out.rd k (by omega) (by omega); rw [List.take_of_length_le (by omega)] at this; exact this) q1)
      have N : Hid (NatR (val zs) w.heap.size wr (.slice (some ⟨g, 0, none⟩) (strip zs).length c1)) := natR_of_own own.out hinv.out.is32
      rw [ev] at N
      clear ev hi
      go_wp2_with fail
      refine C.out.mono ?_
      rintro e w' ⟨rfl, rfl⟩
      go_wp2
      exact opq_end hR ⟨_, rfl, N.out, hbel.out⟩
end Go.Proofs.YtkefmeddnncacaaDoor

/- the document's answer for nats: Sub. -/
set_option linter.unusedVariables false
set_option linter.unusedSimpArgs false
set_option maxRecDepth 100000
namespace Go.Proofs.YtkefmeddnncacaaDoor
open Go.RowKit

set_option maxHeartbeats 1000000 in
theorem rSub_ok (w : World) (A A' : Option Addr) (n n' c c' : Nat) (xs ys : List Nat) (h : Rd w A n xs) (h' : Rd w A' n' ys) (h32 : Is32 xs) (h32' : Is32 ys) (hn : n ≤ 17592186044416) (hn' : n' ≤ 17592186044416) (hc : n ≤ c) (hc' : n' ≤ c') :
    Calls Tryd.prog 225 #[.slice A n c, .slice A' n' c'] w fun e w' =>
      (if chk xs = true ∧ chk ys = true ∧ val ys ≤ val xs then ∃ v, e = .returned (.tuple #[v, .int .i64 0]) ∧ NatR (val xs - val ys) w.heap.size w' v
        else e = .returned (.tuple #[.slice none 0 0, .int .i64 1])) ∧ Below w.heap.size w w' := by
  refine opq fun R hR => ?_
  have C1 := hide (rCheck_ok w A n c xs h)
  have C2 := hide (rCheck_ok w A' n' c' ys h')
  have C3 := hide (rCmp_ok w A A' n n' c c' xs ys h h' h32 h32' hc hc')
  cases hx : chk xs
  · rw [hx] at C1
    go_enter Tryd.func225, Tryd.ntmps225
    go_wp2_with fail
    refine C1.out.mono ?_
    rintro e w' ⟨rfl, rfl⟩
    go_wp2
    exact opq_end hR ⟨by rw [if_neg (by rw [hx]; simp)]; rfl, Below.refl _ _⟩
  · cases hy : chk ys
    · rw [hx] at C1
      rw [hy] at C2
      go_enter Tryd.func225, Tryd.ntmps225
      go_wp2_with fail
      refine C1.out.mono ?_
      rintro e w' ⟨rfl, rfl⟩
      go_wp2_with fail
      refine C2.out.mono ?_
      rintro e w' ⟨rfl, rfl⟩
      go_wp2
      exact opq_end hR ⟨by rw [if_neg (by rw [hy]; simp)]; rfl, Below.refl _ _⟩
    · rw [hx] at C1
      rw [hy] at C2
      by_cases hv : val ys ≤ val xs
      · have e1 : Hid (decide (cmpN (nv xs) (nv ys) < 0) = false) := by
          show _ = _
          simp only [cmpN, nv, hx, hy, if_true, decide_eq_false_iff_not]
          rw [if_neg (by omega)]
          split <;> omega
        have hl : n' ≤ n := by rw [← h.1, ← h'.1]; exact len_le_of_val h32 h32' hy hv
        have H1 := hide h
        have H2 := hide h'
        have H3 := hide h32
        have H4 := hide h32'
        have H5 := hide hv
        clear h h' h32 h32' hv
        generalize cmpN (nv xs) (nv ys) = r at *
        have e2 := e1.out
        go_enter Tryd.func225, Tryd.ntmps225
        go_wp2_with fail
        refine C1.out.mono ?_
        rintro e w' ⟨rfl, rfl⟩
        go_wp2_with fail
        refine C2.out.mono ?_
        rintro e w' ⟨rfl, rfl⟩
        go_wp2_with fail
        refine C3.out.mono ?_
        rintro e w' ⟨rfl, hb⟩
        have HB := hide hb
        clear hb
        go_wp2_with fail
        refine (rless_ok _ A A' n n' c c' xs ys (H1.out.below HB.out) (H2.out.below HB.out) H3.out H4.out hn hl H5.out).mono ?_
        rintro e w2 ⟨v, rfl, hN, hb2⟩
        have HN := hide hN
        have HB2 := hide hb2
        clear hN hb2
        go_wp2
        exact opq_end hR ⟨by rw [if_pos ⟨hx, hy, H5.out⟩]; exact ⟨v, rfl, HN.out.mono HB.out.size⟩, below_tr HB.out HB2.out⟩
      · have e1 : Hid (decide (cmpN (nv xs) (nv ys) < 0) = true) := by
          show _ = _
          simp only [cmpN, nv, hx, hy, if_true, decide_eq_true_eq]
          rw [if_pos (by omega)]
          omega
        have H5 := hide hv
        clear h h' h32 h32' hv
        generalize cmpN (nv xs) (nv ys) = r at *
        have e2 := e1.out
        go_enter Tryd.func225, Tryd.ntmps225
        go_wp2_with fail
        refine C1.out.mono ?_
        rintro e w' ⟨rfl, rfl⟩
        go_wp2_with fail
        refine C2.out.mono ?_
        rintro e w' ⟨rfl, rfl⟩
        go_wp2_with fail
        refine C3.out.mono ?_
        rintro e w' ⟨rfl, hb⟩
        have HB := hide hb
        clear hb
        go_wp2
        exact opq_end hR ⟨by rw [if_neg (fun q => H5.out q.2.2)]; rfl, HB.out⟩
end Go.Proofs.YtkefmeddnncacaaDoor
