/- the laws of nats: NatsShift. -/
import Derived.Test.YtnpfochbpdfcmaaDoorNE
set_option linter.unusedVariables false
set_option linter.unusedSimpArgs false
set_option maxRecDepth 100000
namespace Go.Proofs.YtnpfochbpdfcmaaDoor
open Go.RowKit

/-! ### numbers by parts, so many noughts ahead -/
theorem is32_zeros (k : Nat) : Is32 (List.replicate k 0) := by
  intro z hz
  have := List.eq_of_mem_replicate hz
  omega
theorem is32_app {xs ys : List Nat} (h : Is32 xs) (h' : Is32 ys) : Is32 (xs ++ ys) := by
  intro z hz
  rcases List.mem_append.1 hz with hz | hz
  · exact h z hz
  · exact h' z hz
theorem chk_app {xs ys : List Nat} (h : chk ys = true) (hn : ys ≠ []) : chk (xs ++ ys) = true := by
  obtain ⟨zs, x, rfl⟩ : ∃ zs x, ys = zs ++ [x] := ⟨ys.dropLast, ys.getLast hn, (List.dropLast_concat_getLast hn).symm⟩
  rw [chk_snoc] at h
  rw [← List.append_assoc, chk_snoc]
  exact h
theorem chk_drop {xs : List Nat} (h : chk xs = true) (k : Nat) : chk (xs.drop k) = true := by
  by_cases hk : xs.length ≤ k
  · rw [List.drop_eq_nil_of_le hk]; exact chk_nil
  · obtain ⟨zs, x, rfl⟩ : ∃ zs x, xs = zs ++ [x] := ⟨xs.dropLast, xs.getLast (by intro e; simp [e] at hk), (List.dropLast_concat_getLast _).symm⟩
    rw [List.drop_append_of_le_length (by simp at hk; omega), chk_snoc]
    rw [chk_snoc] at h
    exact h
theorem by_val (k : Nat) : val (List.replicate k 0 ++ [1]) = 4294967296 ^ k := by
  rw [val_append, val_replicate, List.length_replicate, show val [1] = 1 from rfl, Nat.zero_add, Nat.mul_one]
theorem shift_up {xs : List Nat} (i : Is32 xs) (h : chk xs = true) (hn : xs ≠ []) (k : Nat) : limbs (val xs * 4294967296 ^ k) = List.replicate k 0 ++ xs := by
  have e : val xs * 4294967296 ^ k = val (List.replicate k 0 ++ xs) := by
    rw [val_append, val_replicate, List.length_replicate, Nat.zero_add, Nat.mul_comm]
  rw [e]
  exact limbs_val_chk (is32_app (is32_zeros k) i) (chk_app h hn)
theorem zeros_get (k : Nat) (xs : List Nat) (i : Nat) (h : i < k) : (List.replicate k 0 ++ xs).getD i 0 = 0 := by
  simp [List.getD_eq_getElem?_getD, List.getElem?_append, h, List.getElem?_replicate]
theorem val_small {xs : List Nat} (i : Is32 xs) {k : Nat} (h : xs.length ≤ k) : val xs < 4294967296 ^ k := Nat.lt_of_lt_of_le (val_lt i) (Nat.pow_le_pow_right (by decide) h)
theorem shift_div {xs : List Nat} (i : Is32 xs) (h : chk xs = true) (k : Nat) : limbs (val xs / 4294967296 ^ k) = xs.drop k := by
  by_cases hk : k ≤ xs.length
  · rw [val_take_drop xs k hk, Nat.add_mul_div_left _ _ (Nat.pow_pos (by decide)), Nat.div_eq_of_lt (val_small (is32_take i k) (by rw [List.length_take]; omega)), Nat.zero_add]
    exact limbs_val_chk (is32_drop i k) (chk_drop h k)
  · rw [Nat.div_eq_of_lt (val_small i (by omega)), limbs_zero, List.drop_eq_nil_of_le (by omega)]
theorem shift_mod {xs : List Nat} (i : Is32 xs) (k : Nat) : limbs (val xs % 4294967296 ^ k) = strip (xs.take k) := by
  by_cases hk : k ≤ xs.length
  · rw [val_take_drop xs k hk, Nat.add_mul_mod_self_left, Nat.mod_eq_of_lt (val_small (is32_take i k) (by rw [List.length_take]; omega))]
    exact limbs_val (is32_take i k)
  · rw [Nat.mod_eq_of_lt (val_small i (by omega)), List.take_of_length_le (by omega)]
    exact limbs_val i

/-! ### the contracts -/
theorem halive_f {w : World} (h : Tab w) : Calls Tryd.prog 11 #[] w fun e w' => ∃ u, e = .returned u ∧ Below w.heap.size w w' ∧ u = .bool true :=
  (alive_ok w h).mono fun e w' ⟨h1, h2⟩ => ⟨_, h1, h2.out, rfl⟩
theorem hcheck_f {w : World} {A : Option Addr} {n c : Nat} {xs : List Nat} (h : Rd w A n xs) (r : Bool) (hr : chk xs = r) :
    Calls Tryd.prog 16 #[.slice A n c] w fun e w' => ∃ u, e = .returned u ∧ Below w.heap.size w w' ∧ u = .bool r :=
  (Check_ok w A n c xs h).mono fun e w' ⟨h1, h2⟩ => ⟨_, h1, h2 ▸ Below.refl _ _, by rw [hr]⟩
theorem hmul_f {w : World} {v v' : Value} {M N : Nat} (h : Arg w v M) (h' : Arg w v' N) (zs : List Nat) (hz : limbs (M * N) = zs) (l : Nat) (hl : zs.length = l) :
    Calls Tryd.prog 10 #[v, v'] w fun e w' => ∃ A c, e = .returned (.slice A l c) ∧ Below w.heap.size w w' ∧ l ≤ c ∧ Rd w' A l zs :=
  (Mul_arg h h').mono fun e w' ⟨u, h1, h2, h3⟩ => by
    obtain ⟨A, c, rfl, h4, h5⟩ := h2.out.can
    rw [hz, hl] at h1 h4 h5
    exact ⟨_, _, h1, h3.out, h4, h5⟩
theorem hdiv_f {w : World} {v v' : Value} {M N : Nat} (h : Can w v M) (h' : Can w v' N) (s : L M ≤ 4398046511104) (s' : L N ≤ 4398046511104) (h0 : N ≠ 0) (qs rs : List Nat) (hq : limbs (M / N) = qs) (hr : limbs (M % N) = rs) (l l' : Nat) (hl : qs.length = l) (hl' : rs.length = l') :
    Calls Tryd.prog 13 #[v, v'] w fun e w' => ∃ A c A' c', e = .returned (.tuple #[.slice A l c, .slice A' l' c', .int .i64 0]) ∧ Below w.heap.size w w' ∧ Rd w' A l qs ∧ Rd w' A' l' rs :=
  (Div_pos h h' s s' h0).mono fun e w' ⟨u, t, h1, h2, h3, _, h6⟩ => by
    obtain ⟨A, c, rfl, h4, h5⟩ := h2.out.can
    obtain ⟨A', c', rfl, h4', h5'⟩ := h3.out.can
    rw [hq, hr, hl, hl'] at h1
    rw [hq, hl] at h5
    rw [hr, hl'] at h5'
    exact ⟨_, _, _, _, h1, h6.out, h5, h5'⟩
theorem hsame_f {w : World} {A A' : Option Addr} {n n' c c' : Nat} {xs ys : List Nat} (h : Rd w A n xs) (h' : Rd w A' n' ys) (e : xs = ys) :
    Calls Tryd.prog 18 #[.slice A n c, .slice A' n' c'] w fun e w' => ∃ u, e = .returned u ∧ Below w.heap.size w w' ∧ u = .bool true :=
  (SameNat_ok w A A' n n' c c' xs ys h h').mono fun e' w' ⟨e1, e2⟩ => ⟨_, e1, e2, by simp [e]⟩
theorem Rdk.drop {k : IntKind} {w : World} {ad : Addr} {n : Nat} {xs : List Nat} (h : Rdk k w (some ad) n xs) (m : Nat) (hm : m ≤ n) : Rdk k w (some (ad.add m)) (n - m) (xs.drop m) := by
  refine ⟨by rw [List.length_drop, h.1], by have := h.2.1; omega, fun hn => ?_⟩
  obtain ⟨ad', e, hl, hc⟩ := h.2.2 (by omega)
  cases e
  refine ⟨_, rfl, by unfold Addr.add; split <;> exact hl, fun j hj => ?_⟩
  have := hc (m + j) (by omega)
  rw [show (ad.add m).add j = ad.add (m + j) by unfold Addr.add; by_cases h0 : m = 0 <;> by_cases h1 : j = 0 <;> simp_all [Nat.add_assoc]]
  rw [this]
  simp [List.getD_eq_getElem?_getD, List.getElem?_drop]

set_option maxHeartbeats 4000000 in
theorem NatsShift_ok (w : World) (A1 : Option Addr) (n1 c1 : Nat) (xs : List Nat) (m : Nat) (h1 : Rd w A1 n1 xs) (i1 : Is32 xs) (l1 : n1 ≤ c1) (hm : m < 256) (hT : Tab w) :
    Calls Tryd.prog 5 #[.slice A1 n1 c1, .int .u8 (m : Nat)] w fun e w' => e = .returned (.bool true) ∧ Hid (Below w.heap.size w w') := by
  refine opq fun R hR => ?_
  have T := hide hT
  have m1 := h1.2.1
  have r := hide h1
  have k1 := hide i1
  have xl := hide h1.1
  clear hT h1 i1
  have b0 := hide (Below.refl w.heap.size w)
  go_enter Tryd.func5, Tryd.ntmps5
  go_wp2_with fail
  refine (halive_f T.out).mono ?_
  rintro e w1 ⟨_, rfl, d0, rfl⟩
  replace r := hide (r.out.below d0)
  replace b0 := hide (below_tr b0.out d0)
  clear d0
  by_cases g1 : n1 ≤ 60
  case neg =>
    go_wp2_with fail
    refine (halive_f (T.out.below b0.out)).mono ?_
    rintro e w2 ⟨_, rfl, d0, rfl⟩
    replace b0 := hide (below_tr b0.out d0)
    clear d0
    go_wp2
    exact opq_end hR ⟨rfl, b0⟩
  rcases hcx : chk xs with _ | _
  case false =>
    go_wp2_with fail
    refine (hcheck_f r.out false hcx).mono ?_
    rintro e w2 ⟨_, rfl, d0, rfl⟩
    replace b0 := hide (below_tr b0.out d0)
    clear d0
    go_wp2_with fail
    refine (halive_f (T.out.below b0.out)).mono ?_
    rintro e w3 ⟨_, rfl, d0, rfl⟩
    replace b0 := hide (below_tr b0.out d0)
    clear d0
    go_wp2
    exact opq_end hR ⟨rfl, b0⟩
  go_wp2_with fail
  refine (hcheck_f r.out true hcx).mono ?_
  rintro e w2 ⟨_, rfl, d0, rfl⟩
  replace r := hide (r.out.below d0)
  replace b0 := hide (below_tr b0.out d0)
  clear d0
  replace hcx := hide hcx
  obtain ⟨k, hk, hk2⟩ : ∃ k : Nat, (m : Int) % 40 = (k : Nat) ∧ k < 40 := ⟨m % 40, by omega, by omega⟩
  have hmk := mk_nums (P := Tryd.prog) (t := 24) (e := 37) (k := .u32) (b := 4) (by kernel_rfl) info32 ((k : Int) + 1) (k + 1) (by omega) (by omega) (by omega)
  have B := Blk.new w2 T32 (cellsOf .u32 (List.replicate (k + 1) 0))
  have cl := (B.cell k).trans (cellsOf_get .u32 (List.replicate (k + 1) 0) k (by simp))
  rw [show (List.replicate (k + 1) 0).getD k 0 = 0 by simp [List.getD_eq_getElem?_getD, List.getElem?_replicate]] at cl
  have fz := B.frozen k
  have hE : (cellsOf .u32 (List.replicate (k + 1) 0)).setIfInBounds k (Value.int .u32 1) = cellsOf .u32 (List.replicate k 0 ++ [1]) := by
    have := cellsOf_set .u32 (List.replicate (k + 1) 0) k 1
    rw [show (List.replicate (k + 1) 0).set k 1 = List.replicate k 0 ++ [1] by rw [List.replicate_succ', List.set_append_right _ _ (by simp)]; simp] at this
    exact this
  replace hE := hide hE
  clear B
  go_wp2_with fail
  rw [hE.out]
  have hW := Blk.new w2 T32 (cellsOf .u32 (List.replicate k 0 ++ [1]))
  have d0 : Below w2.heap.size w2 (w2.alloc (.cells (cellsOf .u32 (List.replicate k 0 ++ [1])) T32)) := (Below.refl _ _).alloc (Nat.le_refl _) _
  obtain ⟨V, hV⟩ : ∃ V, w2.alloc (.cells (cellsOf .u32 (List.replicate k 0 ++ [1])) T32) = V := ⟨_, rfl⟩
  rw [hV] at hW d0
  rw [hV]
  have rp := hW.rd (k + 1) (by simp) (by omega)
  rw [List.take_of_length_le (by simp)] at rp
  have p := can_of (c := k + 1) rp (is32_app (is32_zeros k) (is32_cons.2 ⟨by omega, is32_nil⟩)) (by rw [chk_snoc]; rfl) (Nat.le_refl _)
  rw [by_val] at p
  replace p := hide p
  replace r := hide (r.out.below d0)
  replace b0 := hide (below_tr b0.out d0)
  have a := hide (can_of r.out k1.out hcx.out l1)
  have sa : Hid (L (val xs) ≤ 4398046511104) := L_up (show L (val xs) ≤ 60 by unfold L; rw [limbs_val_chk k1.out hcx.out, xl.out]; exact g1) (by decide)
  have sp : Hid (L (4294967296 ^ k) ≤ 4398046511104) := L_up (L_le.2 (Nat.pow_lt_pow_right (by decide) (Nat.lt_succ_self k))) (by omega)
  have hp0 : Hid (4294967296 ^ k ≠ 0) := Nat.ne_of_gt (Nat.pow_pos (by decide))
  clear hmk cl fz hE hW d0 hV rp
  obtain ⟨lq, hlq⟩ : ∃ l, (xs.drop k).length = l := ⟨_, rfl⟩
  obtain ⟨lr, hlr⟩ : ∃ l, (strip (xs.take k)).length = l := ⟨_, rfl⟩
  have hlq2 : lq = n1 - k := by rw [← hlq, List.length_drop, xl.out]
  replace hlq := hide hlq
  replace hlq2 := hide hlq2
  replace hlr := hide hlr
  by_cases g2 : n1 = 0
  case pos =>
    subst g2
    obtain rfl : xs = [] := List.eq_nil_of_length_eq_zero xl.out
    obtain rfl : lr = 0 := by rw [← hlr.out]; simp [strip_nil]
    obtain rfl : lq = 0 := by have := hlq2.out; omega
    clear hk hk2
    refine (hmul_f (a.out.arg sa.out) (p.out.arg sp.out) [] (by rw [val_nil, Nat.zero_mul, limbs_zero]) 0 rfl).mono ?_
    rintro e w3 ⟨A3, c3, rfl, d0, _, _⟩
    replace a := hide (a.out.below d0)
    replace p := hide (p.out.below d0)
    replace b0 := hide (below_tr b0.out d0)
    clear d0
    go_wp2_with fail
    refine (hdiv_f a.out p.out sa.out sp.out hp0.out _ _ (shift_div k1.out hcx.out k) (shift_mod k1.out k) 0 0 hlq.out hlr.out).mono ?_
    rintro e w4 ⟨A4, c4, A5, c5, rfl, d0, _, _⟩
    replace b0 := hide (below_tr b0.out d0)
    clear d0
    go_wp2
    exact opq_end hR ⟨rfl, b0⟩
  have hnn : Hid (xs ≠ []) := fun e => g2 (by have := xl.out; rw [e] at this; exact this.symm)
  refine (hmul_f (a.out.arg sa.out) (p.out.arg sp.out) _ (shift_up k1.out hcx.out hnn.out k) (n1 + k) (by rw [List.length_append, List.length_replicate, xl.out, Nat.add_comm])).mono ?_
  rintro e w3 ⟨A3, c3, rfl, d0, hc3, s0⟩
  replace a := hide (a.out.below d0)
  replace p := hide (p.out.below d0)
  replace r := hide (r.out.below d0)
  replace b0 := hide (below_tr b0.out d0)
  have s := hide s0
  clear d0 s0
  go_wp2_with fail
  refine (hdiv_f a.out p.out sa.out sp.out hp0.out _ _ (shift_div k1.out hcx.out k) (shift_mod k1.out k) lq lr hlq.out hlr.out).mono ?_
  rintro e w4 ⟨A4, c4, A5, c5, rfl, d0, q0, t0⟩
  replace r := hide (r.out.below d0)
  replace s := hide (s.out.below d0)
  replace b0 := hide (below_tr b0.out d0)
  have q := hide q0
  have t := hide t0
  clear d0 q0 t0 a p sa sp hp0
  have g3 : ((n1 : Int) == 0) = false := by simp; omega
  obtain ⟨ad3, rfl, hb3, hcl3⟩ := s.out.2.2 (by omega)
  replace hcl3 := hide hcl3
  clear hb3
  go_wp2_with fail
  have s2 := s.out.drop k (by omega)
  rw [Nat.add_sub_cancel, List.drop_left' (by simp)] at s2
  refine (hsame_f s2 r.out rfl).mono ?_
  clear s2
  rintro e w5 ⟨_, rfl, d0, rfl⟩
  replace q := hide (q.out.below d0)
  replace t := hide (t.out.below d0)
  replace r := hide (r.out.below d0)
  replace s := hide (s.out.below d0)
  replace b0 := hide (below_tr b0.out d0)
  clear d0 hcl3
  go_wp2
  go_loopw [11] (fun iv wr => ∃ i : Nat, i ≤ k ∧ iv = .int .i64 (i : Nat) ∧ Hid (Below w5.heap.size w5 wr)) (fun iv _ => k - (intOf iv).toNat)
  case atStart => exact ⟨0, by omega, rfl, Below.refl _ _⟩
  case round =>
    obtain ⟨i, hi, rfl, hbel⟩ := hrel
    by_cases hlt : i < k
    · obtain ⟨ad', e', hb', hc'⟩ := (s.out.below hbel.out).2.2 (by omega)
      cases e'
      have hy := hc' i (by omega)
      rw [zeros_get k xs i hlt] at hy
      clear hc' hb'
      go_wp2
      go_roundw
      case rel => exact ⟨i + 1, by omega, by go_num, hbel⟩
      case measure => simp [intOf]; omega
    · obtain rfl : i = k := by omega
      replace q := hide (q.out.below hbel.out)
      replace t := hide (t.out.below hbel.out)
      replace r := hide (r.out.below hbel.out)
      replace b0 := hide (below_tr b0.out hbel.out)
      clear hbel s hc3
      by_cases g4 : i < n1
      case neg =>
        obtain rfl : lq = 0 := by have := hlq2.out; omega
        go_wp2_with fail
        refine (hsame_f t.out r.out (by rw [List.take_of_length_le (by rw [xl.out]; omega), strip_of_chk hcx.out])).mono ?_
        rintro e w7 ⟨_, rfl, d0, rfl⟩
        replace b0 := hide (below_tr b0.out d0)
        clear d0
        go_wp2
        exact opq_end hR ⟨rfl, b0⟩
      obtain ⟨ad1, rfl, hb1, hcl1⟩ := r.out.2.2 (by omega)
      replace hcl1 := hide hcl1
      clear hb1
      obtain ⟨wv, rfl⟩ : ∃ wv : World, wv = wr := ⟨_, rfl⟩
      go_wp2
      go_loopw [12] (fun iv wq => ∃ low : Nat, low ≤ i ∧ iv = .int .i64 (low : Nat) ∧ Hid (strip (xs.take i) = strip (xs.take low)) ∧ Hid (Below wv.heap.size wv wq)) (fun iv _ => (intOf iv).toNat)
      case atStart => exact ⟨i, Nat.le_refl _, rfl, rfl, Below.refl _ _⟩
      case round =>
        obtain ⟨low, hlo, rfl, hst, hb2⟩ := hrel
        by_cases hl0 : low = 0
        · subst hl0
          go_wp2_with fail
          have q9 := r.out.drop i (by omega)
          refine (hsame_f (q.out.below hb2.out) (q9.below hb2.out) rfl).mono ?_
          clear q9
          rintro e w7 ⟨_, rfl, d0, rfl⟩
          replace hb2 := hide (below_tr hb2.out d0)
          clear d0
          go_wp2_with fail
          refine (hsame_f (t.out.below hb2.out) ((r.out.take (0) (by omega)).below hb2.out) (by rw [hst.out, List.take_zero]; rfl)).mono ?_
          rintro e w8 ⟨_, rfl, d0, rfl⟩
          replace b0 := hide (below_tr b0.out (below_tr hb2.out d0))
          clear d0
          go_wp2
          exact opq_end hR ⟨rfl, b0⟩
        · obtain ⟨j, rfl⟩ : ∃ j, low = j + 1 := ⟨low - 1, by omega⟩
          have hx := cell_below hb2.out (hcl1.out j (by omega))
          have ht : Hid (xs.take (j + 1) = xs.take j ++ [xs.getD j 0]) := by
            show _ = _
            rw [getD_lt (by rw [xl.out]; omega), List.take_succ_eq_append_getElem (by rw [xl.out]; omega)]
          generalize xs.getD j 0 = x at *
          by_cases hx0 : x = 0
          · subst hx0
            have ht2 : Hid (strip (xs.take i) = strip (xs.take j)) := by
              show _ = _
              rw [hst.out, ht.out, strip_zero]
            go_wp2
            go_roundw
            case rel => exact ⟨j, by omega, by go_num, ht2, hb2⟩
            case measure => simp [intOf]
          · have ht2 : Hid (strip (xs.take i) = xs.take (j + 1)) := by
              show _ = _
              rw [hst.out, ht.out, strip_nz _ hx0]
            go_wp2_with fail
            have q9 := r.out.drop i (by omega)
            refine (hsame_f (q.out.below hb2.out) (q9.below hb2.out) rfl).mono ?_
            clear q9
            rintro e w7 ⟨_, rfl, d0, rfl⟩
            replace hb2 := hide (below_tr hb2.out d0)
            clear d0
            go_wp2_with fail
            refine (hsame_f (t.out.below hb2.out) ((r.out.take (j + 1) (by omega)).below hb2.out) ht2.out).mono ?_
            rintro e w8 ⟨_, rfl, d0, rfl⟩
            replace b0 := hide (below_tr b0.out (below_tr hb2.out d0))
            clear d0
            go_wp2
            exact opq_end hR ⟨rfl, b0⟩
end Go.Proofs.YtnpfochbpdfcmaaDoor
