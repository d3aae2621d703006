/- the document's answer for nats: Div. -/
import Derived.Test.YtkefmeddnncacaaDoorRk
import Derived.Test.YtkefmeddnncacaaDoorNC
set_option linter.unusedVariables false
set_option linter.unusedSimpArgs false
set_option maxRecDepth 100000
namespace Go.Proofs.YtkefmeddnncacaaDoor
open Go.RowKit

theorem twin_fine (w : World) (A : Option Addr) (n c : Nat) (xs : List Nat) (h : Rd w A n xs) (h32 : Is32 xs) (hc : chk xs = true) (hn : n ≤ 17592186044416) :
    Calls Tryd.prog 220 #[.slice A n c] w fun e w' => ∃ A' n' c', e = .returned (.slice A' n' c') ∧ NatR (val xs) w.heap.size w' (.slice A' n' c') ∧ Hid (Below w.heap.size w w') :=
  (rTwin_ok w A n c xs h hn).mono fun e w' ⟨A', c', e1, h1, h2, h3, h4, h5⟩ => by
    refine ⟨A', n, c', e1, ⟨A', c', ?_, ?_, h3.out, ?_⟩, h5⟩ <;> rw [limbs_val_chk h32 hc]
    · rw [h.1]
    · rw [h.1]; exact h2.out
    · rw [h.1]; exact h1
theorem rd_strip {w : World} {A : Option Addr} {n : Nat} {zs : List Nat} (h : Rd w A n zs) : Rd w A (strip zs).length (strip zs) := by
  have := h.take (strip zs).length (by rw [← h.1]; exact strip_length_le zs)
  rwa [← strip_eq_take] at this
theorem is32_strip {zs : List Nat} (h : Is32 zs) : Is32 (strip zs) := by rw [strip_eq_take]; exact is32_take h _
set_option maxHeartbeats 8000000 in
theorem kDiv_ok (w : World) (A A' : Option Addr) (n n' c c' : Nat) (xs ys : List Nat) (h : Rd w A n xs) (h' : Rd w A' n' ys) (h32 : Is32 xs) (h32' : Is32 ys) (hn : n ≤ 8796093022208) (hn' : n' ≤ 8796093022208) (hc : n ≤ c) (hc' : n' ≤ c') :
    Calls Tryd.prog 222 #[.slice A n c, .slice A' n' c'] w fun e w' =>
      (if chk xs = true ∧ chk ys = true then
        if ys = [] then e = .returned (.tuple #[.slice none 0 0, .slice none 0 0, .int .i64 10])
        else ∃ v u, e = .returned (.tuple #[v, u, .int .i64 0]) ∧ NatR (val xs / val ys) w.heap.size w' v ∧ NatR (val xs % val ys) w.heap.size w' u ∧ Sep v u
      else e = .returned (.tuple #[.slice none 0 0, .slice none 0 0, .int .i64 1])) ∧ Below w.heap.size w w' := by
  refine opq fun R hR => ?_
  have r1 := hide h
  have r2 := hide h'
  have p1 := hide h32
  have p2 := hide h32'
  have C1 := hide (rCheck_ok w A n c xs h)
  have C2 := hide (rCheck_ok w A' n' c' ys h')
  clear h h' h32 h32'
  go_enter Tryd.func222, Tryd.ntmps222
  by_cases k1 : chk xs = true
  case neg =>
    have k2 : chk xs = false := by simpa using k1
    rw [k2] at C1
    go_wp2_with (go_at_call 207; refine C1.out.mono ?_; rintro e w' ⟨rfl, rfl⟩)
    go_ret3
    refine opq_end hR ?_
    refine ⟨?_, Below.refl _ _⟩
    rw [if_neg (fun q => k1 q.1)]
    rfl
  rw [k1] at C1
  by_cases k3 : chk ys = true
  case neg =>
    have k2 : chk ys = false := by simpa using k3
    rw [k2] at C2
    go_wp2_with fail
    refine C1.out.mono ?_; rintro e w' ⟨rfl, rfl⟩
    go_wp2_with fail
    refine C2.out.mono ?_; rintro e w' ⟨rfl, rfl⟩
    go_wp2
    go_ret3
    refine opq_end hR ?_
    refine ⟨?_, Below.refl _ _⟩
    rw [if_neg (fun q => k3 q.2)]
    rfl
  rw [k3] at C2
  go_wp2_with fail
  refine C1.out.mono ?_; rintro e w' ⟨rfl, rfl⟩
  go_wp2_with fail
  refine C2.out.mono ?_; rintro e w' ⟨rfl, rfl⟩
  by_cases h0 : n' = 0
  · subst h0
    go_wp2
    go_ret3
    refine opq_end hR ?_
    refine ⟨?_, Below.refl _ _⟩
    rw [if_pos ⟨k1, k3⟩, if_pos r2.out.nil_iff]
    rfl
  have e2 : Hid ((limbs (val ys)).length = n') := by
    show _ = _
    rw [limbs_val_chk p2.out k3, r2.out.1]
  have yn : ¬ ys = [] := fun q => h0 (by rw [← r2.out.1, q]; rfl)
  have t0 : ((n' : Int) == 0) = false := by rw [beq_nat0]; simpa using h0
  have CC := hide (rCmp_ok w A A' n n' c c' xs ys r1.out r2.out p1.out p2.out hc hc')
  rw [show nv xs = val xs by rw [nv, if_pos k1], show nv ys = val ys by rw [nv, if_pos k3]] at CC
  by_cases lt : val xs < val ys
  · have cm : cmpN (val xs) (val ys) = -1 := by unfold cmpN; rw [if_pos lt]
    rw [cm] at CC
    go_wp2_with fail
    refine CC.out.mono ?_; rintro e w1 ⟨rfl, b1⟩
    have B1 := hide b1
    clear b1
    go_wp2_with fail
    refine (twin_fine w1 A n c xs (r1.out.below B1.out) p1.out k1 (by omega)).mono ?_
    rintro e w2 ⟨A1, n1, c1, rfl, N1, B2⟩
    go_wp2
    go_ret3
    refine opq_end hR ?_
    refine ⟨?_, below_tr B1.out B2.out⟩
    rw [if_pos ⟨k1, k3⟩, if_neg yn]
    refine ⟨_, _, rfl, ?_, ?_, Sep.nil _⟩
    · rw [Nat.div_eq_of_lt lt]; exact NatR.zero _ _
    · rw [Nat.mod_eq_of_lt lt]; exact N1.mono B1.out.size
  have cm : decide (cmpN (val xs) (val ys) < 0) = false := by unfold cmpN; rw [if_neg lt]; split <;> decide
  have hle : Hid (val ys ≤ val xs) := Nat.le_of_not_lt lt
  obtain ⟨ad, rfl, had, hcl⟩ := r2.out.2.2 (by omega)
  have hy := hcl (n' - 1) (by omega)
  have by_ := is32_get p2.out (n' - 1)
  clear hcl
  obtain ⟨y, ey'⟩ : ∃ y, Hid (ys.getD (n' - 1) 0 = y) := ⟨_, hide rfl⟩
  rw [ey'.out] at hy by_
  generalize cmpN (val xs) (val ys) = cc at *
  by_cases h1 : n' = 1
  · subst h1
    rw [addr0] at hy
    have evy : Hid (val ys = y) := by
      show _ = _
      rcases ys with _ | ⟨z, zs⟩
      · exact absurd rfl yn
      · have := r2.out.1
        obtain rfl : zs = [] := List.eq_nil_of_length_eq_zero (by simpa using this)
        have e := ey'.out
        rw [val_cons, val_nil]
        simpa using e
    have y0 : 0 < y := by
      rw [← evy.out]
      rcases Nat.eq_zero_or_pos (val ys) with q | q
      · have := e2.out
        rw [q, limbs_zero] at this
        exact absurd this (by decide)
      · exact q
    go_wp2_with fail
    refine CC.out.mono ?_; rintro e w1 ⟨rfl, b1⟩
    have B1 := hide b1
    have hy1 := cell_below b1 hy
    clear b1
    go_wp2_with fail
    refine (ksmall_ok w1 A n c y xs (r1.out.below B1.out) p1.out (by omega) y0 by_).mono ?_
    rintro e w2 ⟨u, rfl, N2, B2⟩
    replace N2 := hide N2
    replace B2 := hide B2
    have ml : val xs % y < 18446744073709551616 := by have := Nat.mod_lt (val xs) y0; omega
    go_wp2_with fail
    refine (kOf_ok w2 (val xs % y) ml).mono ?_
    rintro e w3 ⟨t, rfl, N3, B3⟩
    go_wp2
    go_ret3
    refine opq_end hR ?_
    refine ⟨?_, below_tr (below_tr B1.out B2.out) B3⟩
    rw [if_pos ⟨k1, k3⟩, if_neg yn, evy.out]
    exact ⟨_, _, rfl, (N2.out.below B3).mono B1.out.size, N3.mono (Nat.le_trans B1.out.size B2.out.size), N2.out.sep N3⟩
  have t1 : ((n' : Int) == 1) = false := by simp; omega
  have k2n : 2 ≤ n' := by omega
  have y0 : 0 < y := by
    rcases Nat.eq_zero_or_pos y with q | q
    · exfalso
      have hch := k3
      rcases snoc_cases ys with rfl | ⟨zs, z, rfl⟩
      · exact yn rfl
      · rw [chk_snoc] at hch
        have e := ey'.out
        have l := r2.out.1
        rw [List.length_append] at l
        rw [List.getD_eq_getElem?_getD, List.getElem?_append_right (by simp at l; omega)] at e
        have : n' - 1 - zs.length = 0 := by simp at l; omega
        rw [this] at e
        simp at e hch
        omega
    · exact q
  have hnn : n' ≤ n := by
    refine Nat.le_of_not_lt fun q => ?_
    have := val_lt_of_len p1.out p2.out k3 (by rw [r1.out.1, r2.out.1]; exact q)
    exact lt this
  go_wp2_with fail
  refine CC.out.mono ?_; rintro e w1 ⟨rfl, b1⟩
  have B1 := hide b1
  have hy1 := cell_below b1 hy
  clear b1 CC
  have R1 := hide (r1.out.below B1.out)
  have R2 := hide (r2.out.below B1.out)
  go_wp2
  go_loop [9] (fun bv => ∃ k : Nat, bv = .int .u64 (k : Nat) ∧ k < 32 ∧ Hid (y * 2 ^ k < 4294967296)) (fun bv => 32 - (intOf bv).toNat)
  case atStart => exact ⟨0, rfl, by omega, by show _ < _; simpa using by_⟩
  case round =>
    obtain ⟨k, rfl, hk, hyk⟩ := hrel
    obtain ⟨v, ev⟩ : ∃ v, Hid (y * 2 ^ k = v) := ⟨_, hide rfl⟩
    have hv := hyk.out
    rw [ev.out] at hv
    have x1 : (y : Int) * 2 ^ k = (v : Int) := by rw [← ev.out]; simp
    have x2 : IntKind.u32.wrap ((y : Int) * 2 ^ k) = (v : Int) := by rw [x1, IntKind.wrap_u32]; omega
    by_cases hv2 : v < 2147483648
    · have t2 : ((v : Int) / 2147483648 == 0) = true := by simp; omega
      have S1 : Hid (k + 1 < 32 ∧ y * 2 ^ (k + 1) < 4294967296) := by
        have a : y * 2 ^ (k + 1) = v * 2 := by rw [Nat.pow_succ, ← Nat.mul_assoc, ev.out]
        refine ⟨?_, by rw [a]; omega⟩
        have b : 2 ^ k ≤ v := by rw [← ev.out]; exact Nat.le_mul_of_pos_left _ y0
        refine Nat.lt_of_not_le fun q => ?_
        have : 2 ^ 31 ≤ 2 ^ k := Nat.pow_le_pow_right (by omega) (by omega)
        have : (2 : Nat) ^ 31 = 2147483648 := rfl
        omega
      go_wp2
      go_round
      case rel => exact ⟨k + 1, by go_num, S1.out.1, S1.out.2⟩
      case measure => simp [intOf]; omega
    have t2 : ((v : Int) / 2147483648 == 0) = false := by simp; omega
    have hs0 : 0 < 2 ^ k := Nat.pow_pos (by omega)
    have hsc := hide (pow_comp k hk)
    go_wp2_with fail
    refine (kup_ok w1 A n c k xs R1.out p1.out (by omega) hk).mono ?_
    rintro e w2 ⟨us, rfl, KU, lu, u32, vu, bu⟩
    have BU := hide bu
    replace u32 := hide u32
    replace vu := hide vu
    replace lu := hide lu
    clear bu
    go_wp2_with fail
    refine (kup_ok w2 (some ad) n' c' k ys (R2.out.below BU.out) p2.out (by omega) hk).mono ?_
    rintro e w3 ⟨vs, rfl, KV, lv, v32, vv, bv⟩
    have BV := hide bv
    replace v32 := hide v32
    replace vv := hide vv
    replace lv := hide lv
    have hg12 : w1.heap.size < w2.heap.size := KU.out.lt
    have hg23 : w2.heap.size < w3.heap.size := KV.out.lt
    replace KU := hide (KU.out.below' BV.out)
    clear bv
    have lsv : Hid ((strip vs).length = n') := by
      show _ = _
      have a := shifted_len p2.out v32.out hsc.out vv.out (by rw [lv.out, r2.out.1]) (by rw [r2.out.1, ey'.out]; exact hyk.out) (by rw [r2.out.1]; omega)
      rw [r2.out.1] at a
      have b := limbs_length_le.2 a
      have d : (limbs (val ys)).length ≤ (limbs (val vs)).length := limbs_len_mono (by rw [vv.out]; exact Nat.le_mul_of_pos_right _ hs0)
      rw [limbs_val v32.out] at b d
      have := e2.out
      omega
    have CV := hide (rtrim_ok w3 (some ⟨w2.heap.size, 0, none⟩) (n' + 1) (n' + 1) vs (by have := KV.out.rd (n' + 1) (by rw [lv.out]; exact Nat.le_refl _) (by omega); rwa [List.take_of_length_le (by rw [lv.out]; exact Nat.le_refl _)] at this) (Nat.le_refl _))
    rw [lsv.out] at CV
    go_wp2_with fail
    refine CV.out.mono ?_
    rintro e w' ⟨rfl, rfl⟩
    clear CV
    obtain ⟨m, em⟩ : ∃ m, Hid (n + 1 - n' = m) := ⟨_, hide rfl⟩
    have hm1 : m + n' = n + 1 := by have := em.out; omega
    have hmk := mk_nums (P := Tryd.prog) (t := 47) (e := 120) (k := .u32) (b := 4) (by kernel_rfl) info32 ((n : Int) + 1 - n') m (by omega) (by omega) (by omega)
    have hg2 := KU.out.lt
    have B3 := hide (below_tr (below_tr B1.out BU.out) BV.out)
    have hsz1 := B1.out.size
    have hsz2 := BU.out.size
    have hsz3 := BV.out.size
    have L0 : Hid (LgInv m us (strip vs) us (List.replicate m 0)) := by
      have := LgInv.rstart (us := us) (bs := strip vs) (ys := ys) p1.out u32.out (by rw [lu.out, r1.out.1]) vu.out (by rw [val_strip vs]; exact vv.out) hs0 (by rw [lsv.out, r2.out.1]) (by rw [r2.out.1]; omega) (by rw [r2.out.1, r1.out.1]; exact hnn) p2.out k3
      rw [lu.out, lsv.out, em.out] at this
      exact this
    have s32 := hide (is32_strip v32.out)
    have sck := hide (chk_strip vs)
    go_wp2
    clear hmk
    have PU := hide (KU.out.pb.alloc (.cells (cellsOf .u32 (List.replicate m 0)) T32))
    have PV := hide (KV.out.alloc (.cells (cellsOf .u32 (List.replicate m 0)) T32))
    have PQ := hide (Blk.new w3 T32 (cellsOf .u32 (List.replicate m 0)))
    have B4 := hide (B3.out.alloc B3.out.size (.cells (cellsOf .u32 (List.replicate m 0)) T32))
    clear KU KV
    go_loopw [13] (fun iv wr => ∃ i rs zs, i ≤ m ∧ iv = .int .i64 ((i : Int) - 1) ∧ Hid (PB .u32 wr w1.heap.size T32 rs) ∧ Hid (Blk wr w2.heap.size T32 (cellsOf .u32 vs)) ∧ Hid (Blk wr w3.heap.size T32 (cellsOf .u32 zs)) ∧ Hid (Below w.heap.size w wr) ∧ Hid (LgInv i us (strip vs) rs zs)) (fun iv _ => (intOf iv + 1).toNat)
    case atStart => exact ⟨m, us, _, Nat.le_refl _, rfl, PU, PV, PQ, B4, L0⟩
    case round =>
      obtain ⟨i, rs, zs, hi0, rfl, hpu, hpv, hpq, hbel, hinv⟩ := hrel
      clear PU PV PQ B4 L0
      have lr := hinv.out.len
      have lz := hinv.out.zlen
      rw [lu.out] at lr lz
      rw [lsv.out] at lz
      rcases i with _ | i
      · obtain ⟨ez, er⟩ := hinv.out.fin
        have z32 := hide hinv.out.z32
        have rs32 := hide hinv.out.r32
        have RU : Hid (Rd wr (some ⟨w1.heap.size, 0, none⟩) (n + 1) rs) := by
          have := hpu.out.rd (n + 1) (by omega) (by omega)
          rwa [List.take_of_length_le (by omega)] at this
        have C5 := hide (rtrim_ok wr (some ⟨w3.heap.size, 0, none⟩) m m zs (by have := hpq.out.rd m (by omega) (by omega); rwa [List.take_of_length_le (by omega)] at this) (Nat.le_refl _))
        have C6 := hide (rtrim_ok wr (some ⟨w1.heap.size, 0, none⟩) (n + 1) (n + 1) rs RU.out (Nat.le_refl _))
        have N1 := hide (natR_trim (B := w.heap.size) hpq.out z32.out (by omega) (n := m) (by omega) (by omega))
        have C7 := hide (kdown_ok wr (some ⟨w1.heap.size, 0, none⟩) (strip rs).length (n + 1) k (strip rs) (rd_strip RU.out) (is32_strip rs32.out) (by have := strip_length_le rs; omega) hk)
        rw [val_strip rs, er, vu.out, val_strip vs, vv.out, mod_shift] at C7
        rw [ez, vu.out, val_strip vs, vv.out, div_shift] at N1
        clear ez er lr lz hinv
        go_wp2_with fail
        refine C5.out.mono ?_
        rintro e w' ⟨rfl, rfl⟩
        clear C5
        go_wp2_with fail
        refine C6.out.mono ?_
        rintro e w' ⟨rfl, rfl⟩
        clear C6
        go_wp2_with fail
        refine C7.out.mono ?_
        rintro e w5 ⟨u5, rfl, N5, B5⟩
        replace N5 := hide N5
        replace B5 := hide B5
        clear C7
        go_wp2
        go_ret3
        refine opq_end hR ?_
        refine ⟨?_, below_tr hbel.out B5.out⟩
        rw [if_pos ⟨k1, k3⟩, if_neg yn]
        exact ⟨_, _, rfl, N1.out.below B5.out, N5.out.mono hbel.out.size, N1.out.sep N5.out⟩
      have ei : ((i + 1 : Nat) : Int) - 1 = (i : Int) := by omega
      rw [ei]
      have RU : Hid (Rd wr (some ⟨w1.heap.size, 0, none⟩) (n + 1) rs) := by
        have := hpu.out.rd (n + 1) (by omega) (by omega)
        rwa [List.take_of_length_le (by omega)] at this
      have RV : Hid (Rd wr (some ⟨w2.heap.size, 0, none⟩) n' (strip vs)) := by
        have := hpv.out.rd (n' + 1) (by rw [lv.out]; exact Nat.le_refl _) (by omega)
        rw [List.take_of_length_le (by rw [lv.out]; exact Nat.le_refl _)] at this
        have := rd_strip this
        rwa [lsv.out] at this
      have G := gset_of hinv.out s32.out (by rw [lsv.out]; exact k2n) sck.out (by omega)
      rw [lsv.out] at G
      replace G := hide G
      go_wp2_with fail
      refine (kguess_ok wr (some ⟨w1.heap.size, 0, none⟩) (some ⟨w2.heap.size, 0, none⟩) (n + 1) n' (n + 1) (n' + 1) i rs (strip vs) RU.out RV.out hinv.out.r32 s32.out (by omega) k2n (by omega) _ _ _ G.out).mono ?_
      rintro e w6 ⟨gg, rfl, hgg, J1, J2, Bg, Hg⟩
      replace Bg := hide (hbel.out.trans (Bg.mono hbel.out.size))
      replace Hg := hide Hg
      replace hpu := hide (hpu.out.keep (by rw [Hg.out] : w6.heap[w1.heap.size]? = wr.heap[w1.heap.size]?))
      replace hpv := hide (hpv.out.keep (by rw [Hg.out] : w6.heap[w2.heap.size]? = wr.heap[w2.heap.size]?))
      replace hpq := hide (hpq.out.keep (by rw [Hg.out] : w6.heap[w3.heap.size]? = wr.heap[w3.heap.size]?))
      replace RV : Hid (Rd w6 (some ⟨w2.heap.size, 0, none⟩) n' (strip vs)) := ⟨RV.out.1, RV.out.2.1, fun h0 => by
        obtain ⟨a, e, hl, hc⟩ := RV.out.2.2 h0
        exact ⟨a, e, by rw [Hg.out]; exact hl, fun j hj => by rw [World.cell?_of_block (w := wr) (by rw [Hg.out])]; exact hc j hj⟩⟩
      clear hbel Hg
      replace J1 := hide J1
      replace J2 := hide J2
      clear G RU
      go_wp2_with fail
      refine (ktakes_ok w6 w1.heap.size (n + 1) (n + 1) (some ⟨w2.heap.size, 0, none⟩) n' (n' + 1) i gg rs (strip vs) hpu.out lr RV.out hinv.out.r32 s32.out (by omega) (by omega) hgg (fun ad e => by cases e; show w2.heap.size ≠ w1.heap.size; omega)).mono ?_
      rintro e w4 ⟨o, rs2, rfl, PU4, M4, F4, X4⟩
      have B4 := hide (Bg.out.trans (X4.out w.heap.size hsz1))
      have V4 := hide (F4.out.blk hpv.out (show w2.heap.size ≠ w1.heap.size by omega))
      have Q4 := hide (F4.out.blk hpq.out (show w3.heap.size ≠ w1.heap.size by omega))
      clear F4 X4 hpu hpv hpq Bg RV
      have M4' : Hid (MsInv i ((strip vs).length + 1) o gg (strip vs ++ [0]) rs rs2) := by rw [lsv.out]; exact M4.out
      clear M4
      rcases Nat.eq_zero_or_pos o with ho | ho
      · have t3 : decide (0 < o) = false := by rw [ho]; rfl
        have E1 := hide (hinv.out.ryes s32.out (by omega) M4'.out hgg J1.out ho)
        have hcq := Q4.out.cell i
        rw [cellsOf_get _ _ _ (by omega)] at hcq
        have hfq := Q4.out.frozen i
        have V1 := hide (PU4.out.far (p := ⟨w3.heap.size, i, none⟩) (by show w1.heap.size ≠ w3.heap.size; omega) (.int .u32 (gg : Nat)))
        have V2 := hide (V4.out.far (p := ⟨w3.heap.size, i, none⟩) (by show w2.heap.size ≠ w3.heap.size; omega) (.int .u32 (gg : Nat)))
        have V3 := hide (B4.out.setCell (p := ⟨w3.heap.size, i, none⟩) (by show w.heap.size ≤ w3.heap.size; omega) (.int .u32 (gg : Nat)))
        have V5 := hide (Q4.out.set_ i (.int .u32 (gg : Nat)))
        rw [cellsOf_set] at V5
        rw [t3]
        go_wp2
        go_roundw
        case rel => exact ⟨i, _, _, by omega, rfl, V1, V2, V5, V3, E1⟩
        case measure => simp [intOf] <;> omega
      · have t3 : decide (0 < o) = true := by simpa using ho
        have lr2 := M4'.out.len
        rw [lr] at lr2
        have RV4 : Hid (Rd w4 (some ⟨w2.heap.size, 0, none⟩) n' (strip vs)) := by
          have := V4.out.rd (n' + 1) (by rw [lv.out]; exact Nat.le_refl _) (by omega)
          rw [List.take_of_length_le (by rw [lv.out]; exact Nat.le_refl _)] at this
          have := rd_strip this
          rwa [lsv.out] at this
        rw [t3]
        go_wp2_with fail
        refine (kgives_ok w4 w1.heap.size (n + 1) (n + 1) (some ⟨w2.heap.size, 0, none⟩) n' (n' + 1) i rs2 (strip vs) PU4.out lr2 RV4.out M4'.out.is32 s32.out (by omega) (by omega) (fun ad e => by cases e; show w2.heap.size ≠ w1.heap.size; omega)).mono ?_
        rintro e w5 ⟨⟨_, rfl⟩, cy, rs3, PU5, M5, F5, X5⟩
        have M5' : Hid (AbInv i ((strip vs).length + 1) cy (strip vs ++ [0]) rs2 rs3) := by rw [lsv.out]; exact M5.out
        have E0 := hinv.out.rno s32.out (by omega) M4'.out hgg J2.out ho M5'.out
        have E1 := hide E0.1
        have g0 := E0.2
        obtain ⟨gp, rfl⟩ : ∃ gp, gg = gp + 1 := ⟨gg - 1, by omega⟩
        rw [Nat.add_sub_cancel] at E1
        have B5 := hide (B4.out.trans (X5.out w.heap.size hsz1))
        have V4 := hide (F5.out.blk V4.out (show w2.heap.size ≠ w1.heap.size by omega))
        have Q4 := hide (F5.out.blk Q4.out (show w3.heap.size ≠ w1.heap.size by omega))
        clear F5 X5 M5 M5' M4' PU4 B4 RV4 E0 J1 J2
        have eg : ((gp + 1 : Nat) : Int) - 1 = (gp : Int) := by omega
        have hcq := Q4.out.cell i
        rw [cellsOf_get _ _ _ (by omega)] at hcq
        have hfq := Q4.out.frozen i
        have V1 := hide (PU5.out.far (p := ⟨w3.heap.size, i, none⟩) (by show w1.heap.size ≠ w3.heap.size; omega) (.int .u32 (gp : Nat)))
        have V2 := hide (V4.out.far (p := ⟨w3.heap.size, i, none⟩) (by show w2.heap.size ≠ w3.heap.size; omega) (.int .u32 (gp : Nat)))
        have V3 := hide (B5.out.setCell (p := ⟨w3.heap.size, i, none⟩) (by show w.heap.size ≤ w3.heap.size; omega) (.int .u32 (gp : Nat)))
        have V5 := hide (Q4.out.set_ i (.int .u32 (gp : Nat)))
        rw [cellsOf_set] at V5
        go_wp2
        go_roundw
        case rel => exact ⟨i, _, _, by omega, rfl, V1, V2, V5, V3, E1⟩
        case measure => simp [intOf] <;> omega
end Go.Proofs.YtkefmeddnncacaaDoor
