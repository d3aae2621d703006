/- the document's answer for nats: guess, takes, gives. -/
import Derived.Test.YtkefmeddnncacaaDoorRj
import Derived.Test.YtkefmeddnncacaaDoorIA
set_option linter.unusedVariables false
set_option linter.unusedSimpArgs false
set_option maxRecDepth 100000
namespace Go.Proofs.YtkefmeddnncacaaDoor
open Go.RowKit

theorem Only.drewN {g : Nat} {w W : World} (h : Only g w W) (n : Nat) : Only g w (W.drewN n) := ⟨h.size, h.block⟩
theorem Only.rd {g : Nat} {w W : World} (h : Only g w W) {k : IntKind} {A : Option Addr} {n : Nat} {xs : List Nat} (r : Rdk k w A n xs) (hne : ∀ ad, A = some ad → ad.block ≠ g) : Rdk k W A n xs :=
  ⟨r.1, r.2.1, fun h0 => by
    obtain ⟨ad, e, hl, hc⟩ := r.2.2 h0
    exact ⟨ad, e, by rw [h.size]; exact hl, fun j hj => by
      have hb : (ad.add j).block = ad.block := by unfold Addr.add; split <;> rfl
      rw [h.cell (by rw [hb]; exact hne ad e)]
      exact hc j hj⟩⟩
theorem Only.blk {g g' : Nat} {w W : World} (h : Only g w W) {t : TypeId} {cs : Array Value} (k : Blk w g' t cs) (hne : g' ≠ g) : Blk W g' t cs := k.keep (h.block g' hne)
set_option maxHeartbeats 4000000 in
theorem kguess_ok (w : World) (A A' : Option Addr) (n n' c c' i : Nat) (rs ys : List Nat) (h : Rd w A n rs) (h' : Rd w A' n' ys) (h32 : Is32 rs) (h32' : Is32 ys) (hn : n ≤ 17592186044416) (h2 : 2 ≤ n') (hl : i + n' < n) (U V E : Nat)
    (G : GSet U V E (rs.getD (i + n') 0 * 4294967296 + rs.getD (i + (n' - 1)) 0) (rs.getD (i + (n' - 2)) 0) (ys.getD (n' - 1) 0) (ys.getD (n' - 2) 0)) :
    Calls Tryd.prog 233 #[.slice A n c, .slice A' n' c', .int .i64 (i : Nat)] w fun e w' => ∃ g : Nat, e = .returned (.int .u64 (g : Nat)) ∧ g < 4294967296 ∧ U < (g + 1) * V ∧ g * V < U + V ∧ Below w.heap.size w w' ∧ w'.heap = w.heap := by
  refine opq fun R hR => ?_
  have hi1 := h.2.1
  obtain ⟨ad, rfl, had, hcl⟩ := h.2.2 (by omega)
  obtain ⟨ad', rfl, had', hcl'⟩ := h'.2.2 (by omega)
  have k1 := hcl (i + n') (by omega)
  have k2 := hcl (i + (n' - 1)) (by omega)
  have k3 := hcl (i + (n' - 2)) (by omega)
  have c1 := hcl' (n' - 1) (by omega)
  have c2 := hcl' (n' - 2) (by omega)
  have b1 := is32_get h32' (n' - 1)
  have b2 := is32_get h32' (n' - 2)
  have d1 := is32_get h32 (i + n')
  have d2 := is32_get h32 (i + (n' - 1))
  have d3 := is32_get h32 (i + (n' - 2))
  replace G := hide G
  clear h h' h32 h32' hcl hcl'
  obtain ⟨hi, eh⟩ : ∃ hi, Hid (ys.getD (n' - 1) 0 = hi) := ⟨_, hide rfl⟩
  obtain ⟨ne, en⟩ : ∃ ne, Hid (ys.getD (n' - 2) 0 = ne) := ⟨_, hide rfl⟩
  rw [eh.out] at c1 b1 G
  rw [en.out] at c2 b2 G
  obtain ⟨u2, e2⟩ : ∃ u2, Hid (rs.getD (i + n') 0 = u2) := ⟨_, hide rfl⟩
  obtain ⟨u1, e1⟩ : ∃ u1, Hid (rs.getD (i + (n' - 1)) 0 = u1) := ⟨_, hide rfl⟩
  obtain ⟨u0, e0⟩ : ∃ u0, Hid (rs.getD (i + (n' - 2)) 0 = u0) := ⟨_, hide rfl⟩
  rw [e2.out] at k1 d1 G
  rw [e1.out] at k2 d2 G
  rw [e0.out] at k3 d3 G
  have i1 : (i : Int) + n' - 1 = ((i + (n' - 1) : Nat) : Int) := by omega
  have i2 : (i : Int) + n' - 2 = ((i + (n' - 2) : Nat) : Int) := by omega
  have hh0 : 0 < hi := G.out.h0
  have hh1 : ((hi : Int) == 0) = false := by simp; omega
  have o1 := or_high d2 d1
  obtain ⟨T, eT⟩ : ∃ T, Hid (u2 * 4294967296 + u1 = T) := ⟨_, hide rfl⟩
  have T64 : T < 18446744073709551616 := by have := eT.out; omega
  rw [eT.out] at o1 G
  obtain ⟨qh, eqh⟩ : ∃ qh, Hid (T / hi = qh) := ⟨_, hide rfl⟩
  obtain ⟨rh, erh⟩ : ∃ rh, Hid (T % hi = rh) := ⟨_, hide rfl⟩
  have qhT : qh ≤ T := by rw [← eqh.out]; exact Nat.div_le_self _ _
  have rhT : rh ≤ T := by rw [← erh.out]; exact Nat.mod_le _ _
  have wq : IntKind.u64.wrap ((T : Int) / hi) = (qh : Int) := by rw [← Int.natCast_ediv, eqh.out, IntKind.wrap_u64]; omega
  have wr_ : (T : Int) % hi = (rh : Int) := by rw [← Int.natCast_emod, erh.out]
  have I0 : Hid (T = rh + qh * hi) := by
    show _ = _
    have := Nat.div_add_mod T hi
    rw [eqh.out, erh.out, Nat.mul_comm] at this
    omega
  have J0 : Hid (U < (qh + 1) * V) := by rw [← eqh.out]; exact G.out.rstart
  clear eqh erh
  go_enter Tryd.func233, Tryd.ntmps233
  go_wp2
  go_quiet (fail)
  clear k1 k2
  go_wp2
  clear wq o1
  go_loopw [9, 10] (fun gv ov wx => ∃ gs o : Nat, gv = .int .u64 (gs : Nat) ∧ ov = .int .u64 (o : Nat) ∧ gs ≤ T ∧ o ≤ T ∧ Hid (T = o + gs * hi) ∧ Hid (U < (gs + 1) * V) ∧ Hid (Below w.heap.size w wx ∧ wx.heap = w.heap)) (fun gv _ _ => (intOf gv).toNat)
  case atStart => exact ⟨qh, rh, rfl, by rw [wr_], qhT, rhT, I0, J0, below_drewN (Below.refl _ _) _, rfl⟩
  case round =>
    obtain ⟨gs, o, rfl, rfl, hgs, hoT, I1, J1, D1⟩ := hrel
    clear I0 J0 qhT rhT wr_
    have hce : ∀ a, wr.cell? a = w.cell? a := fun a => World.cell?_of_block (by rw [D1.out.2])
    rw [← hce] at c1 c2 k3
    clear hce
    have DEC : Hid (U < gs * V → ∃ k, gs = k + 1 ∧ Hid (T = o + hi + k * hi) ∧ o + hi ≤ T) := fun J2 => by
      have g1 : 1 ≤ gs := by
        rcases Nat.eq_zero_or_pos gs with h0 | h0
        · rw [h0, Nat.zero_mul] at J2; omega
        · exact h0
      obtain ⟨k, rfl⟩ : ∃ k, gs = k + 1 := ⟨gs - 1, by omega⟩
      have I2 : T = o + hi + k * hi := by
        have := I1.out
        rw [Nat.add_mul, Nat.one_mul] at this
        omega
      exact ⟨k, rfl, I2, by rw [I2]; exact Nat.le_add_right _ _⟩
    by_cases ho : o < 4294967296
    case neg =>
      have hgs2 : gs < 4294967296 := Nat.lt_of_not_le fun q => ho (G.out.over I1.out q)
      have E1 : Hid (gs * V < U + V) := G.out.enough hgs2 I1.out (.inl (by omega))
      have t1 : ((o : Int) / 4294967296 == 0) = false := by simp; omega
      clear DEC G
      go_wp2
      go_quiet (fail)
      go_wp2
      exact opq_end hR ⟨gs, rfl, hgs2, J1.out, E1.out, below_drewN D1.out.1 _, D1.out.2⟩
    have t1 : ((o : Int) / 4294967296 == 0) = true := by simp; omega
    by_cases hq : gs < 4294967296
    case neg =>
      obtain ⟨k, rfl, I2, ohi⟩ := DEC.out (G.out.less' (Nat.le_of_not_lt hq))
      have J2 : Hid (U < (k + 1) * V) := G.out.less' (Nat.le_of_not_lt hq)
      have t2 : decide (0 < ((k : Int) + 1) / 4294967296) = true := by simp; omega
      have t2b : decide (0 < (k + 1) / 4294967296) = true := by simp; omega
      have t2c : decide (4294967296 ≤ k + 1) = true := by simp; omega
      have t2d : decide (4294967296 ≤ (k : Int) + 1) = true := by simp; omega
      clear DEC G
      go_wp2
      go_quiet (fail)
      go_wp2
      go_roundw
      case rel => exact ⟨k, o + hi, by go_num, by go_num, by omega, ohi, I2, J2, below_drewN D1.out.1 _, D1.out.2⟩
      case measure => first | (simp [intOf]; done) | (simp [intOf]; omega)
    have t2 : decide (0 < (gs : Int) / 4294967296) = false := by simp; omega
    have t2b : decide (0 < gs / 4294967296) = false := by simp; omega
    have t2c : decide (4294967296 ≤ gs) = false := by simp; omega
    have t2d : decide (4294967296 ≤ (gs : Int)) = false := by simp; omega
    obtain ⟨gn, egn⟩ : ∃ gn, Hid (gs * ne = gn) := ⟨_, hide rfl⟩
    have hgn : gn < 18446744073709551616 := by
      rw [← egn.out]
      have : gs * ne ≤ 4294967295 * 4294967295 := Nat.mul_le_mul (by omega) (by omega)
      omega
    have wgn : (gs : Int) * ne = (gn : Int) := by rw [← Int.natCast_mul, egn.out]
    have o2 := or_high d3 ho
    obtain ⟨z, ez⟩ : ∃ z, Hid (o * 4294967296 + u0 = z) := ⟨_, hide rfl⟩
    rw [ez.out] at o2
    by_cases hz : z < gn
    · have J2 : Hid (U < gs * V) := G.out.less I1.out (by rw [ez.out, egn.out]; exact hz)
      obtain ⟨k, rfl, I2, ohi⟩ := DEC.out J2.out
      have t3 : decide ((z : Int) < gn) = true := by simpa using hz
      have t4 : decide (z < gn) = true := by simpa using hz
      have t2e : decide (0 < ((k : Int) + 1) / 4294967296) = false := by simp; omega
      have t2f : decide (4294967296 ≤ (k : Int) + 1) = false := by simp; omega
      have wgn' : ((k : Int) + 1) * ne = (gn : Int) := by rw [← wgn]; congr 1
      clear DEC G
      go_wp2
      go_quiet (fail)
      go_wp2
      go_roundw
      case rel => exact ⟨k, o + hi, by go_num, by go_num, by omega, ohi, I2, J2, below_drewN D1.out.1 _, D1.out.2⟩
      case measure => first | (simp [intOf]; done) | (simp [intOf]; omega)
    · have E1 : Hid (gs * V < U + V) := G.out.enough hq I1.out (.inr (by rw [ez.out, egn.out]; omega))
      have t3 : decide ((z : Int) < gn) = false := by simpa using hz
      have t4 : decide (z < gn) = false := by simpa using hz
      clear DEC G
      go_wp2
      go_quiet (fail)
      go_wp2
      exact opq_end hR ⟨gs, rfl, hq, J1.out, E1.out, below_drewN D1.out.1 _, D1.out.2⟩
set_option maxHeartbeats 4000000 in
theorem ktakes_ok (w : World) (g n c : Nat) (A' : Option Addr) (n' c' i q : Nat) (rs ys : List Nat) (hP : PB .u32 w g T32 rs) (hl : rs.length = n) (h' : Rd w A' n' ys) (h32 : Is32 rs) (h32' : Is32 ys) (hn : n ≤ 17592186044416) (hi : i + n' < n) (hq : q < 4294967296) (hne : ∀ ad, A' = some ad → ad.block ≠ g) :
    Calls Tryd.prog 234 #[.slice (some ⟨g, 0, none⟩) n c, .slice A' n' c', .int .i64 (i : Nat), .int .u64 (q : Nat)] w fun e w' => ∃ o rs', e = .returned (.bool (decide (0 < o))) ∧ Hid (PB .u32 w' g T32 rs') ∧ Hid (MsInv i (n' + 1) o q (ys ++ [0]) rs rs') ∧ Hid (Only g w w') ∧ Hid (∀ B, B ≤ g → Below B w w') := by
  refine opq fun R hR => ?_
  have r2 := hide h'
  have p2 := hide h32'
  have P0 := hide hP
  have S0 : Hid (MsInv i 0 0 q (ys ++ [0]) rs rs) := MsInv.start h32
  have hne := hide hne
  clear h' h32 h32' hP
  go_enter Tryd.func234, Tryd.ntmps234
  go_wp2
  go_loopw [9, 10] (fun ov kv wr => ∃ k o rs', k ≤ n' + 1 ∧ kv = .int .i64 (k : Nat) ∧ ov = .int .u64 (o : Nat) ∧ o ≤ q ∧ Hid (PB .u32 wr g T32 rs') ∧ Hid (MsInv i k o q (ys ++ [0]) rs rs') ∧ Hid (Only g w wr) ∧ Hid (∀ B, B ≤ g → Below B w wr)) (fun _ kv _ => n' + 1 - (intOf kv).toNat)
  case atStart => exact ⟨0, 0, rs, by omega, rfl, rfl, by omega, P0, S0, Only.refl _ _, fun B _ => Below.refl _ _⟩
  case round =>
    obtain ⟨k, o, rs', hk, rfl, rfl, ho, hP, hms, hF, hbel⟩ := hrel
    clear P0 S0
    have hlen := hms.out.len
    rw [hl] at hlen
    by_cases hlt : k ≤ n'
    · have hcell := hP.out.cell (i + k) (by omega)
      have hfro := hP.out.frozen (i + k)
      have bd := is32_get hms.out.is32 (i + k)
      have by_ := is32_get p2.out k
      have T1 := hide (hms.out.step (snoc0_is32 p2.out) (by rw [hl]; omega))
      rw [snoc0_get] at T1
      have T0 := hide T1.out.le
      have C2 : Hid (k < n' → ∃ ad, A' = some ad ∧ wr.cell? (ad.add k) = some (.int .u32 (ys.getD k 0 : Nat))) := fun q => by
        obtain ⟨ad, e, _, hc⟩ := (hF.out.rd r2.out hne.out).2.2 (by omega)
        exact ⟨ad, e, hc k q⟩
      have E2 : n' ≤ k → ys.getD k 0 = 0 := fun q => getD_ge (by rw [r2.out.1]; exact q)
      obtain ⟨y, ey⟩ : ∃ y, Hid (ys.getD k 0 = y) := ⟨_, hide rfl⟩
      obtain ⟨d, ed⟩ : ∃ d, Hid (rs'.getD (i + k) 0 = d) := ⟨_, hide rfl⟩
      rw [ey.out] at by_ T1 T0 C2 E2
      rw [ed.out] at hcell bd T1 T0
      obtain ⟨pr, epr⟩ : ∃ pr, Hid (q * y = pr) := ⟨_, hide rfl⟩
      have hpr : pr ≤ 18446744065119617025 := by
        rw [← epr.out]
        exact Nat.mul_le_mul (Nat.le_of_lt_succ hq) (Nat.le_of_lt_succ by_)
      have wpr : (q : Int) * y = (pr : Int) := by rw [← Int.natCast_mul, epr.out]
      rw [epr.out] at T1 T0
      obtain ⟨p, ep⟩ : ∃ p, Hid (pr + o = p) := ⟨_, hide rfl⟩
      have hp : p < 18446744073709551616 := by have := ep.out; omega
      have wp : (o : Int) + pr = (p : Int) := by have := ep.out; omega
      rw [ep.out] at T1 T0
      obtain ⟨dd, edd⟩ : ∃ dd, Hid (msd p d = dd) := ⟨_, hide rfl⟩
      obtain ⟨o2, eo2⟩ : ∃ o2, Hid (msb p d = o2) := ⟨_, hide rfl⟩
      rw [edd.out, eo2.out] at T1
      rw [eo2.out] at T0
      have ho2 := T0.out
      obtain ⟨N, eN⟩ : ∃ N, Hid ((d + 18446744073709551616 - p % 4294967296) % 18446744073709551616 = N) := ⟨_, hide rfl⟩
      have hN : N < 18446744073709551616 := by have := eN.out; omega
      have wand : bits BinOp.and IntKind.u64 (p : Int) 4294967295 = ((p % 4294967296 : Nat) : Int) := by
        have := u64_and_nat p 4294967295 hp (by omega)
        rw [show ((4294967295 : Nat) : Int) = (4294967295 : Int) from rfl] at this
        rw [this]
        congr 1
        exact Nat.and_two_pow_sub_one_eq_mod p 32
      have wN : IntKind.u64.wrap ((d : Int) - ((p % 4294967296 : Nat) : Int)) = (N : Int) := by rw [IntKind.wrap_u64]; have := eN.out; omega
      have wN2 : IntKind.u64.wrap ((d : Int) - (p : Int) % 4294967296) = (N : Int) := by rw [IntKind.wrap_u64]; have := eN.out; omega
      have ws : (N : Int) % 4294967296 = (dd : Int) := by have := eN.out; have := edd.out; unfold msd at this; omega
      have wo : (p : Int) / 4294967296 + (N : Int) / 9223372036854775808 = (o2 : Int) := by
        have := eN.out; have := eo2.out; unfold msb at this; split at this <;> omega
      have S2 := hide (hP.out.set_ (i + k) dd (by omega))
      have S3 := hide (hF.out.set (i + k) (.int .u32 (dd : Nat)))
      have S4 : Hid (∀ B, B ≤ g → Below B w (wr.setCell ⟨g, i + k, none⟩ (.int .u32 (dd : Nat)))) := fun B hB => (hbel.out B hB).setCell (p := ⟨g, i + k, none⟩) hB _
      clear hlen
      by_cases h1 : k < n'
      · obtain ⟨ad2, rfl, hy⟩ := C2.out h1
        clear C2 E2
        go_wp2
        go_roundw
        case rel => exact ⟨k + 1, o2, _, by omega, by go_num, rfl, ho2, S2, T1, S3, S4⟩
        case measure => simp [intOf]; omega
      · have y0 := E2 (by omega)
        subst y0
        have pr0 : pr = 0 := by rw [← epr.out]; exact Nat.mul_zero _
        subst pr0
        have hpo : p = o := by have := ep.out; omega
        subst hpo
        clear C2 E2
        go_wp2
        go_roundw
        case rel => exact ⟨k + 1, o2, _, by omega, by go_num, rfl, ho2, S2, T1, S3, S4⟩
        case measure => simp [intOf]; omega
    · obtain rfl : k = n' + 1 := by omega
      have t1 : decide (0 < (o : Int)) = decide (0 < o) := by simp
      go_wp2
      exact opq_end hR ⟨o, rs', by first | (rw [t1]; done) | (rw [t1]; rfl) | simp, hP, hms, hF, hbel⟩
set_option maxHeartbeats 4000000 in
theorem kgives_ok (w : World) (g n c : Nat) (A' : Option Addr) (n' c' i : Nat) (rs ys : List Nat) (hP : PB .u32 w g T32 rs) (hl : rs.length = n) (h' : Rd w A' n' ys) (h32 : Is32 rs) (h32' : Is32 ys) (hn : n ≤ 17592186044416) (hi : i + n' < n) (hne : ∀ ad, A' = some ad → ad.block ≠ g) :
    Calls Tryd.prog 235 #[.slice (some ⟨g, 0, none⟩) n c, .slice A' n' c', .int .i64 (i : Nat)] w fun e w' => (∃ r, e = .returned r) ∧ ∃ cy rs', Hid (PB .u32 w' g T32 rs') ∧ Hid (AbInv i (n' + 1) cy (ys ++ [0]) rs rs') ∧ Hid (Only g w w') ∧ Hid (∀ B, B ≤ g → Below B w w') := by
  refine opq fun R hR => ?_
  have r2 := hide h'
  have p2 := hide h32'
  have P0 := hide hP
  have S0 : Hid (AbInv i 0 0 (ys ++ [0]) rs rs) := AbInv.start h32
  have hne := hide hne
  clear h' h32 h32' hP
  go_enter Tryd.func235, Tryd.ntmps235
  go_wp2
  go_loopw [6, 7] (fun ov kv wr => ∃ k o rs', k ≤ n' + 1 ∧ kv = .int .i64 (k : Nat) ∧ ov = .int .u64 (o : Nat) ∧ o < 2 ∧ Hid (PB .u32 wr g T32 rs') ∧ Hid (AbInv i k o (ys ++ [0]) rs rs') ∧ Hid (Only g w wr) ∧ Hid (∀ B, B ≤ g → Below B w wr)) (fun _ kv _ => n' + 1 - (intOf kv).toNat)
  case atStart => exact ⟨0, 0, rs, by omega, rfl, rfl, by omega, P0, S0, Only.refl _ _, fun B _ => Below.refl _ _⟩
  case round =>
    obtain ⟨k, o, rs', hk, rfl, rfl, ho, hP, hms, hF, hbel⟩ := hrel
    clear P0 S0
    have hlen := hms.out.len
    rw [hl] at hlen
    by_cases hlt : k ≤ n'
    · have hcell := hP.out.cell (i + k) (by omega)
      have hfro := hP.out.frozen (i + k)
      have bd := is32_get hms.out.is32 (i + k)
      have by_ := is32_get p2.out k
      have T1 := hide (hms.out.step (snoc0_is32 p2.out) (by rw [hl]; omega))
      rw [snoc0_get] at T1
      have T0 := hide T1.out.lt
      have C2 : Hid (k < n' → ∃ ad, A' = some ad ∧ wr.cell? (ad.add k) = some (.int .u32 (ys.getD k 0 : Nat))) := fun q => by
        obtain ⟨ad, e, _, hc⟩ := (hF.out.rd r2.out hne.out).2.2 (by omega)
        exact ⟨ad, e, hc k q⟩
      have E2 : n' ≤ k → ys.getD k 0 = 0 := fun q => getD_ge (by rw [r2.out.1]; exact q)
      obtain ⟨y, ey⟩ : ∃ y, Hid (ys.getD k 0 = y) := ⟨_, hide rfl⟩
      obtain ⟨d, ed⟩ : ∃ d, Hid (rs'.getD (i + k) 0 = d) := ⟨_, hide rfl⟩
      rw [ey.out] at by_ T1 T0 C2 E2
      rw [ed.out] at hcell bd T1 T0
      obtain ⟨s, es⟩ : ∃ s, Hid (d + y + o = s) := ⟨_, hide rfl⟩
      have hs : s < 18446744073709551616 := by have := es.out; omega
      rw [es.out] at T1 T0
      have hs2 := T0.out
      have w0 : (o : Int) + d + y = (s : Int) := by have := es.out; omega
      have w1 : (s : Int) % 4294967296 = ((s % 4294967296 : Nat) : Int) := by omega
      have w2 : (s : Int) / 4294967296 = ((s / 4294967296 : Nat) : Int) := by omega
      have S2 := hide (hP.out.set_ (i + k) (s % 4294967296) (by omega))
      have S3 := hide (hF.out.set (i + k) (.int .u32 ((s % 4294967296 : Nat) : Int)))
      have S4 : Hid (∀ B, B ≤ g → Below B w (wr.setCell ⟨g, i + k, none⟩ (.int .u32 ((s % 4294967296 : Nat) : Int)))) := fun B hB => (hbel.out B hB).setCell (p := ⟨g, i + k, none⟩) hB _
      clear hlen w1 w2
      by_cases h1 : k < n'
      · obtain ⟨ad2, rfl, hy⟩ := C2.out h1
        clear C2 E2
        go_wp2
        go_roundw
        case rel => exact ⟨k + 1, _, _, by omega, by go_num, rfl, hs2, S2, T1, S3, S4⟩
        case measure => simp [intOf]; omega
      · have y0 := E2 (by omega)
        subst y0
        have w3 : (o : Int) + d = (s : Int) := by have := es.out; omega
        clear C2 E2 w0
        go_wp2
        go_roundw
        case rel => exact ⟨k + 1, _, _, by omega, by go_num, rfl, hs2, S2, T1, S3, S4⟩
        case measure => simp [intOf]; omega
    · obtain rfl : k = n' + 1 := by omega
      go_wp2
      go_end0
      exact opq_end hR ⟨⟨_, rfl⟩, o, rs', hP, hms, hF, hbel⟩
end Go.Proofs.YtkefmeddnncacaaDoor
