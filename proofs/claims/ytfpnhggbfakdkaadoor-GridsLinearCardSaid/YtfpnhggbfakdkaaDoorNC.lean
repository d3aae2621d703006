/- nats: long, Div, Back. -/
import Derived.Test.YtfpnhggbfakdkaaDoorNB
import Derived.Test.YtfpnhggbfakdkaaDoorCa
import Derived.Test.YtfpnhggbfakdkaaDoorLa
import Derived.OwnWalk
/- nats: long. -/
set_option linter.unusedVariables false
set_option linter.unusedSimpArgs false
set_option maxRecDepth 100000
namespace Go.Proofs.YtfpnhggbfakdkaaDoor
open Go.RowKit

theorem run_min_int {P : Program} (ts : Array TypeId) (t : TypeId) (k : IntKind) (a b : Int) (m : Nat) (h : (m : Int) = min a b) (W : World) :
    (Builtin.min_ ts t #[.int k a, .int k b]).run P W = .ok (.int k (m : Int)) W := by
  have e : (if b < a then b else a) = (m : Int) := by split <;> omega
  simp [Builtin.min_, Builtin.min2]
  simpa using e
set_option maxHeartbeats 4000000 in
theorem long_ok (w : World) (A A' : Option Addr) (n n' c c' : Nat) (xs ys : List Nat) (h : Rd w A n xs) (h' : Rd w A' n' ys) (h32 : Is32 xs) (h32' : Is32 ys) (hn : n ≤ 17592186044416) (hl : n' ≤ n) (h2 : 2 ≤ n') (hc : chk ys = true) :
    Calls Tryd.prog 103 #[.slice A n c, .slice A' n' c'] w fun e w' => ∃ v u, e = .returned (.tuple #[v, u]) ∧ NatR (val xs / val ys) w.heap.size w' v ∧ NatR (val xs % val ys) w.heap.size w' u ∧ Below w.heap.size w w' := by
  refine opq fun R hR => ?_
  obtain ⟨ad, rfl, had, hcl⟩ := h'.2.2 (by omega)
  have c1 := hcl (n' - 1) (by omega)
  have c2 := hcl (n' - 2) (by omega)
  have b1 := is32_get h32' (n' - 1)
  have b2 := is32_get h32' (n' - 2)
  have CL := hide (fun q => clone_ok (w.drewN q) A n c xs h (by omega))
  have r1 := hide h
  have r2 := hide h'
  have p1 := hide h32
  have p2 := hide h32'
  have hcc := hide hc
  obtain ⟨hi, eh⟩ : ∃ hi, Hid (ys.getD (n' - 1) 0 = hi) := ⟨_, hide rfl⟩
  obtain ⟨ne, en⟩ : ∃ ne, Hid (ys.getD (n' - 2) 0 = ne) := ⟨_, hide rfl⟩
  rw [eh.out] at c1 b1
  rw [en.out] at c2 b2
  clear h h' h32 h32' hc hcl
  obtain ⟨m, em⟩ : ∃ m, Hid (n + 1 - n' = m) := ⟨_, hide rfl⟩
  have hm1 : m + n' = n + 1 := by have := em.out; omega
  go_enter Tryd.func103, Tryd.ntmps103
  go_wp2
  go_quiet (fail)
  go_wp2_with fail
  refine (CL.out nq).mono ?_
  rintro e w1 ⟨A1, c3, rfl, l1, _, _, bl1, own1⟩
  have B1 : Hid (Below w.heap.size w w1) := below_tr (below_drewN (Below.refl _ _) nq) bl1
  have O1 : Hid (w1.ownsRow w.heap.size T32 1 (.slice A1 n c3) n (xs.map fun x => Value.int .u32 (x : Nat))) := own1
  clear CL bl1 own1
  have O2 := hide (O1.out.alloc (.cells (cellsOf .u32 [0]) T32))
  have K0 := Blk.new w1 T32 (cellsOf .u32 [0])
  have R0 := hide (K0.rd 1 (by simp) (by omega))
  have B2 := hide (B1.out.alloc B1.out.size (.cells (cellsOf .u32 [0]) T32))
  have hz := B1.out.size
  clear K0
  have hmk := mk_nums (P := Tryd.prog) (t := 40) (e := 85) (k := .u32) (b := 4) (by kernel_rfl) info32 ((n : Int) + 1 - n') m (by omega) (by omega) (by omega)
  go_wp2_with (at_builtin; refine wpList_app (k := .u32) (b := 4) (t := 40) (e := 85) (by kernel_rfl) info32 _ rfl _ _ rfl w.heap.size n _ xs rfl O2.out (some ⟨w1.heap.size, 0, none⟩) 1 1 [0] rfl R0.out (by omega) (by omega) (by simp; omega) ?_; intro A3 c4 w3 q1 q2 q3 q4 q5; obtain ⟨g, c5, e3, l3, m3, B3, P3⟩ := own_pb q4.out (by omega); cases e3)
  have B4 := hide (B2.out.grown q5.out (by simp; omega) (fun k e => own_from O2.out e))
  have Pg := hide (P3.alloc (.cells (cellsOf .u32 (List.replicate m 0)) T32))
  have Pq := hide (Blk.new w3 T32 (cellsOf .u32 (List.replicate m 0)))
  have B5 := hide (B4.out.alloc B4.out.size (.cells (cellsOf .u32 (List.replicate m 0)) T32))
  have hgq : g < w3.heap.size := P3.lt
  have hq0 : w.heap.size ≤ w3.heap.size := B4.out.size
  have L0 := hide (LgInv.start p1.out p2.out hcc.out (by rw [r2.out.1]; omega) (by rw [r1.out.1, r2.out.1]; exact hl))
  rw [r1.out.1, r2.out.1, em.out] at L0
  clear hmk q1 q2 q3 q4 q5 P3 B2 B4 O1 O2 R0 c1 c2 hz l1
  go_loopw [10] (fun iv wr => ∃ i rs zs, i ≤ m ∧ iv = .int .i64 ((i : Int) - 1) ∧ Hid (PB .u32 wr g T32 rs) ∧ Hid (Blk wr w3.heap.size T32 (cellsOf .u32 zs)) ∧ Hid (Below w.heap.size w wr) ∧ Hid (LgInv i (xs ++ [0]) ys rs zs)) (fun iv _ => (intOf iv + 1).toNat)
  case atStart => exact ⟨m, _, _, Nat.le_refl _, rfl, Pg, Pq, B5, L0⟩
  case round =>
    obtain ⟨i, rs, zs, hi0, rfl, hpg, hpq, hbel, hinv⟩ := hrel
    have lr := hinv.out.len
    have lz := hinv.out.zlen
    rw [List.length_append, r1.out.1] at lr lz
    rw [r2.out.1] at lz
    simp only [List.length_cons, List.length_nil] at lr lz
    rcases i with _ | i
    · obtain ⟨ez, er⟩ := hinv.out.fin
      have z32 := hide hinv.out.z32
      have s32 := hide hinv.out.r32
      have C1 := hide (cut_ok wr (some ⟨w3.heap.size, 0, none⟩) m m zs (by have := hpq.out.rd m (by omega) (by omega); rw [List.take_of_length_le (by omega)] at this; exact this) (Nat.le_refl _))
      have C2 := hide (cut_ok wr (some ⟨g, 0, none⟩) (n + 1) c4 rs (by have := hpg.out.rd (n + 1) (by omega) (by omega); rw [List.take_of_length_le (by omega)] at this; exact this) (by omega))
      have N1 := hide (natR_of_blk (B := w.heap.size) hpq.out z32.out hq0 (by omega))
      have N2 := hide (natR_of_pb (B := w.heap.size) hpg.out s32.out B3 (by omega))
      have vx : val (xs ++ [0]) = val xs := by rw [val_append]; simp [val]
      rw [ez, vx] at N1
      rw [er, vx] at N2
      clear ez er vx lr lz hinv
      clear Pg Pq B5 L0 eh en em
      go_wp2_with fail
      refine C1.out.mono ?_
      rintro e w' ⟨rfl, rfl⟩
      clear C1
      go_wp2_with fail
      refine C2.out.mono ?_
      rintro e w' ⟨rfl, rfl⟩
      clear C2
      go_wp2
      exact opq_end hR ⟨_, _, rfl, N1.out, N2.out, hbel.out⟩
    · have ei : ((i + 1 : Nat) : Int) - 1 = (i : Int) := by omega
      rw [ei]
      have k1 := hpg.out.cell (i + n') (by omega)
      have k2 := hpg.out.cell (i + (n' - 1)) (by omega)
      have k3 := hpg.out.cell (i + (n' - 2)) (by omega)
      have d1 := is32_get hinv.out.r32 (i + n')
      have d2 := is32_get hinv.out.r32 (i + (n' - 1))
      have d3 := is32_get hinv.out.r32 (i + (n' - 2))
      have G := hide (gset_of hinv.out p2.out (by rw [r2.out.1]; exact h2) hcc.out (by omega))
      rw [r2.out.1, eh.out, en.out] at G
      obtain ⟨u2, e2⟩ : ∃ u2, Hid (rs.getD (i + n') 0 = u2) := ⟨_, hide rfl⟩
      obtain ⟨u1, e1⟩ : ∃ u1, Hid (rs.getD (i + (n' - 1)) 0 = u1) := ⟨_, hide rfl⟩
      obtain ⟨u0, e0⟩ : ∃ u0, Hid (rs.getD (i + (n' - 2)) 0 = u0) := ⟨_, hide rfl⟩
      rw [e2.out] at k1 d1
      rw [e1.out] at k2 d2
      rw [e0.out] at k3 d3
      rw [e2.out, e1.out, e0.out] at G
      have es : i + n' + 1 - i = n' + 1 := by omega
      have hh0 : 0 < hi := G.out.h0
      have hh1 : ((hi : Int) == 0) = false := by simp; omega
      have o1 := or_high d2 d1
      obtain ⟨T, eT⟩ : ∃ T, Hid (u2 * 4294967296 + u1 = T) := ⟨_, hide rfl⟩
      have T64 : T < 18446744073709551616 := by have := eT.out; omega
      rw [eT.out] at o1 G
      obtain ⟨qh, eqh⟩ : ∃ qh, Hid (T / hi = qh) := ⟨_, hide rfl⟩
      have qhT : qh ≤ T := by rw [← eqh.out]; exact Nat.div_le_self _ _
      have wq : IntKind.u64.wrap ((T : Int) / hi) = (qh : Int) := by
        rw [← Int.natCast_ediv, eqh.out, IntKind.wrap_u64]; omega
      obtain ⟨g0, eg0⟩ : ∃ g0, Hid (min qh 4294967295 = g0) := ⟨_, hide rfl⟩
      have hg0 : g0 < 4294967296 := by have := eg0.out; omega
      have hmin := fun ts t => run_min_int (P := Tryd.prog) ts t .u64 (qh : Int) 4294967295 g0 (by rw [← eg0.out]; omega)
      obtain ⟨q0, eq0⟩ : ∃ q0, Hid (g0 * hi = q0) := ⟨_, hide rfl⟩
      have hq0T : q0 ≤ T := by
        rw [← eq0.out, ← eg0.out, ← eqh.out]
        exact Nat.le_trans (Nat.mul_le_mul_right _ (Nat.min_le_left _ _)) (Nat.div_mul_le_self _ _)
      have wq0 : IntKind.u64.wrap ((g0 : Int) * hi) = (q0 : Int) := by
        rw [← Int.natCast_mul, eq0.out, IntKind.wrap_u64]; omega
      have wov : IntKind.u64.wrap ((T : Int) - q0) = ((T - q0 : Nat) : Int) := by rw [IntKind.wrap_u64]; omega
      obtain ⟨ov, eov⟩ : ∃ ov, Hid (T - q0 = ov) := ⟨_, hide rfl⟩
      rw [eov.out] at wov
      have I0 : Hid (T = ov + g0 * hi) := by
        show _ = _
        rw [eq0.out]; have := eov.out; omega
      have J0 : Hid (val (rs.drop i) < (g0 + 1) * val ys) := by rw [← eg0.out, ← eqh.out]; exact G.out.start
      have V0 := hide (MsInv.start (i := i) (bs := ys) (rs0 := rs) (g := 0) hinv.out.r32)
      go_wp2
      go_quiet (fail)
      clear k1 k2
      go_wp2
      clear wq wq0 wov hmin o1
      have D0 := hide eT.out
      clear eT
      go_loop [13, 14] (fun gv ov => ∃ gs o, gv = .int .u64 (gs : Nat) ∧ ov = .int .u64 (o : Nat) ∧ gs < 4294967296 ∧ o ≤ T ∧ Hid (T = o + gs * hi) ∧ Hid (val (rs.drop i) < (gs + 1) * val ys)) (fun gv _ => (intOf gv).toNat)
      case atStart => exact ⟨g0, ov, rfl, rfl, hg0, by have := eov.out; omega, I0, J0⟩
      case round =>
        obtain ⟨gs, o, rfl, rfl, hgs, hoT, I1, J1⟩ := hrel
        clear eqh qhT eg0 eq0 hq0T eov I0 J0 hg0
        obtain ⟨gn, egn⟩ : ∃ gn, Hid (gs * ne = gn) := ⟨_, hide rfl⟩
        have hgn : gn < 18446744073709551616 := by
          rw [← egn.out]
          have : gs * ne ≤ 4294967295 * 4294967295 := Nat.mul_le_mul (by omega) (by omega)
          omega
        have wgn : (gs : Int) * ne = (gn : Int) := by rw [← Int.natCast_mul, egn.out]
        have o2 := fun ho : o < 4294967296 => or_high d3 ho
        obtain ⟨z, ez⟩ : ∃ z, Hid (o * 4294967296 + u0 = z) := ⟨_, hide rfl⟩
        rw [ez.out] at o2
        by_cases hcond : o < 4294967296 ∧ z < gn
        · obtain ⟨ho, hz⟩ := hcond
          have t1 : ((o : Int) / 4294967296 == 0) = true := by simp; omega
          have o3 := o2 ho
          have t2 : decide ((z : Int) < gn) = true := by simpa using hz
          have t3 : decide (z < gn) = true := by simpa using hz
          have J2 : Hid (val (rs.drop i) < gs * val ys) := G.out.less I1.out (by rw [ez.out, egn.out]; exact hz)
          have g1 : 1 ≤ gs := by
            rcases Nat.eq_zero_or_pos gs with h0 | h0
            · have := J2.out; rw [h0, Nat.zero_mul] at this; omega
            · exact h0
          obtain ⟨k, hk⟩ : ∃ k, Hid (gs = k + 1) := ⟨gs - 1, by show _ = _; omega⟩
          have I2 : Hid (T = o + hi + k * hi) := by
            have := I1.out
            rw [hk.out, Nat.add_mul, Nat.one_mul] at this
            show _ = _
            omega
          rw [hk.out] at J2
          have ohi : o + hi ≤ T := by rw [I2.out]; exact Nat.le_add_right _ _
          clear o2
          go_wp2
          go_round
          case rel => exact ⟨k, o + hi, by have := hk.out; congr 1; omega, by go_num, by have := hk.out; omega, ohi, I2, J2⟩
          case measure => have := hk.out; simp [intOf]; omega
        · have E1 : Hid (gs * val ys < val (rs.drop i) + val ys) := G.out.enough hgs I1.out (by rw [ez.out, egn.out]; omega)
          have M0 := hide (MsInv.start (i := i) (g := gs) (bs := ys) hinv.out.r32)
          have hx : (((o : Int) / 4294967296 == 0) = true ∧ bits BinOp.or IntKind.u64 ((o : Int) * 4294967296) (u0 : Int) = (z : Int) ∧ decide ((z : Int) < gn) = false ∧ decide (z < gn) = false ∧ o < 4294967296) ∨ ((o : Int) / 4294967296 == 0) = false := by
            by_cases ho : o < 4294967296
            · exact .inl ⟨by simp; omega, o2 ho, by simp; omega, by simp; omega, ho⟩
            · exact .inr (by simp; omega)
          clear o2 hcond
          rcases hx with ⟨t1, o3, t2, t3, ho⟩ | t1
          all_goals
            go_wp2
            clear t1
            try clear t2
            try clear t3
            try clear o3
            have P1 := hide (hpg.out.drewN nq)
            have Q1 := hide (hpq.out.drewN nq)
            have W1 := hide (below_drewN hbel.out nq)
            have k4 := fun (j : Nat) (hj : j < n') => (hinv.out.len : rs.length = _)
            clear k3 k4 D0 V0 G I1 ez wgn egn hgn e0 e1 e2 d1 d2 d3 eh en b1 b2 hh0 hh1 T64 ei
            try clear ho
            go_loopw [15, 106] (fun ov kv wq => ∃ k o' rs', k ≤ n' ∧ kv = .int .i64 (k : Nat) ∧ ov = .int .u64 (o' : Nat) ∧ o' ≤ gs ∧ Hid (PB .u32 wq g T32 rs') ∧ Hid (Blk wq w3.heap.size T32 (cellsOf .u32 zs)) ∧ Hid (Below w.heap.size w wq) ∧ Hid (MsInv i k o' gs ys rs rs')) (fun _ kv _ => n' - (intOf kv).toNat)
            case atStart => exact ⟨0, 0, rs, by omega, rfl, rfl, by omega, P1, Q1, W1, M0⟩
            case round =>
              obtain ⟨k, o', rs', hk, rfl, rfl, ho', hpg', hpq', hbel', hms⟩ := hrel
              clear P1 Q1 W1 M0
              have lr' := hms.out.len
              by_cases hlt : k < n'
              · obtain ⟨ad', e', hb', hcl'⟩ := (r2.out.below hbel'.out).2.2 (by omega)
                cases e'
                have hy := hcl' k hlt
                have hcell := hpg'.out.cell (i + k) (by omega)
                have hfro := hpg'.out.frozen (i + k)
                have by_ := is32_get p2.out k
                have bd := is32_get hms.out.is32 (i + k)
                have T1 := hide (hms.out.step p2.out (by omega))
                have T0 := hide T1.out.le
                obtain ⟨y, ey⟩ : ∃ y, Hid (ys.getD k 0 = y) := ⟨_, hide rfl⟩
                obtain ⟨d, ed⟩ : ∃ d, Hid (rs'.getD (i + k) 0 = d) := ⟨_, hide rfl⟩
                rw [ey.out] at hy by_ T1 T0
                rw [ed.out] at hcell bd T1 T0
                obtain ⟨pr, epr⟩ : ∃ pr, Hid (gs * y = pr) := ⟨_, hide rfl⟩
                have hpr : pr ≤ 18446744065119617025 := by
                  rw [← epr.out]
                  exact Nat.mul_le_mul (Nat.le_of_lt_succ hgs) (Nat.le_of_lt_succ by_)
                have wpr : (gs : Int) * y = (pr : Int) := by rw [← Int.natCast_mul, epr.out]
                rw [epr.out] at T1 T0
                obtain ⟨p, ep⟩ : ∃ p, Hid (pr + o' = p) := ⟨_, hide rfl⟩
                have hp : p < 18446744073709551616 := by have := ep.out; omega
                have wp : (pr : Int) + o' = (p : Int) := by have := ep.out; omega
                rw [ep.out] at T1 T0
                have T2 := hide (hpg'.out.set_ (i + k) (msd p d) (by omega))
                have T3 := hide (hbel'.out.setCell (p := ⟨g, i + k, none⟩) B3 (.int .u32 ((msd p d : Nat) : Int)))
                have T4 := hide (hpq'.out.far (p := ⟨g, i + k, none⟩) (by show w3.heap.size ≠ g; omega) (.int .u32 ((msd p d : Nat) : Int)))
                have es : ((d : Int) - (p : Int) % 4294967296) % 4294967296 = ((msd p d : Nat) : Int) := by
                  unfold msd
                  omega
                clear hcl' lr' epr ep ey ed
                by_cases hd : d < p % 4294967296
                · have t1 : decide ((d : Int) < (p : Int) % 4294967296) = true := by simp; omega
                  have t2 : decide (d < p % 4294967296) = true := by simpa using hd
                  have eb : ((p : Int) / 4294967296 + 1) = ((msb p d : Nat) : Int) := by
                    unfold msb; rw [if_pos hd]; omega
                  go_wp2
                  go_roundw
                  case rel =>
                    exact ⟨k + 1, _, _, by omega, by go_num, eb ▸ rfl, T0.out, T2, T4, T3, T1⟩
                  case measure => simp [intOf]; omega
                · have t1 : decide ((d : Int) < (p : Int) % 4294967296) = false := by simp; omega
                  have t2 : decide (d < p % 4294967296) = false := by simpa using hd
                  have eb : ((p : Int) / 4294967296) = ((msb p d : Nat) : Int) := by
                    unfold msb; rw [if_neg hd]; omega
                  have es' : ((d : Int) - (p : Int) % 4294967296) = ((msd p d : Nat) : Int) := by
                    unfold msd
                    omega
                  clear es
                  go_wp2
                  go_roundw
                  case rel =>
                    exact ⟨k + 1, _, _, by omega, by go_num, eb ▸ rfl, T0.out, T2, T4, T3, T1⟩
                  case measure => simp [intOf]; omega
              · obtain rfl : k = n' := by omega
                have hcell := hpg'.out.cell (i + k) (by omega)
                have hfro := hpg'.out.frozen (i + k)
                have bd := is32_get hms.out.is32 (i + k)
                obtain ⟨t, et⟩ : ∃ t, Hid (rs'.getD (i + k) 0 = t) := ⟨_, hide rfl⟩
                rw [et.out] at hcell bd
                obtain ⟨ys', eys⟩ : ∃ n, Hid (ys.length = n) := ⟨_, hide rfl⟩
                by_cases hd : t < o'
                · have t1 : decide ((t : Int) < (o' : Int)) = true := by simpa using hd
                  have t2 : decide (t < o') = true := by simpa using hd
                  have E3 := hide (fun cy rs3 (A : AbInv i ys.length cy ys rs' rs3) => hinv.out.no p2.out (by omega) (by rw [r2.out.1]; exact hms.out) hgs E1.out (by rw [r2.out.1, et.out]; exact hd) A)
                  have M1 := hide (AbInv.start (i := i) (bs := ys) hms.out.is32)
                  go_wp2
                  have g1 : 1 ≤ gs := by omega
                  clear hcell hfro bd 
                  go_loopw [19, 148] (fun cv kv wv => ∃ j cy rs3, j ≤ k ∧ kv = .int .i64 (j : Nat) ∧ cv = .int .u32 (cy : Nat) ∧ cy < 2 ∧ Hid (PB .u32 wv g T32 rs3) ∧ Hid (Blk wv w3.heap.size T32 (cellsOf .u32 zs)) ∧ Hid (Below w.heap.size w wv) ∧ Hid (AbInv i j cy ys rs' rs3)) (fun _ kv _ => k - (intOf kv).toNat)
                  case atStart => exact ⟨0, 0, _, by omega, rfl, rfl, by omega, hpg', hpq', hbel', M1⟩
                  case round =>
                    obtain ⟨j, cy, rs3, hj, rfl, rfl, hcy, hpg3, hpq3, hbel3, hab⟩ := hrel
                    clear hpg' hpq' hbel' M1
                    have lr3 := hab.out.len
                    by_cases hlt3 : j < k
                    · obtain ⟨ad', e', hb', hcl'⟩ := (r2.out.below hbel3.out).2.2 (by omega)
                      cases e'
                      have hy := hcl' j hlt3
                      have hcell := hpg3.out.cell (i + j) (by omega)
                      have hfro := hpg3.out.frozen (i + j)
                      have by_ := is32_get p2.out j
                      have bd := is32_get hab.out.is32 (i + j)
                      have T1 := hide (hab.out.step p2.out (by omega))
                      have T0 := hide T1.out.lt
                      obtain ⟨y, ey⟩ : ∃ y, Hid (ys.getD j 0 = y) := ⟨_, hide rfl⟩
                      obtain ⟨d, ed⟩ : ∃ d, Hid (rs3.getD (i + j) 0 = d) := ⟨_, hide rfl⟩
                      rw [ey.out] at hy by_ T1 T0
                      rw [ed.out] at hcell bd T1 T0
                      have T2 := hide (hpg3.out.set_ (i + j) ((d + y + cy) % 4294967296) (by omega))
                      have T3 := hide (hbel3.out.setCell (p := ⟨g, i + j, none⟩) B3 (.int .u32 (((d + y + cy) % 4294967296 : Nat) : Int)))
                      have T4 := hide (hpq3.out.far (p := ⟨g, i + j, none⟩) (by show w3.heap.size ≠ g; omega) (.int .u32 (((d + y + cy) % 4294967296 : Nat) : Int)))
                      clear hcl' lr3 ey ed
                      have CC := hide (fun w => add32_ok w d y cy bd by_ (by omega))
                      go_wp2_with (go_at_call 104; refine (CC.out _).mono ?_; rintro e w' ⟨rfl, rfl⟩)
                      go_roundw
                      case rel => exact ⟨j + 1, _, _, by omega, by go_num, rfl, T0.out, T2, T4, T3, T1⟩
                      case measure => simp [intOf]; omega
                    · obtain rfl : j = k := by omega
                      have hcell := hpg3.out.cell (i + j) (by omega)
                      have hfro := hpg3.out.frozen (i + j)
                      have hcq := hpq3.out.cell i
                      rw [cellsOf_get _ _ _ (by omega)] at hcq
                      have hfq := hpq3.out.frozen i
                      obtain ⟨gp, rfl⟩ : ∃ gp, gs = gp + 1 := ⟨gs - 1, by omega⟩
                      have eg : ((gp + 1 : Nat) : Int) - 1 = (gp : Int) := by omega
                      rw [eg]
                      have E4 := hide (E3.out cy rs3 (by rw [r2.out.1]; exact hab.out)).1
                      rw [r2.out.1, Nat.add_sub_cancel] at E4
                      have T2 := hide (hpg3.out.set_ (i + j) 0 (by omega))
                      have T3 := hide (hbel3.out.setCell (p := ⟨g, i + j, none⟩) B3 (.int .u32 ((0 : Nat) : Int)))
                      have T4 := hide (hpq3.out.far (p := ⟨g, i + j, none⟩) (by show w3.heap.size ≠ g; omega) (.int .u32 ((0 : Nat) : Int)))
                      have V2 := hide (T2.out.far (p := ⟨w3.heap.size, i, none⟩) (by show g ≠ w3.heap.size; omega) (.int .u32 (gp : Nat)))
                      have V3 := hide (T3.out.setCell (p := ⟨w3.heap.size, i, none⟩) hq0 (.int .u32 (gp : Nat)))
                      have V4 := hide (T4.out.set_ i (.int .u32 (gp : Nat)))
                      rw [cellsOf_set] at V4
                      clear T2 T3 T4
                      go_wp2
                      go_roundw
                      case rel => exact ⟨i, _, _, by omega, rfl, V2, V4, V3, E4⟩
                      case measure => simp [intOf] <;> omega
                · have t1 : decide ((t : Int) < (o' : Int)) = false := by simp; omega
                  have t2 : decide (t < o') = false := by simpa using hd
                  have E2 := hide (hinv.out.yes p2.out (by omega) (by rw [r2.out.1]; exact hms.out) hgs J1.out (by rw [r2.out.1, et.out]; omega))
                  rw [r2.out.1] at E2
                  have hcq := hpq'.out.cell i
                  rw [cellsOf_get _ _ _ (by omega)] at hcq
                  have hfq := hpq'.out.frozen i
                  have T2 := hide (hpg'.out.set_ (i + k) 0 (by omega))
                  have T3 := hide (hbel'.out.setCell (p := ⟨g, i + k, none⟩) B3 (.int .u32 ((0 : Nat) : Int)))
                  have T4 := hide (hpq'.out.far (p := ⟨g, i + k, none⟩) (by show w3.heap.size ≠ g; omega) (.int .u32 ((0 : Nat) : Int)))
                  have V2 := hide (T2.out.far (p := ⟨w3.heap.size, i, none⟩) (by show g ≠ w3.heap.size; omega) (.int .u32 (gs : Nat)))
                  have V3 := hide (T3.out.setCell (p := ⟨w3.heap.size, i, none⟩) hq0 (.int .u32 (gs : Nat)))
                  have V4 := hide (T4.out.set_ i (.int .u32 (gs : Nat)))
                  rw [cellsOf_set] at V4
                  clear T2 T3 T4
                  go_wp2
                  go_roundw
                  case rel => exact ⟨i, _, _, by omega, rfl, V2, V4, V3, E2⟩
                  case measure => simp [intOf] <;> omega
end Go.Proofs.YtfpnhggbfakdkaaDoor

/- nats: leading zeros. -/
set_option linter.unusedVariables false
set_option linter.unusedSimpArgs false
set_option maxRecDepth 100000
namespace Go.Proofs.YtfpnhggbfakdkaaDoor
open Go.RowKit

theorem wrap64_id {x : Int} (h0 : 0 ≤ x) (h1 : x ≤ 1000) : wrap64 x = x := by unfold wrap64; omega
theorem byte_le {B : ByteArray} (hB : (B.data.toList.all fun b => b.toNat ≤ 8) = true) (i : Nat) (h : i < B.size) : B[i].toNat ≤ 8 := by
  rw [List.all_eq_true] at hB
  have := hB B[i] (by
    have : B.data[i] ∈ B.data.toList := by simp
    exact this)
  simpa using this
theorem len_end (c : Int) (h0 : 0 ≤ c) (h1 : c ≤ 24) {B : ByteArray} {i : Nat} {h : i < B.size} (hB : (B.data.toList.all fun b => b.toNat ≤ 8) = true) (w : World) :
    ∃ k : Nat, Ending.returned (.int .i64 (wrap64 (c + wrap64 (B[i].toNat : Int)))) = .returned (.int .i64 (k : Nat)) ∧ k ≤ 32 ∧ w = w := by
  have hb := byte_le hB i h
  generalize B[i].toNat = b at *
  refine ⟨c.toNat + b, ?_, by omega, rfl⟩
  have e1 : wrap64 (b : Int) = b := wrap64_id (by omega) (by omega)
  rw [e1, wrap64_id (by omega) (by omega)]
  congr 2
  omega
theorem len_end0 {B : ByteArray} {i : Nat} {h : i < B.size} (hB : (B.data.toList.all fun b => b.toNat ≤ 8) = true) (w : World) :
    ∃ k : Nat, Ending.returned (.int .i64 (wrap64 (wrap64 (B[i].toNat : Int)))) = .returned (.int .i64 (k : Nat)) ∧ k ≤ 32 ∧ w = w := by
  have hb := byte_le hB i h
  generalize B[i].toNat = b at *
  refine ⟨b, ?_, by omega, rfl⟩
  have e1 : wrap64 (b : Int) = b := wrap64_id (by omega) (by omega)
  rw [e1, e1]
theorem len32_ok (w : World) (x : Nat) (hx : x < 4294967296) :
    Calls Tryd.prog 106 #[.int .u32 (x : Nat)] w fun e w' => ∃ k : Nat, e = .returned (.int .i64 (k : Nat)) ∧ k ≤ 32 ∧ w = w' := by
  refine opq fun R hR => ?_
  by_cases h1 : 65536 ≤ x
  · have t2 : decide ((65536 : Int) ≤ x) = true := by simp; omega
    by_cases h2 : 256 ≤ x / 65536
    · have t3 : decide ((x : Int) / 65536 ≥ 256) = true := by simp; omega
      go_enter Tryd.func106, Tryd.ntmps106
      go_wp2
      exact opq_end hR (len_end 24 (by decide) (by decide) (by decide) w)
    · have t3 : decide ((x : Int) / 65536 ≥ 256) = false := by simp; omega
      go_enter Tryd.func106, Tryd.ntmps106
      go_wp2
      exact opq_end hR (len_end 16 (by decide) (by decide) (by decide) w)
  · have t2 : decide ((65536 : Int) ≤ x) = false := by simp; omega
    by_cases h2 : 256 ≤ x
    · have t3 : decide ((x : Int) ≥ 256) = true := by simp; omega
      go_enter Tryd.func106, Tryd.ntmps106
      go_wp2
      exact opq_end hR (len_end 8 (by decide) (by decide) (by decide) w)
    · have t3 : decide ((x : Int) ≥ 256) = false := by simp; omega
      go_enter Tryd.func106, Tryd.ntmps106
      go_wp2
      first
        | exact opq_end hR (len_end0 (by decide) w)
        | exact opq_end hR (len_end 0 (by decide) (by decide) (by decide) w)
theorem lead32_ok (w : World) (x : Nat) (hx : x < 4294967296) :
    Calls Tryd.prog 102 #[.int .u32 (x : Nat)] w fun e w' => ∃ k : Nat, e = .returned (.int .i64 (k : Nat)) ∧ k ≤ 32 ∧ w = w' := by
  refine opq fun R hR => ?_
  have C := hide (len32_ok w x hx)
  go_enter Tryd.func102, Tryd.ntmps102
  go_wp2_with fail
  refine C.out.mono ?_
  rintro e w' ⟨k, rfl, hk, rfl⟩
  go_wp2
  exact opq_end hR ⟨32 - k, by show Ending.returned (.int .i64 _) = _; congr 2; omega, by omega, rfl⟩

theorem short_can {w : World} {v : Value} {N : Nat} (b : Nat) (h : Can w v N) (s : Sm N) (hb0 : 0 < b) (hb : b < 4294967296) :
    Calls Tryd.prog 101 #[v, .int .u32 (b : Nat)] w fun e w' => ∃ u, e = .returned (.tuple #[u, .int .u32 (N % b : Nat)]) ∧ Hid (NatR (N / b) w.heap.size w' u) ∧ Hid (Below w.heap.size w w') := by
  obtain ⟨A, c, rfl, l, r⟩ := h
  have s0 : (limbs N).length ≤ 17592186044416 := s
  have := short_ok w A _ c b _ r (is32_limbs N) (by omega) hb0 hb
  rw [val_limbs] at this
  exact this
theorem long_can {w : World} {v v' : Value} {M N : Nat} (h : Can w v M) (h' : Can w v' N) (s : Sm M) (hl : N ≤ M) (h2 : 2 ≤ (limbs N).length) :
    Calls Tryd.prog 103 #[v, v'] w fun e w' => ∃ u t, e = .returned (.tuple #[u, t]) ∧ Hid (NatR (M / N) w.heap.size w' u) ∧ Hid (NatR (M % N) w.heap.size w' t) ∧ Hid (Below w.heap.size w w') := by
  obtain ⟨A, c, rfl, l, r⟩ := h
  obtain ⟨A', c', rfl, l', r'⟩ := h'
  have := long_ok w A A' _ _ c c' _ _ r r' (is32_limbs M) (is32_limbs N) s (limbs_len_mono hl) h2 (chk_limbs N)
  rw [val_limbs, val_limbs] at this
  exact this
end Go.Proofs.YtfpnhggbfakdkaaDoor

/- nats: Div. -/
set_option linter.unusedVariables false
set_option linter.unusedSimpArgs false
set_option maxRecDepth 100000
namespace Go.Proofs.YtfpnhggbfakdkaaDoor
open Go.RowKit

/-- Nothing that the one may come to write is the other's. -/
def Sep (v u : Value) : Prop := ∀ A n c A' n' c', v = .slice A n c → u = .slice A' n' c' → c = 0 ∨ c' = 0 ∨ ∃ a a', A = some a ∧ A' = some a' ∧ a.block ≠ a'.block
theorem Sep.symm {v u : Value} (h : Sep v u) : Sep u v := fun A n c A' n' c' e e' => by
  rcases h A' n' c' A n c e' e with h1 | h1 | ⟨a, a', h1, h2, h3⟩
  · exact .inr (.inl h1)
  · exact .inl h1
  · exact .inr (.inr ⟨a', a, h2, h1, fun q => h3 q.symm⟩)
theorem sep_of {t t' : TypeId} {B : Nat} {w w' : World} {A A' : Option Addr} {n n' c c' : Nat} (h : Fr t B w A c) (h' : Fr t' w.heap.size w' A' c') : Sep (.slice A n c) (.slice A' n' c') := fun _ _ _ _ _ _ e e' => by
  cases e; cases e'
  rcases h with h | ⟨g, cs, e, hg, hk, hc⟩
  · exact .inl h
  · rcases h' with h' | ⟨g', cs', e', hg', hk', hc'⟩
    · exact .inr (.inl h')
    · exact .inr (.inr ⟨_, _, e, e', by have := hk.lt; show g ≠ g'; omega⟩)
theorem NatR.sep {M N B : Nat} {w w' : World} {v u : Value} (h : NatR M B w v) (h' : NatR N w.heap.size w' u) : Sep v u := by
  obtain ⟨A, c, rfl, _, f, _⟩ := h
  obtain ⟨A', c', rfl, _, f', _⟩ := h'
  exact sep_of f f'
theorem NatR.zero (B : Nat) (w : World) : NatR 0 B w (.slice none 0 0) := by
  refine ⟨none, 0, by rw [limbs_zero]; rfl, by rw [limbs_zero]; exact Rdk.nil _ _ _, .inl rfl, by rw [limbs_zero]; exact Nat.le_refl _⟩
theorem Sep.nil (v : Value) : Sep (.slice none 0 0) v := fun _ _ _ _ _ _ e _ => by cases e; exact .inl rfl
theorem can_of {w : World} {A : Option Addr} {n c : Nat} {xs : List Nat} (h : Rd w A n xs) (h32 : Is32 xs) (hc : chk xs = true) (hl : n ≤ c) : Can w (.slice A n c) (val xs) := by
  have e := limbs_val_chk h32 hc
  exact ⟨A, c, by rw [e, h.1], by rw [e, h.1]; exact hl, by rw [e, h.1]; exact h⟩
theorem sm_shift {N k : Nat} (h : (limbs N).length ≤ 17592186044415) (hk : k ≤ 32) : Sm (N * 2 ^ k) := by
  refine Nat.le_trans (limbs_length_le.2 ?_ : _ ≤ (limbs N).length + 1) (by omega)
  have h1 := (limbs_length_le (n := N)).1 (Nat.le_refl _)
  rw [Nat.pow_succ]
  have h2 : (2:Nat) ^ k ≤ 2 ^ 32 := Nat.pow_le_pow_right (by omega) hk
  have h3 : (2:Nat) ^ k ≤ 4294967296 := h2
  refine Nat.lt_of_le_of_lt (Nat.mul_le_mul_left _ h3) ?_
  exact Nat.mul_lt_mul_of_pos_right h1 (by omega)
theorem addr0 (ad : Addr) : ad.add (1 - 1) = ad := by unfold Addr.add; split <;> simp_all
theorem div_shift (M N k : Nat) : M * 2 ^ k / (N * 2 ^ k) = M / N := Nat.mul_div_mul_right _ _ (Nat.pow_pos (by omega))
theorem mod_shift (M N k : Nat) : M * 2 ^ k % (N * 2 ^ k) / 2 ^ k = M % N := by
  rw [Nat.mul_mod_mul_right, Nat.mul_div_cancel _ (Nat.pow_pos (by omega))]
theorem limbs_shift_len {N k : Nat} (h : 2 ≤ (limbs N).length) : 2 ≤ (limbs (N * 2 ^ k)).length := by
  refine Nat.le_trans h (limbs_len_mono ?_)
  exact Nat.le_mul_of_pos_right _ (Nat.pow_pos (by omega))

set_option maxHeartbeats 2000000 in
theorem Div_ok (w : World) (A A' : Option Addr) (n n' c c' : Nat) (xs ys : List Nat) (h : Rd w A n xs) (h' : Rd w A' n' ys) (h32 : Is32 xs) (h32' : Is32 ys) (hn : n ≤ 8796093022208) (hn' : n' ≤ 8796093022208) (hc : n ≤ c) (hc' : n' ≤ c') :
    Calls Tryd.prog 96 #[.slice A n c, .slice A' n' c'] w fun e w' =>
      (if chk xs = true ∧ chk ys = true then
        if ys = [] then e = .returned (.tuple #[.slice none 0 0, .slice none 0 0, .int .i64 10])
        else ∃ v u, e = .returned (.tuple #[v, u, .int .i64 0]) ∧ NatR (val xs / val ys) w.heap.size w' v ∧ NatR (val xs % val ys) w.heap.size w' u ∧ Sep v u
      else e = .returned (.tuple #[.slice none 0 0, .slice none 0 0, .int .i64 1])) ∧ Below w.heap.size w w' := by
  refine opq fun R hR => ?_
  have r1 := hide h
  have r2 := hide h'
  have p1 := hide h32
  have p2 := hide h32'
  have C1 := hide (Check_ok w A n c xs h)
  have C2 := hide (Check_ok w A' n' c' ys h')
  clear h h' h32 h32'
  go_enter Tryd.func96, Tryd.ntmps96
  by_cases k1 : chk xs = true
  case neg =>
    have k2 : chk xs = false := by simpa using k1
    rw [k2] at C1
    go_wp2_with (go_at_call 51; refine C1.out.mono ?_; rintro e w' ⟨rfl, rfl⟩)
    go_ret3
    refine opq_end hR ?_
    refine ⟨?_, Below.refl _ _⟩
    rw [if_neg (fun q => k1 q.1)]
    rfl
  rw [k1] at C1
  by_cases k3 : chk ys = true
  case neg =>
    have k2 : chk ys = false := by simpa using k3
    rw [k2] at C2
    go_wp2_with fail
    refine C1.out.mono ?_; rintro e w' ⟨rfl, rfl⟩
    go_wp2_with fail
    refine C2.out.mono ?_; rintro e w' ⟨rfl, rfl⟩
    go_wp2
    go_ret3
    refine opq_end hR ?_
    refine ⟨?_, Below.refl _ _⟩
    rw [if_neg (fun q => k3 q.2)]
    rfl
  rw [k3] at C2
  go_wp2_with fail
  refine C1.out.mono ?_; rintro e w' ⟨rfl, rfl⟩
  go_wp2_with fail
  refine C2.out.mono ?_; rintro e w' ⟨rfl, rfl⟩
  by_cases h0 : n' = 0
  · subst h0
    go_wp2
    go_ret3
    refine opq_end hR ?_
    refine ⟨?_, Below.refl _ _⟩
    rw [if_pos ⟨k1, k3⟩, if_pos r2.out.nil_iff]
    rfl
  have m1 := hide (can_of r1.out p1.out k1 hc)
  have m2 := hide (can_of r2.out p2.out k3 hc')
  have s1 : Hid ((limbs (val xs)).length ≤ 8796093022208) := by
    show _ ≤ _
    rw [limbs_val_chk p1.out k1, r1.out.1]; exact hn
  have e2 : Hid ((limbs (val ys)).length = n') := by
    show _ = _
    rw [limbs_val_chk p2.out k3, r2.out.1]
  have s2 : Hid ((limbs (val ys)).length ≤ 8796093022208) := by
    show _ ≤ _
    rw [e2.out]; exact hn'
  have yn : ¬ ys = [] := fun q => h0 (by rw [← r2.out.1, q]; rfl)
  have t0 : ((n' : Int) == 0) = false := by rw [beq_nat0]; simpa using h0
  have CC := hide (Cmp_can m1.out m2.out (Nat.le_trans s1.out (by omega)) (Nat.le_trans s2.out (by omega)))
  by_cases lt : val xs < val ys
  · have cm : cmpN (val xs) (val ys) = -1 := by unfold cmpN; rw [if_pos lt]
    rw [cm] at CC
    go_wp2_with fail
    refine CC.out.mono ?_; rintro e w1 ⟨rfl, b1⟩
    have B1 := hide b1
    clear b1
    go_wp2_with fail
    refine (clone_fine w1 A n c xs (r1.out.below B1.out) ⟨p1.out, k1⟩ (by omega)).mono ?_
    rintro e w2 ⟨A1, c1, rfl, N1, B2⟩
    go_wp2
    go_ret3
    refine opq_end hR ?_
    refine ⟨?_, below_tr B1.out B2.out⟩
    rw [if_pos ⟨k1, k3⟩, if_neg yn]
    refine ⟨_, _, rfl, ?_, ?_, Sep.nil _⟩
    · rw [Nat.div_eq_of_lt lt]; exact NatR.zero _ _
    · rw [Nat.mod_eq_of_lt lt]; exact N1.out.mono B1.out.size
  have cm : decide (cmpN (val xs) (val ys) < 0) = false := by unfold cmpN; rw [if_neg lt]; split <;> decide
  have hle : Hid (val ys ≤ val xs) := Nat.le_of_not_lt lt
  obtain ⟨ad, rfl, had, hcl⟩ := r2.out.2.2 (by omega)
  have hy := hcl (n' - 1) (by omega)
  have by_ := is32_get p2.out (n' - 1)
  clear hcl
  obtain ⟨y, ey'⟩ : ∃ y, Hid (ys.getD (n' - 1) 0 = y) := ⟨_, hide rfl⟩
  rw [ey'.out] at hy by_
  generalize cmpN (val xs) (val ys) = cc at *
  by_cases h1 : n' = 1
  · subst h1
    rw [addr0] at hy
    have evy : Hid (val ys = y) := by
      show _ = _
      rcases ys with _ | ⟨z, zs⟩
      · exact absurd rfl yn
      · have := r2.out.1
        obtain rfl : zs = [] := List.eq_nil_of_length_eq_zero (by simpa using this)
        have e := ey'.out
        rw [val_cons, val_nil]
        simpa using e
    have y0 : 0 < y := by
      rw [← evy.out]
      rcases Nat.eq_zero_or_pos (val ys) with q | q
      · have := e2.out
        rw [q, limbs_zero] at this
        exact absurd this (by decide)
      · exact q
    go_wp2_with fail
    refine CC.out.mono ?_; rintro e w1 ⟨rfl, b1⟩
    have B1 := hide b1
    have hy1 := cell_below b1 hy
    clear b1
    go_wp2_with fail
    refine (short_can y (m1.out.below B1.out) (Nat.le_trans s1.out (by omega)) y0 by_).mono ?_
    rintro e w2 ⟨u, rfl, N2, B2⟩
    have ml : val xs % y < 18446744073709551616 := by have := Nat.mod_lt (val xs) y0; omega
    go_wp2_with fail
    refine (Of_ok w2 (val xs % y) ml).mono ?_
    rintro e w3 ⟨t, rfl, N3, B3⟩
    go_wp2
    go_ret3
    refine opq_end hR ?_
    refine ⟨?_, below_tr (below_tr B1.out B2.out) B3⟩
    rw [if_pos ⟨k1, k3⟩, if_neg yn, evy.out]
    exact ⟨_, _, rfl, (N2.out.below B3).mono B1.out.size, N3.mono (Nat.le_trans B1.out.size B2.out.size), N2.out.sep N3⟩
  · have t1 : ((n' : Int) == 1) = false := by simp; omega
    have k2n : 2 ≤ n' := by omega
    go_wp2_with fail
    refine CC.out.mono ?_; rintro e w1 ⟨rfl, b1⟩
    have B1 := hide b1
    have hy1 := cell_below b1 hy
    clear b1
    go_wp2_with fail
    refine (lead32_ok w1 y by_).mono ?_
    rintro e w' ⟨k, rfl, hk, rfl⟩
    go_wp2_with fail
    refine (shift_can k (m1.out.below B1.out) (Nat.le_trans s1.out (by omega)) (by omega)).mono ?_
    rintro e w2 ⟨u2, rfl, N2, B2⟩
    go_wp2_with fail
    refine (shift_can k ((m2.out.below B1.out).below B2.out) (Nat.le_trans s2.out (by omega)) (by omega)).mono ?_
    rintro e w3 ⟨u3, rfl, N3, B3⟩
    have SM := hide (sm_shift (Nat.le_trans s1.out (by omega)) hk)
    go_wp2_with fail
    refine (long_can (N2.out.can.below B3.out) N3.out.can SM.out (Nat.mul_le_mul_right _ hle.out) (limbs_shift_len (by rw [e2.out]; exact k2n))).mono ?_
    rintro e w4 ⟨u4, t4, rfl, N4, M4, B4⟩
    rw [div_shift] at N4
    have SR := hide (SM.out.mono (Nat.mod_le (val xs * 2 ^ k) (val ys * 2 ^ k)))
    go_wp2_with fail
    refine (back_can k M4.out.can SR.out (by omega)).mono ?_
    rintro e w5 ⟨u5, rfl, N5, B5⟩
    rw [mod_shift] at N5
    go_wp2
    have z1 := B1.out.size
    have z2 := B2.out.size
    have z3 := B3.out.size
    have z4 := B4.out.size
    go_ret3
    refine opq_end hR ?_
    refine ⟨?_, below_tr (below_tr (below_tr (below_tr B1.out B2.out) B3.out) B4.out) B5.out⟩
    rw [if_pos ⟨k1, k3⟩, if_neg yn]
    exact ⟨_, _, rfl, (N4.out.below B5.out).mono (by omega), N5.out.mono (by omega), N4.out.sep N5.out⟩
end Go.Proofs.YtfpnhggbfakdkaaDoor

/- nats: Back. -/
set_option linter.unusedVariables false
set_option linter.unusedSimpArgs false
set_option maxRecDepth 100000
namespace Go.Proofs.YtfpnhggbfakdkaaDoor
open Go.RowKit

end Go.Proofs.YtfpnhggbfakdkaaDoor
