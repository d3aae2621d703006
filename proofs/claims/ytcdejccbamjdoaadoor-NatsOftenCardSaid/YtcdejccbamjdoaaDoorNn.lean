/- nats: long. -/
import Derived.Test.YtcdejccbamjdoaaDoorNm
import Derived.Test.YtcdejccbamjdoaaDoorCore2
import Derived.Test.YtcdejccbamjdoaaDoorLm8
set_option linter.unusedVariables false
set_option linter.unusedSimpArgs false
set_option maxRecDepth 100000
namespace Go.Proofs.YtcdejccbamjdoaaDoor
open Go.RowKit

theorem run_min_int {P : Program} (ts : Array TypeId) (t : TypeId) (k : IntKind) (a b : Int) (m : Nat) (h : (m : Int) = min a b) (W : World) :
    (Builtin.min_ ts t #[.int k a, .int k b]).run P W = .ok (.int k (m : Int)) W := by
  have e : (if b < a then b else a) = (m : Int) := by split <;> omega
  simp [Builtin.min_, Builtin.min2]
  simpa using e
set_option maxHeartbeats 4000000 in
theorem long_ok (w : World) (A A' : Option Addr) (n n' c c' : Nat) (xs ys : List Nat) (h : Rd w A n xs) (h' : Rd w A' n' ys) (h32 : Is32 xs) (h32' : Is32 ys) (hn : n ≤ 17592186044416) (hl : n' ≤ n) (h2 : 2 ≤ n') (hc : chk ys = true) :
    Calls Tryd.prog 63 #[.slice A n c, .slice A' n' c'] w fun e w' => ∃ v u, e = .returned (.tuple #[v, u]) ∧ NatR (val xs / val ys) w.heap.size w' v ∧ NatR (val xs % val ys) w.heap.size w' u ∧ Below w.heap.size w w' := by
  refine opq fun R hR => ?_
  obtain ⟨ad, rfl, had, hcl⟩ := h'.2.2 (by omega)
  have c1 := hcl (n' - 1) (by omega)
  have c2 := hcl (n' - 2) (by omega)
  have b1 := is32_get h32' (n' - 1)
  have b2 := is32_get h32' (n' - 2)
  have CL := hide (fun q => clone_ok (w.drewN q) A n c xs h (by omega))
  have r1 := hide h
  have r2 := hide h'
  have p1 := hide h32
  have p2 := hide h32'
  have hcc := hide hc
  obtain ⟨hi, eh⟩ : ∃ hi, Hid (ys.getD (n' - 1) 0 = hi) := ⟨_, hide rfl⟩
  obtain ⟨ne, en⟩ : ∃ ne, Hid (ys.getD (n' - 2) 0 = ne) := ⟨_, hide rfl⟩
  rw [eh.out] at c1 b1
  rw [en.out] at c2 b2
  clear h h' h32 h32' hc hcl
  obtain ⟨m, em⟩ : ∃ m, Hid (n + 1 - n' = m) := ⟨_, hide rfl⟩
  have hm1 : m + n' = n + 1 := by have := em.out; omega
  go_enter Tryd.func63, Tryd.ntmps63
  go_wp2
  go_quiet (fail)
  go_wp2_with fail
  refine (CL.out nq).mono ?_
  rintro e w1 ⟨A1, c3, rfl, l1, _, _, bl1, own1⟩
  have B1 : Hid (Below w.heap.size w w1) := below_tr (below_drewN (Below.refl _ _) nq) bl1
  have O1 : Hid (w1.ownsRow w.heap.size T32 1 (.slice A1 n c3) n (xs.map fun x => Value.int .u32 (x : Nat))) := own1
  clear CL bl1 own1
  have O2 := hide (O1.out.alloc (.cells (cellsOf .u32 [0]) T32))
  have K0 := Blk.new w1 T32 (cellsOf .u32 [0])
  have R0 := hide (K0.rd 1 (by simp) (by omega))
  have B2 := hide (B1.out.alloc B1.out.size (.cells (cellsOf .u32 [0]) T32))
  have hz := B1.out.size
  clear K0
  have hmk := mk_nums (P := Tryd.prog) (t := 23) (e := 55) (k := .u32) (b := 4) (by kernel_rfl) info32 ((n : Int) + 1 - n') m (by omega) (by omega) (by omega)
  go_wp2_with (at_builtin; refine wpList_app (k := .u32) (b := 4) (t := 23) (e := 55) (by kernel_rfl) info32 _ rfl _ _ rfl w.heap.size n _ xs rfl O2.out (some ⟨w1.heap.size, 0, none⟩) 1 1 [0] rfl R0.out (by omega) (by omega) (by simp; omega) ?_; intro A3 c4 w3 q1 q2 q3 q4 q5; obtain ⟨g, c5, e3, l3, m3, B3, P3⟩ := own_pb q4.out (by omega); cases e3)
  have B4 := hide (B2.out.grown q5.out (by simp; omega) (fun k e => own_from O2.out e))
  have Pg := hide (P3.alloc (.cells (cellsOf .u32 (List.replicate m 0)) T32))
  have Pq := hide (Blk.new w3 T32 (cellsOf .u32 (List.replicate m 0)))
  have B5 := hide (B4.out.alloc B4.out.size (.cells (cellsOf .u32 (List.replicate m 0)) T32))
  have hgq : g < w3.heap.size := P3.lt
  have hq0 : w.heap.size ≤ w3.heap.size := B4.out.size
  have L0 := hide (LgInv.start p1.out p2.out hcc.out (by rw [r2.out.1]; omega) (by rw [r1.out.1, r2.out.1]; exact hl))
  rw [r1.out.1, r2.out.1, em.out] at L0
  clear hmk q1 q2 q3 q4 q5 P3 B2 B4 O1 O2 R0 c1 c2 hz l1
  go_loopw [10] (fun iv wr => ∃ i rs zs, i ≤ m ∧ iv = .int .i64 ((i : Int) - 1) ∧ Hid (PB .u32 wr g T32 rs) ∧ Hid (Blk wr w3.heap.size T32 (cellsOf .u32 zs)) ∧ Hid (Below w.heap.size w wr) ∧ Hid (LgInv i (xs ++ [0]) ys rs zs)) (fun iv _ => (intOf iv + 1).toNat)
  case atStart => exact ⟨m, _, _, Nat.le_refl _, rfl, Pg, Pq, B5, L0⟩
  case round =>
    obtain ⟨i, rs, zs, hi0, rfl, hpg, hpq, hbel, hinv⟩ := hrel
    have lr := hinv.out.len
    have lz := hinv.out.zlen
    rw [List.length_append, r1.out.1] at lr lz
    rw [r2.out.1] at lz
    simp only [List.length_cons, List.length_nil] at lr lz
    rcases i with _ | i
    · obtain ⟨ez, er⟩ := hinv.out.fin
      have z32 := hide hinv.out.z32
      have s32 := hide hinv.out.r32
      have C1 := hide (cut_ok wr (some ⟨w3.heap.size, 0, none⟩) m m zs (by have := hpq.out.rd m (by omega) (by omega); rw [List.take_of_length_le (by omega)] at this; exact this) (Nat.le_refl _))
      have C2 := hide (cut_ok wr (some ⟨g, 0, none⟩) (n + 1) c4 rs (by have := hpg.out.rd (n + 1) (by omega) (by omega); rw [List.take_of_length_le (by omega)] at this; exact this) (by omega))
      have N1 := hide (natR_of_blk (B := w.heap.size) hpq.out z32.out hq0 (by omega))
      have N2 := hide (natR_of_pb (B := w.heap.size) hpg.out s32.out B3 (by omega))
      have vx : val (xs ++ [0]) = val xs := by rw [val_append]; simp [val]
      rw [ez, vx] at N1
      rw [er, vx] at N2
      clear ez er vx lr lz hinv
      clear Pg Pq B5 L0 eh en em
      go_wp2_with fail
      refine C1.out.mono ?_
      rintro e w' ⟨rfl, rfl⟩
      clear C1
      go_wp2_with fail
      refine C2.out.mono ?_
      rintro e w' ⟨rfl, rfl⟩
      clear C2
      go_wp2
      exact opq_end hR ⟨_, _, rfl, N1.out, N2.out, hbel.out⟩
    · have ei : ((i + 1 : Nat) : Int) - 1 = (i : Int) := by omega
      rw [ei]
      have k1 := hpg.out.cell (i + n') (by omega)
      have k2 := hpg.out.cell (i + (n' - 1)) (by omega)
      have k3 := hpg.out.cell (i + (n' - 2)) (by omega)
      have d1 := is32_get hinv.out.r32 (i + n')
      have d2 := is32_get hinv.out.r32 (i + (n' - 1))
      have d3 := is32_get hinv.out.r32 (i + (n' - 2))
      have G := hide (gset_of hinv.out p2.out (by rw [r2.out.1]; exact h2) hcc.out (by omega))
      rw [r2.out.1, eh.out, en.out] at G
      obtain ⟨u2, e2⟩ : ∃ u2, Hid (rs.getD (i + n') 0 = u2) := ⟨_, hide rfl⟩
      obtain ⟨u1, e1⟩ : ∃ u1, Hid (rs.getD (i + (n' - 1)) 0 = u1) := ⟨_, hide rfl⟩
      obtain ⟨u0, e0⟩ : ∃ u0, Hid (rs.getD (i + (n' - 2)) 0 = u0) := ⟨_, hide rfl⟩
      rw [e2.out] at k1 d1
      rw [e1.out] at k2 d2
      rw [e0.out] at k3 d3
      rw [e2.out, e1.out, e0.out] at G
      have es : i + n' + 1 - i = n' + 1 := by omega
      have hh0 : 0 < hi := G.out.h0
      have hh1 : ((hi : Int) == 0) = false := by simp; omega
      have o1 := or_high d2 d1
      obtain ⟨T, eT⟩ : ∃ T, Hid (u2 * 4294967296 + u1 = T) := ⟨_, hide rfl⟩
      have T64 : T < 18446744073709551616 := by have := eT.out; omega
      rw [eT.out] at o1 G
      obtain ⟨qh, eqh⟩ : ∃ qh, Hid (T / hi = qh) := ⟨_, hide rfl⟩
      have qhT : qh ≤ T := by rw [← eqh.out]; exact Nat.div_le_self _ _
      have wq : IntKind.u64.wrap ((T : Int) / hi) = (qh : Int) := by
        rw [← Int.natCast_ediv, eqh.out, IntKind.wrap_u64]; omega
      obtain ⟨g0, eg0⟩ : ∃ g0, Hid (min qh 4294967295 = g0) := ⟨_, hide rfl⟩
      have hg0 : g0 < 4294967296 := by have := eg0.out; omega
      have hmin := fun ts t => run_min_int (P := Tryd.prog) ts t .u64 (qh : Int) 4294967295 g0 (by rw [← eg0.out]; omega)
      obtain ⟨q0, eq0⟩ : ∃ q0, Hid (g0 * hi = q0) := ⟨_, hide rfl⟩
      have hq0T : q0 ≤ T := by
        rw [← eq0.out, ← eg0.out, ← eqh.out]
        exact Nat.le_trans (Nat.mul_le_mul_right _ (Nat.min_le_left _ _)) (Nat.div_mul_le_self _ _)
      have wq0 : IntKind.u64.wrap ((g0 : Int) * hi) = (q0 : Int) := by
        rw [← Int.natCast_mul, eq0.out, IntKind.wrap_u64]; omega
      have wov : IntKind.u64.wrap ((T : Int) - q0) = ((T - q0 : Nat) : Int) := by rw [IntKind.wrap_u64]; omega
      obtain ⟨ov, eov⟩ : ∃ ov, Hid (T - q0 = ov) := ⟨_, hide rfl⟩
      rw [eov.out] at wov
      have I0 : Hid (T = ov + g0 * hi) := by
        show _ = _
        rw [eq0.out]; have := eov.out; omega
      have J0 : Hid (val (rs.drop i) < (g0 + 1) * val ys) := by rw [← eg0.out, ← eqh.out]; exact G.out.start
      have V0 := hide (MsInv.start (i := i) (bs := ys) (rs0 := rs) (g := 0) hinv.out.r32)
      go_wp2
      go_quiet (fail)
      clear k1 k2
      go_wp2
      clear wq wq0 wov hmin o1
      have D0 := hide eT.out
      clear eT
      go_loop [13, 14] (fun gv ov => ∃ gs o, gv = .int .u64 (gs : Nat) ∧ ov = .int .u64 (o : Nat) ∧ gs < 4294967296 ∧ o ≤ T ∧ Hid (T = o + gs * hi) ∧ Hid (val (rs.drop i) < (gs + 1) * val ys)) (fun gv _ => (intOf gv).toNat)
      case atStart => exact ⟨g0, ov, rfl, rfl, hg0, by have := eov.out; omega, I0, J0⟩
      case round =>
        obtain ⟨gs, o, rfl, rfl, hgs, hoT, I1, J1⟩ := hrel
        clear eqh qhT eg0 eq0 hq0T eov I0 J0 hg0
        obtain ⟨gn, egn⟩ : ∃ gn, Hid (gs * ne = gn) := ⟨_, hide rfl⟩
        have hgn : gn < 18446744073709551616 := by
          rw [← egn.out]
          have : gs * ne ≤ 4294967295 * 4294967295 := Nat.mul_le_mul (by omega) (by omega)
          omega
        have wgn : (gs : Int) * ne = (gn : Int) := by rw [← Int.natCast_mul, egn.out]
        have o2 := fun ho : o < 4294967296 => or_high d3 ho
        obtain ⟨z, ez⟩ : ∃ z, Hid (o * 4294967296 + u0 = z) := ⟨_, hide rfl⟩
        rw [ez.out] at o2
        by_cases hcond : o < 4294967296 ∧ z < gn
        · obtain ⟨ho, hz⟩ := hcond
          have t1 : ((o : Int) / 4294967296 == 0) = true := by simp; omega
          have o3 := o2 ho
          have t2 : decide ((z : Int) < gn) = true := by simpa using hz
          have t3 : decide (z < gn) = true := by simpa using hz
          have J2 : Hid (val (rs.drop i) < gs * val ys) := G.out.less I1.out (by rw [ez.out, egn.out]; exact hz)
          have g1 : 1 ≤ gs := by
            rcases Nat.eq_zero_or_pos gs with h0 | h0
            · have := J2.out; rw [h0, Nat.zero_mul] at this; omega
            · exact h0
          obtain ⟨k, hk⟩ : ∃ k, Hid (gs = k + 1) := ⟨gs - 1, by show _ = _; omega⟩
          have I2 : Hid (T = o + hi + k * hi) := by
            have := I1.out
            rw [hk.out, Nat.add_mul, Nat.one_mul] at this
            show _ = _
            omega
          rw [hk.out] at J2
          have ohi : o + hi ≤ T := by rw [I2.out]; exact Nat.le_add_right _ _
          clear o2
          go_wp2
          go_round
          case rel => exact ⟨k, o + hi, by have := hk.out; congr 1; omega, by go_num, by have := hk.out; omega, ohi, I2, J2⟩
          case measure => have := hk.out; simp [intOf]; omega
        · have E1 : Hid (gs * val ys < val (rs.drop i) + val ys) := G.out.enough hgs I1.out (by rw [ez.out, egn.out]; omega)
          have M0 := hide (MsInv.start (i := i) (g := gs) (bs := ys) hinv.out.r32)
          have hx : (((o : Int) / 4294967296 == 0) = true ∧ bits BinOp.or IntKind.u64 ((o : Int) * 4294967296) (u0 : Int) = (z : Int) ∧ decide ((z : Int) < gn) = false ∧ decide (z < gn) = false ∧ o < 4294967296) ∨ ((o : Int) / 4294967296 == 0) = false := by
            by_cases ho : o < 4294967296
            · exact .inl ⟨by simp; omega, o2 ho, by simp; omega, by simp; omega, ho⟩
            · exact .inr (by simp; omega)
          clear o2 hcond
          rcases hx with ⟨t1, o3, t2, t3, ho⟩ | t1
          all_goals
            go_wp2
            clear t1
            try clear t2
            try clear t3
            try clear o3
            have P1 := hide (hpg.out.drewN nq)
            have Q1 := hide (hpq.out.drewN nq)
            have W1 := hide (below_drewN hbel.out nq)
            have k4 := fun (j : Nat) (hj : j < n') => (hinv.out.len : rs.length = _)
            clear k3 k4 D0 V0 G I1 ez wgn egn hgn e0 e1 e2 d1 d2 d3 eh en b1 b2 hh0 hh1 T64 ei
            try clear ho
            go_loopw [15, 106] (fun ov kv wq => ∃ k o' rs', k ≤ n' ∧ kv = .int .i64 (k : Nat) ∧ ov = .int .u64 (o' : Nat) ∧ o' ≤ gs ∧ Hid (PB .u32 wq g T32 rs') ∧ Hid (Blk wq w3.heap.size T32 (cellsOf .u32 zs)) ∧ Hid (Below w.heap.size w wq) ∧ Hid (MsInv i k o' gs ys rs rs')) (fun _ kv _ => n' - (intOf kv).toNat)
            case atStart => exact ⟨0, 0, rs, by omega, rfl, rfl, by omega, P1, Q1, W1, M0⟩
            case round =>
              obtain ⟨k, o', rs', hk, rfl, rfl, ho', hpg', hpq', hbel', hms⟩ := hrel
              clear P1 Q1 W1 M0
              have lr' := hms.out.len
              by_cases hlt : k < n'
              · obtain ⟨ad', e', hb', hcl'⟩ := (r2.out.below hbel'.out).2.2 (by omega)
                cases e'
                have hy := hcl' k hlt
                have hcell := hpg'.out.cell (i + k) (by omega)
                have hfro := hpg'.out.frozen (i + k)
                have by_ := is32_get p2.out k
                have bd := is32_get hms.out.is32 (i + k)
                have T1 := hide (hms.out.step p2.out (by omega))
                have T0 := hide T1.out.le
                obtain ⟨y, ey⟩ : ∃ y, Hid (ys.getD k 0 = y) := ⟨_, hide rfl⟩
                obtain ⟨d, ed⟩ : ∃ d, Hid (rs'.getD (i + k) 0 = d) := ⟨_, hide rfl⟩
                rw [ey.out] at hy by_ T1 T0
                rw [ed.out] at hcell bd T1 T0
                obtain ⟨pr, epr⟩ : ∃ pr, Hid (gs * y = pr) := ⟨_, hide rfl⟩
                have hpr : pr ≤ 18446744065119617025 := by
                  rw [← epr.out]
                  exact Nat.mul_le_mul (Nat.le_of_lt_succ hgs) (Nat.le_of_lt_succ by_)
                have wpr : (gs : Int) * y = (pr : Int) := by rw [← Int.natCast_mul, epr.out]
                rw [epr.out] at T1 T0
                obtain ⟨p, ep⟩ : ∃ p, Hid (pr + o' = p) := ⟨_, hide rfl⟩
                have hp : p < 18446744073709551616 := by have := ep.out; omega
                have wp : (pr : Int) + o' = (p : Int) := by have := ep.out; omega
                rw [ep.out] at T1 T0
                have T2 := hide (hpg'.out.set_ (i + k) (msd p d) (by omega))
                have T3 := hide (hbel'.out.setCell (p := ⟨g, i + k, none⟩) B3 (.int .u32 ((msd p d : Nat) : Int)))
                have T4 := hide (hpq'.out.far (p := ⟨g, i + k, none⟩) (by show w3.heap.size ≠ g; omega) (.int .u32 ((msd p d : Nat) : Int)))
                have es : ((d : Int) - (p : Int) % 4294967296) % 4294967296 = ((msd p d : Nat) : Int) := by
                  unfold msd
                  omega
                clear hcl' lr' epr ep ey ed
                by_cases hd : d < p % 4294967296
                · have t1 : decide ((d : Int) < (p : Int) % 4294967296) = true := by simp; omega
                  have t2 : decide (d < p % 4294967296) = true := by simpa using hd
                  have eb : ((p : Int) / 4294967296 + 1) = ((msb p d : Nat) : Int) := by
                    unfold msb; rw [if_pos hd]; omega
                  go_wp2
                  go_roundw
                  case rel =>
                    exact ⟨k + 1, _, _, by omega, by go_num, eb ▸ rfl, T0.out, T2, T4, T3, T1⟩
                  case measure => simp [intOf]; omega
                · have t1 : decide ((d : Int) < (p : Int) % 4294967296) = false := by simp; omega
                  have t2 : decide (d < p % 4294967296) = false := by simpa using hd
                  have eb : ((p : Int) / 4294967296) = ((msb p d : Nat) : Int) := by
                    unfold msb; rw [if_neg hd]; omega
                  have es' : ((d : Int) - (p : Int) % 4294967296) = ((msd p d : Nat) : Int) := by
                    unfold msd
                    omega
                  clear es
                  go_wp2
                  go_roundw
                  case rel =>
                    exact ⟨k + 1, _, _, by omega, by go_num, eb ▸ rfl, T0.out, T2, T4, T3, T1⟩
                  case measure => simp [intOf]; omega
              · obtain rfl : k = n' := by omega
                have hcell := hpg'.out.cell (i + k) (by omega)
                have hfro := hpg'.out.frozen (i + k)
                have bd := is32_get hms.out.is32 (i + k)
                obtain ⟨t, et⟩ : ∃ t, Hid (rs'.getD (i + k) 0 = t) := ⟨_, hide rfl⟩
                rw [et.out] at hcell bd
                obtain ⟨ys', eys⟩ : ∃ n, Hid (ys.length = n) := ⟨_, hide rfl⟩
                by_cases hd : t < o'
                · have t1 : decide ((t : Int) < (o' : Int)) = true := by simpa using hd
                  have t2 : decide (t < o') = true := by simpa using hd
                  have E3 := hide (fun cy rs3 (A : AbInv i ys.length cy ys rs' rs3) => hinv.out.no p2.out (by omega) (by rw [r2.out.1]; exact hms.out) hgs E1.out (by rw [r2.out.1, et.out]; exact hd) A)
                  have M1 := hide (AbInv.start (i := i) (bs := ys) hms.out.is32)
                  go_wp2
                  have g1 : 1 ≤ gs := by omega
                  clear hcell hfro bd 
                  go_loopw [19, 148] (fun cv kv wv => ∃ j cy rs3, j ≤ k ∧ kv = .int .i64 (j : Nat) ∧ cv = .int .u32 (cy : Nat) ∧ cy < 2 ∧ Hid (PB .u32 wv g T32 rs3) ∧ Hid (Blk wv w3.heap.size T32 (cellsOf .u32 zs)) ∧ Hid (Below w.heap.size w wv) ∧ Hid (AbInv i j cy ys rs' rs3)) (fun _ kv _ => k - (intOf kv).toNat)
                  case atStart => exact ⟨0, 0, _, by omega, rfl, rfl, by omega, hpg', hpq', hbel', M1⟩
                  case round =>
                    obtain ⟨j, cy, rs3, hj, rfl, rfl, hcy, hpg3, hpq3, hbel3, hab⟩ := hrel
                    clear hpg' hpq' hbel' M1
                    have lr3 := hab.out.len
                    by_cases hlt3 : j < k
                    · obtain ⟨ad', e', hb', hcl'⟩ := (r2.out.below hbel3.out).2.2 (by omega)
                      cases e'
                      have hy := hcl' j hlt3
                      have hcell := hpg3.out.cell (i + j) (by omega)
                      have hfro := hpg3.out.frozen (i + j)
                      have by_ := is32_get p2.out j
                      have bd := is32_get hab.out.is32 (i + j)
                      have T1 := hide (hab.out.step p2.out (by omega))
                      have T0 := hide T1.out.lt
                      obtain ⟨y, ey⟩ : ∃ y, Hid (ys.getD j 0 = y) := ⟨_, hide rfl⟩
                      obtain ⟨d, ed⟩ : ∃ d, Hid (rs3.getD (i + j) 0 = d) := ⟨_, hide rfl⟩
                      rw [ey.out] at hy by_ T1 T0
                      rw [ed.out] at hcell bd T1 T0
                      have T2 := hide (hpg3.out.set_ (i + j) ((d + y + cy) % 4294967296) (by omega))
                      have T3 := hide (hbel3.out.setCell (p := ⟨g, i + j, none⟩) B3 (.int .u32 (((d + y + cy) % 4294967296 : Nat) : Int)))
                      have T4 := hide (hpq3.out.far (p := ⟨g, i + j, none⟩) (by show w3.heap.size ≠ g; omega) (.int .u32 (((d + y + cy) % 4294967296 : Nat) : Int)))
                      clear hcl' lr3 ey ed
                      have CC := hide (fun w => add32_ok w d y cy bd by_ (by omega))
                      go_wp2_with (go_at_call 57; refine (CC.out _).mono ?_; rintro e w' ⟨rfl, rfl⟩)
                      go_roundw
                      case rel => exact ⟨j + 1, _, _, by omega, by go_num, rfl, T0.out, T2, T4, T3, T1⟩
                      case measure => simp [intOf]; omega
                    · obtain rfl : j = k := by omega
                      have hcell := hpg3.out.cell (i + j) (by omega)
                      have hfro := hpg3.out.frozen (i + j)
                      have hcq := hpq3.out.cell i
                      rw [cellsOf_get _ _ _ (by omega)] at hcq
                      have hfq := hpq3.out.frozen i
                      obtain ⟨gp, rfl⟩ : ∃ gp, gs = gp + 1 := ⟨gs - 1, by omega⟩
                      have eg : ((gp + 1 : Nat) : Int) - 1 = (gp : Int) := by omega
                      rw [eg]
                      have E4 := hide (E3.out cy rs3 (by rw [r2.out.1]; exact hab.out)).1
                      rw [r2.out.1, Nat.add_sub_cancel] at E4
                      have T2 := hide (hpg3.out.set_ (i + j) 0 (by omega))
                      have T3 := hide (hbel3.out.setCell (p := ⟨g, i + j, none⟩) B3 (.int .u32 ((0 : Nat) : Int)))
                      have T4 := hide (hpq3.out.far (p := ⟨g, i + j, none⟩) (by show w3.heap.size ≠ g; omega) (.int .u32 ((0 : Nat) : Int)))
                      have V2 := hide (T2.out.far (p := ⟨w3.heap.size, i, none⟩) (by show g ≠ w3.heap.size; omega) (.int .u32 (gp : Nat)))
                      have V3 := hide (T3.out.setCell (p := ⟨w3.heap.size, i, none⟩) hq0 (.int .u32 (gp : Nat)))
                      have V4 := hide (T4.out.set_ i (.int .u32 (gp : Nat)))
                      rw [cellsOf_set] at V4
                      clear T2 T3 T4
                      go_wp2
                      go_roundw
                      case rel => exact ⟨i, _, _, by omega, rfl, V2, V4, V3, E4⟩
                      case measure => simp [intOf] <;> omega
                · have t1 : decide ((t : Int) < (o' : Int)) = false := by simp; omega
                  have t2 : decide (t < o') = false := by simpa using hd
                  have E2 := hide (hinv.out.yes p2.out (by omega) (by rw [r2.out.1]; exact hms.out) hgs J1.out (by rw [r2.out.1, et.out]; omega))
                  rw [r2.out.1] at E2
                  have hcq := hpq'.out.cell i
                  rw [cellsOf_get _ _ _ (by omega)] at hcq
                  have hfq := hpq'.out.frozen i
                  have T2 := hide (hpg'.out.set_ (i + k) 0 (by omega))
                  have T3 := hide (hbel'.out.setCell (p := ⟨g, i + k, none⟩) B3 (.int .u32 ((0 : Nat) : Int)))
                  have T4 := hide (hpq'.out.far (p := ⟨g, i + k, none⟩) (by show w3.heap.size ≠ g; omega) (.int .u32 ((0 : Nat) : Int)))
                  have V2 := hide (T2.out.far (p := ⟨w3.heap.size, i, none⟩) (by show g ≠ w3.heap.size; omega) (.int .u32 (gs : Nat)))
                  have V3 := hide (T3.out.setCell (p := ⟨w3.heap.size, i, none⟩) hq0 (.int .u32 (gs : Nat)))
                  have V4 := hide (T4.out.set_ i (.int .u32 (gs : Nat)))
                  rw [cellsOf_set] at V4
                  clear T2 T3 T4
                  go_wp2
                  go_roundw
                  case rel => exact ⟨i, _, _, by omega, rfl, V2, V4, V3, E2⟩
                  case measure => simp [intOf] <;> omega
end Go.Proofs.YtcdejccbamjdoaaDoor
