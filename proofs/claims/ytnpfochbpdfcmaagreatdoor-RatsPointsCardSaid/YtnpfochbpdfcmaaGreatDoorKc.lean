/- rats: lowest, of, Make. -/
import Derived.Test.YtnpfochbpdfcmaaGreatDoorKb
set_option linter.unusedVariables false
set_option linter.unusedSimpArgs false
set_option maxRecDepth 100000
namespace Go.Proofs.YtnpfochbpdfcmaaGreatDoor
open Go.RowKit

theorem low_num {z : Int} {d : Nat} (hd : d ≠ 0) : (mkRat z d).num.natAbs = z.natAbs / Nat.gcd z.natAbs d ∧ (mkRat z d).den = d / Nat.gcd z.natAbs d ∧ decide ((mkRat z d).num < 0) = decide (z < 0) := ⟨mk_num_abs hd, mk_den hd, mk_neg hd⟩
theorem low_pos {z : Int} {d : Nat} (hz : z < 0) : 0 < z.natAbs / Nat.gcd z.natAbs d := by
  have h0 : 0 < z.natAbs := by omega
  exact Nat.div_pos (Nat.gcd_le_left _ h0) (Nat.gcd_pos_of_pos_left _ h0)
theorem ratR_mk {q : Rat} {B : Nat} {w : World} {u d : Value} {b : Bool} {N M : Nat} (h : NatR N B w u) (h' : NatR M B w d) (hs : Sep u d) (e1 : q.num.natAbs = N) (e2 : q.den = M) (e3 : decide (q.num < 0) = b) : RatR q B w (.agg #[.bool b, u, d]) := by
  subst e1 e2 e3
  exact ⟨u, d, rfl, h, h', hs⟩
set_option maxHeartbeats 1000000 in
theorem rlowest_P {w : World} {v v' : Value} {z : Int} {d : Nat} (h : ICan w v z) (h' : Can w v' d) (s : L z.natAbs ≤ 4398046511104) (s' : L d ≤ 4398046511104) (hd : d ≠ 0) (hT : Tab w) :
    Calls Tryz.prog 60 #[v, v'] w fun e w' => ∃ u, e = .returned u ∧ Below w.heap.size w w' ∧ RatR (mkRat z d) w.heap.size w' u := by
  refine opq fun R hR => ?_
  obtain ⟨u, rfl, U⟩ := h
  obtain ⟨A, n, c, rfl⟩ := U.slice
  obtain ⟨D, m, k, rfl⟩ := h'.slice
  replace U := hide U
  have V := hide h'
  have T := hide hT
  have HE := hide (low_num (z := z) hd)
  have hg : Hid (Nat.gcd z.natAbs d ≠ 0) := Nat.ne_of_gt (Nat.gcd_pos_of_pos_right _ (Nat.pos_of_ne_zero hd))
  have sg : Hid (L (Nat.gcd z.natAbs d) ≤ 4398046511104) := L_gcd s s'
  have hp : Hid (z < 0 → 0 < z.natAbs / Nat.gcd z.natAbs d) := low_pos
  replace s := hide s
  replace s' := hide s'
  clear hT h' hd
  obtain ⟨b, hb⟩ : ∃ b, Hid (decide (z < 0) = b) := ⟨_, rfl⟩
  rw [hb.out]
  go_enter Tryz.func60, Tryz.ntmps60
  have b0 := hide (Below.refl w.heap.size w)
  have K1 := hide (Blk.new_at w (w.heap.size) (by simp) 25 #[.bool b, .slice A n c])
  have y := (Below.refl w.heap.size w).alloc (Nat.le_refl _) (.cells #[.bool b, .slice A n c] 25)
  replace U := hide (U.out.below y)
  replace V := hide (V.out.below y)
  replace T := hide (T.out.below y)
  replace b0 := hide (below_tr b0.out y)
  clear y
  have K2 := hide (Blk.new_at (w.alloc (.cells #[.bool b, .slice A n c] 25)) (w.heap.size + 1) (by simp) 27 #[.bool false, .slice none 0 0, .slice none 0 0])
  have y := (Below.refl (w.alloc (.cells #[.bool b, .slice A n c] 25)).heap.size (w.alloc (.cells #[.bool b, .slice A n c] 25))).alloc (Nat.le_refl _) (.cells #[.bool false, .slice none 0 0, .slice none 0 0] 27)
  replace U := hide (U.out.below y)
  replace V := hide (V.out.below y)
  replace T := hide (T.out.below y)
  replace K1 := hide (K1.out.below' y)
  replace b0 := hide (below_tr b0.out y)
  clear y
  have K1c0 : ((w.alloc (.cells #[.bool b, .slice A n c] 25)).alloc (.cells #[.bool false, .slice none 0 0, .slice none 0 0] 27)).cell? ⟨w.heap.size, 0, none⟩ = some (.bool b) := K1.out.at_ 0 rfl
  have K1c1 : ((w.alloc (.cells #[.bool b, .slice A n c] 25)).alloc (.cells #[.bool false, .slice none 0 0, .slice none 0 0] 27)).cell? ⟨w.heap.size, 1, none⟩ = some (.slice A n c) := K1.out.at_ 1 rfl
  go_wp2_with fail
  refine (nGcd_P (U.out.arg s.out) (V.out.arg s'.out) T.out).mono ?_
  rintro e w1 ⟨gv, rfl, d0, gr⟩
  replace U := hide (U.out.below d0)
  replace V := hide (V.out.below d0)
  replace T := hide (T.out.below d0)
  replace K1 := hide (K1.out.below' d0)
  replace K2 := hide (K2.out.below' d0)
  replace b0 := hide (below_tr b0.out d0)
  have G := hide (gr.can)
  clear d0
  clear gr
  obtain ⟨Ag, ng, cg, rfl⟩ := G.out.slice
  clear K1c0 K1c1
  have K1c0 : w1.cell? ⟨w.heap.size, 0, none⟩ = some (.bool b) := K1.out.at_ 0 rfl
  have K1c1 : w1.cell? ⟨w.heap.size, 1, none⟩ = some (.slice A n c) := K1.out.at_ 1 rfl
  go_wp2_with fail
  refine (nDiv_P U.out G.out s.out sg.out hg.out).mono ?_
  rintro e w2 ⟨qv, tv, rfl, d0, qr, _⟩
  have bz := b0.out.size
  replace U := hide (U.out.below d0)
  replace V := hide (V.out.below d0)
  replace T := hide (T.out.below d0)
  replace K1 := hide (K1.out.below' d0)
  replace K2 := hide (K2.out.below' d0)
  replace G := hide (G.out.below d0)
  replace b0 := hide (below_tr b0.out d0)
  have N1 := hide (qr.mono (B' := w.heap.size) bz)
  clear d0 bz
  clear qr
  obtain ⟨An, nn, cn, rfl⟩ := N1.out.slice
  clear K1c0 K1c1
  have K1c0 : w2.cell? ⟨w.heap.size, 0, none⟩ = some (.bool b) := K1.out.at_ 0 rfl
  have K1c1 : w2.cell? ⟨w.heap.size, 1, none⟩ = some (.slice A n c) := K1.out.at_ 1 rfl
  have B1 := hide (show w.heap.size ≤ w2.heap.size from b0.out.size)
  go_wp2_with fail
  refine (nDiv_P V.out G.out s'.out sg.out hg.out).mono ?_
  rintro e w3 ⟨qv2, tv2, rfl, d0, qr2, _⟩
  have SS := hide (N1.out.sep qr2)
  replace U := hide (U.out.below d0)
  replace V := hide (V.out.below d0)
  replace T := hide (T.out.below d0)
  replace K1 := hide (K1.out.below' d0)
  replace K2 := hide (K2.out.below' d0)
  replace G := hide (G.out.below d0)
  replace N1 := hide (N1.out.below d0)
  replace b0 := hide (below_tr b0.out d0)
  have N2 := hide (qr2.mono B1.out)
  clear d0 qr2
  obtain ⟨Ad, nd, cd, rfl⟩ := N2.out.slice
  clear K1c0 K1c1
  have K1c0 : w3.cell? ⟨w.heap.size, 0, none⟩ = some (.bool b) := K1.out.at_ 0 rfl
  have K1c1 : w3.cell? ⟨w.heap.size, 1, none⟩ = some (.slice A n c) := K1.out.at_ 1 rfl
  have K2c0 : w3.cell? ⟨w.heap.size + 1, 0, none⟩ = some (.bool false) := K2.out.at_ 0 rfl
  have K2c1 : w3.cell? ⟨w.heap.size + 1, 1, none⟩ = some (.slice none 0 0) := K2.out.at_ 1 rfl
  have K2c2 : w3.cell? ⟨w.heap.size + 1, 2, none⟩ = some (.slice none 0 0) := K2.out.at_ 2 rfl
  have Q := hide (ratR_mk N1.out N2.out SS.out HE.out.1 HE.out.2.1 (HE.out.2.2.trans hb.out))
  clear U V G T N2 SS HE hg sg s s'
  cases b
  case false =>
    clear N1 hp hb
    have p0 : w3.frozen? ⟨w.heap.size + 1, 0, none⟩ = false := K2.out.frozen 0
    have p1 : w3.frozen? ⟨w.heap.size + 1, 1, none⟩ = false := K2.out.frozen 1
    have p2 : w3.frozen? ⟨w.heap.size + 1, 2, none⟩ = false := K2.out.frozen 2
    go_wp2
    refine bodyPost_ret (v := .agg #[.bool false, .slice An nn cn, .slice Ad nd cd]) (by simp [results, Tryz.results60, go_sem, K2c0, K2c1, K2c2, p0, p1, p2]) rfl ?_
    exact opq_end hR ⟨_, rfl, (by (repeat (first | exact b0 | exact Below.refl _ _ | refine Below.setCell ?_ (by first | (simp; done) | (simp; omega)) _ | refine Below.alloc ?_ (by first | (simp; done) | (simp; omega)) _))), Q.out.only K2.out (by decide) ((((Only.refl _ _).set _ _).set _ _).set _ _)⟩
  case true =>
    have hn : 0 < nn := by
      obtain ⟨A', c', e, _⟩ := N1.out
      cases e
      have h0 := hp.out (of_decide_eq_true hb.out)
      have := @is_zero_len (z.natAbs / Nat.gcd z.natAbs d)
      omega
    clear N1 hp hb
    have p0 : w3.frozen? ⟨w.heap.size + 1, 0, none⟩ = false := K2.out.frozen 0
    have p1 : w3.frozen? ⟨w.heap.size + 1, 1, none⟩ = false := K2.out.frozen 1
    have p2 : w3.frozen? ⟨w.heap.size + 1, 2, none⟩ = false := K2.out.frozen 2
    go_wp2
    refine bodyPost_ret (v := .agg #[.bool true, .slice An nn cn, .slice Ad nd cd]) (by simp [results, Tryz.results60, go_sem, K2c0, K2c1, K2c2, p0, p1, p2]) rfl ?_
    exact opq_end hR ⟨_, rfl, (by (repeat (first | exact b0 | exact Below.refl _ _ | refine Below.setCell ?_ (by first | (simp; done) | (simp; omega)) _ | refine Below.alloc ?_ (by first | (simp; done) | (simp; omega)) _))), Q.out.only K2.out (by decide) ((((Only.refl _ _).set _ _).set _ _).set _ _)⟩
/-- What is read in the world ahead, or lies in memory of the call's own. -/
def ROld (w0 : World) (q : Rat) (B : Nat) (w : World) (u : Value) : Prop := RCan w0 u q ∨ RatR q B w u
theorem ROld.below {w0 w w' : World} {q : Rat} {B : Nat} {u : Value} (h : ROld w0 q B w u) (hb : Below w.heap.size w w') : ROld w0 q B w' u := h.imp id fun h => h.below hb
theorem ROld.mono {w0 w : World} {q : Rat} {B B' : Nat} {u : Value} (h : ROld w0 q B w u) (hB : B' ≤ B) : ROld w0 q B' w u := h.imp id fun h => h.mono hB
theorem ROld.can {w0 w : World} {q : Rat} {B : Nat} {u : Value} (h : ROld w0 q B w u) (hb : Below w0.heap.size w0 w) : RCan w u q := h.elim (fun h => h.below hb) fun h => h.can
theorem ROld.only {w0 w W : World} {q : Rat} {B g : Nat} {u : Value} {t : TypeId} {cs : Array Value} (h : ROld w0 q B w u) (hb : Blk w g t cs) (ht : T32 ≠ t) (F : Only g w W) : ROld w0 q B W u := h.imp id fun h => h.only hb ht F
theorem ROld.slice {w0 w : World} {q : Rat} {B : Nat} {v : Value} (h : ROld w0 q B w v) : ∃ b A n c D m k, v = .agg #[.bool b, .slice A n c, .slice D m k] := h.elim (fun h => h.slice) fun h => h.slice
def Fact.rold (w0 : World) (q : Rat) (B : Nat) : Fact := ⟨fun v w => ROld w0 q B w v, fun _ _ _ h hb => h.below hb⟩
set_option maxHeartbeats 1000000 in
theorem rof_P {w W : World} {v : Value} {q : Rat} (h : RArg w v q) (hb : Below w.heap.size w W) (hT : Tab W) (B : Nat) (hB : B ≤ W.heap.size) :
    Calls Tryz.prog 49 #[v] W fun e w' => ∃ u, e = .returned u ∧ Below W.heap.size W w' ∧ ROld w q B w' u := by
  refine opq fun R hR => ?_
  obtain ⟨b, xs, ys, h1, h2, h3, rfl⟩ := h
  have H1 := hide h1
  have HP := hide (h1.below hb)
  have T := hide hT
  have hB' := hide hB
  obtain ⟨u, d, rfl, U, V⟩ := h1
  obtain ⟨A, n, c, rfl, _⟩ := U.slice
  obtain ⟨D, m, k, rfl, _⟩ := V.slice
  clear h2 h3 hb hT U V hB
  go_enter Tryz.func49, Tryz.ntmps49
  cases hr : rok b xs ys
  case false =>
    have b0 := hide (Below.refl W.heap.size W)
    have K1 := hide (Blk.new_at W (W.heap.size) (by simp) 27 #[.bool b, .slice A n c, .slice D m k])
    have y := (Below.refl W.heap.size W).alloc (Nat.le_refl _) (.cells #[.bool b, .slice A n c, .slice D m k] 27)
    replace HP := hide (HP.out.below y)
    replace T := hide (T.out.below y)
    replace b0 := hide (below_tr b0.out y)
    clear y
    have K2 := hide (Blk.new_at (W.alloc (.cells #[.bool b, .slice A n c, .slice D m k] 27)) (W.heap.size + 1) (by simp) 27 #[.bool false, .slice none 0 0, .slice none 0 0])
    have y := (Below.refl (W.alloc (.cells #[.bool b, .slice A n c, .slice D m k] 27)).heap.size (W.alloc (.cells #[.bool b, .slice A n c, .slice D m k] 27))).alloc (Nat.le_refl _) (.cells #[.bool false, .slice none 0 0, .slice none 0 0] 27)
    replace HP := hide (HP.out.below y)
    replace T := hide (T.out.below y)
    replace K1 := hide (K1.out.below' y)
    replace b0 := hide (below_tr b0.out y)
    clear y
    have K1c0 : ((W.alloc (.cells #[.bool b, .slice A n c, .slice D m k] 27)).alloc (.cells #[.bool false, .slice none 0 0, .slice none 0 0] 27)).cell? ⟨W.heap.size, 0, none⟩ = some (.bool b) := K1.out.at_ 0 rfl
    have K1c1 : ((W.alloc (.cells #[.bool b, .slice A n c, .slice D m k] 27)).alloc (.cells #[.bool false, .slice none 0 0, .slice none 0 0] 27)).cell? ⟨W.heap.size, 1, none⟩ = some (.slice A n c) := K1.out.at_ 1 rfl
    have K1c2 : ((W.alloc (.cells #[.bool b, .slice A n c, .slice D m k] 27)).alloc (.cells #[.bool false, .slice none 0 0, .slice none 0 0] 27)).cell? ⟨W.heap.size, 2, none⟩ = some (.slice D m k) := K1.out.at_ 2 rfl
    have K2c0 : ((W.alloc (.cells #[.bool b, .slice A n c, .slice D m k] 27)).alloc (.cells #[.bool false, .slice none 0 0, .slice none 0 0] 27)).cell? ⟨W.heap.size + 1, 0, none⟩ = some (.bool false) := K2.out.at_ 0 rfl
    have K2c1 : ((W.alloc (.cells #[.bool b, .slice A n c, .slice D m k] 27)).alloc (.cells #[.bool false, .slice none 0 0, .slice none 0 0] 27)).cell? ⟨W.heap.size + 1, 1, none⟩ = some (.slice none 0 0) := K2.out.at_ 1 rfl
    have K2c2 : ((W.alloc (.cells #[.bool b, .slice A n c, .slice D m k] 27)).alloc (.cells #[.bool false, .slice none 0 0, .slice none 0 0] 27)).cell? ⟨W.heap.size + 1, 2, none⟩ = some (.slice none 0 0) := K2.out.at_ 2 rfl
    go_wp2_with fail
    refine (rCheck_P HP.out T.out false hr).mono ?_
    rintro e w1 ⟨_, rfl, d0, rfl⟩
    replace HP := hide (HP.out.below d0)
    replace T := hide (T.out.below d0)
    replace K1 := hide (K1.out.below' d0)
    replace K2 := hide (K2.out.below' d0)
    replace b0 := hide (below_tr b0.out d0)
    clear d0
    clear K1c0 K1c1 K1c2 K2c0 K2c1 K2c2
    have K1c0 : w1.cell? ⟨W.heap.size, 0, none⟩ = some (.bool b) := K1.out.at_ 0 rfl
    have K1c1 : w1.cell? ⟨W.heap.size, 1, none⟩ = some (.slice A n c) := K1.out.at_ 1 rfl
    have K1c2 : w1.cell? ⟨W.heap.size, 2, none⟩ = some (.slice D m k) := K1.out.at_ 2 rfl
    have K2c0 : w1.cell? ⟨W.heap.size + 1, 0, none⟩ = some (.bool false) := K2.out.at_ 0 rfl
    have K2c1 : w1.cell? ⟨W.heap.size + 1, 1, none⟩ = some (.slice none 0 0) := K2.out.at_ 1 rfl
    have K2c2 : w1.cell? ⟨W.heap.size + 1, 2, none⟩ = some (.slice none 0 0) := K2.out.at_ 2 rfl
    clear T HP
    have ez : Hid (rv b xs ys = 0) := rv_no hr
    clear H1 hr
    go_wp2_with fail
    refine (rOf_P _ 0 (by decide) (by decide)).mono ?_
    rintro e w2 ⟨v9, rfl, d0, r9⟩
    have bz := b0.out.size
    replace K1 := hide (K1.out.below' d0)
    replace K2 := hide (K2.out.below' d0)
    replace b0 := hide (below_tr b0.out d0)
    have R9 := hide (r9.mono (B' := B) (Nat.le_trans hB'.out bz))
    clear d0 bz
    clear r9
    obtain ⟨b9, A9, n9, c9, D9, m9, k9, rfl⟩ := R9.out.slice
    clear K1c0 K1c1 K1c2 K2c0 K2c1 K2c2
    have K2c0 : w2.cell? ⟨W.heap.size + 1, 0, none⟩ = some (.bool false) := K2.out.at_ 0 rfl
    have K2c1 : w2.cell? ⟨W.heap.size + 1, 1, none⟩ = some (.slice none 0 0) := K2.out.at_ 1 rfl
    have K2c2 : w2.cell? ⟨W.heap.size + 1, 2, none⟩ = some (.slice none 0 0) := K2.out.at_ 2 rfl
    have p0 : w2.frozen? ⟨W.heap.size + 1, 0, none⟩ = false := K2.out.frozen 0
    have p1 : w2.frozen? ⟨W.heap.size + 1, 1, none⟩ = false := K2.out.frozen 1
    have p2 : w2.frozen? ⟨W.heap.size + 1, 2, none⟩ = false := K2.out.frozen 2
    go_wp2
    refine bodyPost_ret (v := .agg #[.bool b9, .slice A9 n9 c9, .slice D9 m9 k9]) (by simp [results, Tryz.results49, go_sem, K2c0, K2c1, K2c2, p0, p1, p2]) rfl ?_
    exact opq_end hR ⟨_, rfl, (by (repeat (first | exact b0 | exact Below.refl _ _ | refine Below.setCell ?_ (by first | (simp; done) | (simp; omega)) _ | refine Below.alloc ?_ (by first | (simp; done) | (simp; omega)) _))), (by rw [ez.out]; exact Or.inr (R9.out.only K2.out (by decide) ((((Only.refl _ _).set _ _).set _ _).set _ _)))⟩
  case true =>
    have b0 := hide (Below.refl W.heap.size W)
    have K1 := hide (Blk.new_at W (W.heap.size) (by simp) 27 #[.bool b, .slice A n c, .slice D m k])
    have y := (Below.refl W.heap.size W).alloc (Nat.le_refl _) (.cells #[.bool b, .slice A n c, .slice D m k] 27)
    replace HP := hide (HP.out.below y)
    replace T := hide (T.out.below y)
    replace b0 := hide (below_tr b0.out y)
    clear y
    have K2 := hide (Blk.new_at (W.alloc (.cells #[.bool b, .slice A n c, .slice D m k] 27)) (W.heap.size + 1) (by simp) 27 #[.bool false, .slice none 0 0, .slice none 0 0])
    have y := (Below.refl (W.alloc (.cells #[.bool b, .slice A n c, .slice D m k] 27)).heap.size (W.alloc (.cells #[.bool b, .slice A n c, .slice D m k] 27))).alloc (Nat.le_refl _) (.cells #[.bool false, .slice none 0 0, .slice none 0 0] 27)
    replace HP := hide (HP.out.below y)
    replace T := hide (T.out.below y)
    replace K1 := hide (K1.out.below' y)
    replace b0 := hide (below_tr b0.out y)
    clear y
    have K1c0 : ((W.alloc (.cells #[.bool b, .slice A n c, .slice D m k] 27)).alloc (.cells #[.bool false, .slice none 0 0, .slice none 0 0] 27)).cell? ⟨W.heap.size, 0, none⟩ = some (.bool b) := K1.out.at_ 0 rfl
    have K1c1 : ((W.alloc (.cells #[.bool b, .slice A n c, .slice D m k] 27)).alloc (.cells #[.bool false, .slice none 0 0, .slice none 0 0] 27)).cell? ⟨W.heap.size, 1, none⟩ = some (.slice A n c) := K1.out.at_ 1 rfl
    have K1c2 : ((W.alloc (.cells #[.bool b, .slice A n c, .slice D m k] 27)).alloc (.cells #[.bool false, .slice none 0 0, .slice none 0 0] 27)).cell? ⟨W.heap.size, 2, none⟩ = some (.slice D m k) := K1.out.at_ 2 rfl
    have K2c0 : ((W.alloc (.cells #[.bool b, .slice A n c, .slice D m k] 27)).alloc (.cells #[.bool false, .slice none 0 0, .slice none 0 0] 27)).cell? ⟨W.heap.size + 1, 0, none⟩ = some (.bool false) := K2.out.at_ 0 rfl
    have K2c1 : ((W.alloc (.cells #[.bool b, .slice A n c, .slice D m k] 27)).alloc (.cells #[.bool false, .slice none 0 0, .slice none 0 0] 27)).cell? ⟨W.heap.size + 1, 1, none⟩ = some (.slice none 0 0) := K2.out.at_ 1 rfl
    have K2c2 : ((W.alloc (.cells #[.bool b, .slice A n c, .slice D m k] 27)).alloc (.cells #[.bool false, .slice none 0 0, .slice none 0 0] 27)).cell? ⟨W.heap.size + 1, 2, none⟩ = some (.slice none 0 0) := K2.out.at_ 2 rfl
    go_wp2_with fail
    refine (rCheck_P HP.out T.out true hr).mono ?_
    rintro e w1 ⟨_, rfl, d0, rfl⟩
    replace HP := hide (HP.out.below d0)
    replace T := hide (T.out.below d0)
    replace K1 := hide (K1.out.below' d0)
    replace K2 := hide (K2.out.below' d0)
    replace b0 := hide (below_tr b0.out d0)
    clear d0
    clear K1c0 K1c1 K1c2 K2c0 K2c1 K2c2
    have K1c0 : w1.cell? ⟨W.heap.size, 0, none⟩ = some (.bool b) := K1.out.at_ 0 rfl
    have K1c1 : w1.cell? ⟨W.heap.size, 1, none⟩ = some (.slice A n c) := K1.out.at_ 1 rfl
    have K1c2 : w1.cell? ⟨W.heap.size, 2, none⟩ = some (.slice D m k) := K1.out.at_ 2 rfl
    have K2c0 : w1.cell? ⟨W.heap.size + 1, 0, none⟩ = some (.bool false) := K2.out.at_ 0 rfl
    have K2c1 : w1.cell? ⟨W.heap.size + 1, 1, none⟩ = some (.slice none 0 0) := K2.out.at_ 1 rfl
    have K2c2 : w1.cell? ⟨W.heap.size + 1, 2, none⟩ = some (.slice none 0 0) := K2.out.at_ 2 rfl
    clear T HP
    have Q := hide (H1.out.can hr)
    clear H1 hr
    have p0 : w1.frozen? ⟨W.heap.size + 1, 0, none⟩ = false := K2.out.frozen 0
    have p1 : w1.frozen? ⟨W.heap.size + 1, 1, none⟩ = false := K2.out.frozen 1
    have p2 : w1.frozen? ⟨W.heap.size + 1, 2, none⟩ = false := K2.out.frozen 2
    go_wp2
    refine bodyPost_ret (v := .agg #[.bool b, .slice A n c, .slice D m k]) (by simp [results, Tryz.results49, go_sem, K2c0, K2c1, K2c2, p0, p1, p2]) rfl ?_
    exact opq_end hR ⟨_, rfl, (by (repeat (first | exact b0 | exact Below.refl _ _ | refine Below.setCell ?_ (by first | (simp; done) | (simp; omega)) _ | refine Below.alloc ?_ (by first | (simp; done) | (simp; omega)) _))), (Or.inl Q.out)⟩
theorem ICan.nat {w : World} {b : Bool} {u : Value} {z : Int} (h : ICan w (.agg #[.bool b, u]) z) : Can w u z.natAbs ∧ decide (z < 0) = b := by
  obtain ⟨u', e, h1⟩ := h
  cases e
  exact ⟨h1, rfl⟩
theorem iSign_P {w : World} {v : Value} {x : Int} (h : IArg w v x) (r : Int) (hr : cmpI x 0 = r) :
    Calls Tryz.prog 29 #[v] w fun e w' => ∃ u, e = .returned u ∧ Below w.heap.size w w' ∧ u = .int .i64 r := (iSign_ok h).mono fun e w' ⟨u, h1, h2, h3⟩ => ⟨u, h1, h2, by rw [h3, hr]⟩
theorem iNeg_P {w : World} {v : Value} {x : Int} (h : IArg w v x) :
    Calls Tryz.prog 68 #[v] w fun e w' => ∃ u, e = .returned u ∧ Below w.heap.size w w' ∧ IntR (-x) w.heap.size w' u := iNeg_ok h
set_option maxHeartbeats 1000000 in
theorem rMake_zero {w : World} {v v' : Value} {z n : Int} (h : ICan w v z) (h' : ICan w v' n) (s : L z.natAbs ≤ 1000000000000) (s' : L n.natAbs ≤ 1000000000000) (hn : n = 0) (hT : Tab w) :
    Calls Tryz.prog 27 #[v, v'] w fun e w' => e = .returned (.tuple #[.agg #[.bool false, .slice none 0 0, .slice none 0 0], .int .i64 10]) ∧ Below w.heap.size w w' := by
  refine opq fun R hR => ?_
  obtain ⟨b1, A1, n1, c1, rfl⟩ := h.slice
  obtain ⟨b2, A2, n2, c2, rfl⟩ := h'.slice
  have Z := hide h
  have N := hide h'
  have T := hide hT
  have I1 := hide (h.prt (L_up s (by decide)))
  have I2 := hide (h'.prt (L_up s' (by decide)))
  replace s := hide s
  replace s' := hide s'
  clear h h' hT
  go_enter Tryz.func27, Tryz.ntmps27
  replace hn := hide hn
  have b0 := hide (Below.refl w.heap.size w)
  have K1 := hide (Blk.new_at w (w.heap.size) (by simp) 25 #[.bool b1, .slice A1 n1 c1])
  have y := (Below.refl w.heap.size w).alloc (Nat.le_refl _) (.cells #[.bool b1, .slice A1 n1 c1] 25)
  replace Z := hide (Z.out.below y)
  replace N := hide (N.out.below y)
  replace T := hide (T.out.below y)
  replace I1 := hide (I1.out.below y)
  replace I2 := hide (I2.out.below y)
  replace b0 := hide (below_tr b0.out y)
  clear y
  have K2 := hide (Blk.new_at (w.alloc (.cells #[.bool b1, .slice A1 n1 c1] 25)) (w.heap.size + 1) (by simp) 25 #[.bool b2, .slice A2 n2 c2])
  have y := (Below.refl (w.alloc (.cells #[.bool b1, .slice A1 n1 c1] 25)).heap.size (w.alloc (.cells #[.bool b1, .slice A1 n1 c1] 25))).alloc (Nat.le_refl _) (.cells #[.bool b2, .slice A2 n2 c2] 25)
  replace Z := hide (Z.out.below y)
  replace N := hide (N.out.below y)
  replace T := hide (T.out.below y)
  replace I1 := hide (I1.out.below y)
  replace I2 := hide (I2.out.below y)
  replace K1 := hide (K1.out.below' y)
  replace b0 := hide (below_tr b0.out y)
  clear y
  have K3 := hide (Blk.new_at ((w.alloc (.cells #[.bool b1, .slice A1 n1 c1] 25)).alloc (.cells #[.bool b2, .slice A2 n2 c2] 25)) (w.heap.size + 1 + 1) (by simp) 27 #[.bool false, .slice none 0 0, .slice none 0 0])
  have y := (Below.refl ((w.alloc (.cells #[.bool b1, .slice A1 n1 c1] 25)).alloc (.cells #[.bool b2, .slice A2 n2 c2] 25)).heap.size ((w.alloc (.cells #[.bool b1, .slice A1 n1 c1] 25)).alloc (.cells #[.bool b2, .slice A2 n2 c2] 25))).alloc (Nat.le_refl _) (.cells #[.bool false, .slice none 0 0, .slice none 0 0] 27)
  replace Z := hide (Z.out.below y)
  replace N := hide (N.out.below y)
  replace T := hide (T.out.below y)
  replace I1 := hide (I1.out.below y)
  replace I2 := hide (I2.out.below y)
  replace K1 := hide (K1.out.below' y)
  replace K2 := hide (K2.out.below' y)
  replace b0 := hide (below_tr b0.out y)
  clear y
  have K1c0 : (((w.alloc (.cells #[.bool b1, .slice A1 n1 c1] 25)).alloc (.cells #[.bool b2, .slice A2 n2 c2] 25)).alloc (.cells #[.bool false, .slice none 0 0, .slice none 0 0] 27)).cell? ⟨w.heap.size, 0, none⟩ = some (.bool b1) := K1.out.at_ 0 rfl
  have K1c1 : (((w.alloc (.cells #[.bool b1, .slice A1 n1 c1] 25)).alloc (.cells #[.bool b2, .slice A2 n2 c2] 25)).alloc (.cells #[.bool false, .slice none 0 0, .slice none 0 0] 27)).cell? ⟨w.heap.size, 1, none⟩ = some (.slice A1 n1 c1) := K1.out.at_ 1 rfl
  have K2c0 : (((w.alloc (.cells #[.bool b1, .slice A1 n1 c1] 25)).alloc (.cells #[.bool b2, .slice A2 n2 c2] 25)).alloc (.cells #[.bool false, .slice none 0 0, .slice none 0 0] 27)).cell? ⟨w.heap.size + 1, 0, none⟩ = some (.bool b2) := K2.out.at_ 0 rfl
  have K2c1 : (((w.alloc (.cells #[.bool b1, .slice A1 n1 c1] 25)).alloc (.cells #[.bool b2, .slice A2 n2 c2] 25)).alloc (.cells #[.bool false, .slice none 0 0, .slice none 0 0] 27)).cell? ⟨w.heap.size + 1, 1, none⟩ = some (.slice A2 n2 c2) := K2.out.at_ 1 rfl
  have K3c0 : (((w.alloc (.cells #[.bool b1, .slice A1 n1 c1] 25)).alloc (.cells #[.bool b2, .slice A2 n2 c2] 25)).alloc (.cells #[.bool false, .slice none 0 0, .slice none 0 0] 27)).cell? ⟨w.heap.size + 1 + 1, 0, none⟩ = some (.bool false) := K3.out.at_ 0 rfl
  have K3c1 : (((w.alloc (.cells #[.bool b1, .slice A1 n1 c1] 25)).alloc (.cells #[.bool b2, .slice A2 n2 c2] 25)).alloc (.cells #[.bool false, .slice none 0 0, .slice none 0 0] 27)).cell? ⟨w.heap.size + 1 + 1, 1, none⟩ = some (.slice none 0 0) := K3.out.at_ 1 rfl
  have K3c2 : (((w.alloc (.cells #[.bool b1, .slice A1 n1 c1] 25)).alloc (.cells #[.bool b2, .slice A2 n2 c2] 25)).alloc (.cells #[.bool false, .slice none 0 0, .slice none 0 0] 27)).cell? ⟨w.heap.size + 1 + 1, 2, none⟩ = some (.slice none 0 0) := K3.out.at_ 2 rfl
  go_wp2_with fail
  refine (iCheck_P I1.out true (iok_self _)).mono ?_
  rintro e w1 ⟨_, rfl, d0, rfl⟩
  replace Z := hide (Z.out.below d0)
  replace N := hide (N.out.below d0)
  replace T := hide (T.out.below d0)
  replace I1 := hide (I1.out.below d0)
  replace I2 := hide (I2.out.below d0)
  replace K1 := hide (K1.out.below' d0)
  replace K2 := hide (K2.out.below' d0)
  replace K3 := hide (K3.out.below' d0)
  replace b0 := hide (below_tr b0.out d0)
  clear d0
  clear K1c0 K1c1 K2c0 K2c1 K3c0 K3c1 K3c2
  have K1c0 : w1.cell? ⟨w.heap.size, 0, none⟩ = some (.bool b1) := K1.out.at_ 0 rfl
  have K1c1 : w1.cell? ⟨w.heap.size, 1, none⟩ = some (.slice A1 n1 c1) := K1.out.at_ 1 rfl
  have K2c0 : w1.cell? ⟨w.heap.size + 1, 0, none⟩ = some (.bool b2) := K2.out.at_ 0 rfl
  have K2c1 : w1.cell? ⟨w.heap.size + 1, 1, none⟩ = some (.slice A2 n2 c2) := K2.out.at_ 1 rfl
  have K3c0 : w1.cell? ⟨w.heap.size + 1 + 1, 0, none⟩ = some (.bool false) := K3.out.at_ 0 rfl
  have K3c1 : w1.cell? ⟨w.heap.size + 1 + 1, 1, none⟩ = some (.slice none 0 0) := K3.out.at_ 1 rfl
  have K3c2 : w1.cell? ⟨w.heap.size + 1 + 1, 2, none⟩ = some (.slice none 0 0) := K3.out.at_ 2 rfl
  go_wp2_with fail
  refine (iCheck_P I2.out true (iok_self _)).mono ?_
  rintro e w2 ⟨_, rfl, d0, rfl⟩
  replace Z := hide (Z.out.below d0)
  replace N := hide (N.out.below d0)
  replace T := hide (T.out.below d0)
  replace I1 := hide (I1.out.below d0)
  replace I2 := hide (I2.out.below d0)
  replace K1 := hide (K1.out.below' d0)
  replace K2 := hide (K2.out.below' d0)
  replace K3 := hide (K3.out.below' d0)
  replace b0 := hide (below_tr b0.out d0)
  clear d0
  clear K1c0 K1c1 K2c0 K2c1 K3c0 K3c1 K3c2
  have K1c0 : w2.cell? ⟨w.heap.size, 0, none⟩ = some (.bool b1) := K1.out.at_ 0 rfl
  have K1c1 : w2.cell? ⟨w.heap.size, 1, none⟩ = some (.slice A1 n1 c1) := K1.out.at_ 1 rfl
  have K2c0 : w2.cell? ⟨w.heap.size + 1, 0, none⟩ = some (.bool b2) := K2.out.at_ 0 rfl
  have K2c1 : w2.cell? ⟨w.heap.size + 1, 1, none⟩ = some (.slice A2 n2 c2) := K2.out.at_ 1 rfl
  have K3c0 : w2.cell? ⟨w.heap.size + 1 + 1, 0, none⟩ = some (.bool false) := K3.out.at_ 0 rfl
  have K3c1 : w2.cell? ⟨w.heap.size + 1 + 1, 1, none⟩ = some (.slice none 0 0) := K3.out.at_ 1 rfl
  have K3c2 : w2.cell? ⟨w.heap.size + 1 + 1, 2, none⟩ = some (.slice none 0 0) := K3.out.at_ 2 rfl
  go_wp2_with fail
  refine (iSign_P (N.out.arg s'.out) 0 (by rw [hn.out]; exact cmpI_eq 0)).mono ?_
  rintro e w3 ⟨_, rfl, d0, rfl⟩
  replace Z := hide (Z.out.below d0)
  replace N := hide (N.out.below d0)
  replace T := hide (T.out.below d0)
  replace I1 := hide (I1.out.below d0)
  replace I2 := hide (I2.out.below d0)
  replace K1 := hide (K1.out.below' d0)
  replace K2 := hide (K2.out.below' d0)
  replace K3 := hide (K3.out.below' d0)
  replace b0 := hide (below_tr b0.out d0)
  clear d0
  clear K1c0 K1c1 K2c0 K2c1 K3c0 K3c1 K3c2
  have K1c0 : w3.cell? ⟨w.heap.size, 0, none⟩ = some (.bool b1) := K1.out.at_ 0 rfl
  have K1c1 : w3.cell? ⟨w.heap.size, 1, none⟩ = some (.slice A1 n1 c1) := K1.out.at_ 1 rfl
  have K2c0 : w3.cell? ⟨w.heap.size + 1, 0, none⟩ = some (.bool b2) := K2.out.at_ 0 rfl
  have K2c1 : w3.cell? ⟨w.heap.size + 1, 1, none⟩ = some (.slice A2 n2 c2) := K2.out.at_ 1 rfl
  have K3c0 : w3.cell? ⟨w.heap.size + 1 + 1, 0, none⟩ = some (.bool false) := K3.out.at_ 0 rfl
  have K3c1 : w3.cell? ⟨w.heap.size + 1 + 1, 1, none⟩ = some (.slice none 0 0) := K3.out.at_ 1 rfl
  have K3c2 : w3.cell? ⟨w.heap.size + 1 + 1, 2, none⟩ = some (.slice none 0 0) := K3.out.at_ 2 rfl
  clear I1 I2
  have p0 : w3.frozen? ⟨w.heap.size + 1 + 1, 0, none⟩ = false := K3.out.frozen 0
  have p1 : w3.frozen? ⟨w.heap.size + 1 + 1, 1, none⟩ = false := K3.out.frozen 1
  have p2 : w3.frozen? ⟨w.heap.size + 1 + 1, 2, none⟩ = false := K3.out.frozen 2
  go_wp2
  refine bodyPost_ret (v := .tuple #[.agg #[.bool false, .slice none 0 0, .slice none 0 0], .int .i64 10]) (by simp [results, Tryz.results27, go_sem, K3c0, K3c1, K3c2, p0, p1, p2]) rfl ?_
  exact opq_end hR ⟨rfl, (by (repeat (first | exact b0 | exact Below.refl _ _ | refine Below.setCell ?_ (by first | (simp; done) | (simp; omega)) _ | refine Below.alloc ?_ (by first | (simp; done) | (simp; omega)) _)))⟩
set_option maxHeartbeats 1000000 in
theorem rMake_ok {w : World} {v v' : Value} {z n : Int} (h : ICan w v z) (h' : ICan w v' n) (s : L z.natAbs ≤ 1000000000000) (s' : L n.natAbs ≤ 1000000000000) (hn : n ≠ 0) (hT : Tab w) :
    Calls Tryz.prog 27 #[v, v'] w fun e w' => ∃ u, e = .returned (.tuple #[u, .int .i64 0]) ∧ Below w.heap.size w w' ∧ RatR (Rat.divInt z n) w.heap.size w' u := by
  refine opq fun R hR => ?_
  obtain ⟨b1, A1, n1, c1, rfl⟩ := h.slice
  obtain ⟨b2, A2, n2, c2, rfl⟩ := h'.slice
  have Z := hide h
  have N := hide h'
  have T := hide hT
  have I1 := hide (h.prt (L_up s (by decide)))
  have I2 := hide (h'.prt (L_up s' (by decide)))
  replace s := hide s
  replace s' := hide s'
  clear h h' hT
  go_enter Tryz.func27, Tryz.ntmps27
  rcases Int.lt_trichotomy n 0 with h0 | h0 | h0
  case inl =>
    have N0 := N
    have T0 := T
    have b0 := hide (Below.refl w.heap.size w)
    have K1 := hide (Blk.new_at w (w.heap.size) (by simp) 25 #[.bool b1, .slice A1 n1 c1])
    have y := (Below.refl w.heap.size w).alloc (Nat.le_refl _) (.cells #[.bool b1, .slice A1 n1 c1] 25)
    replace Z := hide (Z.out.below y)
    replace N := hide (N.out.below y)
    replace T := hide (T.out.below y)
    replace I1 := hide (I1.out.below y)
    replace I2 := hide (I2.out.below y)
    replace b0 := hide (below_tr b0.out y)
    clear y
    have K2 := hide (Blk.new_at (w.alloc (.cells #[.bool b1, .slice A1 n1 c1] 25)) (w.heap.size + 1) (by simp) 25 #[.bool b2, .slice A2 n2 c2])
    have y := (Below.refl (w.alloc (.cells #[.bool b1, .slice A1 n1 c1] 25)).heap.size (w.alloc (.cells #[.bool b1, .slice A1 n1 c1] 25))).alloc (Nat.le_refl _) (.cells #[.bool b2, .slice A2 n2 c2] 25)
    replace Z := hide (Z.out.below y)
    replace N := hide (N.out.below y)
    replace T := hide (T.out.below y)
    replace I1 := hide (I1.out.below y)
    replace I2 := hide (I2.out.below y)
    replace K1 := hide (K1.out.below' y)
    replace b0 := hide (below_tr b0.out y)
    clear y
    have K3 := hide (Blk.new_at ((w.alloc (.cells #[.bool b1, .slice A1 n1 c1] 25)).alloc (.cells #[.bool b2, .slice A2 n2 c2] 25)) (w.heap.size + 1 + 1) (by simp) 27 #[.bool false, .slice none 0 0, .slice none 0 0])
    have y := (Below.refl ((w.alloc (.cells #[.bool b1, .slice A1 n1 c1] 25)).alloc (.cells #[.bool b2, .slice A2 n2 c2] 25)).heap.size ((w.alloc (.cells #[.bool b1, .slice A1 n1 c1] 25)).alloc (.cells #[.bool b2, .slice A2 n2 c2] 25))).alloc (Nat.le_refl _) (.cells #[.bool false, .slice none 0 0, .slice none 0 0] 27)
    replace Z := hide (Z.out.below y)
    replace N := hide (N.out.below y)
    replace T := hide (T.out.below y)
    replace I1 := hide (I1.out.below y)
    replace I2 := hide (I2.out.below y)
    replace K1 := hide (K1.out.below' y)
    replace K2 := hide (K2.out.below' y)
    replace b0 := hide (below_tr b0.out y)
    clear y
    have K1c0 : (((w.alloc (.cells #[.bool b1, .slice A1 n1 c1] 25)).alloc (.cells #[.bool b2, .slice A2 n2 c2] 25)).alloc (.cells #[.bool false, .slice none 0 0, .slice none 0 0] 27)).cell? ⟨w.heap.size, 0, none⟩ = some (.bool b1) := K1.out.at_ 0 rfl
    have K1c1 : (((w.alloc (.cells #[.bool b1, .slice A1 n1 c1] 25)).alloc (.cells #[.bool b2, .slice A2 n2 c2] 25)).alloc (.cells #[.bool false, .slice none 0 0, .slice none 0 0] 27)).cell? ⟨w.heap.size, 1, none⟩ = some (.slice A1 n1 c1) := K1.out.at_ 1 rfl
    have K2c0 : (((w.alloc (.cells #[.bool b1, .slice A1 n1 c1] 25)).alloc (.cells #[.bool b2, .slice A2 n2 c2] 25)).alloc (.cells #[.bool false, .slice none 0 0, .slice none 0 0] 27)).cell? ⟨w.heap.size + 1, 0, none⟩ = some (.bool b2) := K2.out.at_ 0 rfl
    have K2c1 : (((w.alloc (.cells #[.bool b1, .slice A1 n1 c1] 25)).alloc (.cells #[.bool b2, .slice A2 n2 c2] 25)).alloc (.cells #[.bool false, .slice none 0 0, .slice none 0 0] 27)).cell? ⟨w.heap.size + 1, 1, none⟩ = some (.slice A2 n2 c2) := K2.out.at_ 1 rfl
    have K3c0 : (((w.alloc (.cells #[.bool b1, .slice A1 n1 c1] 25)).alloc (.cells #[.bool b2, .slice A2 n2 c2] 25)).alloc (.cells #[.bool false, .slice none 0 0, .slice none 0 0] 27)).cell? ⟨w.heap.size + 1 + 1, 0, none⟩ = some (.bool false) := K3.out.at_ 0 rfl
    have K3c1 : (((w.alloc (.cells #[.bool b1, .slice A1 n1 c1] 25)).alloc (.cells #[.bool b2, .slice A2 n2 c2] 25)).alloc (.cells #[.bool false, .slice none 0 0, .slice none 0 0] 27)).cell? ⟨w.heap.size + 1 + 1, 1, none⟩ = some (.slice none 0 0) := K3.out.at_ 1 rfl
    have K3c2 : (((w.alloc (.cells #[.bool b1, .slice A1 n1 c1] 25)).alloc (.cells #[.bool b2, .slice A2 n2 c2] 25)).alloc (.cells #[.bool false, .slice none 0 0, .slice none 0 0] 27)).cell? ⟨w.heap.size + 1 + 1, 2, none⟩ = some (.slice none 0 0) := K3.out.at_ 2 rfl
    go_wp2_with fail
    refine (iCheck_P I1.out true (iok_self _)).mono ?_
    rintro e w1 ⟨_, rfl, d0, rfl⟩
    replace Z := hide (Z.out.below d0)
    replace N := hide (N.out.below d0)
    replace T := hide (T.out.below d0)
    replace I1 := hide (I1.out.below d0)
    replace I2 := hide (I2.out.below d0)
    replace K1 := hide (K1.out.below' d0)
    replace K2 := hide (K2.out.below' d0)
    replace K3 := hide (K3.out.below' d0)
    replace b0 := hide (below_tr b0.out d0)
    clear d0
    clear K1c0 K1c1 K2c0 K2c1 K3c0 K3c1 K3c2
    have K1c0 : w1.cell? ⟨w.heap.size, 0, none⟩ = some (.bool b1) := K1.out.at_ 0 rfl
    have K1c1 : w1.cell? ⟨w.heap.size, 1, none⟩ = some (.slice A1 n1 c1) := K1.out.at_ 1 rfl
    have K2c0 : w1.cell? ⟨w.heap.size + 1, 0, none⟩ = some (.bool b2) := K2.out.at_ 0 rfl
    have K2c1 : w1.cell? ⟨w.heap.size + 1, 1, none⟩ = some (.slice A2 n2 c2) := K2.out.at_ 1 rfl
    have K3c0 : w1.cell? ⟨w.heap.size + 1 + 1, 0, none⟩ = some (.bool false) := K3.out.at_ 0 rfl
    have K3c1 : w1.cell? ⟨w.heap.size + 1 + 1, 1, none⟩ = some (.slice none 0 0) := K3.out.at_ 1 rfl
    have K3c2 : w1.cell? ⟨w.heap.size + 1 + 1, 2, none⟩ = some (.slice none 0 0) := K3.out.at_ 2 rfl
    go_wp2_with fail
    refine (iCheck_P I2.out true (iok_self _)).mono ?_
    rintro e w2 ⟨_, rfl, d0, rfl⟩
    replace Z := hide (Z.out.below d0)
    replace N := hide (N.out.below d0)
    replace T := hide (T.out.below d0)
    replace I1 := hide (I1.out.below d0)
    replace I2 := hide (I2.out.below d0)
    replace K1 := hide (K1.out.below' d0)
    replace K2 := hide (K2.out.below' d0)
    replace K3 := hide (K3.out.below' d0)
    replace b0 := hide (below_tr b0.out d0)
    clear d0
    clear K1c0 K1c1 K2c0 K2c1 K3c0 K3c1 K3c2
    have K1c0 : w2.cell? ⟨w.heap.size, 0, none⟩ = some (.bool b1) := K1.out.at_ 0 rfl
    have K1c1 : w2.cell? ⟨w.heap.size, 1, none⟩ = some (.slice A1 n1 c1) := K1.out.at_ 1 rfl
    have K2c0 : w2.cell? ⟨w.heap.size + 1, 0, none⟩ = some (.bool b2) := K2.out.at_ 0 rfl
    have K2c1 : w2.cell? ⟨w.heap.size + 1, 1, none⟩ = some (.slice A2 n2 c2) := K2.out.at_ 1 rfl
    have K3c0 : w2.cell? ⟨w.heap.size + 1 + 1, 0, none⟩ = some (.bool false) := K3.out.at_ 0 rfl
    have K3c1 : w2.cell? ⟨w.heap.size + 1 + 1, 1, none⟩ = some (.slice none 0 0) := K3.out.at_ 1 rfl
    have K3c2 : w2.cell? ⟨w.heap.size + 1 + 1, 2, none⟩ = some (.slice none 0 0) := K3.out.at_ 2 rfl
    go_wp2_with fail
    refine (iSign_P (N.out.arg s'.out) (-1) (cmpI_lt h0)).mono ?_
    rintro e w3 ⟨_, rfl, d0, rfl⟩
    replace Z := hide (Z.out.below d0)
    replace N := hide (N.out.below d0)
    replace T := hide (T.out.below d0)
    replace I1 := hide (I1.out.below d0)
    replace I2 := hide (I2.out.below d0)
    replace K1 := hide (K1.out.below' d0)
    replace K2 := hide (K2.out.below' d0)
    replace K3 := hide (K3.out.below' d0)
    replace b0 := hide (below_tr b0.out d0)
    clear d0
    clear K1c0 K1c1 K2c0 K2c1 K3c0 K3c1 K3c2
    have K1c0 : w3.cell? ⟨w.heap.size, 0, none⟩ = some (.bool b1) := K1.out.at_ 0 rfl
    have K1c1 : w3.cell? ⟨w.heap.size, 1, none⟩ = some (.slice A1 n1 c1) := K1.out.at_ 1 rfl
    have K2c0 : w3.cell? ⟨w.heap.size + 1, 0, none⟩ = some (.bool b2) := K2.out.at_ 0 rfl
    have K2c1 : w3.cell? ⟨w.heap.size + 1, 1, none⟩ = some (.slice A2 n2 c2) := K2.out.at_ 1 rfl
    have K3c0 : w3.cell? ⟨w.heap.size + 1 + 1, 0, none⟩ = some (.bool false) := K3.out.at_ 0 rfl
    have K3c1 : w3.cell? ⟨w.heap.size + 1 + 1, 1, none⟩ = some (.slice none 0 0) := K3.out.at_ 1 rfl
    have K3c2 : w3.cell? ⟨w.heap.size + 1 + 1, 2, none⟩ = some (.slice none 0 0) := K3.out.at_ 2 rfl
    clear I1 I2
    have e2 : b2 = true := by rw [← N.out.nat.2]; simpa using h0
    subst e2
    have eq : Hid (Rat.divInt z n = mkRat (-z) n.natAbs) := make_neg h0
    have hd : Hid (n.natAbs ≠ 0) := by show _ ≠ _; omega
    clear h0 hn
    clear K1c0 K1c1 K2c0 K2c1 K3c0 K3c1 K3c2
    have K1c0 : w3.cell? ⟨w.heap.size, 0, none⟩ = some (.bool b1) := K1.out.at_ 0 rfl
    have K1c1 : w3.cell? ⟨w.heap.size, 1, none⟩ = some (.slice A1 n1 c1) := K1.out.at_ 1 rfl
    have K2c0 : w3.cell? ⟨w.heap.size + 1, 0, none⟩ = some (.bool true) := K2.out.at_ 0 rfl
    have K2c1 : w3.cell? ⟨w.heap.size + 1, 1, none⟩ = some (.slice A2 n2 c2) := K2.out.at_ 1 rfl
    have K3c0 : w3.cell? ⟨w.heap.size + 1 + 1, 0, none⟩ = some (.bool false) := K3.out.at_ 0 rfl
    have K3c1 : w3.cell? ⟨w.heap.size + 1 + 1, 1, none⟩ = some (.slice none 0 0) := K3.out.at_ 1 rfl
    have K3c2 : w3.cell? ⟨w.heap.size + 1 + 1, 2, none⟩ = some (.slice none 0 0) := K3.out.at_ 2 rfl
    go_wp2_with fail
    refine (iNeg_P (Z.out.arg s.out)).mono ?_
    rintro e w4 ⟨v9, rfl, d0, r9⟩
    have bz := b0.out.size
    replace Z := hide (Z.out.below d0)
    replace N := hide (N.out.below d0)
    replace T := hide (T.out.below d0)
    replace K1 := hide (K1.out.below' d0)
    replace K2 := hide (K2.out.below' d0)
    replace K3 := hide (K3.out.below' d0)
    replace b0 := hide (below_tr b0.out d0)
    have R9 := hide (r9.mono (B' := w.heap.size) bz)
    clear d0 bz
    clear r9
    obtain ⟨b9, A9, n9, c9, rfl⟩ := R9.out.slice
    clear K1c0 K1c1 K2c0 K2c1 K3c0 K3c1 K3c2
    have r0 : w4.frozen? ⟨w.heap.size, 0, none⟩ = false := K1.out.frozen 0
    have r1 : w4.frozen? ⟨w.heap.size, 1, none⟩ = false := K1.out.frozen 1
    have K1c0 : w4.cell? ⟨w.heap.size, 0, none⟩ = some (.bool b1) := K1.out.at_ 0 rfl
    have K1c1 : w4.cell? ⟨w.heap.size, 1, none⟩ = some (.slice A1 n1 c1) := K1.out.at_ 1 rfl
    have K2c0 : w4.cell? ⟨w.heap.size + 1, 0, none⟩ = some (.bool true) := K2.out.at_ 0 rfl
    have K2c1 : w4.cell? ⟨w.heap.size + 1, 1, none⟩ = some (.slice A2 n2 c2) := K2.out.at_ 1 rfl
    have K3c0 : w4.cell? ⟨w.heap.size + 1 + 1, 0, none⟩ = some (.bool false) := K3.out.at_ 0 rfl
    have K3c1 : w4.cell? ⟨w.heap.size + 1 + 1, 1, none⟩ = some (.slice none 0 0) := K3.out.at_ 1 rfl
    have K3c2 : w4.cell? ⟨w.heap.size + 1 + 1, 2, none⟩ = some (.slice none 0 0) := K3.out.at_ 2 rfl
    go_wp2_with fail
    clear K1c0 K1c1 K2c0 K2c1 K3c0 K3c1 K3c2
    have F : Only (w.heap.size) w4 ((w4.setCell ⟨w.heap.size, 0, none⟩ (.bool b9)).setCell ⟨w.heap.size, 1, none⟩ (.slice A9 n9 c9)) := (((Only.refl _ _).set _ _).set _ _)
    have R10 := hide (R9.out.only K1.out (by decide) F)
    have b10 : Hid (Below w.heap.size w ((w4.setCell ⟨w.heap.size, 0, none⟩ (.bool b9)).setCell ⟨w.heap.size, 1, none⟩ (.slice A9 n9 c9))) := (by (repeat (first | exact b0 | exact Below.refl _ _ | refine Below.setCell ?_ (by first | (simp; done) | (simp; omega)) _ | refine Below.alloc ?_ (by first | (simp; done) | (simp; omega)) _)))
    have K30 : Hid (Blk ((w4.setCell ⟨w.heap.size, 0, none⟩ (.bool b9)).setCell ⟨w.heap.size, 1, none⟩ (.slice A9 n9 c9)) (w.heap.size + 1 + 1) 27 #[.bool false, .slice none 0 0, .slice none 0 0]) := (K3.out.far (p := ⟨w.heap.size, 0, none⟩) (by simp <;> omega) _).far (p := ⟨w.heap.size, 1, none⟩) (by simp <;> omega) _
    have N10 := hide (N0.out.below b10.out)
    have T10 := hide (T0.out.below b10.out)
    clear Z N T R9 K1 K2 K3 b0 F r0 r1
    obtain ⟨V, hV⟩ : ∃ V, ((w4.setCell ⟨w.heap.size, 0, none⟩ (.bool b9)).setCell ⟨w.heap.size, 1, none⟩ (.slice A9 n9 c9)) = V := ⟨_, rfl⟩
    rw [hV] at R10 b10 K30 N10 T10
    rw [hV]
    clear hV
    refine (rlowest_P R10.out.can N10.out.nat.1 (L_up (Z_neg s.out) (by decide)) (L_up s'.out (by decide)) hd.out T10.out).mono ?_
    rintro e w9 ⟨v8, rfl, d0, r8⟩
    have R8 := hide (r8.mono (B' := w.heap.size) b10.out.size)
    clear r8
    obtain ⟨b8, A8, n8, c8, D8, m8, k8, rfl⟩ := R8.out.slice
    replace b10 := hide (below_tr b10.out d0)
    replace K30 := hide (K30.out.below' d0)
    clear R10 N10 T10 d0
    have K30c0 : w9.cell? ⟨w.heap.size + 1 + 1, 0, none⟩ = some (.bool false) := K30.out.at_ 0 rfl
    have K30c1 : w9.cell? ⟨w.heap.size + 1 + 1, 1, none⟩ = some (.slice none 0 0) := K30.out.at_ 1 rfl
    have K30c2 : w9.cell? ⟨w.heap.size + 1 + 1, 2, none⟩ = some (.slice none 0 0) := K30.out.at_ 2 rfl
    have p0 : w9.frozen? ⟨w.heap.size + 1 + 1, 0, none⟩ = false := K30.out.frozen 0
    have p1 : w9.frozen? ⟨w.heap.size + 1 + 1, 1, none⟩ = false := K30.out.frozen 1
    have p2 : w9.frozen? ⟨w.heap.size + 1 + 1, 2, none⟩ = false := K30.out.frozen 2
    go_wp2
    refine bodyPost_ret (v := .tuple #[.agg #[.bool b8, .slice A8 n8 c8, .slice D8 m8 k8], .int .i64 0]) (by simp [results, Tryz.results27, go_sem, K30c0, K30c1, K30c2, p0, p1, p2]) rfl ?_
    exact opq_end hR ⟨_, rfl, (by (repeat (first | exact b10 | exact Below.refl _ _ | refine Below.setCell ?_ (by first | (simp; done) | (simp; omega)) _ | refine Below.alloc ?_ (by first | (simp; done) | (simp; omega)) _))), (by rw [eq.out]; exact R8.out.only K30.out (by decide) ((((Only.refl _ _).set _ _).set _ _).set _ _))⟩
  case inr.inl => exact absurd h0 hn
  case inr.inr =>
    have b0 := hide (Below.refl w.heap.size w)
    have K1 := hide (Blk.new_at w (w.heap.size) (by simp) 25 #[.bool b1, .slice A1 n1 c1])
    have y := (Below.refl w.heap.size w).alloc (Nat.le_refl _) (.cells #[.bool b1, .slice A1 n1 c1] 25)
    replace Z := hide (Z.out.below y)
    replace N := hide (N.out.below y)
    replace T := hide (T.out.below y)
    replace I1 := hide (I1.out.below y)
    replace I2 := hide (I2.out.below y)
    replace b0 := hide (below_tr b0.out y)
    clear y
    have K2 := hide (Blk.new_at (w.alloc (.cells #[.bool b1, .slice A1 n1 c1] 25)) (w.heap.size + 1) (by simp) 25 #[.bool b2, .slice A2 n2 c2])
    have y := (Below.refl (w.alloc (.cells #[.bool b1, .slice A1 n1 c1] 25)).heap.size (w.alloc (.cells #[.bool b1, .slice A1 n1 c1] 25))).alloc (Nat.le_refl _) (.cells #[.bool b2, .slice A2 n2 c2] 25)
    replace Z := hide (Z.out.below y)
    replace N := hide (N.out.below y)
    replace T := hide (T.out.below y)
    replace I1 := hide (I1.out.below y)
    replace I2 := hide (I2.out.below y)
    replace K1 := hide (K1.out.below' y)
    replace b0 := hide (below_tr b0.out y)
    clear y
    have K3 := hide (Blk.new_at ((w.alloc (.cells #[.bool b1, .slice A1 n1 c1] 25)).alloc (.cells #[.bool b2, .slice A2 n2 c2] 25)) (w.heap.size + 1 + 1) (by simp) 27 #[.bool false, .slice none 0 0, .slice none 0 0])
    have y := (Below.refl ((w.alloc (.cells #[.bool b1, .slice A1 n1 c1] 25)).alloc (.cells #[.bool b2, .slice A2 n2 c2] 25)).heap.size ((w.alloc (.cells #[.bool b1, .slice A1 n1 c1] 25)).alloc (.cells #[.bool b2, .slice A2 n2 c2] 25))).alloc (Nat.le_refl _) (.cells #[.bool false, .slice none 0 0, .slice none 0 0] 27)
    replace Z := hide (Z.out.below y)
    replace N := hide (N.out.below y)
    replace T := hide (T.out.below y)
    replace I1 := hide (I1.out.below y)
    replace I2 := hide (I2.out.below y)
    replace K1 := hide (K1.out.below' y)
    replace K2 := hide (K2.out.below' y)
    replace b0 := hide (below_tr b0.out y)
    clear y
    have K1c0 : (((w.alloc (.cells #[.bool b1, .slice A1 n1 c1] 25)).alloc (.cells #[.bool b2, .slice A2 n2 c2] 25)).alloc (.cells #[.bool false, .slice none 0 0, .slice none 0 0] 27)).cell? ⟨w.heap.size, 0, none⟩ = some (.bool b1) := K1.out.at_ 0 rfl
    have K1c1 : (((w.alloc (.cells #[.bool b1, .slice A1 n1 c1] 25)).alloc (.cells #[.bool b2, .slice A2 n2 c2] 25)).alloc (.cells #[.bool false, .slice none 0 0, .slice none 0 0] 27)).cell? ⟨w.heap.size, 1, none⟩ = some (.slice A1 n1 c1) := K1.out.at_ 1 rfl
    have K2c0 : (((w.alloc (.cells #[.bool b1, .slice A1 n1 c1] 25)).alloc (.cells #[.bool b2, .slice A2 n2 c2] 25)).alloc (.cells #[.bool false, .slice none 0 0, .slice none 0 0] 27)).cell? ⟨w.heap.size + 1, 0, none⟩ = some (.bool b2) := K2.out.at_ 0 rfl
    have K2c1 : (((w.alloc (.cells #[.bool b1, .slice A1 n1 c1] 25)).alloc (.cells #[.bool b2, .slice A2 n2 c2] 25)).alloc (.cells #[.bool false, .slice none 0 0, .slice none 0 0] 27)).cell? ⟨w.heap.size + 1, 1, none⟩ = some (.slice A2 n2 c2) := K2.out.at_ 1 rfl
    have K3c0 : (((w.alloc (.cells #[.bool b1, .slice A1 n1 c1] 25)).alloc (.cells #[.bool b2, .slice A2 n2 c2] 25)).alloc (.cells #[.bool false, .slice none 0 0, .slice none 0 0] 27)).cell? ⟨w.heap.size + 1 + 1, 0, none⟩ = some (.bool false) := K3.out.at_ 0 rfl
    have K3c1 : (((w.alloc (.cells #[.bool b1, .slice A1 n1 c1] 25)).alloc (.cells #[.bool b2, .slice A2 n2 c2] 25)).alloc (.cells #[.bool false, .slice none 0 0, .slice none 0 0] 27)).cell? ⟨w.heap.size + 1 + 1, 1, none⟩ = some (.slice none 0 0) := K3.out.at_ 1 rfl
    have K3c2 : (((w.alloc (.cells #[.bool b1, .slice A1 n1 c1] 25)).alloc (.cells #[.bool b2, .slice A2 n2 c2] 25)).alloc (.cells #[.bool false, .slice none 0 0, .slice none 0 0] 27)).cell? ⟨w.heap.size + 1 + 1, 2, none⟩ = some (.slice none 0 0) := K3.out.at_ 2 rfl
    go_wp2_with fail
    refine (iCheck_P I1.out true (iok_self _)).mono ?_
    rintro e w1 ⟨_, rfl, d0, rfl⟩
    replace Z := hide (Z.out.below d0)
    replace N := hide (N.out.below d0)
    replace T := hide (T.out.below d0)
    replace I1 := hide (I1.out.below d0)
    replace I2 := hide (I2.out.below d0)
    replace K1 := hide (K1.out.below' d0)
    replace K2 := hide (K2.out.below' d0)
    replace K3 := hide (K3.out.below' d0)
    replace b0 := hide (below_tr b0.out d0)
    clear d0
    clear K1c0 K1c1 K2c0 K2c1 K3c0 K3c1 K3c2
    have K1c0 : w1.cell? ⟨w.heap.size, 0, none⟩ = some (.bool b1) := K1.out.at_ 0 rfl
    have K1c1 : w1.cell? ⟨w.heap.size, 1, none⟩ = some (.slice A1 n1 c1) := K1.out.at_ 1 rfl
    have K2c0 : w1.cell? ⟨w.heap.size + 1, 0, none⟩ = some (.bool b2) := K2.out.at_ 0 rfl
    have K2c1 : w1.cell? ⟨w.heap.size + 1, 1, none⟩ = some (.slice A2 n2 c2) := K2.out.at_ 1 rfl
    have K3c0 : w1.cell? ⟨w.heap.size + 1 + 1, 0, none⟩ = some (.bool false) := K3.out.at_ 0 rfl
    have K3c1 : w1.cell? ⟨w.heap.size + 1 + 1, 1, none⟩ = some (.slice none 0 0) := K3.out.at_ 1 rfl
    have K3c2 : w1.cell? ⟨w.heap.size + 1 + 1, 2, none⟩ = some (.slice none 0 0) := K3.out.at_ 2 rfl
    go_wp2_with fail
    refine (iCheck_P I2.out true (iok_self _)).mono ?_
    rintro e w2 ⟨_, rfl, d0, rfl⟩
    replace Z := hide (Z.out.below d0)
    replace N := hide (N.out.below d0)
    replace T := hide (T.out.below d0)
    replace I1 := hide (I1.out.below d0)
    replace I2 := hide (I2.out.below d0)
    replace K1 := hide (K1.out.below' d0)
    replace K2 := hide (K2.out.below' d0)
    replace K3 := hide (K3.out.below' d0)
    replace b0 := hide (below_tr b0.out d0)
    clear d0
    clear K1c0 K1c1 K2c0 K2c1 K3c0 K3c1 K3c2
    have K1c0 : w2.cell? ⟨w.heap.size, 0, none⟩ = some (.bool b1) := K1.out.at_ 0 rfl
    have K1c1 : w2.cell? ⟨w.heap.size, 1, none⟩ = some (.slice A1 n1 c1) := K1.out.at_ 1 rfl
    have K2c0 : w2.cell? ⟨w.heap.size + 1, 0, none⟩ = some (.bool b2) := K2.out.at_ 0 rfl
    have K2c1 : w2.cell? ⟨w.heap.size + 1, 1, none⟩ = some (.slice A2 n2 c2) := K2.out.at_ 1 rfl
    have K3c0 : w2.cell? ⟨w.heap.size + 1 + 1, 0, none⟩ = some (.bool false) := K3.out.at_ 0 rfl
    have K3c1 : w2.cell? ⟨w.heap.size + 1 + 1, 1, none⟩ = some (.slice none 0 0) := K3.out.at_ 1 rfl
    have K3c2 : w2.cell? ⟨w.heap.size + 1 + 1, 2, none⟩ = some (.slice none 0 0) := K3.out.at_ 2 rfl
    go_wp2_with fail
    refine (iSign_P (N.out.arg s'.out) 1 (cmpI_gt h0)).mono ?_
    rintro e w3 ⟨_, rfl, d0, rfl⟩
    replace Z := hide (Z.out.below d0)
    replace N := hide (N.out.below d0)
    replace T := hide (T.out.below d0)
    replace I1 := hide (I1.out.below d0)
    replace I2 := hide (I2.out.below d0)
    replace K1 := hide (K1.out.below' d0)
    replace K2 := hide (K2.out.below' d0)
    replace K3 := hide (K3.out.below' d0)
    replace b0 := hide (below_tr b0.out d0)
    clear d0
    clear K1c0 K1c1 K2c0 K2c1 K3c0 K3c1 K3c2
    have K1c0 : w3.cell? ⟨w.heap.size, 0, none⟩ = some (.bool b1) := K1.out.at_ 0 rfl
    have K1c1 : w3.cell? ⟨w.heap.size, 1, none⟩ = some (.slice A1 n1 c1) := K1.out.at_ 1 rfl
    have K2c0 : w3.cell? ⟨w.heap.size + 1, 0, none⟩ = some (.bool b2) := K2.out.at_ 0 rfl
    have K2c1 : w3.cell? ⟨w.heap.size + 1, 1, none⟩ = some (.slice A2 n2 c2) := K2.out.at_ 1 rfl
    have K3c0 : w3.cell? ⟨w.heap.size + 1 + 1, 0, none⟩ = some (.bool false) := K3.out.at_ 0 rfl
    have K3c1 : w3.cell? ⟨w.heap.size + 1 + 1, 1, none⟩ = some (.slice none 0 0) := K3.out.at_ 1 rfl
    have K3c2 : w3.cell? ⟨w.heap.size + 1 + 1, 2, none⟩ = some (.slice none 0 0) := K3.out.at_ 2 rfl
    clear I1 I2
    have e2 : b2 = false := by rw [← N.out.nat.2]; simp; omega
    subst e2
    have eq : Hid (Rat.divInt z n = mkRat z n.natAbs) := make_pos h0
    have hd : Hid (n.natAbs ≠ 0) := by show _ ≠ _; omega
    clear h0 hn
    clear K1c0 K1c1 K2c0 K2c1 K3c0 K3c1 K3c2
    have K1c0 : w3.cell? ⟨w.heap.size, 0, none⟩ = some (.bool b1) := K1.out.at_ 0 rfl
    have K1c1 : w3.cell? ⟨w.heap.size, 1, none⟩ = some (.slice A1 n1 c1) := K1.out.at_ 1 rfl
    have K2c0 : w3.cell? ⟨w.heap.size + 1, 0, none⟩ = some (.bool false) := K2.out.at_ 0 rfl
    have K2c1 : w3.cell? ⟨w.heap.size + 1, 1, none⟩ = some (.slice A2 n2 c2) := K2.out.at_ 1 rfl
    have K3c0 : w3.cell? ⟨w.heap.size + 1 + 1, 0, none⟩ = some (.bool false) := K3.out.at_ 0 rfl
    have K3c1 : w3.cell? ⟨w.heap.size + 1 + 1, 1, none⟩ = some (.slice none 0 0) := K3.out.at_ 1 rfl
    have K3c2 : w3.cell? ⟨w.heap.size + 1 + 1, 2, none⟩ = some (.slice none 0 0) := K3.out.at_ 2 rfl
    go_wp2_with fail
    refine (rlowest_P Z.out N.out.nat.1 (L_up s.out (by decide)) (L_up s'.out (by decide)) hd.out T.out).mono ?_
    rintro e w4 ⟨v8, rfl, d0, r8⟩
    have bz := b0.out.size
    replace Z := hide (Z.out.below d0)
    replace N := hide (N.out.below d0)
    replace T := hide (T.out.below d0)
    replace K1 := hide (K1.out.below' d0)
    replace K2 := hide (K2.out.below' d0)
    replace K3 := hide (K3.out.below' d0)
    replace b0 := hide (below_tr b0.out d0)
    have R8 := hide (r8.mono (B' := w.heap.size) bz)
    clear d0 bz
    clear r8
    obtain ⟨b8, A8, n8, c8, D8, m8, k8, rfl⟩ := R8.out.slice
    clear K1c0 K1c1 K2c0 K2c1 K3c0 K3c1 K3c2
    have K3c0 : w4.cell? ⟨w.heap.size + 1 + 1, 0, none⟩ = some (.bool false) := K3.out.at_ 0 rfl
    have K3c1 : w4.cell? ⟨w.heap.size + 1 + 1, 1, none⟩ = some (.slice none 0 0) := K3.out.at_ 1 rfl
    have K3c2 : w4.cell? ⟨w.heap.size + 1 + 1, 2, none⟩ = some (.slice none 0 0) := K3.out.at_ 2 rfl
    have p0 : w4.frozen? ⟨w.heap.size + 1 + 1, 0, none⟩ = false := K3.out.frozen 0
    have p1 : w4.frozen? ⟨w.heap.size + 1 + 1, 1, none⟩ = false := K3.out.frozen 1
    have p2 : w4.frozen? ⟨w.heap.size + 1 + 1, 2, none⟩ = false := K3.out.frozen 2
    go_wp2
    refine bodyPost_ret (v := .tuple #[.agg #[.bool b8, .slice A8 n8 c8, .slice D8 m8 k8], .int .i64 0]) (by simp [results, Tryz.results27, go_sem, K3c0, K3c1, K3c2, p0, p1, p2]) rfl ?_
    exact opq_end hR ⟨_, rfl, (by (repeat (first | exact b0 | exact Below.refl _ _ | refine Below.setCell ?_ (by first | (simp; done) | (simp; omega)) _ | refine Below.alloc ?_ (by first | (simp; done) | (simp; omega)) _))), (by rw [eq.out]; exact R8.out.only K3.out (by decide) ((((Only.refl _ _).set _ _).set _ _).set _ _))⟩
end Go.Proofs.YtnpfochbpdfcmaaGreatDoor
