/- rats: the laws' read; some answers that the document fixes. -/
import Derived.Test.YtnpfochbpdfcmaaGreatDoorKi
set_option linter.unusedVariables false
set_option linter.unusedSimpArgs false
set_option maxRecDepth 100000
namespace Go.Proofs.YtnpfochbpdfcmaaGreatDoor
open Go.RowKit

theorem H_small {q : Rat} (h1 : q.num.natAbs < 4294967296) (h2 : q.den < 4294967296) : H q 1 := ⟨L_small h1, L_small h2⟩
theorem rParse_yes {w : World} {s : ByteArray} (hs : s.size ≤ 4294967000) (hT : Tab w) (hM : MaxL w) (q : Rat) (hr : rmake (isgn (byt s)).1 (rsplit (isgn (byt s)).2) = .inl q) :
    Calls Tryz.prog 20 #[.string s] w fun e w' => ∃ u, e = .returned (.tuple #[u, .int .i64 0]) ∧ Below w.heap.size w w' ∧ RatR q w.heap.size w' u :=
  (rParse_P w s hs hT hM _ hr).mono fun e w' ⟨⟨u, h1, h2⟩, h3⟩ => ⟨u, h1, h3, h2⟩
theorem rParse_no {w : World} {s : ByteArray} (hs : s.size ≤ 4294967000) (hT : Tab w) (hM : MaxL w) (c : Int) (hr : rmake (isgn (byt s)).1 (rsplit (isgn (byt s)).2) = .inr c) :
    Calls Tryz.prog 20 #[.string s] w fun e w' => e = .returned (.tuple #[.agg #[.bool false, .slice none 0 0, .slice none 0 0], .int .i64 c]) ∧ Below w.heap.size w w' :=
  (rParse_P w s hs hT hM _ hr).mono fun e w' ⟨h1, h3⟩ => ⟨h1, h3⟩
theorem rText_S {w : World} {v : Value} {q : Rat} (h : RArg w v q) (hl : H q 1000000) (hT : Tab w) (t : ByteArray) (ht : byt t = rtxt q) :
    Calls Tryz.prog 19 #[v] w fun e w' => ∃ u, e = .returned u ∧ Below w.heap.size w w' ∧ u = .string t :=
  (rText_P h hl hT).mono fun e w' ⟨u, h1, h2, h3⟩ => ⟨u, h1, h2, by rw [h3, ← ht]; exact vstr_byt t⟩
set_option maxHeartbeats 1000000 in
theorem rread_P {w : World} {s : ByteArray} (hs : s.size ≤ 4294967000) (hT : Tab w) (hM : MaxL w) (q : Rat) (hr : rmake (isgn (byt s)).1 (rsplit (isgn (byt s)).2) = .inl q) :
    Calls Tryz.prog 48 #[.string s] w fun e w' => ∃ u, e = .returned u ∧ Below w.heap.size w w' ∧ RatR q w.heap.size w' u := by
  refine opq fun R hR => ?_
  have T := hide hT
  have M := hide hM
  replace hr := hide hr
  go_enter Tryz.func48, Tryz.ntmps48
  have b0 := hide (Below.refl w.heap.size w)
  have K3 := hide (Blk.new_at w (w.heap.size) (by simp) 27 #[.bool false, .slice none 0 0, .slice none 0 0])
  have y := (Below.refl w.heap.size w).alloc (Nat.le_refl _) (.cells #[.bool false, .slice none 0 0, .slice none 0 0] 27)
  replace b0 := hide (below_tr b0.out y)
  clear y
  go_wp2_with fail
  refine (rParse_yes hs (T.out.below b0.out) (M.out.below b0.out) q hr.out).mono ?_
  rintro e w1 ⟨v8, rfl, d0, r8⟩
  have bz := b0.out.size
  replace K3 := hide (K3.out.below' d0)
  replace b0 := hide (below_tr b0.out d0)
  have R8 := hide (r8.mono (B' := w.heap.size) bz)
  clear d0 bz
  clear r8
  obtain ⟨b8, A8, n8, c8, D8, m8, k8, rfl⟩ := R8.out.slice
  have K4 := hide (Blk.new_at w1 (w1.heap.size) (by simp) 27 #[.bool b8, .slice A8 n8 c8, .slice D8 m8 k8])
  have y := (Below.refl w1.heap.size w1).alloc (Nat.le_refl _) (.cells #[.bool b8, .slice A8 n8 c8, .slice D8 m8 k8] 27)
  replace K3 := hide (K3.out.below' y)
  replace R8 := hide (R8.out.below y)
  replace b0 := hide (below_tr b0.out y)
  clear y
  have K3c0 : (w1.alloc (.cells #[.bool b8, .slice A8 n8 c8, .slice D8 m8 k8] 27)).cell? ⟨w.heap.size, 0, none⟩ = some (.bool false) := K3.out.at_ 0 rfl
  have K3c1 : (w1.alloc (.cells #[.bool b8, .slice A8 n8 c8, .slice D8 m8 k8] 27)).cell? ⟨w.heap.size, 1, none⟩ = some (.slice none 0 0) := K3.out.at_ 1 rfl
  have K3c2 : (w1.alloc (.cells #[.bool b8, .slice A8 n8 c8, .slice D8 m8 k8] 27)).cell? ⟨w.heap.size, 2, none⟩ = some (.slice none 0 0) := K3.out.at_ 2 rfl
  have p0 : (w1.alloc (.cells #[.bool b8, .slice A8 n8 c8, .slice D8 m8 k8] 27)).frozen? ⟨w.heap.size, 0, none⟩ = false := K3.out.frozen 0
  have p1 : (w1.alloc (.cells #[.bool b8, .slice A8 n8 c8, .slice D8 m8 k8] 27)).frozen? ⟨w.heap.size, 1, none⟩ = false := K3.out.frozen 1
  have p2 : (w1.alloc (.cells #[.bool b8, .slice A8 n8 c8, .slice D8 m8 k8] 27)).frozen? ⟨w.heap.size, 2, none⟩ = false := K3.out.frozen 2
  go_wp2
  refine bodyPost_ret (v := .agg #[.bool b8, .slice A8 n8 c8, .slice D8 m8 k8]) (by simp [results, Tryz.results48, go_sem, K3c0, K3c1, K3c2, p0, p1, p2]) rfl ?_
  exact opq_end hR ⟨_, rfl, (by (repeat (first | exact b0 | exact Below.refl _ _ | refine Below.setCell ?_ (by first | (simp; done) | (simp; omega)) _ | refine Below.alloc ?_ (by first | (simp; done) | (simp; omega)) _))), R8.out.only K3.out (by decide) ((((Only.refl _ _).set _ _).set _ _).set _ _)⟩
theorem nat_one {N B : Nat} {w : World} {A : Option Addr} {n c : Nat} (h : NatR N B w (.slice A n c)) (h0 : 0 < N) (h1 : N < 4294967296) : ∃ g, A = some ⟨g, 0, none⟩ ∧ n = 1 ∧ CellAt w ⟨g, 0, none⟩ (.int .u32 (N : Int)) := by
  obtain ⟨A', c', e, r, f, l⟩ := h
  cases e
  have e := limbs_small h0 h1
  rw [e] at r l ⊢
  rcases f with f | ⟨g, cs, e1, hB, hk, hc⟩
  · simp at l; omega
  · subst e1
    obtain ⟨ad, e2, hl, hcl⟩ := r.2.2 (by simp)
    cases e2
    refine ⟨g, rfl, rfl, ?_⟩
    have := hcl 0 (by simp)
    rw [add0] at this
    exact this
theorem txt_one (l : List Nat) (N : Nat) (h : isNum l = true) (e : num l = N) : txt N = l := by rw [← e, txt_num h]
def s_1_0 : ByteArray := ⟨#[49, 47, 48]⟩
theorem rat_lit {w : World} {u d : Value} {N M : Nat} (h : Can w u N) (h' : Can w d M) (sN : L N ≤ 4398046511104) (sM : L M ≤ 4398046511104) : RPrt w (.agg #[.bool false, u, d]) false (limbs N) (limbs M) := ⟨u, d, rfl, h.prt sN, h'.prt sM⟩
theorem txt_half : byt ⟨#[45, 49, 47, 50]⟩ = rtxt (Rat.divInt (-1) 2) := by
  unfold rtxt itxt
  rw [show (Rat.divInt (-1) 2).num = -1 from by decide +kernel, show (Rat.divInt (-1) 2).den = 2 from by decide +kernel, if_pos (by decide), if_neg (by decide), show (-1 : Int).natAbs = 1 from rfl, txt_one [49] 1 (by decide) rfl, txt_one [50] 2 (by decide) rfl]
  rfl
theorem rok24 : rok false (limbs 2) (limbs 4) = false := by
  unfold rok
  rw [decide_eq_false (show ¬ Nat.gcd (nv (limbs 2)) (nv (limbs 4)) = 1 from by rw [nv_limbs, nv_limbs]; decide), Bool.and_false]
def Fact.prt2 (N M : Nat) : Fact := ⟨fun v w => RPrt w v false (limbs N) (limbs M), fun _ _ _ h hb => h.below hb⟩
theorem ld_u32 {w : World} {g : Nat} {v : Int} (h : CellAt w ⟨g, 0, none⟩ (.int .u32 v)) : (Instr.loadAt 37 (.pointer (some ⟨g, 0, none⟩))).run Tryz.prog w = .ok (.int .u32 v) w := by
  unfold CellAt at h
  simp [go_sem, h]
theorem rlof_C (w : World) (n d : Int) (h0 : -9223372036854775808 ≤ n) (h1 : n < 9223372036854775808) (h2 : -9223372036854775808 ≤ d) (h3 : d < 9223372036854775808) (hd : d ≠ 0) (hT : Tab w) :
    Calls Tryz.prog 23 #[.int .i64 n, .int .i64 d] w fun e w' => ∃ u, e = .returned u ∧ Below w.heap.size w w' ∧ RCan w' u (Rat.divInt n d) :=
  (rlof_P w n d h0 h1 h2 h3 hd hT).mono fun e w' ⟨u, h1, h2, h3⟩ => ⟨u, h1, h2, h3.can⟩
theorem rread_C {w : World} {s : ByteArray} (hs : s.size ≤ 4294967000) (hT : Tab w) (hM : MaxL w) (q : Rat) (hr : rmake (isgn (byt s)).1 (rsplit (isgn (byt s)).2) = .inl q) :
    Calls Tryz.prog 48 #[.string s] w fun e w' => ∃ u, e = .returned u ∧ Below w.heap.size w w' ∧ RCan w' u q :=
  (rread_P hs hT hM q hr).mono fun e w' ⟨u, h1, h2, h3⟩ => ⟨u, h1, h2, h3.can⟩
theorem rAdd_C {w : World} {v v' : Value} {p q : Rat} (h : RArg w v p) (h' : RArg w v' q) (hT : Tab w) :
    Calls Tryz.prog 24 #[v, v'] w fun e w' => ∃ u, e = .returned u ∧ Below w.heap.size w w' ∧ RCan w' u (p + q) :=
  (rAdd_P h h' hT).mono fun e w' ⟨u, h1, h2, h3⟩ => ⟨u, h1, h2, h3.can⟩
theorem rSub_C {w : World} {v v' : Value} {p q : Rat} (h : RArg w v p) (h' : RArg w v' q) (hT : Tab w) :
    Calls Tryz.prog 31 #[v, v'] w fun e w' => ∃ u, e = .returned u ∧ Below w.heap.size w w' ∧ RCan w' u (p - q) :=
  (rSub_P h h' hT).mono fun e w' ⟨u, h1, h2, h3⟩ => ⟨u, h1, h2, h3.can⟩
theorem rMul_C {w : World} {v v' : Value} {p q : Rat} (h : RArg w v p) (h' : RArg w v' q) (hT : Tab w) :
    Calls Tryz.prog 25 #[v, v'] w fun e w' => ∃ u, e = .returned u ∧ Below w.heap.size w w' ∧ RCan w' u (p * q) :=
  (rMul_P h h' hT).mono fun e w' ⟨u, h1, h2, h3⟩ => ⟨u, h1, h2, h3.can⟩
theorem fn_rlof (args : Array Value) (w : World) : (callFunc 23 args).run Tryz.prog w = .ok (.enter 23 args) w := callFunc_enter Tryz.func23 (by kernel_rfl) rfl args w
theorem fn_rsame (args : Array Value) (w : World) : (callFunc 22 args).run Tryz.prog w = .ok (.enter 22 args) w := callFunc_enter Tryz.func22 (by kernel_rfl) rfl args w
theorem fn_rread (args : Array Value) (w : World) : (callFunc 48 args).run Tryz.prog w = .ok (.enter 48 args) w := callFunc_enter Tryz.func48 (by kernel_rfl) rfl args w
theorem fn_rAdd (args : Array Value) (w : World) : (callFunc 24 args).run Tryz.prog w = .ok (.enter 24 args) w := callFunc_enter Tryz.func24 (by kernel_rfl) rfl args w
theorem fn_rSub (args : Array Value) (w : World) : (callFunc 31 args).run Tryz.prog w = .ok (.enter 31 args) w := callFunc_enter Tryz.func31 (by kernel_rfl) rfl args w
theorem fn_rMul (args : Array Value) (w : World) : (callFunc 25 args).run Tryz.prog w = .ok (.enter 25 args) w := callFunc_enter Tryz.func25 (by kernel_rfl) rfl args w
theorem fn_rText (args : Array Value) (w : World) : (callFunc 19 args).run Tryz.prog w = .ok (.enter 19 args) w := callFunc_enter Tryz.func19 (by kernel_rfl) rfl args w
theorem fn_rCheck (args : Array Value) (w : World) : (callFunc 21 args).run Tryz.prog w = .ok (.enter 21 args) w := callFunc_enter Tryz.func21 (by kernel_rfl) rfl args w
theorem fn_rCmp (args : Array Value) (w : World) : (callFunc 35 args).run Tryz.prog w = .ok (.enter 35 args) w := callFunc_enter Tryz.func35 (by kernel_rfl) rfl args w
theorem fn_rSign (args : Array Value) (w : World) : (callFunc 33 args).run Tryz.prog w = .ok (.enter 33 args) w := callFunc_enter Tryz.func33 (by kernel_rfl) rfl args w
theorem fn_ralive (args : Array Value) (w : World) : (callFunc 17 args).run Tryz.prog w = .ok (.enter 17 args) w := callFunc_enter Tryz.func17 (by kernel_rfl) rfl args w
theorem fn_rgreat (args : Array Value) (w : World) : (callFunc 18 args).run Tryz.prog w = .ok (.enter 18 args) w := callFunc_enter Tryz.func18 (by kernel_rfl) rfl args w
set_option maxHeartbeats 4000000 in
theorem ralive_P (w : World) (hT : Tab w) (hM : MaxL w) :
    Calls Tryz.prog 17 #[] w fun e w' => ∃ u, e = .returned u ∧ Below w.heap.size w w' ∧ u = .bool true := by
  refine opq fun R hR => ?_
  have T := hide hT
  have M := hide hM
  clear hT hM
  go_enter Tryz.func17, Tryz.ntmps17
  have b0 := hide (Below.refl w.heap.size w)
  go_wp2_with fail
  refine (iOf_ok _ 1 (by decide) (by decide)).mono ?_
  rintro e w1 ⟨v1, rfl, d0, r1⟩
  replace b0 := hide (below_tr b0.out d0)
  have I1 := hide (r1.can)
  clear d0
  clear r1
  obtain ⟨b1, A1, n1, c1, rfl⟩ := I1.out.slice
  go_wp2_with fail
  refine (iOf_ok _ 0 (by decide) (by decide)).mono ?_
  rintro e w2 ⟨v2, rfl, d0, r2⟩
  replace I1 := hide (I1.out.below d0)
  replace b0 := hide (below_tr b0.out d0)
  have I2 := hide (r2.can)
  clear d0
  clear r2
  obtain ⟨b2, A2, n2, c2, rfl⟩ := I2.out.slice
  go_wp2_with fail
  refine (rMake_zero I1.out I2.out (int64_L (by decide) (by decide)) (int64_L (by decide) (by decide)) rfl (T.out.below b0.out)).mono ?_
  rintro e w3 ⟨rfl, d0⟩
  replace I1 := hide (I1.out.below d0)
  replace I2 := hide (I2.out.below d0)
  replace b0 := hide (below_tr b0.out d0)
  clear d0
  clear I1 I2
  have K1 := hide (Blk.new_at w3 (w3.heap.size) (by simp) 27 #[.bool false, .slice none 0 0, .slice none 0 0])
  have y := (Below.refl w3.heap.size w3).alloc (Nat.le_refl _) (.cells #[.bool false, .slice none 0 0, .slice none 0 0] 27)
  replace b0 := hide (below_tr b0.out y)
  clear y
  go_wp2_with fail
  refine (rlof_P _ (1) (2) (by decide) (by decide) (by decide) (by decide) (by decide) (T.out.below b0.out)).mono ?_
  rintro e w4 ⟨v3, rfl, d0, r3⟩
  replace K1 := hide (K1.out.below' d0)
  replace b0 := hide (below_tr b0.out d0)
  have Q1 := hide (r3.can)
  clear d0
  clear r3
  obtain ⟨b3, A3, n3, c3, D3, m3, k3, rfl⟩ := Q1.out.slice
  go_wp2_with fail
  refine (rlof_P _ (-2) (1) (by decide) (by decide) (by decide) (by decide) (by decide) (T.out.below b0.out)).mono ?_
  rintro e w5 ⟨v4, rfl, d0, r4⟩
  replace K1 := hide (K1.out.below' d0)
  replace Q1 := hide (Q1.out.below d0)
  replace b0 := hide (below_tr b0.out d0)
  have Q2 := hide (r4.can)
  clear d0
  clear r4
  obtain ⟨b4, A4, n4, c4, D4, m4, k4, rfl⟩ := Q2.out.slice
  go_wp2_with fail
  refine (rDiv_ok Q1.out ((H_small (q := (Rat.divInt (1) (2))) (by decide +kernel) (by decide +kernel)).up (by decide)) Q2.out ((H_small (q := (Rat.divInt (-2) (1))) (by decide +kernel) (by decide +kernel)).up (by decide)) (T.out.below b0.out) (by decide +kernel)).mono ?_
  rintro e w6 ⟨v5, rfl, d0, r5⟩
  replace K1 := hide (K1.out.below' d0)
  replace Q1 := hide (Q1.out.below d0)
  replace Q2 := hide (Q2.out.below d0)
  replace b0 := hide (below_tr b0.out d0)
  have BY := hide (r5.can)
  clear d0
  clear r5
  obtain ⟨b5, A5, n5, c5, D5, m5, k5, rfl⟩ := BY.out.slice
  clear Q1 Q2
  have K3 := hide (Blk.new_at w6 (w6.heap.size) (by simp) 27 #[.bool b5, .slice A5 n5 c5, .slice D5 m5 k5])
  have y := (Below.refl w6.heap.size w6).alloc (Nat.le_refl _) (.cells #[.bool b5, .slice A5 n5 c5, .slice D5 m5 k5] 27)
  replace K1 := hide (K1.out.below' y)
  replace BY := hide (BY.out.below y)
  replace b0 := hide (below_tr b0.out y)
  clear y
  go_wp2_with fail
  refine (rlof_P _ (1) (1) (by decide) (by decide) (by decide) (by decide) (by decide) (T.out.below b0.out)).mono ?_
  rintro e w7 ⟨v6, rfl, d0, r6⟩
  replace K1 := hide (K1.out.below' d0)
  replace BY := hide (BY.out.below d0)
  replace K3 := hide (K3.out.below' d0)
  replace b0 := hide (below_tr b0.out d0)
  have Q1 := hide (r6.can)
  clear d0
  clear r6
  obtain ⟨b6, A6, n6, c6, D6, m6, k6, rfl⟩ := Q1.out.slice
  go_wp2_with fail
  refine (rlof_P _ (0) (1) (by decide) (by decide) (by decide) (by decide) (by decide) (T.out.below b0.out)).mono ?_
  rintro e w8 ⟨v7, rfl, d0, r7⟩
  replace K1 := hide (K1.out.below' d0)
  replace BY := hide (BY.out.below d0)
  replace K3 := hide (K3.out.below' d0)
  replace Q1 := hide (Q1.out.below d0)
  replace b0 := hide (below_tr b0.out d0)
  have Q2 := hide (r7.can)
  clear d0
  clear r7
  obtain ⟨b7, A7, n7, c7, D7, m7, k7, rfl⟩ := Q2.out.slice
  go_wp2_with fail
  refine (rDiv_zero Q1.out ((H_small (q := (Rat.divInt (1) (1))) (by decide +kernel) (by decide +kernel)).up (by decide)) Q2.out ((H_small (q := (Rat.divInt (0) (1))) (by decide +kernel) (by decide +kernel)).up (by decide)) (T.out.below b0.out) (by decide +kernel)).mono ?_
  rintro e w9 ⟨rfl, d0⟩
  replace K1 := hide (K1.out.below' d0)
  replace BY := hide (BY.out.below d0)
  replace K3 := hide (K3.out.below' d0)
  replace Q1 := hide (Q1.out.below d0)
  replace Q2 := hide (Q2.out.below d0)
  replace b0 := hide (below_tr b0.out d0)
  clear d0
  clear Q1 Q2
  have K5 := hide (Blk.new_at w9 (w9.heap.size) (by simp) 27 #[.bool false, .slice none 0 0, .slice none 0 0])
  have y := (Below.refl w9.heap.size w9).alloc (Nat.le_refl _) (.cells #[.bool false, .slice none 0 0, .slice none 0 0] 27)
  replace K1 := hide (K1.out.below' y)
  replace BY := hide (BY.out.below y)
  replace K3 := hide (K3.out.below' y)
  replace b0 := hide (below_tr b0.out y)
  clear y
  go_wp2_with fail
  refine (rParse_no (s := ⟨#[49, 47, 48]⟩) (by decide) (T.out.below b0.out) (M.out.below b0.out) 4 (by decide +kernel)).mono ?_
  rintro e w10 ⟨rfl, d0⟩
  replace K1 := hide (K1.out.below' d0)
  replace BY := hide (BY.out.below d0)
  replace K3 := hide (K3.out.below' d0)
  replace K5 := hide (K5.out.below' d0)
  replace b0 := hide (below_tr b0.out d0)
  clear d0
  have K7 := hide (Blk.new_at w10 (w10.heap.size) (by simp) 27 #[.bool false, .slice none 0 0, .slice none 0 0])
  have y := (Below.refl w10.heap.size w10).alloc (Nat.le_refl _) (.cells #[.bool false, .slice none 0 0, .slice none 0 0] 27)
  replace K1 := hide (K1.out.below' y)
  replace BY := hide (BY.out.below y)
  replace K3 := hide (K3.out.below' y)
  replace K5 := hide (K5.out.below' y)
  replace b0 := hide (below_tr b0.out y)
  clear y
  go_wp2_with fail
  refine (rParse_no (s := ⟨#[45, 48, 46, 48, 48]⟩) (by decide) (T.out.below b0.out) (M.out.below b0.out) 4 (by decide +kernel)).mono ?_
  rintro e w11 ⟨rfl, d0⟩
  replace K1 := hide (K1.out.below' d0)
  replace BY := hide (BY.out.below d0)
  replace K3 := hide (K3.out.below' d0)
  replace K5 := hide (K5.out.below' d0)
  replace K7 := hide (K7.out.below' d0)
  replace b0 := hide (below_tr b0.out d0)
  clear d0
  have K9 := hide (Blk.new_at w11 (w11.heap.size) (by simp) 27 #[.bool false, .slice none 0 0, .slice none 0 0])
  have y := (Below.refl w11.heap.size w11).alloc (Nat.le_refl _) (.cells #[.bool false, .slice none 0 0, .slice none 0 0] 27)
  replace K1 := hide (K1.out.below' y)
  replace BY := hide (BY.out.below y)
  replace K3 := hide (K3.out.below' y)
  replace K5 := hide (K5.out.below' y)
  replace K7 := hide (K7.out.below' y)
  replace b0 := hide (below_tr b0.out y)
  clear y
  go_wp2_with fail
  refine (rlof_P _ (6) (-4) (by decide) (by decide) (by decide) (by decide) (by decide) (T.out.below b0.out)).mono ?_
  rintro e w12 ⟨v8, rfl, d0, r8⟩
  replace K1 := hide (K1.out.below' d0)
  replace BY := hide (BY.out.below d0)
  replace K3 := hide (K3.out.below' d0)
  replace K5 := hide (K5.out.below' d0)
  replace K7 := hide (K7.out.below' d0)
  replace K9 := hide (K9.out.below' d0)
  replace b0 := hide (below_tr b0.out d0)
  have X := hide (r8)
  clear d0
  clear r8
  obtain ⟨b8, A8, n8, c8, D8, m8, k8, rfl⟩ := X.out.slice
  obtain ⟨hb8, X1, X2⟩ : b8 = true ∧ (∃ B, NatR 3 B w12 (.slice A8 n8 c8)) ∧ (∃ B, NatR 2 B w12 (.slice D8 m8 k8)) := by
    obtain ⟨u, d, e, h1, h2, h3⟩ := X.out
    cases e
    exact ⟨by decide +kernel, ⟨_, h1⟩, ⟨_, h2⟩⟩
  subst hb8
  obtain ⟨_, X1⟩ := X1
  obtain ⟨_, X2⟩ := X2
  obtain ⟨gx, rfl, rfl, CX⟩ := nat_one X1 (by decide) (by decide)
  obtain ⟨gy, rfl, rfl, CY⟩ := nat_one X2 (by decide) (by decide)
  replace CX := hide CX
  replace CY := hide CY
  clear X1 X2
  clear X
  have K11 := hide (Blk.new_at w12 (w12.heap.size) (by simp) 27 #[.bool true, .slice (some ⟨gx, 0, none⟩) 1 c8, .slice (some ⟨gy, 0, none⟩) 1 k8])
  have y := (Below.refl w12.heap.size w12).alloc (Nat.le_refl _) (.cells #[.bool true, .slice (some ⟨gx, 0, none⟩) 1 c8, .slice (some ⟨gy, 0, none⟩) 1 k8] 27)
  replace K1 := hide (K1.out.below' y)
  replace BY := hide (BY.out.below y)
  replace K3 := hide (K3.out.below' y)
  replace K5 := hide (K5.out.below' y)
  replace K7 := hide (K7.out.below' y)
  replace K9 := hide (K9.out.below' y)
  replace CX := hide (CX.out.below y)
  replace CY := hide (CY.out.below y)
  replace b0 := hide (below_tr b0.out y)
  clear y
  go_wp2_with fail
  refine (rlof_P _ (-7) (2) (by decide) (by decide) (by decide) (by decide) (by decide) (T.out.below b0.out)).mono ?_
  rintro e w13 ⟨v9, rfl, d0, r9⟩
  replace K1 := hide (K1.out.below' d0)
  replace BY := hide (BY.out.below d0)
  replace K3 := hide (K3.out.below' d0)
  replace K5 := hide (K5.out.below' d0)
  replace K7 := hide (K7.out.below' d0)
  replace K9 := hide (K9.out.below' d0)
  replace CX := hide (CX.out.below d0)
  replace CY := hide (CY.out.below d0)
  replace K11 := hide (K11.out.below' d0)
  replace b0 := hide (below_tr b0.out d0)
  have Q1 := hide (r9.can)
  clear d0
  clear r9
  obtain ⟨b9, A9, n9, c9, D9, m9, k9, rfl⟩ := Q1.out.slice
  go_wp2_with fail
  refine (rFloor_P (Q1.out.arg ((H_small (q := (Rat.divInt (-7) (2))) (by decide +kernel) (by decide +kernel)).up (by decide))) (T.out.below b0.out)).mono ?_
  rintro e w14 ⟨v10, rfl, d0, r10⟩
  replace K1 := hide (K1.out.below' d0)
  replace BY := hide (BY.out.below d0)
  replace K3 := hide (K3.out.below' d0)
  replace K5 := hide (K5.out.below' d0)
  replace K7 := hide (K7.out.below' d0)
  replace K9 := hide (K9.out.below' d0)
  replace CX := hide (CX.out.below d0)
  replace CY := hide (CY.out.below d0)
  replace K11 := hide (K11.out.below' d0)
  replace Q1 := hide (Q1.out.below d0)
  replace b0 := hide (below_tr b0.out d0)
  have FL := hide (r10.can)
  clear d0
  clear r10
  obtain ⟨b10, A10, n10, c10, rfl⟩ := FL.out.slice
  clear Q1
  replace FL := hide (show ICan w14 _ (-4) from (show (Rat.divInt (-7) (2)).floor = -4 from by decide +kernel) ▸ FL.out)
  go_wp2_with fail
  refine (iBack_in FL.out (int64_L (by decide) (by decide)) (by decide) (by decide)).mono ?_
  rintro e w15 ⟨rfl, d0⟩
  replace K1 := hide (K1.out.below' d0)
  replace BY := hide (BY.out.below d0)
  replace K3 := hide (K3.out.below' d0)
  replace K5 := hide (K5.out.below' d0)
  replace K7 := hide (K7.out.below' d0)
  replace K9 := hide (K9.out.below' d0)
  replace CX := hide (CX.out.below d0)
  replace CY := hide (CY.out.below d0)
  replace K11 := hide (K11.out.below' d0)
  replace FL := hide (FL.out.below d0)
  replace b0 := hide (below_tr b0.out d0)
  clear d0
  clear FL
  go_wp2
  obtain ⟨V1_15, hV⟩ : ∃ V, w15 = V := ⟨_, rfl⟩
  rw [hV] at K1 BY K3 K5 K7 K9 CX CY K11 b0
  rw [hV]
  clear hV
  refine wp_region_facts 95 (fun w' => Below V1_15.heap.size V1_15 w') [(47, .eq (.int .i64 (10))), (48, .eq (.bool true)), (49, .eq (.bool true)), (50, .eq (.int .i64 (0))), (51, .eq (.bool true)), (52, .eq (.bool true)), (53, .eq (.bool true)), (54, .eq (.int .i64 (10))), (55, .eq (.bool true)), (56, .eq (.bool true)), (57, .eq (.bool true)), (58, .eq (.int .i64 (4))), (59, .eq (.bool true)), (60, .eq (.bool true)), (61, .eq (.bool true)), (62, .eq (.int .i64 (4))), (63, .eq (.bool true)), (64, .eq (.bool true)), (65, .eq (.bool true)), (66, .eq (.int .i64 (0))), (67, .eq (.bool true)), (68, .eq (.bool true)), (69, .eq (.bool true)), (70, .eq (.int .i64 (-4))), (71, .eq (.bool true)), (72, .eq (.bool true)), (73, .eq (.bool true)), (74, .eq ((.pointer (some ⟨w12.heap.size, 0, none⟩) : Value))), (75, .eq ((.pointer (some ⟨w12.heap.size, 0, none⟩) : Value))), (76, .eq (.bool true)), (77, .eq (.bool true)), (78, .eq (.bool true)), (79, .eq ((.pointer (some ⟨w12.heap.size, 0, none⟩) : Value))), (80, .eq ((.pointer (some ⟨w12.heap.size, 1, none⟩) : Value))), (81, .eq (.slice (some ⟨gx, 0, none⟩) 1 c8)), (82, .eq (.int .i64 (1))), (83, .eq (.bool true)), (84, .eq (.bool true)), (85, .eq (.bool true)), (86, .eq ((.pointer (some ⟨w12.heap.size, 0, none⟩) : Value))), (87, .eq ((.pointer (some ⟨w12.heap.size, 1, none⟩) : Value))), (88, .eq (.slice (some ⟨gx, 0, none⟩) 1 c8)), (89, .eq ((.pointer (some ⟨gx, 0, none⟩) : Value))), (90, .eq (.int .u32 (3))), (91, .eq (.bool true)), (92, .eq (.bool true)), (93, .eq (.bool true)), (94, .eq ((.pointer (some ⟨w12.heap.size, 2, none⟩) : Value))), (95, .eq (.slice (some ⟨gy, 0, none⟩) 1 k8)), (96, .eq (.int .i64 (1))), (97, .eq (.bool true)), (98, .eq (.bool true)), (99, .eq (.bool true)), (100, .eq ((.pointer (some ⟨w12.heap.size, 2, none⟩) : Value))), (101, .eq (.slice (some ⟨gy, 0, none⟩) 1 k8)), (102, .eq ((.pointer (some ⟨gy, 0, none⟩) : Value))), (103, .eq (.int .u32 (2))), (104, .eq (.bool true)), (105, .eq (.bool true)), (106, .eq (.bool true)), (107, (.rat0 V1_15 ((Rat.divInt (1) (2)) / (Rat.divInt (-2) (1))))), (108, (.rat (Rat.divInt (-1) (4)))), (109, .eq (.bool true)), (110, .eq (.bool true)), (111, .eq (.bool true)), (112, (.rat (Rat.divInt (1) (2)))), (113, (.rat (Rat.divInt (1) (3)))), (114, (.rat ((Rat.divInt (1) (2)) + (Rat.divInt (1) (3))))), (115, (.rat (Rat.divInt (5) (6)))), (116, .eq (.bool true)), (117, .eq (.bool true)), (118, .eq (.bool true)), (119, (.rat (Rat.divInt (-1) (2)))), (120, .eq (.string ⟨#[45, 49, 47, 50]⟩)), (121, .eq (.bool true)), (122, .eq (.bool true)), (123, .eq (.bool true)), (124, (.rat (Rat.divInt (-25) (2)))), (125, (.rat (Rat.divInt (-25) (2)))), (126, .eq (.bool true)), (127, .eq (.bool true)), (128, .eq (.bool true)), (129, (.rat (Rat.divInt (3) (2)))), (130, (.rat (Rat.divInt (3) (2)))), (131, .eq (.bool true)), (132, .eq (.bool true)), (133, .eq (.bool true)), (134, (.nat 2)), (135, (.int 2)), (136, (.nat 4)), (137, (.prt2 2 4)), (138, .eq (.bool false)), (139, .eq (.bool true)), (140, .eq (.bool true)), (0, .eq (.bool true))] [true, false, false, false, false, false, false, false, false, false, false, false, false, false, false, false, false, false, false, false, false, false, false, false, false, false, false, false, false, false, false, false, false, false, false, false, false, false, false, false, false, false, false, false, false, false, false, true, true, true, true, true, true, true, true, true, true, true, true, true, true, true, true, true, true, true, true, true, true, true, true, true, true, true, true, true, true, true, true, true, true, true, true, true, true, true, true, true, true, true, true, true, true, true, true, true, true, true, true, true, true, true, true, true, true, true, true, true, true, true, true, true, true, true, true, true, true, true, true, true, true, true, true, true, true, true, true, true, true, true, true, true, true, true, true, true, true, true, true, true, true] mixed (by kernel_rfl) (by kernel_rfl) (by kernel_rfl) (fun _ _ h hb => h.trans (hb.mono h.size)) ((Below.refl _ _).drew) ⟨?_, ?_, ?_, ?_, ?_, ?_, ?_, ?_, ?_, ?_, ?_, ?_, ?_, ?_, ?_, ?_, ?_, ?_, ?_, ?_, ?_, ?_, ?_, ?_, ?_, ?_, ?_, ?_, ?_, ?_, ?_, ?_, ?_, ?_, ?_, ?_, ?_, ?_, ?_, ?_, ?_, ?_, ?_, ?_, ?_, ?_, ?_, ?_, ?_, ?_, ?_, ?_, ?_, ?_, ?_, ?_, ?_, ?_, ?_, ?_, ?_, ?_, ?_, ?_, ?_, ?_, ?_, ?_, ?_, ?_, ?_, ?_, ?_, ?_, ?_, ?_, ?_, ?_, ?_, ?_, ?_, ?_, ?_, ?_, ?_, ?_, ?_, ?_, ?_, ?_, ?_, ?_, ?_, ?_, ?_, trivial⟩ ?_
  · exact .moveC (.inl rfl) (.inl rfl) rfl (fun a w' hC hs => (hs 2 (by kernel_rfl)))
  · exact .value (.inl rfl) (by intro T e; cases e) rfl rfl (fun a w' hC hs hl => by
      have e0 : a.eval (.tmp 47) = (.int .i64 (10)) := (hl 47 (by kernel_rfl) (by kernel_rfl))
      simp only [execOp, e0]
      simp only [Act.eval]
      simp [go_sem] <;> rfl)
  · exact .move (.inl rfl) (.inl rfl) rfl (by kernel_rfl) (by kernel_rfl) rfl
  · exact .moveC (.inr ⟨2, true, 49, by decide, rfl, rfl, rfl⟩) (.inl rfl) rfl (fun a w' hC hs => (hs 4 (by kernel_rfl)))
  · exact .value (.inr ⟨2, true, 49, by decide, rfl, rfl, rfl⟩) (by intro T e; cases e) rfl rfl (fun a w' hC hs hl => by
      have e0 : a.eval (.tmp 50) = (.int .i64 (0)) := (hl 50 (by kernel_rfl) (by kernel_rfl))
      simp only [execOp, e0]
      simp only [Act.eval]
      simp [go_sem] <;> rfl)
  · exact .pick (b := true) (.inl rfl) rfl rfl (fun a w' hC hs hl => ⟨(hl 49 (by kernel_rfl) (by kernel_rfl)), (hl 51 (by kernel_rfl) (by kernel_rfl))⟩)
  · exact .move (.inl rfl) (.inl rfl) rfl (by kernel_rfl) (by kernel_rfl) rfl
  · exact .moveC (.inr ⟨6, true, 53, by decide, rfl, rfl, rfl⟩) (.inl rfl) rfl (fun a w' hC hs => (hs 6 (by kernel_rfl)))
  · exact .value (.inr ⟨6, true, 53, by decide, rfl, rfl, rfl⟩) (by intro T e; cases e) rfl rfl (fun a w' hC hs hl => by
      have e0 : a.eval (.tmp 54) = (.int .i64 (10)) := (hl 54 (by kernel_rfl) (by kernel_rfl))
      simp only [execOp, e0]
      simp only [Act.eval]
      simp [go_sem] <;> rfl)
  · exact .pick (b := true) (.inl rfl) rfl rfl (fun a w' hC hs hl => ⟨(hl 53 (by kernel_rfl) (by kernel_rfl)), (hl 55 (by kernel_rfl) (by kernel_rfl))⟩)
  · exact .move (.inl rfl) (.inl rfl) rfl (by kernel_rfl) (by kernel_rfl) rfl
  · exact .moveC (.inr ⟨10, true, 57, by decide, rfl, rfl, rfl⟩) (.inl rfl) rfl (fun a w' hC hs => (hs 8 (by kernel_rfl)))
  · exact .value (.inr ⟨10, true, 57, by decide, rfl, rfl, rfl⟩) (by intro T e; cases e) rfl rfl (fun a w' hC hs hl => by
      have e0 : a.eval (.tmp 58) = (.int .i64 (4)) := (hl 58 (by kernel_rfl) (by kernel_rfl))
      simp only [execOp, e0]
      simp only [Act.eval]
      simp [go_sem] <;> rfl)
  · exact .pick (b := true) (.inl rfl) rfl rfl (fun a w' hC hs hl => ⟨(hl 57 (by kernel_rfl) (by kernel_rfl)), (hl 59 (by kernel_rfl) (by kernel_rfl))⟩)
  · exact .move (.inl rfl) (.inl rfl) rfl (by kernel_rfl) (by kernel_rfl) rfl
  · exact .moveC (.inr ⟨14, true, 61, by decide, rfl, rfl, rfl⟩) (.inl rfl) rfl (fun a w' hC hs => (hs 10 (by kernel_rfl)))
  · exact .value (.inr ⟨14, true, 61, by decide, rfl, rfl, rfl⟩) (by intro T e; cases e) rfl rfl (fun a w' hC hs hl => by
      have e0 : a.eval (.tmp 62) = (.int .i64 (4)) := (hl 62 (by kernel_rfl) (by kernel_rfl))
      simp only [execOp, e0]
      simp only [Act.eval]
      simp [go_sem] <;> rfl)
  · exact .pick (b := true) (.inl rfl) rfl rfl (fun a w' hC hs hl => ⟨(hl 61 (by kernel_rfl) (by kernel_rfl)), (hl 63 (by kernel_rfl) (by kernel_rfl))⟩)
  · exact .move (.inl rfl) (.inl rfl) rfl (by kernel_rfl) (by kernel_rfl) rfl
  · exact .moveC (.inr ⟨18, true, 65, by decide, rfl, rfl, rfl⟩) (.inl rfl) rfl (fun a w' hC hs => (hs 13 (by kernel_rfl)))
  · exact .value (.inr ⟨18, true, 65, by decide, rfl, rfl, rfl⟩) (by intro T e; cases e) rfl rfl (fun a w' hC hs hl => by
      have e0 : a.eval (.tmp 66) = (.int .i64 (0)) := (hl 66 (by kernel_rfl) (by kernel_rfl))
      simp only [execOp, e0]
      simp only [Act.eval]
      simp [go_sem] <;> rfl)
  · exact .pick (b := true) (.inl rfl) rfl rfl (fun a w' hC hs hl => ⟨(hl 65 (by kernel_rfl) (by kernel_rfl)), (hl 67 (by kernel_rfl) (by kernel_rfl))⟩)
  · exact .move (.inl rfl) (.inl rfl) rfl (by kernel_rfl) (by kernel_rfl) rfl
  · exact .moveC (.inr ⟨22, true, 69, by decide, rfl, rfl, rfl⟩) (.inl rfl) rfl (fun a w' hC hs => (hs 12 (by kernel_rfl)))
  · exact .value (.inr ⟨22, true, 69, by decide, rfl, rfl, rfl⟩) (by intro T e; cases e) rfl rfl (fun a w' hC hs hl => by
      have e0 : a.eval (.tmp 70) = (.int .i64 (-4)) := (hl 70 (by kernel_rfl) (by kernel_rfl))
      simp only [execOp, e0]
      simp only [Act.eval]
      simp [go_sem] <;> rfl)
  · exact .pick (b := true) (.inl rfl) rfl rfl (fun a w' hC hs hl => ⟨(hl 69 (by kernel_rfl) (by kernel_rfl)), (hl 71 (by kernel_rfl) (by kernel_rfl))⟩)
  · exact .move (.inl rfl) (.inl rfl) rfl (by kernel_rfl) (by kernel_rfl) rfl
  · exact .fieldAddr (.inr ⟨26, true, 73, by decide, rfl, rfl, rfl⟩) rfl rfl rfl (fun a w' hC hs hl => by rw [show a.eval (.tmp 11) = (.pointer (some ⟨w12.heap.size, 0, none⟩) : Value) from (hs 11 (by kernel_rfl))]; exact fa_Rat0_)
  · exact .fieldAddr (.inr ⟨26, true, 73, by decide, rfl, rfl, rfl⟩) rfl rfl rfl (fun a w' hC hs hl => by rw [show a.eval (.tmp 74) = (.pointer (some ⟨w12.heap.size, 0, none⟩) : Value) from (hl 74 (by kernel_rfl) (by kernel_rfl))]; exact fa_Int0_)
  · exact .load (.bool true) (.inr ⟨26, true, 73, by decide, rfl, rfl, rfl⟩) rfl rfl (fun a w' hC hs hl => by rw [show a.eval (.tmp 75) = (.pointer (some ⟨w12.heap.size, 0, none⟩) : Value) from (hl 75 (by kernel_rfl) (by kernel_rfl))]; exact ⟨ld_bool ((K11.out.below' hC).at_ 0 rfl), rfl⟩)
  · exact .pick (b := true) (.inl rfl) rfl rfl (fun a w' hC hs hl => ⟨(hl 73 (by kernel_rfl) (by kernel_rfl)), (hl 76 (by kernel_rfl) (by kernel_rfl))⟩)
  · exact .move (.inl rfl) (.inl rfl) rfl (by kernel_rfl) (by kernel_rfl) rfl
  · exact .fieldAddr (.inr ⟨31, true, 78, by decide, rfl, rfl, rfl⟩) rfl rfl rfl (fun a w' hC hs hl => by rw [show a.eval (.tmp 11) = (.pointer (some ⟨w12.heap.size, 0, none⟩) : Value) from (hs 11 (by kernel_rfl))]; exact fa_Rat0_)
  · exact .fieldAddr (.inr ⟨31, true, 78, by decide, rfl, rfl, rfl⟩) rfl rfl rfl (fun a w' hC hs hl => by rw [show a.eval (.tmp 79) = (.pointer (some ⟨w12.heap.size, 0, none⟩) : Value) from (hl 79 (by kernel_rfl) (by kernel_rfl))]; exact fa_Int1_)
  · exact .load (.slice (some ⟨gx, 0, none⟩) 1 c8) (.inr ⟨31, true, 78, by decide, rfl, rfl, rfl⟩) rfl rfl (fun a w' hC hs hl => by rw [show a.eval (.tmp 80) = (.pointer (some ⟨w12.heap.size, 1, none⟩) : Value) from (hl 80 (by kernel_rfl) (by kernel_rfl))]; exact ⟨ld_Nat ((K11.out.below' hC).at_ 1 rfl), rfl⟩)
  · exact .value (.inr ⟨31, true, 78, by decide, rfl, rfl, rfl⟩) (by intro T e; cases e) rfl rfl (fun a w' hC hs hl => by
      have e0 : a.eval (.tmp 81) = (.slice (some ⟨gx, 0, none⟩) 1 c8) := (hl 81 (by kernel_rfl) (by kernel_rfl))
      have e0' : a.tmps[81]?.getD undef = _ := (by simp [Act.eval] : _ = a.eval (.tmp 81)).trans e0
      simp [execOp, resolve, invoke, builtin, go_sem, e0, e0'])
  · exact .value (.inr ⟨31, true, 78, by decide, rfl, rfl, rfl⟩) (by intro T e; cases e) rfl rfl (fun a w' hC hs hl => by
      have e0 : a.eval (.tmp 82) = (.int .i64 (1)) := (hl 82 (by kernel_rfl) (by kernel_rfl))
      simp only [execOp, e0]
      simp only [Act.eval]
      simp [go_sem] <;> rfl)
  · exact .pick (b := true) (.inl rfl) rfl rfl (fun a w' hC hs hl => ⟨(hl 78 (by kernel_rfl) (by kernel_rfl)), (hl 83 (by kernel_rfl) (by kernel_rfl))⟩)
  · exact .move (.inl rfl) (.inl rfl) rfl (by kernel_rfl) (by kernel_rfl) rfl
  · exact .fieldAddr (.inr ⟨38, true, 85, by decide, rfl, rfl, rfl⟩) rfl rfl rfl (fun a w' hC hs hl => by rw [show a.eval (.tmp 11) = (.pointer (some ⟨w12.heap.size, 0, none⟩) : Value) from (hs 11 (by kernel_rfl))]; exact fa_Rat0_)
  · exact .fieldAddr (.inr ⟨38, true, 85, by decide, rfl, rfl, rfl⟩) rfl rfl rfl (fun a w' hC hs hl => by rw [show a.eval (.tmp 86) = (.pointer (some ⟨w12.heap.size, 0, none⟩) : Value) from (hl 86 (by kernel_rfl) (by kernel_rfl))]; exact fa_Int1_)
  · exact .load (.slice (some ⟨gx, 0, none⟩) 1 c8) (.inr ⟨38, true, 85, by decide, rfl, rfl, rfl⟩) rfl rfl (fun a w' hC hs hl => by rw [show a.eval (.tmp 87) = (.pointer (some ⟨w12.heap.size, 1, none⟩) : Value) from (hl 87 (by kernel_rfl) (by kernel_rfl))]; exact ⟨ld_Nat ((K11.out.below' hC).at_ 1 rfl), rfl⟩)
  · exact .value (.inr ⟨38, true, 85, by decide, rfl, rfl, rfl⟩) (by intro T e; cases e) rfl rfl (fun a w' hC hs hl => by
      have e0 : a.eval (.tmp 88) = (.slice (some ⟨gx, 0, none⟩) 1 c8) := (hl 88 (by kernel_rfl) (by kernel_rfl))
      simp only [execOp, e0]
      simp only [Act.eval]
      simp [go_sem, Addr.add])
  · exact .load (.int .u32 3) (.inr ⟨38, true, 85, by decide, rfl, rfl, rfl⟩) rfl rfl (fun a w' hC hs hl => by rw [show a.eval (.tmp 89) = (.pointer (some ⟨gx, 0, none⟩) : Value) from (hl 89 (by kernel_rfl) (by kernel_rfl))]; exact ⟨ld_u32 (CX.out.below hC), rfl⟩)
  · exact .value (.inr ⟨38, true, 85, by decide, rfl, rfl, rfl⟩) (by intro T e; cases e) rfl rfl (fun a w' hC hs hl => by
      have e0 : a.eval (.tmp 90) = (.int .u32 (3)) := (hl 90 (by kernel_rfl) (by kernel_rfl))
      simp only [execOp, e0]
      simp only [Act.eval]
      simp [go_sem] <;> rfl)
  · exact .pick (b := true) (.inl rfl) rfl rfl (fun a w' hC hs hl => ⟨(hl 85 (by kernel_rfl) (by kernel_rfl)), (hl 91 (by kernel_rfl) (by kernel_rfl))⟩)
  · exact .move (.inl rfl) (.inl rfl) rfl (by kernel_rfl) (by kernel_rfl) rfl
  · exact .fieldAddr (.inr ⟨46, true, 93, by decide, rfl, rfl, rfl⟩) rfl rfl rfl (fun a w' hC hs hl => by rw [show a.eval (.tmp 11) = (.pointer (some ⟨w12.heap.size, 0, none⟩) : Value) from (hs 11 (by kernel_rfl))]; exact fa_Rat1_)
  · exact .load (.slice (some ⟨gy, 0, none⟩) 1 k8) (.inr ⟨46, true, 93, by decide, rfl, rfl, rfl⟩) rfl rfl (fun a w' hC hs hl => by rw [show a.eval (.tmp 94) = (.pointer (some ⟨w12.heap.size, 2, none⟩) : Value) from (hl 94 (by kernel_rfl) (by kernel_rfl))]; exact ⟨ld_Nat ((K11.out.below' hC).at_ 2 rfl), rfl⟩)
  · exact .value (.inr ⟨46, true, 93, by decide, rfl, rfl, rfl⟩) (by intro T e; cases e) rfl rfl (fun a w' hC hs hl => by
      have e0 : a.eval (.tmp 95) = (.slice (some ⟨gy, 0, none⟩) 1 k8) := (hl 95 (by kernel_rfl) (by kernel_rfl))
      have e0' : a.tmps[95]?.getD undef = _ := (by simp [Act.eval] : _ = a.eval (.tmp 95)).trans e0
      simp [execOp, resolve, invoke, builtin, go_sem, e0, e0'])
  · exact .value (.inr ⟨46, true, 93, by decide, rfl, rfl, rfl⟩) (by intro T e; cases e) rfl rfl (fun a w' hC hs hl => by
      have e0 : a.eval (.tmp 96) = (.int .i64 (1)) := (hl 96 (by kernel_rfl) (by kernel_rfl))
      simp only [execOp, e0]
      simp only [Act.eval]
      simp [go_sem] <;> rfl)
  · exact .pick (b := true) (.inl rfl) rfl rfl (fun a w' hC hs hl => ⟨(hl 93 (by kernel_rfl) (by kernel_rfl)), (hl 97 (by kernel_rfl) (by kernel_rfl))⟩)
  · exact .move (.inl rfl) (.inl rfl) rfl (by kernel_rfl) (by kernel_rfl) rfl
  · exact .fieldAddr (.inr ⟨52, true, 99, by decide, rfl, rfl, rfl⟩) rfl rfl rfl (fun a w' hC hs hl => by rw [show a.eval (.tmp 11) = (.pointer (some ⟨w12.heap.size, 0, none⟩) : Value) from (hs 11 (by kernel_rfl))]; exact fa_Rat1_)
  · exact .load (.slice (some ⟨gy, 0, none⟩) 1 k8) (.inr ⟨52, true, 99, by decide, rfl, rfl, rfl⟩) rfl rfl (fun a w' hC hs hl => by rw [show a.eval (.tmp 100) = (.pointer (some ⟨w12.heap.size, 2, none⟩) : Value) from (hl 100 (by kernel_rfl) (by kernel_rfl))]; exact ⟨ld_Nat ((K11.out.below' hC).at_ 2 rfl), rfl⟩)
  · exact .value (.inr ⟨52, true, 99, by decide, rfl, rfl, rfl⟩) (by intro T e; cases e) rfl rfl (fun a w' hC hs hl => by
      have e0 : a.eval (.tmp 101) = (.slice (some ⟨gy, 0, none⟩) 1 k8) := (hl 101 (by kernel_rfl) (by kernel_rfl))
      simp only [execOp, e0]
      simp only [Act.eval]
      simp [go_sem, Addr.add])
  · exact .load (.int .u32 2) (.inr ⟨52, true, 99, by decide, rfl, rfl, rfl⟩) rfl rfl (fun a w' hC hs hl => by rw [show a.eval (.tmp 102) = (.pointer (some ⟨gy, 0, none⟩) : Value) from (hl 102 (by kernel_rfl) (by kernel_rfl))]; exact ⟨ld_u32 (CY.out.below hC), rfl⟩)
  · exact .value (.inr ⟨52, true, 99, by decide, rfl, rfl, rfl⟩) (by intro T e; cases e) rfl rfl (fun a w' hC hs hl => by
      have e0 : a.eval (.tmp 103) = (.int .u32 (2)) := (hl 103 (by kernel_rfl) (by kernel_rfl))
      simp only [execOp, e0]
      simp only [Act.eval]
      simp [go_sem] <;> rfl)
  · exact .pick (b := true) (.inl rfl) rfl rfl (fun a w' hC hs hl => ⟨(hl 99 (by kernel_rfl) (by kernel_rfl)), (hl 104 (by kernel_rfl) (by kernel_rfl))⟩)
  · exact .move (.inl rfl) (.inl rfl) rfl (by kernel_rfl) (by kernel_rfl) rfl
  · exact .load (.agg #[.bool b5, .slice A5 n5 c5, .slice D5 m5 k5]) (.inr ⟨59, true, 106, by decide, rfl, rfl, rfl⟩) rfl rfl (fun a w' hC hs hl => by rw [show a.eval (.tmp 3) = (.pointer (some ⟨w6.heap.size, 0, none⟩) : Value) from (hs 3 (by kernel_rfl))]; exact ⟨ld_Rat_ ((K3.out.below' hC).at_ 0 rfl) ((K3.out.below' hC).at_ 1 rfl) ((K3.out.below' hC).at_ 2 rfl), BY.out⟩)
  · exact .call (.inr ⟨59, true, 106, by decide, rfl, rfl, rfl⟩) rfl rfl fn_rlof (fun a w' hC hs hl => rlof_C w' (-1) (4) (by decide) (by decide) (by decide) (by decide) (by decide) (T.out.below (b0.out.trans (hC.mono b0.out.size))))
  · exact .call (.inr ⟨59, true, 106, by decide, rfl, rfl, rfl⟩) rfl rfl fn_rsame (fun a w' hC hs hl => rsame_P (RCan.below (hl 107 (by kernel_rfl) (by kernel_rfl)) hC) (hl 108 (by kernel_rfl) (by kernel_rfl)) true (by decide +kernel))
  · exact .pick (b := true) (.inl rfl) rfl rfl (fun a w' hC hs hl => ⟨(hl 106 (by kernel_rfl) (by kernel_rfl)), (hl 109 (by kernel_rfl) (by kernel_rfl))⟩)
  · exact .move (.inl rfl) (.inl rfl) rfl (by kernel_rfl) (by kernel_rfl) rfl
  · exact .call (.inr ⟨64, true, 111, by decide, rfl, rfl, rfl⟩) rfl rfl fn_rlof (fun a w' hC hs hl => rlof_C w' (1) (2) (by decide) (by decide) (by decide) (by decide) (by decide) (T.out.below (b0.out.trans (hC.mono b0.out.size))))
  · exact .call (.inr ⟨64, true, 111, by decide, rfl, rfl, rfl⟩) rfl rfl fn_rlof (fun a w' hC hs hl => rlof_C w' (1) (3) (by decide) (by decide) (by decide) (by decide) (by decide) (T.out.below (b0.out.trans (hC.mono b0.out.size))))
  · exact .call (.inr ⟨64, true, 111, by decide, rfl, rfl, rfl⟩) rfl rfl fn_rAdd (fun a w' hC hs hl => rAdd_C (RCan.arg (hl 112 (by kernel_rfl) (by kernel_rfl)) ((H_small (q := (Rat.divInt (1) (2))) (by decide +kernel) (by decide +kernel)).up (by decide))) (RCan.arg (hl 113 (by kernel_rfl) (by kernel_rfl)) ((H_small (q := (Rat.divInt (1) (3))) (by decide +kernel) (by decide +kernel)).up (by decide))) (T.out.below (b0.out.trans (hC.mono b0.out.size))))
  · exact .call (.inr ⟨64, true, 111, by decide, rfl, rfl, rfl⟩) rfl rfl fn_rlof (fun a w' hC hs hl => rlof_C w' (5) (6) (by decide) (by decide) (by decide) (by decide) (by decide) (T.out.below (b0.out.trans (hC.mono b0.out.size))))
  · exact .call (.inr ⟨64, true, 111, by decide, rfl, rfl, rfl⟩) rfl rfl fn_rsame (fun a w' hC hs hl => rsame_P (hl 114 (by kernel_rfl) (by kernel_rfl)) (hl 115 (by kernel_rfl) (by kernel_rfl)) true (by decide +kernel))
  · exact .pick (b := true) (.inl rfl) rfl rfl (fun a w' hC hs hl => ⟨(hl 111 (by kernel_rfl) (by kernel_rfl)), (hl 116 (by kernel_rfl) (by kernel_rfl))⟩)
  · exact .move (.inl rfl) (.inl rfl) rfl (by kernel_rfl) (by kernel_rfl) rfl
  · exact .call (.inr ⟨71, true, 118, by decide, rfl, rfl, rfl⟩) rfl rfl fn_rlof (fun a w' hC hs hl => rlof_C w' (-1) (2) (by decide) (by decide) (by decide) (by decide) (by decide) (T.out.below (b0.out.trans (hC.mono b0.out.size))))
  · exact .call (.inr ⟨71, true, 118, by decide, rfl, rfl, rfl⟩) rfl rfl fn_rText (fun a w' hC hs hl => rText_S (RCan.arg (hl 119 (by kernel_rfl) (by kernel_rfl)) ((H_small (q := (Rat.divInt (-1) (2))) (by decide +kernel) (by decide +kernel)).up (by decide))) ((H_small (q := (Rat.divInt (-1) (2))) (by decide +kernel) (by decide +kernel)).up (by decide)) (T.out.below (b0.out.trans (hC.mono b0.out.size))) ⟨#[45, 49, 47, 50]⟩ txt_half)
  · exact .value (.inr ⟨71, true, 118, by decide, rfl, rfl, rfl⟩) (by intro T e; cases e) rfl rfl (fun a w' hC hs hl => by
      have e0 : a.eval (.tmp 120) = (.string ⟨#[45, 49, 47, 50]⟩) := (hl 120 (by kernel_rfl) (by kernel_rfl))
      simp only [execOp, e0]
      simp only [Act.eval]
      simp [go_sem] <;> rfl)
  · exact .pick (b := true) (.inl rfl) rfl rfl (fun a w' hC hs hl => ⟨(hl 118 (by kernel_rfl) (by kernel_rfl)), (hl 121 (by kernel_rfl) (by kernel_rfl))⟩)
  · exact .move (.inl rfl) (.inl rfl) rfl (by kernel_rfl) (by kernel_rfl) rfl
  · exact .call (.inr ⟨76, true, 123, by decide, rfl, rfl, rfl⟩) rfl rfl fn_rread (fun a w' hC hs hl => rread_C (s := ⟨#[45,49,50,46,53,48]⟩) (by decide) (T.out.below (b0.out.trans (hC.mono b0.out.size))) (M.out.below (b0.out.trans (hC.mono b0.out.size))) (Rat.divInt (-25) (2)) (by decide +kernel))
  · exact .call (.inr ⟨76, true, 123, by decide, rfl, rfl, rfl⟩) rfl rfl fn_rlof (fun a w' hC hs hl => rlof_C w' (-25) (2) (by decide) (by decide) (by decide) (by decide) (by decide) (T.out.below (b0.out.trans (hC.mono b0.out.size))))
  · exact .call (.inr ⟨76, true, 123, by decide, rfl, rfl, rfl⟩) rfl rfl fn_rsame (fun a w' hC hs hl => rsame_P (hl 124 (by kernel_rfl) (by kernel_rfl)) (hl 125 (by kernel_rfl) (by kernel_rfl)) true (by decide +kernel))
  · exact .pick (b := true) (.inl rfl) rfl rfl (fun a w' hC hs hl => ⟨(hl 123 (by kernel_rfl) (by kernel_rfl)), (hl 126 (by kernel_rfl) (by kernel_rfl))⟩)
  · exact .move (.inl rfl) (.inl rfl) rfl (by kernel_rfl) (by kernel_rfl) rfl
  · exact .call (.inr ⟨81, true, 128, by decide, rfl, rfl, rfl⟩) rfl rfl fn_rread (fun a w' hC hs hl => rread_C (s := ⟨#[54,47,52]⟩) (by decide) (T.out.below (b0.out.trans (hC.mono b0.out.size))) (M.out.below (b0.out.trans (hC.mono b0.out.size))) (Rat.divInt (3) (2)) (by decide +kernel))
  · exact .call (.inr ⟨81, true, 128, by decide, rfl, rfl, rfl⟩) rfl rfl fn_rlof (fun a w' hC hs hl => rlof_C w' (3) (2) (by decide) (by decide) (by decide) (by decide) (by decide) (T.out.below (b0.out.trans (hC.mono b0.out.size))))
  · exact .call (.inr ⟨81, true, 128, by decide, rfl, rfl, rfl⟩) rfl rfl fn_rsame (fun a w' hC hs hl => rsame_P (hl 129 (by kernel_rfl) (by kernel_rfl)) (hl 130 (by kernel_rfl) (by kernel_rfl)) true (by decide +kernel))
  · exact .pick (b := true) (.inl rfl) rfl rfl (fun a w' hC hs hl => ⟨(hl 128 (by kernel_rfl) (by kernel_rfl)), (hl 131 (by kernel_rfl) (by kernel_rfl))⟩)
  · exact .move (.inl rfl) (.inl rfl) rfl (by kernel_rfl) (by kernel_rfl) rfl
  · exact .makeW (.inr ⟨86, true, 133, by decide, rfl, rfl, rfl⟩) (by intro T e; cases e) rfl (fun a w' hC hs hl => ⟨_, w'.alloc (.cells #[.int .u32 2] T32), by simp [execOp, Act.eval, go_sem], (Below.refl _ _).alloc (Nat.le_refl _) _, (litR_at w' _ rfl [2] 2 rfl (is32d (by decide)) (by decide) (by decide) 0 (Nat.zero_le _) #[.int .u32 2] rfl).can⟩)
  · exact .make (.inr ⟨86, true, 133, by decide, rfl, rfl, rfl⟩) (by intro T e; cases e) rfl (fun a w' hC hs hl => by
      have e0 : Can w' (a.eval (.tmp 134)) 2 := (hl 134 (by kernel_rfl) (by kernel_rfl))
      obtain ⟨A, n, c, e⟩ := e0.slice
      rw [e] at e0
      have e' : a.tmps[134]?.getD undef = _ := (by simp [Act.eval] : _ = a.eval (.tmp 134)).trans e
      exact ⟨.agg #[.bool false, .slice A n c], by simp [execOp, go_sem, e'], ican_lit e0 _ rfl⟩)
  · exact .makeW (.inr ⟨86, true, 133, by decide, rfl, rfl, rfl⟩) (by intro T e; cases e) rfl (fun a w' hC hs hl => ⟨_, w'.alloc (.cells #[.int .u32 4] T32), by simp [execOp, Act.eval, go_sem], (Below.refl _ _).alloc (Nat.le_refl _) _, (litR_at w' _ rfl [4] 4 rfl (is32d (by decide)) (by decide) (by decide) 0 (Nat.zero_le _) #[.int .u32 4] rfl).can⟩)
  · exact .make (.inr ⟨86, true, 133, by decide, rfl, rfl, rfl⟩) (by intro T e; cases e) rfl (fun a w' hC hs hl => by
      have e1 : ICan w' (a.eval (.tmp 135)) 2 := (hl 135 (by kernel_rfl) (by kernel_rfl))
      have e2 : Can w' (a.eval (.tmp 136)) 4 := (hl 136 (by kernel_rfl) (by kernel_rfl))
      obtain ⟨x, e3, e4⟩ := e1
      obtain ⟨A1, n1, c1, rfl⟩ := e4.slice
      obtain ⟨A2, n2, c2, e5⟩ := e2.slice
      rw [e5] at e2
      have e6 : a.tmps[135]?.getD undef = _ := (by simp [Act.eval] : _ = a.eval (.tmp 135)).trans e3
      have e7 : a.tmps[136]?.getD undef = _ := (by simp [Act.eval] : _ = a.eval (.tmp 136)).trans e5
      exact ⟨.agg #[.bool false, .slice A1 n1 c1, .slice A2 n2 c2], by simp [execOp, go_sem, e6, e7], rat_lit e4 e2 (L_up (L_small (by decide)) (by decide)) (L_up (L_small (by decide)) (by decide))⟩)
  · exact .call (.inr ⟨86, true, 133, by decide, rfl, rfl, rfl⟩) rfl rfl fn_rCheck (fun a w' hC hs hl => rCheck_P (hl 137 (by kernel_rfl) (by kernel_rfl)) (T.out.below (b0.out.trans (hC.mono b0.out.size))) false rok24)
  · exact .value (.inr ⟨86, true, 133, by decide, rfl, rfl, rfl⟩) (by intro T e; cases e) rfl rfl (fun a w' hC hs hl => by
      have e0 : a.eval (.tmp 138) = (.bool false) := (hl 138 (by kernel_rfl) (by kernel_rfl))
      simp only [execOp, e0]
      skip
      simp [go_sem] <;> rfl)
  · exact .pick (b := true) (.inl rfl) rfl rfl (fun a w' hC hs hl => ⟨(hl 133 (by kernel_rfl) (by kernel_rfl)), (hl 139 (by kernel_rfl) (by kernel_rfl))⟩)
  · exact .move (.inl rfl) (.inr rfl) rfl (by kernel_rfl) (by kernel_rfl) rfl
  intro f w99 hC hF _
  have f0 : f 0 = .bool true := hF 0 (by kernel_rfl)
  clear hF
  simp only [patch, List.drop]
  have B9 := hide (b0.out.trans (hC.mono b0.out.size))
  clear hC
  rw [f0]
  change wpList _ _ _ [] _ _
  go_wp2
  exact opq_end hR ⟨_, rfl, B9.out, rfl⟩
end Go.Proofs.YtnpfochbpdfcmaaGreatDoor
