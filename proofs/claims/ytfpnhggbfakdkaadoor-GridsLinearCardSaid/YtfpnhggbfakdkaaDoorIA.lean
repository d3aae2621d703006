/- ints: contracts. -/
import Derived.Test.YtfpnhggbfakdkaaDoorND
import Derived.Test.YtfpnhggbfakdkaaDoorLz
import Derived.Test.YtfpnhggbfakdkaaDoorFz
/- ints: Check, of, signed, turned, sign. -/
set_option linter.unusedVariables false
set_option linter.unusedSimpArgs false
set_option maxRecDepth 100000
namespace Go.Proofs.YtfpnhggbfakdkaaDoor
open Go.RowKit

/-- A whole number as it is told: a sign and parts, not too many. -/
def IPrt (w : World) (v : Value) (b : Bool) (xs : List Nat) : Prop := ∃ u, v = .agg #[.bool b, u] ∧ Prt w u xs
/-- The value reads as the whole number z. -/
def ICan (w : World) (v : Value) (z : Int) : Prop := ∃ u, v = .agg #[.bool (decide (z < 0)), u] ∧ Can w u z.natAbs
/-- .. in memory of its own from block B on. -/
def IntR (z : Int) (B : Nat) (w : World) (v : Value) : Prop := ∃ u, v = .agg #[.bool (decide (z < 0)), u] ∧ NatR z.natAbs B w u
theorem IPrt.below {w w' : World} {v : Value} {b : Bool} {xs : List Nat} (h : IPrt w v b xs) (hb : Below w.heap.size w w') : IPrt w' v b xs := by
  obtain ⟨u, e, h1⟩ := h
  exact ⟨u, e, h1.below hb⟩
theorem ICan.below {w w' : World} {v : Value} {z : Int} (h : ICan w v z) (hb : Below w.heap.size w w') : ICan w' v z := by
  obtain ⟨u, e, h1⟩ := h
  exact ⟨u, e, h1.below hb⟩
theorem IntR.below {z : Int} {B : Nat} {w w' : World} {v : Value} (h : IntR z B w v) (hb : Below w.heap.size w w') : IntR z B w' v := by
  obtain ⟨u, e, h1⟩ := h
  exact ⟨u, e, h1.below hb⟩
theorem IntR.mono {z : Int} {B B' : Nat} {w : World} {v : Value} (h : IntR z B w v) (hB : B' ≤ B) : IntR z B' w v := by
  obtain ⟨u, e, h1⟩ := h
  exact ⟨u, e, h1.mono hB⟩
theorem IntR.can {z : Int} {B : Nat} {w : World} {v : Value} (h : IntR z B w v) : ICan w v z := by
  obtain ⟨u, e, h1⟩ := h
  exact ⟨u, e, h1.can⟩
theorem ICan.prt {w : World} {v : Value} {z : Int} (h : ICan w v z) (hl : L z.natAbs ≤ 4398046511104) : IPrt w v (decide (z < 0)) (limbs z.natAbs) := by
  obtain ⟨u, e, h1⟩ := h
  exact ⟨u, e, h1.prt hl⟩
theorem IPrt.can {w : World} {v : Value} {b : Bool} {xs : List Nat} (h : IPrt w v b xs) (hc : iok b xs = true) : ICan w v (iv b xs) := by
  obtain ⟨u, rfl, h1⟩ := h
  refine ⟨u, by rw [iok_neg hc], ?_⟩
  rw [iok_abs hc]
  exact h1.can (iok_chk hc)
theorem ican_zero (w : World) : ICan w (.agg #[.bool false, .slice none 0 0]) 0 := ⟨_, rfl, can_nil w⟩
def Fact.nat (N : Nat) : Fact := ⟨fun v w => Can w v N, fun _ _ _ h hb => h.below hb⟩
def Fact.int (z : Int) : Fact := ⟨fun v w => ICan w v z, fun _ _ _ h hb => h.below hb⟩

set_option maxHeartbeats 400000 in
theorem iCheck_ok {w : World} {v : Value} {b : Bool} {xs : List Nat} (h : IPrt w v b xs) :
    Calls Tryd.prog 50 #[v] w fun e w' => e = .returned (.bool (iok b xs)) ∧ Hid (Below w.heap.size w w') := by
  refine opq fun R hR => ?_
  obtain ⟨u, rfl, hu⟩ := h
  obtain ⟨A, n, c, rfl, h1, h2, h3, h4⟩ := hu
  have hx : Hid (xs.isEmpty = decide (n = 0)) := by
    show _ = _
    rw [Bool.eq_iff_iff, List.isEmpty_iff, decide_eq_true_eq, ← h3.1]
    exact List.length_eq_zero_iff.symm
  have C := hide (Check_ok (w.alloc (.cells #[.bool b, .slice A n c] 42)) A n c xs (h3.below ((Below.refl _ _).alloc (Nat.le_refl _) _)))
  have HB := hide ((Below.refl w.heap.size w).alloc (Nat.le_refl _) (.cells #[.bool b, .slice A n c] 42))
  clear h3 h4
  have e0 : Hid (iok b xs = (chk xs && (!b || !decide (n = 0)))) := by rw [← hx.out]; exact rfl
  clear hx
  cases hc : chk xs
  · rw [hc] at C e0
    clear hc
    go_enter Tryd.func50, Tryd.ntmps50
    go_wp2_with fail
    refine C.out.mono ?_
    rintro e w' ⟨rfl, rfl⟩
    go_wp2
    exact opq_end hR ⟨ret_bool (by rw [e0.out]; rfl), HB⟩
  · rw [hc] at C e0
    clear hc
    cases b
    · go_enter Tryd.func50, Tryd.ntmps50
      go_wp2_with fail
      refine C.out.mono ?_
      rintro e w' ⟨rfl, rfl⟩
      go_wp2
      exact opq_end hR ⟨ret_bool (by rw [e0.out]; rfl), HB⟩
    · by_cases hn : n = 0
      · subst hn
        go_enter Tryd.func50, Tryd.ntmps50
        go_wp2_with fail
        refine C.out.mono ?_
        rintro e w' ⟨rfl, rfl⟩
        go_wp2
        exact opq_end hR ⟨ret_bool (by rw [e0.out]; rfl), HB⟩
      · have hn' : 0 < n := by omega
        have hn2 : Hid (decide (n = 0) = false) := by show _ = _; simp; omega
        clear hn
        go_enter Tryd.func50, Tryd.ntmps50
        go_wp2_with fail
        refine C.out.mono ?_
        rintro e w' ⟨rfl, rfl⟩
        go_wp2
        exact opq_end hR ⟨ret_bool (by rw [e0.out, hn2.out]; rfl), HB⟩

theorem bcell {W w1 : World} (hb : Below W.heap.size W w1) : (∀ b o, b < W.heap.size → w1.cell? ⟨b, o, none⟩ = W.cell? ⟨b, o, none⟩) ∧ (∀ b o, b < W.heap.size → w1.frozen? ⟨b, o, none⟩ = W.frozen? ⟨b, o, none⟩) :=
  ⟨fun b o h => hb.cell (p := ⟨b, o, none⟩) h, fun b o h => hb.frozen (p := ⟨b, o, none⟩) h⟩
set_option maxHeartbeats 400000 in
theorem iof_eq {w : World} {v : Value} {b : Bool} {xs : List Nat} (h : IPrt w v b xs) :
    Calls Tryd.prog 87 #[v] w fun e w' => e = .returned (if iok b xs then v else .agg #[.bool false, .slice none 0 0]) ∧ Hid (Below w.heap.size w w') := by
  refine opq fun R hR => ?_
  have H := hide h
  have E : ∃ A n c, v = .agg #[.bool b, .slice A n c] := by obtain ⟨u, rfl, A, n, c, rfl, _⟩ := h; exact ⟨A, n, c, rfl⟩
  clear h
  obtain ⟨A, n, c, rfl⟩ := E
  cases hk : iok b xs
  all_goals
    have K := hide hk
    clear hk
    go_enter Tryd.func87, Tryd.ntmps87
    go_wp2_with fail
    refine (iCheck_ok (H.out.below (Below.alloc (Below.alloc (Below.refl _ _) (Nat.le_refl _) _) (by simp) _))).mono ?_
    rw [K.out]
    rintro e w1 ⟨rfl, d1⟩
    obtain ⟨hc, hf⟩ := bcell d1.out
    have B1 := hide (((Below.refl w.heap.size w).alloc (Nat.le_refl _) (.cells #[.bool b, .slice A n c] 42)).alloc (by simp) (.cells #[.bool false, .slice none 0 0] 109))
    have B2 := hide (B1.out.trans (d1.out.mono (by simp; omega)))
    clear d1
    go_wp2
  · refine bodyPost_ret (v := .agg #[.bool false, .slice none 0 0]) (by simp [results, Tryd.results87, go_sem, hc, hf]) rfl ?_
    exact opq_end hR ⟨by rw [K.out]; rfl, (by (repeat (first | exact B2 | exact Below.refl _ _ | refine Below.setCell ?_ (by first | (simp; done) | (simp; omega)) _ | refine Below.alloc ?_ (by first | (simp; done) | (simp; omega)) _)))⟩
  · refine bodyPost_ret (v := .agg #[.bool b, .slice A n c]) (by simp [results, Tryd.results87, go_sem, hc, hf]) rfl ?_
    exact opq_end hR ⟨by rw [K.out]; rfl, (by (repeat (first | exact B2 | exact Below.refl _ _ | refine Below.setCell ?_ (by first | (simp; done) | (simp; omega)) _ | refine Below.alloc ?_ (by first | (simp; done) | (simp; omega)) _)))⟩
/-- A whole number of whatever kind, not too long, that counts as z. -/
def IArg (w : World) (v : Value) (z : Int) : Prop := ∃ b xs, IPrt w v b xs ∧ xs.length ≤ 1000000000000 ∧ iv b xs = z
theorem IArg.below {w w' : World} {v : Value} {z : Int} (h : IArg w v z) (hb : Below w.heap.size w w') : IArg w' v z := by
  obtain ⟨b, xs, h1, h2, h3⟩ := h
  exact ⟨b, xs, h1.below hb, h2, h3⟩
theorem IArg.slice {w : World} {v : Value} {z : Int} (h : IArg w v z) : ∃ b A n c, v = .agg #[.bool b, .slice A n c] := by
  obtain ⟨b, xs, ⟨u, rfl, A, n, c, rfl, _⟩, _⟩ := h
  exact ⟨b, A, n, c, rfl⟩
theorem IArg.size {w : World} {v : Value} {z : Int} (h : IArg w v z) : L z.natAbs ≤ 1000000000000 := by
  obtain ⟨b, xs, ⟨u, rfl, h1⟩, h2, rfl⟩ := h
  exact Nat.le_trans (iv_L h1.is32) h2
theorem ICan.arg {w : World} {v : Value} {z : Int} (h : ICan w v z) (hl : L z.natAbs ≤ 1000000000000) : IArg w v z :=
  ⟨_, _, h.prt (L_up hl (by decide)), hl, iv_self z⟩
/-- What 'of' answers reads as the number in the world that the argument was read in. -/
theorem iof_F {w W : World} {v : Value} {z : Int} (h : IArg w v z) (hb : Below w.heap.size w W) :
    Calls Tryd.prog 87 #[v] W fun e w' => ∃ u, e = .returned u ∧ Below W.heap.size W w' ∧ ICan w u z := by
  obtain ⟨b, xs, h1, h2, rfl⟩ := h
  refine (iof_eq (h1.below hb)).mono ?_
  rintro e w' ⟨rfl, h4⟩
  refine ⟨_, rfl, h4.out, ?_⟩
  cases hk : iok b xs
  · rw [iv_no hk]; exact ican_zero w
  · exact h1.can hk
/-- .. read in one world for ever. -/
def Fact.iarg0 (w : World) (z : Int) : Fact := ⟨fun v _ => IArg w v z, fun _ _ _ h _ => h⟩
def Fact.int0 (w : World) (z : Int) : Fact := ⟨fun v _ => ICan w v z, fun _ _ _ h _ => h⟩
/-- A variable of a type, of the call's own. -/
def Fact.var (t : TypeId) (cs : Array Value) (B : Nat) : Fact := ⟨fun v w => ∃ g, v = .pointer (some ⟨g, 0, none⟩) ∧ B ≤ g ∧ Blk w g t cs, fun _ _ _ ⟨g, e, h0, h⟩ hb => ⟨g, e, h0, h.below' hb⟩⟩
end Go.Proofs.YtfpnhggbfakdkaaDoor

/- ints: signed, turned, sign, plus. -/
set_option linter.unusedVariables false
set_option linter.unusedSimpArgs false
set_option maxRecDepth 100000
namespace Go.Proofs.YtfpnhggbfakdkaaDoor
open Go.RowKit

set_option maxHeartbeats 400000 in
theorem isigned_ok {w : World} {u : Value} {b : Bool} {N : Nat} (h : Can w u N) :
    Calls Tryd.prog 79 #[.bool b, u] w fun e w' => e = .returned (.agg #[.bool (b && decide (N ≠ 0)), u]) ∧ Hid (Below w.heap.size w w') := by
  refine opq fun R hR => ?_
  obtain ⟨A, c, rfl, l, r⟩ := h
  have e0 : Hid (decide (N ≠ 0) = decide (0 < (limbs N).length)) := by
    show _ = _
    rw [decide_eq_decide]
    have := @is_zero_len N
    omega
  clear r
  generalize (limbs N).length = n at *
  have B2 := hide ((Below.refl w.heap.size w).alloc (Nat.le_refl _) (.cells #[.bool false, .slice none 0 0] 42))
  cases b
  · go_enter Tryd.func79, Tryd.ntmps79
    go_wp2
    refine bodyPost_ret (v := .agg #[.bool false, .slice A n c]) (by simp [results, Tryd.results79, go_sem]) rfl ?_
    exact opq_end hR ⟨rfl, (by (repeat (first | exact B2 | exact Below.refl _ _ | refine Below.setCell ?_ (by first | (simp; done) | (simp; omega)) _ | refine Below.alloc ?_ (by first | (simp; done) | (simp; omega)) _)))⟩
  · by_cases hn : 0 < n
    · have e1 : Hid (decide (0 < n) = true) := by show _ = _; simpa using hn
      go_enter Tryd.func79, Tryd.ntmps79
      go_wp2
      refine bodyPost_ret (v := .agg #[.bool true, .slice A n c]) (by simp [results, Tryd.results79, go_sem]) rfl ?_
      exact opq_end hR ⟨by rw [e0.out, e1.out]; rfl, (by (repeat (first | exact B2 | exact Below.refl _ _ | refine Below.setCell ?_ (by first | (simp; done) | (simp; omega)) _ | refine Below.alloc ?_ (by first | (simp; done) | (simp; omega)) _)))⟩
    · obtain rfl : n = 0 := by omega
      go_enter Tryd.func79, Tryd.ntmps79
      go_wp2
      refine bodyPost_ret (v := .agg #[.bool false, .slice A 0 c]) (by simp [results, Tryd.results79, go_sem]) rfl ?_
      exact opq_end hR ⟨by rw [e0.out]; rfl, (by (repeat (first | exact B2 | exact Below.refl _ _ | refine Below.setCell ?_ (by first | (simp; done) | (simp; omega)) _ | refine Below.alloc ?_ (by first | (simp; done) | (simp; omega)) _)))⟩
/-- Cells of one block alone have turned. -/
structure Only (g : Nat) (w W : World) : Prop where
  size : W.heap.size = w.heap.size
  block : ∀ k, k ≠ g → W.heap[k]? = w.heap[k]?
theorem Only.refl (g : Nat) (w : World) : Only g w w := ⟨rfl, fun _ _ => rfl⟩
theorem Only.set {g : Nat} {w W : World} (h : Only g w W) (i : Nat) (u : Value) : Only g w (W.setCell ⟨g, i, none⟩ u) :=
  ⟨by rw [← h.size]; simp [World.setCell], fun k hk => (Below.heap_setCell W ⟨g, i, none⟩ u k hk).trans (h.block k hk)⟩
theorem Only.cell {g : Nat} {w W : World} (h : Only g w W) {a : Addr} (ha : a.block ≠ g) : W.cell? a = w.cell? a := World.cell?_of_block (h.block a.block ha)
/-- A number in memory of its own stays as it was when a block of another type is written. -/
theorem NatR.only {N B g : Nat} {w W : World} {v : Value} {t : TypeId} {cs : Array Value} (h : NatR N B w v) (hb : Blk w g t cs) (ht : T32 ≠ t) (F : Only g w W) : NatR N B W v := by
  obtain ⟨A, c, e, r, f, l⟩ := h
  rcases f with f | ⟨g', cs', e1, hB, hk, hc⟩
  · have h0 : (limbs N).length = 0 := by omega
    have hN : limbs N = [] := List.eq_nil_of_length_eq_zero h0
    exact ⟨A, c, e, by rw [hN]; exact Rdk.nil _ _ _, .inl f, l⟩
  · have hne : g' ≠ g := hk.type_ne hb ht
    subst e1
    refine ⟨_, c, e, ⟨r.1, r.2.1, fun hn => ?_⟩, .inr ⟨g', cs', rfl, hB, hk.keep (F.block g' hne), hc⟩, l⟩
    obtain ⟨ad, e2, hl, hcl⟩ := r.2.2 hn
    cases e2
    refine ⟨_, rfl, by rw [F.size]; exact hl, fun j hj => ?_⟩
    rw [add0, F.cell hne, ← add0]
    exact hcl j hj
theorem icanF {w W : World} {v : Value} {z : Int} (h : Hid (ICan w v z)) (F : Below w.heap.size w W) : Hid (ICan W v z) := h.out.below F
theorem int_of_parts {w : World} {u : Value} {b : Bool} {N : Nat} {z : Int} (h : Can w u N) (h1 : z.natAbs = N) (h2 : decide (z < 0) = (b && decide (N ≠ 0))) : ICan w (.agg #[.bool (b && decide (N ≠ 0)), u]) z := ⟨u, by rw [h2], by rw [h1]; exact h⟩
theorem intR_of_parts {w : World} {u : Value} {b : Bool} {N B : Nat} {z : Int} (h : NatR N B w u) (h1 : z.natAbs = N) (h2 : decide (z < 0) = (b && decide (N ≠ 0))) : IntR z B w (.agg #[.bool (b && decide (N ≠ 0)), u]) := ⟨u, by rw [h2], by rw [h1]; exact h⟩

set_option maxHeartbeats 400000 in
theorem isign_ok {w : World} {v : Value} {x : Int} (h : ICan w v x) :
    Calls Tryd.prog 88 #[v] w fun e w' => e = .returned (.int .i64 (cmpI x 0)) ∧ Hid (Below w.heap.size w w') := by
  refine opq fun R hR => ?_
  obtain ⟨u, rfl, A, c, rfl, l, r⟩ := h
  have e0 := @is_zero_len x.natAbs
  clear r
  rcases Int.lt_trichotomy x 0 with hx | hx | hx
  · have e1 := hide (cmpI_lt hx)
    have e2 : decide (x < 0) = true := by simpa using hx
    rw [e2]
    clear e2
    generalize (limbs x.natAbs).length = n at *
    have B2 := hide ((Below.refl w.heap.size w).alloc (Nat.le_refl _) (.cells #[.bool true, .slice A n c] 109))
    clear e0 hx
    go_enter Tryd.func88, Tryd.ntmps88
    go_wp2
    exact opq_end hR ⟨by rw [e1.out]; rfl, B2⟩
  · subst hx
    have e1 := hide (cmpI_eq 0)
    have e2 : (limbs (0 : Int).natAbs).length = 0 := e0.2 rfl
    rw [e2]
    have B2 := hide ((Below.refl w.heap.size w).alloc (Nat.le_refl _) (.cells #[.bool false, .slice A 0 c] 109))
    clear e0 e2
    show Calls _ _ #[.agg #[.bool false, .slice A 0 c]] _ _
    go_enter Tryd.func88, Tryd.ntmps88
    go_wp2
    exact opq_end hR ⟨by rw [e1.out]; rfl, B2⟩
  · have e1 := hide (cmpI_gt hx)
    have e2 : decide (x < 0) = false := by simp; omega
    have e3 : 0 < (limbs x.natAbs).length := by omega
    rw [e2]
    clear e2 e0 hx
    generalize (limbs x.natAbs).length = n at *
    have B2 := hide ((Below.refl w.heap.size w).alloc (Nat.le_refl _) (.cells #[.bool false, .slice A n c] 109))
    go_enter Tryd.func88, Tryd.ntmps88
    go_wp2
    exact opq_end hR ⟨by rw [e1.out]; rfl, B2⟩

set_option maxHeartbeats 400000 in
theorem iturned_ok {w : World} {v : Value} {x : Int} (h : ICan w v x) :
    Calls Tryd.prog 95 #[v] w fun e w' => ∃ u, e = .returned u ∧ Hid (ICan w' u (-x)) ∧ Hid (Below w.heap.size w w') := by
  refine opq fun R hR => ?_
  obtain ⟨u, rfl, hu⟩ := h
  have hu2 := hu
  obtain ⟨A, c, rfl, l, r⟩ := hu
  clear r
  have U := hide hu2
  clear hu2
  have B0 := hide (((Below.refl w.heap.size w).alloc (Nat.le_refl _) (.cells #[.bool (decide (x < 0)), .slice A (limbs x.natAbs).length c] 109)).alloc (by simp) (.cells #[.bool false, .slice none 0 0] 109))
  go_enter Tryd.func95, Tryd.ntmps95
  go_wp2_with fail
  refine (isigned_ok (U.out.below B0.out)).mono ?_
  rintro e w1 ⟨rfl, d1⟩
  obtain ⟨hc, hf⟩ := bcell d1.out
  have B2 := hide (B0.out.trans (d1.out.mono (by simp; omega)))
  have Z := hide (int_of_parts (z := -x) (b := !decide (x < 0)) U.out (by simp) (by rw [Bool.eq_iff_iff]; simp; omega))
  clear d1 U
  generalize ((!decide (x < 0)) && decide (x.natAbs ≠ 0)) = b at *
  go_wp2
  refine bodyPost_ret (v := .agg #[.bool b, .slice A (limbs x.natAbs).length c]) (by simp [results, Tryd.results95, go_sem, hc, hf]) rfl ?_
  exact opq_end hR ⟨_, rfl, icanF Z (by (repeat (first | exact B2 | exact Below.refl _ _ | refine Below.setCell ?_ (by first | (simp; done) | (simp; omega)) _ | refine Below.alloc ?_ (by first | (simp; done) | (simp; omega)) _))), (by (repeat (first | exact B2 | exact Below.refl _ _ | refine Below.setCell ?_ (by first | (simp; done) | (simp; omega)) _ | refine Below.alloc ?_ (by first | (simp; done) | (simp; omega)) _)))⟩
end Go.Proofs.YtfpnhggbfakdkaaDoor

/- ints: what the walks of regions lean on. -/
set_option linter.unusedVariables false
set_option linter.unusedSimpArgs false
set_option maxRecDepth 100000
namespace Go.Proofs.YtfpnhggbfakdkaaDoor
open Go.RowKit

theorem callFunc_enter {P : Program} {f : FuncId} {fn : Func} {c : Code} (hf : P.funcs[f]? = some fn) (hname : (fn.name == "runtime.NumGoroutine") = false) (hb : fn.body = some c) (args : Array Value) (w : World) :
    (callFunc f args).run P w = .ok (.enter f args) w := by
  have h1 : fn.name ≠ "runtime.NumGoroutine" := by simpa using hname
  simp [callFunc, hf, h1, hb]
theorem mixed : (Tryd.prog).follows .mixedOrders = true := by kernel_rfl
section
variable {w : World} {g : Nat}
theorem fa_whole0 : (Instr.fieldAt 109 (.pointer (some ⟨g, 0, none⟩)) 0).run Tryd.prog w = .ok (.pointer (some ⟨g, 0, none⟩)) w := by simp [go_sem]
theorem fa_whole1 : (Instr.fieldAt 109 (.pointer (some ⟨g, 0, none⟩)) 1).run Tryd.prog w = .ok (.pointer (some ⟨g, 1, none⟩)) w := by simp [go_sem]
theorem ld_bool {i : Nat} {b : Bool} (h : w.cell? ⟨g, i, none⟩ = some (.bool b)) : (Instr.loadAt 4 (.pointer (some ⟨g, i, none⟩))).run Tryd.prog w = .ok (.bool b) w := by simp [go_sem, h]
theorem ld_Nat {i n c : Nat} {A : Option Addr} (h : w.cell? ⟨g, i, none⟩ = some (.slice A n c)) : (Instr.loadAt 40 (.pointer (some ⟨g, i, none⟩))).run Tryd.prog w = .ok (.slice A n c) w := by simp [go_sem, h]
theorem ld_Int {b : Bool} {u : Value} (h : Blk w g 42 #[.bool b, u]) : (Instr.loadAt 42 (.pointer (some ⟨g, 0, none⟩))).run Tryd.prog w = .ok (.agg #[.bool b, u]) w := by
  have h0 := h.cell 0
  have h1 := h.cell 1
  simp at h0 h1
  simp [go_sem, h0, h1]
theorem ld_whole {b : Bool} {u : Value} (h : Blk w g 109 #[.bool b, u]) : (Instr.loadAt 109 (.pointer (some ⟨g, 0, none⟩))).run Tryd.prog w = .ok (.agg #[.bool b, u]) w := by
  have h0 := h.cell 0
  have h1 := h.cell 1
  simp at h0 h1
  simp [go_sem, h0, h1]
end
theorem Blk.at_ {w : World} {g : Nat} {t : TypeId} {cs : Array Value} (h : Blk w g t cs) (i : Nat) {v : Value} (hv : cs[i]? = some v) : w.cell? ⟨g, i, none⟩ = some v := (h.cell i).trans hv
theorem alloc2 (w : World) (c1 c2 : Array Value) (t1 t2 : TypeId) : ∃ W, (w.alloc (.cells c1 t1)).alloc (.cells c2 t2) = W ∧ Hid (Blk W w.heap.size t1 c1) ∧ Hid (Blk W (w.heap.size + 1) t2 c2) ∧ Hid (Below w.heap.size w W) ∧ Hid (W.heap.size = w.heap.size + 1 + 1) := by
  refine ⟨_, rfl, (Blk.new w t1 c1).alloc _, ?_, ((Below.refl _ _).alloc (Nat.le_refl _) _).alloc (by simp) _, ?_⟩
  · have := Blk.new (w.alloc (.cells c1 t1)) t2 c2
    rwa [World.size_alloc] at this
  · show _ = _
    simp
theorem alloc3 (w : World) (c1 c2 c3 : Array Value) (t1 t2 t3 : TypeId) : ∃ W, ((w.alloc (.cells c1 t1)).alloc (.cells c2 t2)).alloc (.cells c3 t3) = W ∧ Hid (Blk W w.heap.size t1 c1) ∧ Hid (Blk W (w.heap.size + 1) t2 c2) ∧ Hid (Blk W (w.heap.size + 1 + 1) t3 c3) ∧ Hid (Below w.heap.size w W) ∧ Hid (W.heap.size = w.heap.size + 1 + 1 + 1) := by
  obtain ⟨W, rfl, k1, k2, b, z⟩ := alloc2 w c1 c2 t1 t2
  refine ⟨_, rfl, k1.out.alloc _, k2.out.alloc _, ?_, b.out.alloc b.out.size _, ?_⟩
  · have := Blk.new ((w.alloc (.cells c1 t1)).alloc (.cells c2 t2)) t3 c3
    rwa [z.out] at this
  · show _ = _
    simp
theorem IntR.only {z : Int} {B g : Nat} {w W : World} {v : Value} {t : TypeId} {cs : Array Value} (h : IntR z B w v) (hb : Blk w g t cs) (ht : T32 ≠ t) (F : Only g w W) : IntR z B W v := by
  obtain ⟨u, e, h1⟩ := h
  exact ⟨u, e, h1.only hb ht F⟩
theorem IntR.slice {z : Int} {B : Nat} {w : World} {v : Value} (h : IntR z B w v) : ∃ b A n c, v = .agg #[.bool b, .slice A n c] := by
  obtain ⟨u, e, A, c, rfl, _⟩ := h
  exact ⟨_, A, _, c, e⟩
theorem ICan.slice {z : Int} {w : World} {v : Value} (h : ICan w v z) : ∃ b A n c, v = .agg #[.bool b, .slice A n c] := by
  obtain ⟨u, e, A, c, rfl, _⟩ := h
  exact ⟨_, A, _, c, e⟩
def Fact.natR (N B : Nat) : Fact := ⟨fun v w => NatR N B w v, fun _ _ _ h hb => h.below hb⟩
def Fact.intR (z : Int) (B : Nat) : Fact := ⟨fun v w => IntR z B w v, fun _ _ _ h hb => h.below hb⟩
theorem nAdd_F {w : World} {v v' : Value} {M N : Nat} (B : Nat) (hB : B ≤ w.heap.size) (h : Can w v M) (h' : Can w v' N) (s : L M ≤ 4398046511104) (s' : L N ≤ 4398046511104) :
    Calls Tryd.prog 97 #[v, v'] w fun e w' => ∃ u, e = .returned u ∧ Below w.heap.size w w' ∧ NatR (M + N) B w' u :=
  (Add_arg (h.arg s) (h'.arg s')).mono fun e w' ⟨u, e1, h1, h2⟩ => ⟨u, e1, h2.out, h1.out.mono hB⟩
theorem nMul_F {w : World} {v v' : Value} {M N : Nat} (B : Nat) (hB : B ≤ w.heap.size) (h : Can w v M) (h' : Can w v' N) (s : L M ≤ 4398046511104) (s' : L N ≤ 4398046511104) :
    Calls Tryd.prog 84 #[v, v'] w fun e w' => ∃ u, e = .returned u ∧ Below w.heap.size w w' ∧ NatR (M * N) B w' u :=
  (Mul_arg (h.arg s) (h'.arg s')).mono fun e w' ⟨u, e1, h1, h2⟩ => ⟨u, e1, h2.out, h1.out.mono hB⟩
theorem isigned_F {w : World} {u : Value} {b : Bool} {N B : Nat} {z : Int} (h : NatR N B w u) (h1 : z.natAbs = N) (h2 : decide (z < 0) = (b && decide (N ≠ 0))) :
    Calls Tryd.prog 79 #[.bool b, u] w fun e w' => ∃ v, e = .returned v ∧ Below w.heap.size w w' ∧ IntR z B w' v :=
  (isigned_ok h.can).mono fun e w' ⟨e1, hb⟩ => ⟨_, e1, hb.out, intR_of_parts (h.below hb.out) h1 h2⟩
theorem fn_signed (args : Array Value) (w : World) : (callFunc 79 args).run Tryd.prog w = .ok (.enter 79 args) w := callFunc_enter Tryd.func79 (by kernel_rfl) rfl args w
theorem fn_of (args : Array Value) (w : World) : (callFunc 87 args).run Tryd.prog w = .ok (.enter 87 args) w := callFunc_enter Tryd.func87 (by kernel_rfl) rfl args w
theorem fn_Mul (args : Array Value) (w : World) : (callFunc 84 args).run Tryd.prog w = .ok (.enter 84 args) w := callFunc_enter Tryd.func84 (by kernel_rfl) rfl args w
theorem fn_Cmp (args : Array Value) (w : World) : (callFunc 76 args).run Tryd.prog w = .ok (.enter 76 args) w := callFunc_enter Tryd.func76 (by kernel_rfl) rfl args w
theorem fn_plus (args : Array Value) (w : World) : (callFunc 89 args).run Tryd.prog w = .ok (.enter 89 args) w := callFunc_enter Tryd.func89 (by kernel_rfl) rfl args w
theorem fn_sign (args : Array Value) (w : World) : (callFunc 88 args).run Tryd.prog w = .ok (.enter 88 args) w := callFunc_enter Tryd.func88 (by kernel_rfl) rfl args w
theorem fn_turned (args : Array Value) (w : World) : (callFunc 95 args).run Tryd.prog w = .ok (.enter 95 args) w := callFunc_enter Tryd.func95 (by kernel_rfl) rfl args w
theorem fn_Add (args : Array Value) (w : World) : (callFunc 97 args).run Tryd.prog w = .ok (.enter 97 args) w := callFunc_enter Tryd.func97 (by kernel_rfl) rfl args w
end Go.Proofs.YtfpnhggbfakdkaaDoor

/- ints: plus. -/
set_option linter.unusedVariables false
set_option linter.unusedSimpArgs false
set_option maxRecDepth 100000
namespace Go.Proofs.YtfpnhggbfakdkaaDoor
open Go.RowKit

set_option maxHeartbeats 1000000 in
theorem iplus_ok {w : World} {v v' : Value} {x y : Int} (h : ICan w v x) (h' : ICan w v' y) (sx : L x.natAbs ≤ 2000000000000) (sy : L y.natAbs ≤ 2000000000000) :
    Calls Tryd.prog 89 #[v, v'] w fun e w' => ∃ u, e = .returned u ∧ Hid (IntR (x + y) w.heap.size w' u) ∧ Hid (Below w.heap.size w w') := by
  refine opq fun R hR => ?_
  obtain ⟨u1, rfl, hu1⟩ := h
  obtain ⟨u2, rfl, hu2⟩ := h'
  have E1 : ∃ A n c, u1 = .slice A n c := by obtain ⟨A, c, rfl, _⟩ := hu1; exact ⟨A, _, c, rfl⟩
  have E2 : ∃ A n c, u2 = .slice A n c := by obtain ⟨A, c, rfl, _⟩ := hu2; exact ⟨A, _, c, rfl⟩
  obtain ⟨A1, n1, c1, rfl⟩ := E1
  obtain ⟨A2, n2, c2, rfl⟩ := E2
  have U1 := hide hu1
  have U2 := hide hu2
  have S1 := hide sx
  have S2 := hide sy
  clear hu1 hu2 sx sy
  obtain ⟨b1, e1⟩ : ∃ b, Hid (decide (x < 0) = b) := ⟨_, rfl⟩
  obtain ⟨b2, e2⟩ : ∃ b, Hid (decide (y < 0) = b) := ⟨_, rfl⟩
  rw [e1.out, e2.out]
  cases b1 <;> cases b2
  case false.false =>
    have Z1 : Hid ((x + y).natAbs = x.natAbs + y.natAbs) := by
      have q1 := e1.out
      have q2 := e2.out
      simp only [decide_eq_true_eq, decide_eq_false_iff_not] at q1 q2
      show _ = _
      omega
    have Z2 : Hid (decide (x + y < 0) = (false && decide (x.natAbs + y.natAbs ≠ 0))) := by
      have q1 := e1.out
      have q2 := e2.out
      simp only [decide_eq_true_eq, decide_eq_false_iff_not] at q1 q2
      show _ = _
      rw [Bool.eq_iff_iff]
      simp
      try omega
    go_enter Tryd.func89, Tryd.ntmps89
    go_wp2
    obtain ⟨W, hW, K1, K2, K3, BW, ZW⟩ := alloc3 w #[.bool false, .slice A1 n1 c1] #[.bool false, .slice A2 n2 c2] #[.bool false, .slice none 0 0] 109 109 42
    rw [hW]
    clear hW
    have UW1 := hide (U1.out.below BW.out)
    have UW2 := hide (U2.out.below BW.out)
    clear U1 U2
    refine wp_region_facts 8 (fun w' => Below W.heap.size W w') [(12, .eq ((.pointer (some ⟨w.heap.size, 0, none⟩) : Value))), (13, .eq (.bool false)), (14, .eq ((.pointer (some ⟨w.heap.size, 1, none⟩) : Value))), (15, (.nat x.natAbs)), (16, .eq ((.pointer (some ⟨w.heap.size + 1, 1, none⟩) : Value))), (17, (.nat y.natAbs)), (18, (.natR (x.natAbs + y.natAbs) w.heap.size)), (19, (.intR (x + y) w.heap.size))] [false, false, false, false, false, false, false, false, false, false, false, false, true, true, true, true, true, true, true, true, false, false, false, false, false, false, false, false, false, false, false, false, false, false, false, false, false, false, false, false] mixed (by kernel_rfl) (by kernel_rfl) (by kernel_rfl) (fun _ _ h hb => h.trans (hb.mono h.size)) ((Below.refl _ _).drew) ⟨?_, ?_, ?_, ?_, ?_, ?_, ?_, ?_, trivial⟩ ?_
    · exact .fieldAddr (.inl rfl) rfl rfl rfl (fun a w' hC hs hl => by rw [show a.eval (.tmp 2) = (.pointer (some ⟨w.heap.size, 0, none⟩) : Value) from (hs 2 (by kernel_rfl))]; exact fa_whole0)
    · exact .load (.bool false) (.inl rfl) rfl rfl (fun a w' hC hs hl => by rw [show a.eval (.tmp 12) = (.pointer (some ⟨w.heap.size, 0, none⟩) : Value) from (hl 12 (by kernel_rfl) (by kernel_rfl))]; exact ⟨ld_bool ((K1.out.below' hC).at_ 0 rfl), rfl⟩)
    · exact .fieldAddr (.inl rfl) rfl rfl rfl (fun a w' hC hs hl => by rw [show a.eval (.tmp 2) = (.pointer (some ⟨w.heap.size, 0, none⟩) : Value) from (hs 2 (by kernel_rfl))]; exact fa_whole1)
    · exact .load (.slice A1 n1 c1) (.inl rfl) rfl rfl (fun a w' hC hs hl => by rw [show a.eval (.tmp 14) = (.pointer (some ⟨w.heap.size, 1, none⟩) : Value) from (hl 14 (by kernel_rfl) (by kernel_rfl))]; exact ⟨ld_Nat ((K1.out.below' hC).at_ 1 rfl), UW1.out.below hC⟩)
    · exact .fieldAddr (.inl rfl) rfl rfl rfl (fun a w' hC hs hl => by rw [show a.eval (.tmp 3) = (.pointer (some ⟨w.heap.size + 1, 0, none⟩) : Value) from (hs 3 (by kernel_rfl))]; exact fa_whole1)
    · exact .load (.slice A2 n2 c2) (.inl rfl) rfl rfl (fun a w' hC hs hl => by rw [show a.eval (.tmp 16) = (.pointer (some ⟨w.heap.size + 1, 1, none⟩) : Value) from (hl 16 (by kernel_rfl) (by kernel_rfl))]; exact ⟨ld_Nat ((K2.out.below' hC).at_ 1 rfl), UW2.out.below hC⟩)
    · exact .call (.inl rfl) rfl rfl fn_Add (fun a w' hC hs hl => nAdd_F w.heap.size (Nat.le_trans BW.out.size hC.size) (hl 15 (by kernel_rfl) (by kernel_rfl)) (hl 17 (by kernel_rfl) (by kernel_rfl)) (L_up S1.out (by decide)) (L_up S2.out (by decide)))
    · exact .call (.inl rfl) rfl rfl fn_signed (fun a w' hC hs hl => by
        have e := (hl 13 (by kernel_rfl) (by kernel_rfl))
        have e : slot a 13 = .bool false := e
        show Calls _ _ #[slot a 13, slot a 18] _ _
        rw [e]
        exact isigned_F (hl 18 (by kernel_rfl) (by kernel_rfl)) Z1.out Z2.out)
    intro f w1 hC hF _
    have f19 := hF 19 (by kernel_rfl)
    clear hF
    have r19 : IntR (x + y) w.heap.size w1 (f 19) := f19
    clear f19
    simp only [patch, List.drop]
    obtain ⟨b9, A9, n9, c9, e9⟩ := r19.slice
    have R9 := hide r19
    clear r19
    generalize f 19 = v9 at *
    subst e9
    have K4 := hide (K3.out.below' hC)
    have h0 := K4.out.at_ 0 rfl
    have h1 := K4.out.at_ 1 rfl
    have h2 := K4.out.frozen 0
    have h3 := K4.out.frozen 1
    have B9 := hide (BW.out.trans (hC.mono BW.out.size))
    clear hC
    go_wp2
    refine bodyPost_ret (v := .agg #[.bool b9, .slice A9 n9 c9]) (by simp [results, Tryd.results89, go_sem, h0, h1, h2, h3]) rfl ?_
    exact opq_end hR ⟨_, rfl, R9.out.only K4.out (by decide) (((Only.refl _ _).set _ _).set _ _), (by (repeat (first | exact B9 | exact Below.refl _ _ | refine Below.setCell ?_ (by first | (simp; done) | (simp; omega)) _ | refine Below.alloc ?_ (by first | (simp; done) | (simp; omega)) _)))⟩
  case true.true =>
    have Z1 : Hid ((x + y).natAbs = x.natAbs + y.natAbs) := by
      have q1 := e1.out
      have q2 := e2.out
      simp only [decide_eq_true_eq, decide_eq_false_iff_not] at q1 q2
      show _ = _
      omega
    have Z2 : Hid (decide (x + y < 0) = (true && decide (x.natAbs + y.natAbs ≠ 0))) := by
      have q1 := e1.out
      have q2 := e2.out
      simp only [decide_eq_true_eq, decide_eq_false_iff_not] at q1 q2
      show _ = _
      rw [Bool.eq_iff_iff]
      simp
      try omega
    go_enter Tryd.func89, Tryd.ntmps89
    go_wp2
    obtain ⟨W, hW, K1, K2, K3, BW, ZW⟩ := alloc3 w #[.bool true, .slice A1 n1 c1] #[.bool true, .slice A2 n2 c2] #[.bool false, .slice none 0 0] 109 109 42
    rw [hW]
    clear hW
    have UW1 := hide (U1.out.below BW.out)
    have UW2 := hide (U2.out.below BW.out)
    clear U1 U2
    refine wp_region_facts 8 (fun w' => Below W.heap.size W w') [(12, .eq ((.pointer (some ⟨w.heap.size, 0, none⟩) : Value))), (13, .eq (.bool true)), (14, .eq ((.pointer (some ⟨w.heap.size, 1, none⟩) : Value))), (15, (.nat x.natAbs)), (16, .eq ((.pointer (some ⟨w.heap.size + 1, 1, none⟩) : Value))), (17, (.nat y.natAbs)), (18, (.natR (x.natAbs + y.natAbs) w.heap.size)), (19, (.intR (x + y) w.heap.size))] [false, false, false, false, false, false, false, false, false, false, false, false, true, true, true, true, true, true, true, true, false, false, false, false, false, false, false, false, false, false, false, false, false, false, false, false, false, false, false, false] mixed (by kernel_rfl) (by kernel_rfl) (by kernel_rfl) (fun _ _ h hb => h.trans (hb.mono h.size)) ((Below.refl _ _).drew) ⟨?_, ?_, ?_, ?_, ?_, ?_, ?_, ?_, trivial⟩ ?_
    · exact .fieldAddr (.inl rfl) rfl rfl rfl (fun a w' hC hs hl => by rw [show a.eval (.tmp 2) = (.pointer (some ⟨w.heap.size, 0, none⟩) : Value) from (hs 2 (by kernel_rfl))]; exact fa_whole0)
    · exact .load (.bool true) (.inl rfl) rfl rfl (fun a w' hC hs hl => by rw [show a.eval (.tmp 12) = (.pointer (some ⟨w.heap.size, 0, none⟩) : Value) from (hl 12 (by kernel_rfl) (by kernel_rfl))]; exact ⟨ld_bool ((K1.out.below' hC).at_ 0 rfl), rfl⟩)
    · exact .fieldAddr (.inl rfl) rfl rfl rfl (fun a w' hC hs hl => by rw [show a.eval (.tmp 2) = (.pointer (some ⟨w.heap.size, 0, none⟩) : Value) from (hs 2 (by kernel_rfl))]; exact fa_whole1)
    · exact .load (.slice A1 n1 c1) (.inl rfl) rfl rfl (fun a w' hC hs hl => by rw [show a.eval (.tmp 14) = (.pointer (some ⟨w.heap.size, 1, none⟩) : Value) from (hl 14 (by kernel_rfl) (by kernel_rfl))]; exact ⟨ld_Nat ((K1.out.below' hC).at_ 1 rfl), UW1.out.below hC⟩)
    · exact .fieldAddr (.inl rfl) rfl rfl rfl (fun a w' hC hs hl => by rw [show a.eval (.tmp 3) = (.pointer (some ⟨w.heap.size + 1, 0, none⟩) : Value) from (hs 3 (by kernel_rfl))]; exact fa_whole1)
    · exact .load (.slice A2 n2 c2) (.inl rfl) rfl rfl (fun a w' hC hs hl => by rw [show a.eval (.tmp 16) = (.pointer (some ⟨w.heap.size + 1, 1, none⟩) : Value) from (hl 16 (by kernel_rfl) (by kernel_rfl))]; exact ⟨ld_Nat ((K2.out.below' hC).at_ 1 rfl), UW2.out.below hC⟩)
    · exact .call (.inl rfl) rfl rfl fn_Add (fun a w' hC hs hl => nAdd_F w.heap.size (Nat.le_trans BW.out.size hC.size) (hl 15 (by kernel_rfl) (by kernel_rfl)) (hl 17 (by kernel_rfl) (by kernel_rfl)) (L_up S1.out (by decide)) (L_up S2.out (by decide)))
    · exact .call (.inl rfl) rfl rfl fn_signed (fun a w' hC hs hl => by
        have e := (hl 13 (by kernel_rfl) (by kernel_rfl))
        have e : slot a 13 = .bool true := e
        show Calls _ _ #[slot a 13, slot a 18] _ _
        rw [e]
        exact isigned_F (hl 18 (by kernel_rfl) (by kernel_rfl)) Z1.out Z2.out)
    intro f w1 hC hF _
    have f19 := hF 19 (by kernel_rfl)
    clear hF
    have r19 : IntR (x + y) w.heap.size w1 (f 19) := f19
    clear f19
    simp only [patch, List.drop]
    obtain ⟨b9, A9, n9, c9, e9⟩ := r19.slice
    have R9 := hide r19
    clear r19
    generalize f 19 = v9 at *
    subst e9
    have K4 := hide (K3.out.below' hC)
    have h0 := K4.out.at_ 0 rfl
    have h1 := K4.out.at_ 1 rfl
    have h2 := K4.out.frozen 0
    have h3 := K4.out.frozen 1
    have B9 := hide (BW.out.trans (hC.mono BW.out.size))
    clear hC
    go_wp2
    refine bodyPost_ret (v := .agg #[.bool b9, .slice A9 n9 c9]) (by simp [results, Tryd.results89, go_sem, h0, h1, h2, h3]) rfl ?_
    exact opq_end hR ⟨_, rfl, R9.out.only K4.out (by decide) (((Only.refl _ _).set _ _).set _ _), (by (repeat (first | exact B9 | exact Below.refl _ _ | refine Below.setCell ?_ (by first | (simp; done) | (simp; omega)) _ | refine Below.alloc ?_ (by first | (simp; done) | (simp; omega)) _)))⟩
  case false.true =>
    by_cases hlt : x.natAbs < y.natAbs
    case pos =>
      have Z1 : Hid ((x + y).natAbs = y.natAbs - x.natAbs) := by
        have q1 := e1.out
        have q2 := e2.out
        simp only [decide_eq_true_eq, decide_eq_false_iff_not] at q1 q2
        show _ = _
        omega
      have Z2 : Hid (decide (x + y < 0) = (true && decide (y.natAbs - x.natAbs ≠ 0))) := by
        have q1 := e1.out
        have q2 := e2.out
        simp only [decide_eq_true_eq, decide_eq_false_iff_not] at q1 q2
        show _ = _
        rw [Bool.eq_iff_iff]
        simp
        try omega
      have HL := hide (show x.natAbs ≤ y.natAbs by omega)
      have HC : Hid (cmpN x.natAbs y.natAbs = -1) := by
        exact cmpN_lt hlt
      clear hlt
      go_enter Tryd.func89, Tryd.ntmps89
      go_wp2_with fail
      obtain ⟨W, hW, K1, K2, K3, BW, ZW⟩ := alloc3 w #[.bool false, .slice A1 n1 c1] #[.bool true, .slice A2 n2 c2] #[.bool false, .slice none 0 0] 109 109 42
      rw [hW]
      clear hW
      refine (Cmp_arg ((U1.out.below BW.out).arg (L_up S1.out (by decide))) ((U2.out.below BW.out).arg (L_up S2.out (by decide)))).mono ?_
      rw [HC.out]
      rintro e w1 ⟨rfl, d1⟩
      have k1 := K1.out.below' d1.out
      have k2 := K2.out.below' d1.out
      have k3 := K3.out.below' d1.out
      have z1 : w.heap.size + 1 + 1 < w1.heap.size := by have := d1.out.size; have := ZW.out; omega
      have B1 := hide (BW.out.trans (d1.out.mono BW.out.size))
      have a0 := k1.at_ 0 rfl
      have a1 := k1.at_ 1 rfl
      have a2 := k2.at_ 0 rfl
      have a3 := k2.at_ 1 rfl
      have f0 := k1.frozen 0
      have f1 := k1.frozen 1
      have f2 := k2.frozen 0
      have f3 := k2.frozen 1
      clear d1 HC K1 K2 K3
      have m1 := hide ((((k1.set_ 0 (.bool true)).set_ 1 (.slice A2 n2 c2)).far (p := ⟨w.heap.size + 1, 0, none⟩) (by simp) (.bool false)).far (p := ⟨w.heap.size + 1, 1, none⟩) (by simp) (.slice A1 n1 c1))
      have m2 := hide ((((k2.far (p := ⟨w.heap.size, 0, none⟩) (by simp) (.bool true)).far (p := ⟨w.heap.size, 1, none⟩) (by simp) (.slice A2 n2 c2)).set_ 0 (.bool false)).set_ 1 (.slice A1 n1 c1))
      have m3 := hide ((((k3.far (p := ⟨w.heap.size, 0, none⟩) (by simp; omega) (.bool true)).far (p := ⟨w.heap.size, 1, none⟩) (by simp; omega) (.slice A2 n2 c2)).far (p := ⟨w.heap.size + 1, 0, none⟩) (by simp) (.bool false)).far (p := ⟨w.heap.size + 1, 1, none⟩) (by simp) (.slice A1 n1 c1))
      clear k1 k2 k3
      go_wp2_with fail
      refine (Sub_ge (U2.out.below (by (repeat (first | exact B1 | exact Below.refl _ _ | refine Below.setCell ?_ (by first | (simp; done) | (simp; omega)) _ | refine Below.alloc ?_ (by first | (simp; done) | (simp; omega)) _)))) (U1.out.below (by (repeat (first | exact B1 | exact Below.refl _ _ | refine Below.setCell ?_ (by first | (simp; done) | (simp; omega)) _ | refine Below.alloc ?_ (by first | (simp; done) | (simp; omega)) _)))) (L_up S2.out (by decide)) (L_up S1.out (by decide)) HL.out).mono ?_
      rintro e w2 ⟨u, rfl, ru, d2⟩
      have j1 := m1.out.below' d2.out
      have j3 := hide (m3.out.below' d2.out)
      have g0 := j1.at_ 0 rfl
      have B2 := hide (below_tr B1.out (Below.refl _ _))
      have B3 : Hid (Below w.heap.size w w2) := Below.trans (by (repeat (first | exact B1 | exact Below.refl _ _ | refine Below.setCell ?_ (by first | (simp; done) | (simp; omega)) _ | refine Below.alloc ?_ (by first | (simp; done) | (simp; omega)) _))) (d2.out.mono (by first | omega | (simp [World.setCell]; omega)))
      clear a0 a1 a2 a3 f0 f1 f2 f3 m1 m2 m3 j1 d2
      obtain ⟨A9, c9, e9, _⟩ := ru.out.can
      subst e9
      have ru2 := hide (ru.out.mono (B := _) (B' := w.heap.size) (by first | omega | (simp [World.setCell]; omega)))
      clear ru B1 B2
      go_wp2_with fail
      refine (isigned_ok ru2.out.can).mono ?_
      rintro e w3 ⟨rfl, d3⟩
      have R9 := hide (intR_of_parts (b := true) (ru2.out.below d3.out) Z1.out Z2.out)
      have B9 := hide (B3.out.trans (d3.out.mono B3.out.size))
      have K4 := hide (j3.out.below' d3.out)
      have h0 := K4.out.at_ 0 rfl
      have h1 := K4.out.at_ 1 rfl
      have h2 := K4.out.frozen 0
      have h3 := K4.out.frozen 1
      clear ru2 B3 d3 j3 Z2 g0
      generalize (true && decide (y.natAbs - x.natAbs ≠ 0)) = b9 at *
      generalize (limbs (y.natAbs - x.natAbs)).length = n9 at *
      go_wp2
      refine bodyPost_ret (v := .agg #[.bool b9, .slice A9 n9 c9]) (by simp [results, Tryd.results89, go_sem, h0, h1, h2, h3]) rfl ?_
      exact opq_end hR ⟨_, rfl, R9.out.only K4.out (by decide) (((Only.refl _ _).set _ _).set _ _), (by (repeat (first | exact B9 | exact Below.refl _ _ | refine Below.setCell ?_ (by first | (simp; done) | (simp; omega)) _ | refine Below.alloc ?_ (by first | (simp; done) | (simp; omega)) _)))⟩
    case neg =>
      have Z1 : Hid ((x + y).natAbs = x.natAbs - y.natAbs) := by
        have q1 := e1.out
        have q2 := e2.out
        simp only [decide_eq_true_eq, decide_eq_false_iff_not] at q1 q2
        show _ = _
        omega
      have Z2 : Hid (decide (x + y < 0) = (false && decide (x.natAbs - y.natAbs ≠ 0))) := by
        have q1 := e1.out
        have q2 := e2.out
        simp only [decide_eq_true_eq, decide_eq_false_iff_not] at q1 q2
        show _ = _
        rw [Bool.eq_iff_iff]
        simp
        try omega
      have HL := hide (show y.natAbs ≤ x.natAbs by omega)
      have HC : Hid (¬ cmpN x.natAbs y.natAbs < 0) := by
        show ¬ _; unfold cmpN; rw [if_neg hlt]; split <;> omega
      clear hlt
      go_enter Tryd.func89, Tryd.ntmps89
      go_wp2_with fail
      obtain ⟨W, hW, K1, K2, K3, BW, ZW⟩ := alloc3 w #[.bool false, .slice A1 n1 c1] #[.bool true, .slice A2 n2 c2] #[.bool false, .slice none 0 0] 109 109 42
      rw [hW]
      clear hW
      refine (Cmp_arg ((U1.out.below BW.out).arg (L_up S1.out (by decide))) ((U2.out.below BW.out).arg (L_up S2.out (by decide)))).mono ?_
      obtain ⟨r, hr⟩ : ∃ r, r = cmpN x.natAbs y.natAbs := ⟨_, rfl⟩
      have hr0 : decide (r < 0) = false := by rw [hr]; simpa using HC.out
      rw [← hr]
      clear hr
      rintro e w1 ⟨rfl, d1⟩
      have k1 := K1.out.below' d1.out
      have k2 := K2.out.below' d1.out
      have k3 := K3.out.below' d1.out
      have z1 : w.heap.size + 1 + 1 < w1.heap.size := by have := d1.out.size; have := ZW.out; omega
      have B1 := hide (BW.out.trans (d1.out.mono BW.out.size))
      have a0 := k1.at_ 0 rfl
      have a1 := k1.at_ 1 rfl
      have a2 := k2.at_ 0 rfl
      have a3 := k2.at_ 1 rfl
      have f0 := k1.frozen 0
      have f1 := k1.frozen 1
      have f2 := k2.frozen 0
      have f3 := k2.frozen 1
      clear d1 HC K1 K2 K3
      have m1 := hide k1
      have m2 := hide k2
      have m3 := hide k3
      clear k1 k2 k3
      go_wp2_with fail
      refine (Sub_ge (U1.out.below (by (repeat (first | exact B1 | exact Below.refl _ _ | refine Below.setCell ?_ (by first | (simp; done) | (simp; omega)) _ | refine Below.alloc ?_ (by first | (simp; done) | (simp; omega)) _)))) (U2.out.below (by (repeat (first | exact B1 | exact Below.refl _ _ | refine Below.setCell ?_ (by first | (simp; done) | (simp; omega)) _ | refine Below.alloc ?_ (by first | (simp; done) | (simp; omega)) _)))) (L_up S1.out (by decide)) (L_up S2.out (by decide)) HL.out).mono ?_
      rintro e w2 ⟨u, rfl, ru, d2⟩
      have j1 := m1.out.below' d2.out
      have j3 := hide (m3.out.below' d2.out)
      have g0 := j1.at_ 0 rfl
      have B2 := hide (below_tr B1.out (Below.refl _ _))
      have B3 : Hid (Below w.heap.size w w2) := Below.trans (by (repeat (first | exact B1 | exact Below.refl _ _ | refine Below.setCell ?_ (by first | (simp; done) | (simp; omega)) _ | refine Below.alloc ?_ (by first | (simp; done) | (simp; omega)) _))) (d2.out.mono (by first | omega | (simp [World.setCell]; omega)))
      clear a0 a1 a2 a3 f0 f1 f2 f3 m1 m2 m3 j1 d2
      obtain ⟨A9, c9, e9, _⟩ := ru.out.can
      subst e9
      have ru2 := hide (ru.out.mono (B := _) (B' := w.heap.size) (by first | omega | (simp [World.setCell]; omega)))
      clear ru B1 B2
      go_wp2_with fail
      refine (isigned_ok ru2.out.can).mono ?_
      rintro e w3 ⟨rfl, d3⟩
      have R9 := hide (intR_of_parts (b := false) (ru2.out.below d3.out) Z1.out Z2.out)
      have B9 := hide (B3.out.trans (d3.out.mono B3.out.size))
      have K4 := hide (j3.out.below' d3.out)
      have h0 := K4.out.at_ 0 rfl
      have h1 := K4.out.at_ 1 rfl
      have h2 := K4.out.frozen 0
      have h3 := K4.out.frozen 1
      clear ru2 B3 d3 j3 Z2 g0
      generalize (false && decide (x.natAbs - y.natAbs ≠ 0)) = b9 at *
      generalize (limbs (x.natAbs - y.natAbs)).length = n9 at *
      go_wp2
      refine bodyPost_ret (v := .agg #[.bool b9, .slice A9 n9 c9]) (by simp [results, Tryd.results89, go_sem, h0, h1, h2, h3]) rfl ?_
      exact opq_end hR ⟨_, rfl, R9.out.only K4.out (by decide) (((Only.refl _ _).set _ _).set _ _), (by (repeat (first | exact B9 | exact Below.refl _ _ | refine Below.setCell ?_ (by first | (simp; done) | (simp; omega)) _ | refine Below.alloc ?_ (by first | (simp; done) | (simp; omega)) _)))⟩
  case true.false =>
    by_cases hlt : x.natAbs < y.natAbs
    case pos =>
      have Z1 : Hid ((x + y).natAbs = y.natAbs - x.natAbs) := by
        have q1 := e1.out
        have q2 := e2.out
        simp only [decide_eq_true_eq, decide_eq_false_iff_not] at q1 q2
        show _ = _
        omega
      have Z2 : Hid (decide (x + y < 0) = (false && decide (y.natAbs - x.natAbs ≠ 0))) := by
        have q1 := e1.out
        have q2 := e2.out
        simp only [decide_eq_true_eq, decide_eq_false_iff_not] at q1 q2
        show _ = _
        rw [Bool.eq_iff_iff]
        simp
        try omega
      have HL := hide (show x.natAbs ≤ y.natAbs by omega)
      have HC : Hid (cmpN x.natAbs y.natAbs = -1) := by
        exact cmpN_lt hlt
      clear hlt
      go_enter Tryd.func89, Tryd.ntmps89
      go_wp2_with fail
      obtain ⟨W, hW, K1, K2, K3, BW, ZW⟩ := alloc3 w #[.bool true, .slice A1 n1 c1] #[.bool false, .slice A2 n2 c2] #[.bool false, .slice none 0 0] 109 109 42
      rw [hW]
      clear hW
      refine (Cmp_arg ((U1.out.below BW.out).arg (L_up S1.out (by decide))) ((U2.out.below BW.out).arg (L_up S2.out (by decide)))).mono ?_
      rw [HC.out]
      rintro e w1 ⟨rfl, d1⟩
      have k1 := K1.out.below' d1.out
      have k2 := K2.out.below' d1.out
      have k3 := K3.out.below' d1.out
      have z1 : w.heap.size + 1 + 1 < w1.heap.size := by have := d1.out.size; have := ZW.out; omega
      have B1 := hide (BW.out.trans (d1.out.mono BW.out.size))
      have a0 := k1.at_ 0 rfl
      have a1 := k1.at_ 1 rfl
      have a2 := k2.at_ 0 rfl
      have a3 := k2.at_ 1 rfl
      have f0 := k1.frozen 0
      have f1 := k1.frozen 1
      have f2 := k2.frozen 0
      have f3 := k2.frozen 1
      clear d1 HC K1 K2 K3
      have m1 := hide ((((k1.set_ 0 (.bool false)).set_ 1 (.slice A2 n2 c2)).far (p := ⟨w.heap.size + 1, 0, none⟩) (by simp) (.bool true)).far (p := ⟨w.heap.size + 1, 1, none⟩) (by simp) (.slice A1 n1 c1))
      have m2 := hide ((((k2.far (p := ⟨w.heap.size, 0, none⟩) (by simp) (.bool false)).far (p := ⟨w.heap.size, 1, none⟩) (by simp) (.slice A2 n2 c2)).set_ 0 (.bool true)).set_ 1 (.slice A1 n1 c1))
      have m3 := hide ((((k3.far (p := ⟨w.heap.size, 0, none⟩) (by simp; omega) (.bool false)).far (p := ⟨w.heap.size, 1, none⟩) (by simp; omega) (.slice A2 n2 c2)).far (p := ⟨w.heap.size + 1, 0, none⟩) (by simp) (.bool true)).far (p := ⟨w.heap.size + 1, 1, none⟩) (by simp) (.slice A1 n1 c1))
      clear k1 k2 k3
      go_wp2_with fail
      refine (Sub_ge (U2.out.below (by (repeat (first | exact B1 | exact Below.refl _ _ | refine Below.setCell ?_ (by first | (simp; done) | (simp; omega)) _ | refine Below.alloc ?_ (by first | (simp; done) | (simp; omega)) _)))) (U1.out.below (by (repeat (first | exact B1 | exact Below.refl _ _ | refine Below.setCell ?_ (by first | (simp; done) | (simp; omega)) _ | refine Below.alloc ?_ (by first | (simp; done) | (simp; omega)) _)))) (L_up S2.out (by decide)) (L_up S1.out (by decide)) HL.out).mono ?_
      rintro e w2 ⟨u, rfl, ru, d2⟩
      have j1 := m1.out.below' d2.out
      have j3 := hide (m3.out.below' d2.out)
      have g0 := j1.at_ 0 rfl
      have B2 := hide (below_tr B1.out (Below.refl _ _))
      have B3 : Hid (Below w.heap.size w w2) := Below.trans (by (repeat (first | exact B1 | exact Below.refl _ _ | refine Below.setCell ?_ (by first | (simp; done) | (simp; omega)) _ | refine Below.alloc ?_ (by first | (simp; done) | (simp; omega)) _))) (d2.out.mono (by first | omega | (simp [World.setCell]; omega)))
      clear a0 a1 a2 a3 f0 f1 f2 f3 m1 m2 m3 j1 d2
      obtain ⟨A9, c9, e9, _⟩ := ru.out.can
      subst e9
      have ru2 := hide (ru.out.mono (B := _) (B' := w.heap.size) (by first | omega | (simp [World.setCell]; omega)))
      clear ru B1 B2
      go_wp2_with fail
      refine (isigned_ok ru2.out.can).mono ?_
      rintro e w3 ⟨rfl, d3⟩
      have R9 := hide (intR_of_parts (b := false) (ru2.out.below d3.out) Z1.out Z2.out)
      have B9 := hide (B3.out.trans (d3.out.mono B3.out.size))
      have K4 := hide (j3.out.below' d3.out)
      have h0 := K4.out.at_ 0 rfl
      have h1 := K4.out.at_ 1 rfl
      have h2 := K4.out.frozen 0
      have h3 := K4.out.frozen 1
      clear ru2 B3 d3 j3 Z2 g0
      generalize (false && decide (y.natAbs - x.natAbs ≠ 0)) = b9 at *
      generalize (limbs (y.natAbs - x.natAbs)).length = n9 at *
      go_wp2
      refine bodyPost_ret (v := .agg #[.bool b9, .slice A9 n9 c9]) (by simp [results, Tryd.results89, go_sem, h0, h1, h2, h3]) rfl ?_
      exact opq_end hR ⟨_, rfl, R9.out.only K4.out (by decide) (((Only.refl _ _).set _ _).set _ _), (by (repeat (first | exact B9 | exact Below.refl _ _ | refine Below.setCell ?_ (by first | (simp; done) | (simp; omega)) _ | refine Below.alloc ?_ (by first | (simp; done) | (simp; omega)) _)))⟩
    case neg =>
      have Z1 : Hid ((x + y).natAbs = x.natAbs - y.natAbs) := by
        have q1 := e1.out
        have q2 := e2.out
        simp only [decide_eq_true_eq, decide_eq_false_iff_not] at q1 q2
        show _ = _
        omega
      have Z2 : Hid (decide (x + y < 0) = (true && decide (x.natAbs - y.natAbs ≠ 0))) := by
        have q1 := e1.out
        have q2 := e2.out
        simp only [decide_eq_true_eq, decide_eq_false_iff_not] at q1 q2
        show _ = _
        rw [Bool.eq_iff_iff]
        simp
        try omega
      have HL := hide (show y.natAbs ≤ x.natAbs by omega)
      have HC : Hid (¬ cmpN x.natAbs y.natAbs < 0) := by
        show ¬ _; unfold cmpN; rw [if_neg hlt]; split <;> omega
      clear hlt
      go_enter Tryd.func89, Tryd.ntmps89
      go_wp2_with fail
      obtain ⟨W, hW, K1, K2, K3, BW, ZW⟩ := alloc3 w #[.bool true, .slice A1 n1 c1] #[.bool false, .slice A2 n2 c2] #[.bool false, .slice none 0 0] 109 109 42
      rw [hW]
      clear hW
      refine (Cmp_arg ((U1.out.below BW.out).arg (L_up S1.out (by decide))) ((U2.out.below BW.out).arg (L_up S2.out (by decide)))).mono ?_
      obtain ⟨r, hr⟩ : ∃ r, r = cmpN x.natAbs y.natAbs := ⟨_, rfl⟩
      have hr0 : decide (r < 0) = false := by rw [hr]; simpa using HC.out
      rw [← hr]
      clear hr
      rintro e w1 ⟨rfl, d1⟩
      have k1 := K1.out.below' d1.out
      have k2 := K2.out.below' d1.out
      have k3 := K3.out.below' d1.out
      have z1 : w.heap.size + 1 + 1 < w1.heap.size := by have := d1.out.size; have := ZW.out; omega
      have B1 := hide (BW.out.trans (d1.out.mono BW.out.size))
      have a0 := k1.at_ 0 rfl
      have a1 := k1.at_ 1 rfl
      have a2 := k2.at_ 0 rfl
      have a3 := k2.at_ 1 rfl
      have f0 := k1.frozen 0
      have f1 := k1.frozen 1
      have f2 := k2.frozen 0
      have f3 := k2.frozen 1
      clear d1 HC K1 K2 K3
      have m1 := hide k1
      have m2 := hide k2
      have m3 := hide k3
      clear k1 k2 k3
      go_wp2_with fail
      refine (Sub_ge (U1.out.below (by (repeat (first | exact B1 | exact Below.refl _ _ | refine Below.setCell ?_ (by first | (simp; done) | (simp; omega)) _ | refine Below.alloc ?_ (by first | (simp; done) | (simp; omega)) _)))) (U2.out.below (by (repeat (first | exact B1 | exact Below.refl _ _ | refine Below.setCell ?_ (by first | (simp; done) | (simp; omega)) _ | refine Below.alloc ?_ (by first | (simp; done) | (simp; omega)) _)))) (L_up S1.out (by decide)) (L_up S2.out (by decide)) HL.out).mono ?_
      rintro e w2 ⟨u, rfl, ru, d2⟩
      have j1 := m1.out.below' d2.out
      have j3 := hide (m3.out.below' d2.out)
      have g0 := j1.at_ 0 rfl
      have B2 := hide (below_tr B1.out (Below.refl _ _))
      have B3 : Hid (Below w.heap.size w w2) := Below.trans (by (repeat (first | exact B1 | exact Below.refl _ _ | refine Below.setCell ?_ (by first | (simp; done) | (simp; omega)) _ | refine Below.alloc ?_ (by first | (simp; done) | (simp; omega)) _))) (d2.out.mono (by first | omega | (simp [World.setCell]; omega)))
      clear a0 a1 a2 a3 f0 f1 f2 f3 m1 m2 m3 j1 d2
      obtain ⟨A9, c9, e9, _⟩ := ru.out.can
      subst e9
      have ru2 := hide (ru.out.mono (B := _) (B' := w.heap.size) (by first | omega | (simp [World.setCell]; omega)))
      clear ru B1 B2
      go_wp2_with fail
      refine (isigned_ok ru2.out.can).mono ?_
      rintro e w3 ⟨rfl, d3⟩
      have R9 := hide (intR_of_parts (b := true) (ru2.out.below d3.out) Z1.out Z2.out)
      have B9 := hide (B3.out.trans (d3.out.mono B3.out.size))
      have K4 := hide (j3.out.below' d3.out)
      have h0 := K4.out.at_ 0 rfl
      have h1 := K4.out.at_ 1 rfl
      have h2 := K4.out.frozen 0
      have h3 := K4.out.frozen 1
      clear ru2 B3 d3 j3 Z2 g0
      generalize (true && decide (x.natAbs - y.natAbs ≠ 0)) = b9 at *
      generalize (limbs (x.natAbs - y.natAbs)).length = n9 at *
      go_wp2
      refine bodyPost_ret (v := .agg #[.bool b9, .slice A9 n9 c9]) (by simp [results, Tryd.results89, go_sem, h0, h1, h2, h3]) rfl ?_
      exact opq_end hR ⟨_, rfl, R9.out.only K4.out (by decide) (((Only.refl _ _).set _ _).set _ _), (by (repeat (first | exact B9 | exact Below.refl _ _ | refine Below.setCell ?_ (by first | (simp; done) | (simp; omega)) _ | refine Below.alloc ?_ (by first | (simp; done) | (simp; omega)) _)))⟩
end Go.Proofs.YtfpnhggbfakdkaaDoor

/- ints: Add, Sub, Mul, Neg. -/
set_option linter.unusedVariables false
set_option linter.unusedSimpArgs false
set_option maxRecDepth 100000
namespace Go.Proofs.YtfpnhggbfakdkaaDoor
open Go.RowKit

theorem iplus_F {w : World} {v v' : Value} {x y : Int} (B : Nat) (hB : B ≤ w.heap.size) (h : ICan w v x) (h' : ICan w v' y) (s : L x.natAbs ≤ 1000000000000) (s' : L y.natAbs ≤ 1000000000000) :
    Calls Tryd.prog 89 #[v, v'] w fun e w' => ∃ u, e = .returned u ∧ Below w.heap.size w w' ∧ IntR (x + y) B w' u :=
  (iplus_ok h h' (L_up s (by decide)) (L_up s' (by decide))).mono fun e w' ⟨u, e1, h3, h4⟩ => ⟨u, e1, h4.out, h3.out.mono hB⟩
theorem iturned_F {w : World} {v : Value} {x : Int} (h : ICan w v x) :
    Calls Tryd.prog 95 #[v] w fun e w' => ∃ u, e = .returned u ∧ Below w.heap.size w w' ∧ ICan w' u (-x) :=
  (iturned_ok h).mono fun e w' ⟨u, e1, h3, h4⟩ => ⟨u, e1, h4.out, h3.out⟩
theorem isign_F {w : World} {v : Value} {x : Int} (h : ICan w v x) :
    Calls Tryd.prog 88 #[v] w fun e w' => ∃ u, e = .returned u ∧ Below w.heap.size w w' ∧ u = .int .i64 (cmpI x 0) :=
  (isign_ok h).mono fun e w' ⟨e1, h4⟩ => ⟨_, e1, h4.out, rfl⟩
theorem nCmp_F {w : World} {v v' : Value} {M N : Nat} (h : Can w v M) (h' : Can w v' N) (s : L M ≤ 4398046511104) (s' : L N ≤ 4398046511104) :
    Calls Tryd.prog 76 #[v, v'] w fun e w' => ∃ u, e = .returned u ∧ Below w.heap.size w w' ∧ u = .int .i64 (cmpN M N) :=
  (Cmp_arg (h.arg s) (h'.arg s')).mono fun e w' ⟨e1, h2⟩ => ⟨_, e1, h2.out, rfl⟩
theorem run_alloc_whole (w : World) (a : Act) (d : Option Tmp) (t : TypeId) (p : String) (e : Array Edge) (gd : Option (Nat × Bool)) : (execOp a.eval ⟨d, .alloc 109, t, p, e, gd⟩).run Tryd.prog w = .ok (.value (.pointer (some ⟨w.heap.size, 0, none⟩))) (w.alloc (.cells (Value.agg #[.bool false, .slice none 0 0]).cells 109)) := by
  simp [execOp, go_sem, Value.cells]
set_option maxHeartbeats 1000000 in
theorem iAdd_ok {w : World} {v1 : Value} {v2 : Value} {x : Int} {y : Int} (h1 : IArg w v1 x) (h2 : IArg w v2 y) :
    Calls Tryd.prog 68 #[v1, v2] w fun e w' => ∃ u, e = .returned u ∧ Below w.heap.size w w' ∧ IntR (x + y) w.heap.size w' u := by
  refine opq fun R hR => ?_
  obtain ⟨b1, A1, n1, c1, rfl⟩ := h1.slice
  have S1 := hide h1.size
  replace h1 := hide h1
  obtain ⟨b2, A2, n2, c2, rfl⟩ := h2.slice
  have S2 := hide h2.size
  replace h2 := hide h2
  go_enter Tryd.func68, Tryd.ntmps68
  go_wp2
  obtain ⟨W, hW, K1, K2, K3, BW, ZW⟩ := alloc3 w #[.bool b1, .slice A1 n1 c1] #[.bool b2, .slice A2 n2 c2] #[.bool false, .slice none 0 0] 42 42 42
  rw [hW]
  clear hW
  refine wp_region_facts 5 (fun w' => Below W.heap.size W w') [(5, (.iarg0 w x)), (6, (.int0 w x)), (7, (.iarg0 w y)), (8, (.int0 w y)), (9, (.intR (x + y) w.heap.size))] [false, false, false, false, false, true, true, true, true, true] mixed (by kernel_rfl) (by kernel_rfl) (by kernel_rfl) (fun _ _ h hb => h.trans (hb.mono h.size)) ((Below.refl _ _).drew) ⟨?_, ?_, ?_, ?_, ?_, trivial⟩ ?_
  · exact .load (.agg #[.bool b1, .slice A1 n1 c1]) (.inl rfl) rfl rfl (fun a w' hC hs hl => by rw [show a.eval (.tmp 2) = (.pointer (some ⟨w.heap.size, 0, none⟩) : Value) from (hs 2 (by kernel_rfl))]; exact ⟨ld_Int (K1.out.below' hC), h1.out⟩)
  · exact .call (.inl rfl) rfl rfl fn_of (fun a w' hC hs hl => iof_F (hl 5 (by kernel_rfl) (by kernel_rfl)) (BW.out.trans (hC.mono BW.out.size)))
  · exact .load (.agg #[.bool b2, .slice A2 n2 c2]) (.inl rfl) rfl rfl (fun a w' hC hs hl => by rw [show a.eval (.tmp 3) = (.pointer (some ⟨w.heap.size + 1, 0, none⟩) : Value) from (hs 3 (by kernel_rfl))]; exact ⟨ld_Int (K2.out.below' hC), h2.out⟩)
  · exact .call (.inl rfl) rfl rfl fn_of (fun a w' hC hs hl => iof_F (hl 7 (by kernel_rfl) (by kernel_rfl)) (BW.out.trans (hC.mono BW.out.size)))
  · exact .call (.inl rfl) rfl rfl fn_plus (fun a w' hC hs hl => iplus_F w.heap.size (Nat.le_trans BW.out.size hC.size) ((hl 6 (by kernel_rfl) (by kernel_rfl)).below (BW.out.trans (hC.mono BW.out.size))) ((hl 8 (by kernel_rfl) (by kernel_rfl)).below (BW.out.trans (hC.mono BW.out.size))) S1.out S2.out)
  intro f w1 hC hF _
  have f9 := hF 9 (by kernel_rfl)
  clear hF
  have r9 : IntR (x + y) w.heap.size w1 (f 9) := f9
  clear f9
  simp only [patch, List.drop]
  obtain ⟨b9, A9, n9, c9, e9⟩ := r9.slice
  have R9 := hide r9
  clear r9
  generalize f 9 = v9 at *
  subst e9
  have K9 := hide (K3.out.below' hC)
  have q0 := K9.out.at_ 0 rfl
  have q1 := K9.out.at_ 1 rfl
  have q2 := K9.out.frozen 0
  have q3 := K9.out.frozen 1
  have B9 := hide (BW.out.trans (hC.mono BW.out.size))
  clear hC
  go_wp2
  refine bodyPost_ret (v := .agg #[.bool b9, .slice A9 n9 c9]) (by simp [results, Tryd.results68, go_sem, q0, q1, q2, q3]) rfl ?_
  exact opq_end hR ⟨_, rfl, (by (repeat (first | exact B9 | exact Below.refl _ _ | refine Below.setCell ?_ (by first | (simp; done) | (simp; omega)) _ | refine Below.alloc ?_ (by first | (simp; done) | (simp; omega)) _))), R9.out.only K9.out (by decide) (((Only.refl _ _).set _ _).set _ _)⟩
set_option maxHeartbeats 1000000 in
theorem iSub_ok {w : World} {v1 : Value} {v2 : Value} {x : Int} {y : Int} (h1 : IArg w v1 x) (h2 : IArg w v2 y) :
    Calls Tryd.prog 83 #[v1, v2] w fun e w' => ∃ u, e = .returned u ∧ Below w.heap.size w w' ∧ IntR (x - y) w.heap.size w' u := by
  refine opq fun R hR => ?_
  obtain ⟨b1, A1, n1, c1, rfl⟩ := h1.slice
  have S1 := hide h1.size
  replace h1 := hide h1
  obtain ⟨b2, A2, n2, c2, rfl⟩ := h2.slice
  have S2 := hide h2.size
  replace h2 := hide h2
  go_enter Tryd.func83, Tryd.ntmps83
  go_wp2
  obtain ⟨W, hW, K1, K2, K3, BW, ZW⟩ := alloc3 w #[.bool b1, .slice A1 n1 c1] #[.bool b2, .slice A2 n2 c2] #[.bool false, .slice none 0 0] 42 42 42
  rw [hW]
  clear hW
  refine wp_region_facts 6 (fun w' => Below W.heap.size W w') [(5, (.iarg0 w x)), (6, (.int0 w x)), (7, (.iarg0 w y)), (8, (.int0 w y)), (9, (.int (-y))), (10, (.intR (x + (-y)) w.heap.size))] [false, false, false, false, false, true, true, true, true, true, true] mixed (by kernel_rfl) (by kernel_rfl) (by kernel_rfl) (fun _ _ h hb => h.trans (hb.mono h.size)) ((Below.refl _ _).drew) ⟨?_, ?_, ?_, ?_, ?_, ?_, trivial⟩ ?_
  · exact .load (.agg #[.bool b1, .slice A1 n1 c1]) (.inl rfl) rfl rfl (fun a w' hC hs hl => by rw [show a.eval (.tmp 2) = (.pointer (some ⟨w.heap.size, 0, none⟩) : Value) from (hs 2 (by kernel_rfl))]; exact ⟨ld_Int (K1.out.below' hC), h1.out⟩)
  · exact .call (.inl rfl) rfl rfl fn_of (fun a w' hC hs hl => iof_F (hl 5 (by kernel_rfl) (by kernel_rfl)) (BW.out.trans (hC.mono BW.out.size)))
  · exact .load (.agg #[.bool b2, .slice A2 n2 c2]) (.inl rfl) rfl rfl (fun a w' hC hs hl => by rw [show a.eval (.tmp 3) = (.pointer (some ⟨w.heap.size + 1, 0, none⟩) : Value) from (hs 3 (by kernel_rfl))]; exact ⟨ld_Int (K2.out.below' hC), h2.out⟩)
  · exact .call (.inl rfl) rfl rfl fn_of (fun a w' hC hs hl => iof_F (hl 7 (by kernel_rfl) (by kernel_rfl)) (BW.out.trans (hC.mono BW.out.size)))
  · exact .call (.inl rfl) rfl rfl fn_turned (fun a w' hC hs hl => iturned_F ((hl 8 (by kernel_rfl) (by kernel_rfl)).below (BW.out.trans (hC.mono BW.out.size))))
  · exact .call (.inl rfl) rfl rfl fn_plus (fun a w' hC hs hl => iplus_F w.heap.size (Nat.le_trans BW.out.size hC.size) ((hl 6 (by kernel_rfl) (by kernel_rfl)).below (BW.out.trans (hC.mono BW.out.size))) (hl 9 (by kernel_rfl) (by kernel_rfl)) S1.out (Z_neg S2.out))
  intro f w1 hC hF _
  have f9 := hF 10 (by kernel_rfl)
  clear hF
  have r9 : IntR (x + -y) w.heap.size w1 (f 10) := f9
  clear f9
  rw [← Int.sub_eq_add_neg] at r9
  simp only [patch, List.drop]
  obtain ⟨b9, A9, n9, c9, e9⟩ := r9.slice
  have R9 := hide r9
  clear r9
  generalize f 10 = v9 at *
  subst e9
  have K9 := hide (K3.out.below' hC)
  have q0 := K9.out.at_ 0 rfl
  have q1 := K9.out.at_ 1 rfl
  have q2 := K9.out.frozen 0
  have q3 := K9.out.frozen 1
  have B9 := hide (BW.out.trans (hC.mono BW.out.size))
  clear hC
  go_wp2
  refine bodyPost_ret (v := .agg #[.bool b9, .slice A9 n9 c9]) (by simp [results, Tryd.results83, go_sem, q0, q1, q2, q3]) rfl ?_
  exact opq_end hR ⟨_, rfl, (by (repeat (first | exact B9 | exact Below.refl _ _ | refine Below.setCell ?_ (by first | (simp; done) | (simp; omega)) _ | refine Below.alloc ?_ (by first | (simp; done) | (simp; omega)) _))), R9.out.only K9.out (by decide) (((Only.refl _ _).set _ _).set _ _)⟩
theorem mul_sign (x y : Int) : decide (x * y < 0) = ((decide (x < 0) != decide (y < 0)) && decide (x.natAbs * y.natAbs ≠ 0)) := by
  have key : x * y < 0 ↔ (x < 0 ∧ 0 < y) ∨ (0 < x ∧ y < 0) := by
    rcases Int.lt_trichotomy x 0 with hx | hx | hx <;> rcases Int.lt_trichotomy y 0 with hy | hy | hy
    · have := Int.mul_pos_of_neg_of_neg hx hy; omega
    · subst hy; simp
    · have := Int.mul_neg_of_neg_of_pos hx hy; omega
    · subst hx; simp
    · subst hx; simp
    · subst hx; simp
    · have := Int.mul_neg_of_pos_of_neg hx hy; omega
    · subst hy; simp
    · have := Int.mul_pos hx hy; omega
  have hz : x.natAbs * y.natAbs ≠ 0 ↔ x ≠ 0 ∧ y ≠ 0 := by rw [Nat.mul_ne_zero_iff]; omega
  rw [Bool.eq_iff_iff]
  simp only [decide_eq_true_eq, key, Bool.and_eq_true, hz, bne_iff_ne, ne_eq, decide_eq_decide]
  omega
def Fact.nat0 (w : World) (N : Nat) : Fact := ⟨fun v _ => Can w v N, fun _ _ _ h _ => h⟩
set_option maxHeartbeats 1000000 in
theorem iMul_ok {w : World} {v1 : Value} {v2 : Value} {x : Int} {y : Int} (h1 : IArg w v1 x) (h2 : IArg w v2 y) :
    Calls Tryd.prog 71 #[v1, v2] w fun e w' => ∃ u, e = .returned u ∧ Below w.heap.size w w' ∧ IntR (x * y) w.heap.size w' u := by
  refine opq fun R hR => ?_
  obtain ⟨b1, A1, n1, c1, rfl⟩ := h1.slice
  have S1 := hide h1.size
  replace h1 := hide h1
  obtain ⟨b2, A2, n2, c2, rfl⟩ := h2.slice
  have S2 := hide h2.size
  replace h2 := hide h2
  go_enter Tryd.func71, Tryd.ntmps71
  go_wp2
  obtain ⟨W, hW, K1, K2, K3, BW, ZW⟩ := alloc3 w #[.bool b1, .slice A1 n1 c1] #[.bool b2, .slice A2 n2 c2] #[.bool false, .slice none 0 0] 42 42 42
  rw [hW]
  clear hW
  refine wp_region_facts 6 (fun w' => Below W.heap.size W w') [(7, (.iarg0 w x)), (8, (.int0 w x)), (9, (.iarg0 w y)), (10, (.int0 w y)), (5, (.var 109 #[.bool false, .slice none 0 0] w.heap.size)), (6, (.var 109 #[.bool false, .slice none 0 0] w.heap.size))] [false, false, false, false, false, true, true, true, true, true, true, false, false, false, false, false, false, false, false, false, false, false] mixed (by kernel_rfl) (by kernel_rfl) (by kernel_rfl) (fun _ _ h hb => h.trans (hb.mono h.size)) ((Below.refl _ _).drew) ⟨?_, ?_, ?_, ?_, ?_, ?_, trivial⟩ ?_
  · exact .load (.agg #[.bool b1, .slice A1 n1 c1]) (.inl rfl) rfl rfl (fun a w' hC hs hl => by rw [show a.eval (.tmp 2) = (.pointer (some ⟨w.heap.size, 0, none⟩) : Value) from (hs 2 (by kernel_rfl))]; exact ⟨ld_Int (K1.out.below' hC), h1.out⟩)
  · exact .call (.inl rfl) rfl rfl fn_of (fun a w' hC hs hl => iof_F (hl 7 (by kernel_rfl) (by kernel_rfl)) (BW.out.trans (hC.mono BW.out.size)))
  · exact .load (.agg #[.bool b2, .slice A2 n2 c2]) (.inl rfl) rfl rfl (fun a w' hC hs hl => by rw [show a.eval (.tmp 3) = (.pointer (some ⟨w.heap.size + 1, 0, none⟩) : Value) from (hs 3 (by kernel_rfl))]; exact ⟨ld_Int (K2.out.below' hC), h2.out⟩)
  · exact .call (.inl rfl) rfl rfl fn_of (fun a w' hC hs hl => iof_F (hl 9 (by kernel_rfl) (by kernel_rfl)) (BW.out.trans (hC.mono BW.out.size)))
  · exact .alloc (.agg #[.bool false, .slice none 0 0]) (.inl rfl) rfl rfl (fun a w' hC => ⟨run_alloc_whole _ _ _ _ _ _ _, _, rfl, Nat.le_trans BW.out.size hC.size, Blk.new _ _ _⟩)
  · exact .alloc (.agg #[.bool false, .slice none 0 0]) (.inl rfl) rfl rfl (fun a w' hC => ⟨run_alloc_whole _ _ _ _ _ _ _, _, rfl, Nat.le_trans BW.out.size hC.size, Blk.new _ _ _⟩)
  intro f w1 hC hF hN
  have f8 : ICan w (f 8) x := hF 8 (by kernel_rfl)
  have f10 : ICan w (f 10) y := hF 10 (by kernel_rfl)
  have f5 : ∃ g, f 5 = .pointer (some ⟨g, 0, none⟩) ∧ w.heap.size ≤ g ∧ Blk w1 g 109 #[.bool false, .slice none 0 0] := hF 5 (by kernel_rfl)
  have f6 : ∃ g, f 6 = .pointer (some ⟨g, 0, none⟩) ∧ w.heap.size ≤ g ∧ Blk w1 g 109 #[.bool false, .slice none 0 0] := hF 6 (by kernel_rfl)
  have n56 : f 5 ≠ f 6 := hN 4 5 _ _ 5 6 _ _ (by decide) (by decide) (by decide) rfl rfl rfl rfl rfl rfl rfl rfl
  clear hF hN
  simp only [patch, List.drop]
  obtain ⟨u8, e8, hu8⟩ := f8
  obtain ⟨u10, e10, hu10⟩ := f10
  obtain ⟨g5, e5, l5, k5⟩ := f5
  obtain ⟨g6, e6, l6, k6⟩ := f6
  obtain ⟨A8, n8, c8, rfl⟩ : ∃ A n c, u8 = .slice A n c := by obtain ⟨A, c, q, _⟩ := hu8; exact ⟨A, _, c, q⟩
  obtain ⟨A10, n10, c10, rfl⟩ : ∃ A n c, u10 = .slice A n c := by obtain ⟨A, c, q, _⟩ := hu10; exact ⟨A, _, c, q⟩
  rw [e5, e6] at n56
  have hne : g5 ≠ g6 := fun q => n56 (by rw [q])
  have hne' : g6 ≠ g5 := Ne.symm hne
  clear n56
  have U8 := hide hu8
  have U10 := hide hu10
  clear hu8 hu10
  generalize f 5 = v5 at *
  generalize f 6 = v6 at *
  generalize f 8 = v8 at *
  generalize f 10 = v10 at *
  generalize f 7 = v7 at *
  generalize f 9 = v9 at *
  subst e5 e6 e8 e10
  have K30 := hide (K3.out.below' hC)
  have B9 := hide (BW.out.trans (hC.mono BW.out.size))
  clear hC K1 K2 K3 ZW BW
  have a0 := k5.at_ 0 rfl
  have a1 := k5.at_ 1 rfl
  have a2 := k6.at_ 0 rfl
  have a3 := k6.at_ 1 rfl
  have q0 := k5.frozen 0
  have q1 := k5.frozen 1
  have q2 := k6.frozen 0
  have q3 := k6.frozen 1
  obtain ⟨x1, ex1⟩ : ∃ b, Hid (decide (x < 0) = b) := ⟨_, rfl⟩
  obtain ⟨y1, ey1⟩ : ∃ b, Hid (decide (y < 0) = b) := ⟨_, rfl⟩
  rw [ex1.out, ey1.out]
  have K5 := hide ((((k5.set_ 0 (.bool x1)).set_ 1 (.slice A8 n8 c8)).far (p := ⟨g6, 0, none⟩) hne (.bool y1)).far (p := ⟨g6, 1, none⟩) hne (.slice A10 n10 c10))
  have K6 := hide ((((k6.far (p := ⟨g5, 0, none⟩) hne' (.bool x1)).far (p := ⟨g5, 1, none⟩) hne' (.slice A8 n8 c8)).set_ 0 (.bool y1)).set_ 1 (.slice A10 n10 c10))
  have K3' := hide ((((K30.out.far (p := ⟨g5, 0, none⟩) (K30.out.type_ne k5 (by decide)) (.bool x1)).far (p := ⟨g5, 1, none⟩) (K30.out.type_ne k5 (by decide)) (.slice A8 n8 c8)).far (p := ⟨g6, 0, none⟩) (K30.out.type_ne k6 (by decide)) (.bool y1)).far (p := ⟨g6, 1, none⟩) (K30.out.type_ne k6 (by decide)) (.slice A10 n10 c10))
  have BV := hide ((((B9.out.setCell (p := ⟨g5, 0, none⟩) l5 (.bool x1)).setCell (p := ⟨g5, 1, none⟩) l5 (.slice A8 n8 c8)).setCell (p := ⟨g6, 0, none⟩) l6 (.bool y1)).setCell (p := ⟨g6, 1, none⟩) l6 (.slice A10 n10 c10))
  clear k5 k6 K30
  go_wp2
  clear a0 a1 a2 a3 q0 q1 q2 q3 B9
  obtain ⟨V, hV⟩ : ∃ V, (((w1.setCell ⟨g5, 0, none⟩ (.bool x1)).setCell ⟨g5, 1, none⟩ (.slice A8 n8 c8)).setCell ⟨g6, 0, none⟩ (.bool y1)).setCell ⟨g6, 1, none⟩ (.slice A10 n10 c10) = V := ⟨_, rfl⟩
  rw [hV] at K5 K6 BV K3' ⊢
  clear hV
  have L5 : Hid (Blk V g5 109 #[.bool x1, .slice A8 n8 c8]) := K5
  have L6 : Hid (Blk V g6 109 #[.bool y1, .slice A10 n10 c10]) := K6
  clear K5 K6
  refine wp_region_facts 11 (fun w' => Below V.heap.size V w') [(11, .eq ((.pointer (some ⟨g5, 0, none⟩) : Value))), (12, .eq (.bool x1)), (13, .eq ((.pointer (some ⟨g6, 0, none⟩) : Value))), (14, .eq (.bool y1)), (15, .eq (.bool (x1 != y1))), (16, .eq ((.pointer (some ⟨g5, 1, none⟩) : Value))), (17, (.nat0 w x.natAbs)), (18, .eq ((.pointer (some ⟨g6, 1, none⟩) : Value))), (19, (.nat0 w y.natAbs)), (20, (.natR (x.natAbs * y.natAbs) w.heap.size)), (21, (.intR (x * y) w.heap.size))] [false, false, false, false, false, false, false, false, false, false, false, true, true, true, true, true, true, true, true, true, true, true] mixed (by kernel_rfl) (by kernel_rfl) (by kernel_rfl) (fun _ _ h hb => h.trans (hb.mono h.size)) ((Below.refl _ _).drew) ⟨?_, ?_, ?_, ?_, ?_, ?_, ?_, ?_, ?_, ?_, ?_, trivial⟩ ?_
  · exact .fieldAddr (.inl rfl) rfl rfl rfl (fun a w' hC hs hl => by rw [show a.eval (.tmp 5) = (.pointer (some ⟨g5, 0, none⟩) : Value) from (hs 5 (by kernel_rfl))]; exact fa_whole0)
  · exact .load (.bool x1) (.inl rfl) rfl rfl (fun a w' hC hs hl => by rw [show a.eval (.tmp 11) = (.pointer (some ⟨g5, 0, none⟩) : Value) from (hl 11 (by kernel_rfl) (by kernel_rfl))]; exact ⟨ld_bool ((L5.out.below' hC).at_ 0 rfl), rfl⟩)
  · exact .fieldAddr (.inl rfl) rfl rfl rfl (fun a w' hC hs hl => by rw [show a.eval (.tmp 6) = (.pointer (some ⟨g6, 0, none⟩) : Value) from (hs 6 (by kernel_rfl))]; exact fa_whole0)
  · exact .load (.bool y1) (.inl rfl) rfl rfl (fun a w' hC hs hl => by rw [show a.eval (.tmp 13) = (.pointer (some ⟨g6, 0, none⟩) : Value) from (hl 13 (by kernel_rfl) (by kernel_rfl))]; exact ⟨ld_bool ((L6.out.below' hC).at_ 0 rfl), rfl⟩)
  · exact .value (.inl rfl) (by intro T e; cases e) rfl rfl (fun a w' hC hs hl => by
    have e1 : slot a 12 = .bool x1 := (hl 12 (by kernel_rfl) (by kernel_rfl))
    have e2 : slot a 14 = .bool y1 := (hl 14 (by kernel_rfl) (by kernel_rfl))
    simp only [execOp, Act.eval]
    unfold slot at e1 e2
    rw [e1, e2]
    simp [go_sem]
    cases x1 <;> cases y1 <;> rfl)
  · exact .fieldAddr (.inl rfl) rfl rfl rfl (fun a w' hC hs hl => by rw [show a.eval (.tmp 5) = (.pointer (some ⟨g5, 0, none⟩) : Value) from (hs 5 (by kernel_rfl))]; exact fa_whole1)
  · exact .load (.slice A8 n8 c8) (.inl rfl) rfl rfl (fun a w' hC hs hl => by rw [show a.eval (.tmp 16) = (.pointer (some ⟨g5, 1, none⟩) : Value) from (hl 16 (by kernel_rfl) (by kernel_rfl))]; exact ⟨ld_Nat ((L5.out.below' hC).at_ 1 rfl), U8.out⟩)
  · exact .fieldAddr (.inl rfl) rfl rfl rfl (fun a w' hC hs hl => by rw [show a.eval (.tmp 6) = (.pointer (some ⟨g6, 0, none⟩) : Value) from (hs 6 (by kernel_rfl))]; exact fa_whole1)
  · exact .load (.slice A10 n10 c10) (.inl rfl) rfl rfl (fun a w' hC hs hl => by rw [show a.eval (.tmp 18) = (.pointer (some ⟨g6, 1, none⟩) : Value) from (hl 18 (by kernel_rfl) (by kernel_rfl))]; exact ⟨ld_Nat ((L6.out.below' hC).at_ 1 rfl), U10.out⟩)
  · exact .call (.inl rfl) rfl rfl fn_Mul (fun a w' hC hs hl => nMul_F w.heap.size (Nat.le_trans BV.out.size hC.size) ((hl 17 (by kernel_rfl) (by kernel_rfl)).below (BV.out.trans (hC.mono BV.out.size))) ((hl 19 (by kernel_rfl) (by kernel_rfl)).below (BV.out.trans (hC.mono BV.out.size))) (L_up S1.out (by decide)) (L_up S2.out (by decide)))
  · exact .call (.inl rfl) rfl rfl fn_signed (fun a w' hC hs hl => by
    have e : slot a 15 = .bool (x1 != y1) := (hl 15 (by kernel_rfl) (by kernel_rfl))
    show Calls _ _ #[slot a 15, slot a 20] _ _
    rw [e]
    exact isigned_F (hl 20 (by kernel_rfl) (by kernel_rfl)) (Int.natAbs_mul x y) (by rw [← ex1.out, ← ey1.out]; exact mul_sign x y))
  intro f w1 hC hF _
  have f9 := hF 21 (by kernel_rfl)
  clear hF
  have r9 : IntR (x * y) w.heap.size w1 (f 21) := f9
  clear f9
  simp only [patch, List.drop]
  obtain ⟨b9, A9, n9, c9, e9⟩ := r9.slice
  have R9 := hide r9
  clear r9
  generalize f 21 = v9 at *
  subst e9
  have K9 := hide (K3'.out.below' hC)
  have q0 := K9.out.at_ 0 rfl
  have q1 := K9.out.at_ 1 rfl
  have q2 := K9.out.frozen 0
  have q3 := K9.out.frozen 1
  have B9 := hide (BV.out.trans (hC.mono BV.out.size))
  clear hC
  go_wp2
  refine bodyPost_ret (v := .agg #[.bool b9, .slice A9 n9 c9]) (by simp [results, Tryd.results71, go_sem, q0, q1, q2, q3]) rfl ?_
  exact opq_end hR ⟨_, rfl, (by (repeat (first | exact B9 | exact Below.refl _ _ | refine Below.setCell ?_ (by first | (simp; done) | (simp; omega)) _ | refine Below.alloc ?_ (by first | (simp; done) | (simp; omega)) _))), R9.out.only K9.out (by decide) (((Only.refl _ _).set _ _).set _ _)⟩
end Go.Proofs.YtfpnhggbfakdkaaDoor

/- ints: Neg, Cmp, Sign, Of. -/
set_option linter.unusedVariables false
set_option linter.unusedSimpArgs false
set_option maxRecDepth 100000
namespace Go.Proofs.YtfpnhggbfakdkaaDoor
open Go.RowKit

theorem clone_F {w : World} {v : Value} {N : Nat} (B : Nat) (hB : B ≤ w.heap.size) (h : Can w v N) (hl : L N ≤ 4398046511104) :
    Calls Tryd.prog 72 #[v] w fun e w' => ∃ u, e = .returned u ∧ Below w.heap.size w w' ∧ NatR N B w' u := by
  obtain ⟨A, c, rfl, l, r⟩ := h
  unfold L at hl
  have := clone_fine w A _ c _ r ⟨is32_limbs N, chk_limbs N⟩ (by omega)
  rw [val_limbs] at this
  exact this.mono fun e w' ⟨A', c', e1, h1, h2⟩ => ⟨_, e1, h2.out, h1.out.mono hB⟩
theorem fn_Clone (args : Array Value) (w : World) : (callFunc 72 args).run Tryd.prog w = .ok (.enter 72 args) w := callFunc_enter Tryd.func72 (by kernel_rfl) rfl args w
set_option maxHeartbeats 1000000 in
theorem iNeg_ok {w : World} {v1 : Value} {x : Int} (h1 : IArg w v1 x) :
    Calls Tryd.prog 85 #[v1] w fun e w' => ∃ u, e = .returned u ∧ Below w.heap.size w w' ∧ IntR (-x) w.heap.size w' u := by
  refine opq fun R hR => ?_
  obtain ⟨b1, A1, n1, c1, rfl⟩ := h1.slice
  have S1 := hide h1.size
  replace h1 := hide h1
  go_enter Tryd.func85, Tryd.ntmps85
  go_wp2_with fail
  obtain ⟨W, hW, K1, K2, BW, ZW⟩ := alloc2 w #[.bool b1, .slice A1 n1 c1] #[.bool false, .slice none 0 0] 42 42
  rw [hW]
  clear hW
  refine (iof_F h1.out BW.out).mono ?_
  rintro e w1 ⟨v8, rfl, d1, f8⟩
  have F8 := hide f8
  have B1 := hide (BW.out.trans (d1.mono BW.out.size))
  have K20 := hide (K2.out.below' d1)
  clear f8 d1 K1 K2 ZW
  go_wp2_with fail
  refine (iturned_F (F8.out.below B1.out)).mono ?_
  rintro e w2 ⟨v9, rfl, d2, f9⟩
  have B2 := hide (B1.out.trans (d2.mono B1.out.size))
  have K21 := hide (K20.out.below' d2)
  obtain ⟨u9, e9, hu9⟩ := f9
  obtain ⟨A9, n9, c9, rfl⟩ : ∃ A n c, u9 = .slice A n c := by obtain ⟨A, c, q, _⟩ := hu9; exact ⟨A, _, c, q⟩
  subst e9
  have U9 := hide hu9
  obtain ⟨x1, ex1⟩ : ∃ b, Hid (decide (-x < 0) = b) := ⟨_, rfl⟩
  rw [ex1.out]
  clear hu9 d2 B1 K20
  go_wp2
  obtain ⟨V, hV, KV, BV⟩ : ∃ V, w2.alloc (.cells #[.bool x1, .slice A9 n9 c9] 109) = V ∧ Hid (Blk V w2.heap.size 109 #[.bool x1, .slice A9 n9 c9]) ∧ Hid (Below w2.heap.size w2 V) := ⟨_, rfl, Blk.new _ _ _, (Below.refl _ _).alloc (Nat.le_refl _) _⟩
  rw [hV]
  clear hV
  have UV := hide (U9.out.below BV.out)
  have K22 := hide (K21.out.below' BV.out)
  have BW' := hide (B2.out.trans (BV.out.mono B2.out.size))
  clear U9 K21 B2 BV
  refine wp_region_facts 5 (fun w' => Below V.heap.size V w') [(7, .eq ((.pointer (some ⟨w2.heap.size, 0, none⟩) : Value))), (8, .eq (.bool x1)), (9, .eq ((.pointer (some ⟨w2.heap.size, 1, none⟩) : Value))), (10, (.nat (-x).natAbs)), (11, (.natR (-x).natAbs w.heap.size))] [false, false, false, false, false, false, false, true, true, true, true, true, false] mixed (by kernel_rfl) (by kernel_rfl) (by kernel_rfl) (fun _ _ h hb => h.trans (hb.mono h.size)) ((Below.refl _ _).drew) ⟨?_, ?_, ?_, ?_, ?_, trivial⟩ ?_
  · exact .fieldAddr (.inl rfl) rfl rfl rfl (fun a w' hC hs hl => by rw [show a.eval (.tmp 3) = (.pointer (some ⟨w2.heap.size, 0, none⟩) : Value) from (hs 3 (by kernel_rfl))]; exact fa_whole0)
  · exact .load (.bool x1) (.inl rfl) rfl rfl (fun a w' hC hs hl => by rw [show a.eval (.tmp 7) = (.pointer (some ⟨w2.heap.size, 0, none⟩) : Value) from (hl 7 (by kernel_rfl) (by kernel_rfl))]; exact ⟨ld_bool ((KV.out.below' hC).at_ 0 rfl), rfl⟩)
  · exact .fieldAddr (.inl rfl) rfl rfl rfl (fun a w' hC hs hl => by rw [show a.eval (.tmp 3) = (.pointer (some ⟨w2.heap.size, 0, none⟩) : Value) from (hs 3 (by kernel_rfl))]; exact fa_whole1)
  · exact .load (.slice A9 n9 c9) (.inl rfl) rfl rfl (fun a w' hC hs hl => by rw [show a.eval (.tmp 9) = (.pointer (some ⟨w2.heap.size, 1, none⟩) : Value) from (hl 9 (by kernel_rfl) (by kernel_rfl))]; exact ⟨ld_Nat ((KV.out.below' hC).at_ 1 rfl), UV.out.below hC⟩)
  · exact .call (.inl rfl) rfl rfl fn_Clone (fun a w' hC hs hl => clone_F w.heap.size (Nat.le_trans BW'.out.size hC.size) (hl 10 (by kernel_rfl) (by kernel_rfl)) (L_up (Z_neg S1.out) (by decide)))
  intro f w3 hC hF _
  have f8 : f 8 = .bool x1 := hF 8 (by kernel_rfl)
  have f11 : NatR (-x).natAbs w.heap.size w3 (f 11) := hF 11 (by kernel_rfl)
  clear hF
  simp only [patch, List.drop]
  obtain ⟨A7, c7, e7, _⟩ := f11.can
  have F11 := hide f11
  clear f11
  generalize f 11 = v11 at *
  generalize f 8 = v12 at *
  generalize f 7 = y7 at *
  generalize f 9 = y9 at *
  generalize f 10 = y10 at *
  subst f8 e7
  have K9 := hide (K22.out.below' hC)
  have q0 := K9.out.at_ 0 rfl
  have q1 := K9.out.at_ 1 rfl
  have q2 := K9.out.frozen 0
  have q3 := K9.out.frozen 1
  have B9 := hide (BW'.out.trans (hC.mono BW'.out.size))
  have R9 : Hid (IntR (-x) w.heap.size w3 (.agg #[.bool x1, .slice A7 (limbs (-x).natAbs).length c7])) := ⟨_, by rw [ex1.out], F11.out⟩
  clear hC F11
  generalize (limbs (-x).natAbs).length = n7 at *
  go_wp2
  refine bodyPost_ret (v := .agg #[.bool x1, .slice A7 n7 c7]) (by simp [results, Tryd.results85, go_sem, q0, q1, q2, q3]) rfl ?_
  exact opq_end hR ⟨_, rfl, (by (repeat (first | exact B9 | exact Below.refl _ _ | refine Below.setCell ?_ (by first | (simp; done) | (simp; omega)) _ | refine Below.alloc ?_ (by first | (simp; done) | (simp; omega)) _))), R9.out.only K9.out (by decide) (((Only.refl _ _).set _ _).set _ _)⟩
theorem iSign_ok {w : World} {v1 : Value} {x : Int} (h1 : IArg w v1 x) :
    Calls Tryd.prog 81 #[v1] w fun e w' => ∃ u, e = .returned u ∧ Below w.heap.size w w' ∧ u = .int .i64 (cmpI x 0) := by
  refine opq fun R hR => ?_
  obtain ⟨b1, A1, n1, c1, rfl⟩ := h1.slice
  have S1 := hide h1.size
  replace h1 := hide h1
  have BW := hide ((Below.refl w.heap.size w).alloc (Nat.le_refl _) (.cells #[.bool b1, .slice A1 n1 c1] 42))
  go_enter Tryd.func81, Tryd.ntmps81
  go_wp2_with fail
  refine (iof_F h1.out BW.out).mono ?_
  rintro e w1 ⟨v8, rfl, d1, f8⟩
  have F8 := hide f8
  have B1 := hide (BW.out.trans (d1.mono BW.out.size))
  clear f8 d1
  go_wp2_with fail
  refine (isign_F (F8.out.below B1.out)).mono ?_
  rintro e w2 ⟨v9, rfl, d2, rfl⟩
  have B2 := hide (B1.out.trans (d2.mono B1.out.size))
  clear d2
  go_wp2
  exact opq_end hR ⟨_, rfl, B2, rfl⟩
theorem sgn3 (x : Int) : ∃ s : Int, Hid (cmpI x 0 = s) ∧ (s = -1 ∨ s = 0 ∨ s = 1) ∧ Hid ((s = -1 ↔ x < 0) ∧ (s = 0 ↔ x = 0) ∧ (s = 1 ↔ 0 < x)) := by
  rcases Int.lt_trichotomy x 0 with h | h | h
  · exact ⟨-1, cmpI_lt h, .inl rfl, by show _ ∧ _; omega⟩
  · subst h; exact ⟨0, cmpI_eq 0, .inr (.inl rfl), by show _ ∧ _; omega⟩
  · exact ⟨1, cmpI_gt h, .inr (.inr rfl), by show _ ∧ _; omega⟩
set_option maxHeartbeats 1000000 in
theorem iCmp_ok {w : World} {v1 : Value} {v2 : Value} {x : Int} {y : Int} (h1 : IArg w v1 x) (h2 : IArg w v2 y) :
    Calls Tryd.prog 65 #[v1, v2] w fun e w' => ∃ u, e = .returned u ∧ Below w.heap.size w w' ∧ u = .int .i64 (cmpI x y) := by
  refine opq fun R hR => ?_
  obtain ⟨b1, A1, n1, c1, rfl⟩ := h1.slice
  have S1 := hide h1.size
  replace h1 := hide h1
  obtain ⟨b2, A2, n2, c2, rfl⟩ := h2.slice
  have S2 := hide h2.size
  replace h2 := hide h2
  obtain ⟨sx, hsx, csx, ksx⟩ := sgn3 x
  obtain ⟨sy, hsy, csy, ksy⟩ := sgn3 y
  go_enter Tryd.func65, Tryd.ntmps65
  go_wp2
  obtain ⟨W, hW, K1, K2, BW, ZW⟩ := alloc2 w #[.bool b1, .slice A1 n1 c1] #[.bool b2, .slice A2 n2 c2] 42 42
  rw [hW]
  clear hW
  refine wp_region_facts 6 (fun w' => Below W.heap.size W w') [(7, (.iarg0 w x)), (8, (.int0 w x)), (9, (.iarg0 w y)), (10, (.int0 w y)), (5, (.var 109 #[.bool false, .slice none 0 0] w.heap.size)), (6, (.var 109 #[.bool false, .slice none 0 0] w.heap.size))] [false, false, false, false, false, true, true, true, true, true, true, false, false, false, false, false, false, false, false, false, false, false, false, false, false, false, false, false, false, false, false] mixed (by kernel_rfl) (by kernel_rfl) (by kernel_rfl) (fun _ _ h hb => h.trans (hb.mono h.size)) ((Below.refl _ _).drew) ⟨?_, ?_, ?_, ?_, ?_, ?_, trivial⟩ ?_
  · exact .load (.agg #[.bool b1, .slice A1 n1 c1]) (.inl rfl) rfl rfl (fun a w' hC hs hl => by rw [show a.eval (.tmp 2) = (.pointer (some ⟨w.heap.size, 0, none⟩) : Value) from (hs 2 (by kernel_rfl))]; exact ⟨ld_Int (K1.out.below' hC), h1.out⟩)
  · exact .call (.inl rfl) rfl rfl fn_of (fun a w' hC hs hl => iof_F (hl 7 (by kernel_rfl) (by kernel_rfl)) (BW.out.trans (hC.mono BW.out.size)))
  · exact .load (.agg #[.bool b2, .slice A2 n2 c2]) (.inl rfl) rfl rfl (fun a w' hC hs hl => by rw [show a.eval (.tmp 3) = (.pointer (some ⟨w.heap.size + 1, 0, none⟩) : Value) from (hs 3 (by kernel_rfl))]; exact ⟨ld_Int (K2.out.below' hC), h2.out⟩)
  · exact .call (.inl rfl) rfl rfl fn_of (fun a w' hC hs hl => iof_F (hl 9 (by kernel_rfl) (by kernel_rfl)) (BW.out.trans (hC.mono BW.out.size)))
  · exact .alloc (.agg #[.bool false, .slice none 0 0]) (.inl rfl) rfl rfl (fun a w' hC => ⟨run_alloc_whole _ _ _ _ _ _ _, _, rfl, Nat.le_trans BW.out.size hC.size, Blk.new _ _ _⟩)
  · exact .alloc (.agg #[.bool false, .slice none 0 0]) (.inl rfl) rfl rfl (fun a w' hC => ⟨run_alloc_whole _ _ _ _ _ _ _, _, rfl, Nat.le_trans BW.out.size hC.size, Blk.new _ _ _⟩)
  intro f w1 hC hF hN
  have f8 : ICan w (f 8) x := hF 8 (by kernel_rfl)
  have f10 : ICan w (f 10) y := hF 10 (by kernel_rfl)
  have f5 : ∃ g, f 5 = .pointer (some ⟨g, 0, none⟩) ∧ w.heap.size ≤ g ∧ Blk w1 g 109 #[.bool false, .slice none 0 0] := hF 5 (by kernel_rfl)
  have f6 : ∃ g, f 6 = .pointer (some ⟨g, 0, none⟩) ∧ w.heap.size ≤ g ∧ Blk w1 g 109 #[.bool false, .slice none 0 0] := hF 6 (by kernel_rfl)
  have n56 : f 5 ≠ f 6 := hN 4 5 _ _ 5 6 _ _ (by decide) (by decide) (by decide) rfl rfl rfl rfl rfl rfl rfl rfl
  clear hF hN
  simp only [patch, List.drop]
  obtain ⟨u8, e8, hu8⟩ := f8
  obtain ⟨u10, e10, hu10⟩ := f10
  obtain ⟨g5, e5, l5, k5⟩ := f5
  obtain ⟨g6, e6, l6, k6⟩ := f6
  obtain ⟨A8, n8, c8, rfl⟩ : ∃ A n c, u8 = .slice A n c := by obtain ⟨A, c, q, _⟩ := hu8; exact ⟨A, _, c, q⟩
  obtain ⟨A10, n10, c10, rfl⟩ : ∃ A n c, u10 = .slice A n c := by obtain ⟨A, c, q, _⟩ := hu10; exact ⟨A, _, c, q⟩
  rw [e5, e6] at n56
  have hne : g5 ≠ g6 := fun q => n56 (by rw [q])
  have hne' : g6 ≠ g5 := Ne.symm hne
  clear n56
  have U8 := hide hu8
  have U10 := hide hu10
  clear hu8 hu10
  generalize f 5 = v5 at *
  generalize f 6 = v6 at *
  generalize f 8 = v8 at *
  generalize f 10 = v10 at *
  generalize f 7 = v7 at *
  generalize f 9 = v9 at *
  subst e5 e6 e8 e10
  
  have B9 := hide (BW.out.trans (hC.mono BW.out.size))
  clear hC K1 K2  ZW BW
  have a0 := k5.at_ 0 rfl
  have a1 := k5.at_ 1 rfl
  have a2 := k6.at_ 0 rfl
  have a3 := k6.at_ 1 rfl
  have q0 := k5.frozen 0
  have q1 := k5.frozen 1
  have q2 := k6.frozen 0
  have q3 := k6.frozen 1
  obtain ⟨x1, ex1⟩ : ∃ b, Hid (decide (x < 0) = b) := ⟨_, rfl⟩
  obtain ⟨y1, ey1⟩ : ∃ b, Hid (decide (y < 0) = b) := ⟨_, rfl⟩
  rw [ex1.out, ey1.out]
  have K5 := hide ((((k5.set_ 0 (.bool x1)).set_ 1 (.slice A8 n8 c8)).far (p := ⟨g6, 0, none⟩) hne (.bool y1)).far (p := ⟨g6, 1, none⟩) hne (.slice A10 n10 c10))
  have K6 := hide ((((k6.far (p := ⟨g5, 0, none⟩) hne' (.bool x1)).far (p := ⟨g5, 1, none⟩) hne' (.slice A8 n8 c8)).set_ 0 (.bool y1)).set_ 1 (.slice A10 n10 c10))
  
  have BV := hide ((((B9.out.setCell (p := ⟨g5, 0, none⟩) l5 (.bool x1)).setCell (p := ⟨g5, 1, none⟩) l5 (.slice A8 n8 c8)).setCell (p := ⟨g6, 0, none⟩) l6 (.bool y1)).setCell (p := ⟨g6, 1, none⟩) l6 (.slice A10 n10 c10))
  clear k5 k6 
  go_wp2
  clear a0 a1 a2 a3 q0 q1 q2 q3 B9
  obtain ⟨V, hV⟩ : ∃ V, (((w1.setCell ⟨g5, 0, none⟩ (.bool x1)).setCell ⟨g5, 1, none⟩ (.slice A8 n8 c8)).setCell ⟨g6, 0, none⟩ (.bool y1)).setCell ⟨g6, 1, none⟩ (.slice A10 n10 c10) = V := ⟨_, rfl⟩
  rw [hV] at K5 K6 BV  ⊢
  clear hV
  have L5 : Hid (Blk V g5 109 #[.bool x1, .slice A8 n8 c8]) := K5
  have L6 : Hid (Blk V g6 109 #[.bool y1, .slice A10 n10 c10]) := K6
  clear K5 K6
  refine wp_region_facts 4 (fun w' => Below V.heap.size V w') [(11, (.int0 w x)), (12, .eq (.int .i64 (cmpI x 0))), (13, (.int0 w y)), (14, .eq (.int .i64 (cmpI y 0)))] [false, false, false, false, false, false, false, false, false, false, false, true, true, true, true, false, false, false, false, false, false, false, false, false, false, false, false, false, false, false, false] mixed (by kernel_rfl) (by kernel_rfl) (by kernel_rfl) (fun _ _ h hb => h.trans (hb.mono h.size)) ((Below.refl _ _).drew) ⟨?_, ?_, ?_, ?_, trivial⟩ ?_
  · exact .load (.agg #[.bool x1, .slice A8 n8 c8]) (.inl rfl) rfl rfl (fun a w' hC hs hl => by rw [show a.eval (.tmp 5) = (.pointer (some ⟨g5, 0, none⟩) : Value) from (hs 5 (by kernel_rfl))]; exact ⟨ld_whole (L5.out.below' hC), ⟨_, by rw [ex1.out], U8.out⟩⟩)
  · exact .call (.inl rfl) rfl rfl fn_sign (fun a w' hC hs hl => isign_F ((hl 11 (by kernel_rfl) (by kernel_rfl)).below (BV.out.trans (hC.mono BV.out.size))))
  · exact .load (.agg #[.bool y1, .slice A10 n10 c10]) (.inl rfl) rfl rfl (fun a w' hC hs hl => by rw [show a.eval (.tmp 6) = (.pointer (some ⟨g6, 0, none⟩) : Value) from (hs 6 (by kernel_rfl))]; exact ⟨ld_whole (L6.out.below' hC), ⟨_, by rw [ey1.out], U10.out⟩⟩)
  · exact .call (.inl rfl) rfl rfl fn_sign (fun a w' hC hs hl => isign_F ((hl 13 (by kernel_rfl) (by kernel_rfl)).below (BV.out.trans (hC.mono BV.out.size))))
  intro f w2 hC hF _
  have f12 : f 12 = .int .i64 (cmpI x 0) := hF 12 (by kernel_rfl)
  have f14 : f 14 = .int .i64 (cmpI y 0) := hF 14 (by kernel_rfl)
  rw [hsx.out] at f12
  rw [hsy.out] at f14
  clear hF
  simp only [patch, List.drop]
  generalize f 12 = v12 at *
  generalize f 14 = v14 at *
  generalize f 11 = v11 at *
  generalize f 13 = v13 at *
  subst f12 f14
  have L5' := hide (L5.out.below' hC)
  have L6' := hide (L6.out.below' hC)
  have BV' := hide (BV.out.trans (hC.mono BV.out.size))
  clear hC L5 L6 BV
  by_cases hss : sx = sy
  case neg =>
    have hb : (sx != sy) = true := by simpa using hss
    have hb2 : (sx == sy) = false := by simpa using hss
    have hd : sx - sy ≤ 2 ∧ -2 ≤ sx - sy := by omega
    go_wp2
    refine wp_region_facts 4 (fun w' => Below w2.heap.size w2 w') [(16, (.int0 w x)), (17, .eq (.int .i64 (cmpI x 0))), (18, (.int0 w y)), (19, .eq (.int .i64 (cmpI y 0)))] [false, false, false, false, false, false, false, false, false, false, false, false, false, false, false, false, true, true, true, true, false, false, false, false, false, false, false, false, false, false, false] mixed (by kernel_rfl) (by kernel_rfl) (by kernel_rfl) (fun _ _ h hb => h.trans (hb.mono h.size)) ((Below.refl _ _).drew) ⟨?_, ?_, ?_, ?_, trivial⟩ ?_
    · exact .load (.agg #[.bool x1, .slice A8 n8 c8]) (.inl rfl) rfl rfl (fun a w' hC hs hl => by rw [show a.eval (.tmp 5) = (.pointer (some ⟨g5, 0, none⟩) : Value) from (hs 5 (by kernel_rfl))]; exact ⟨ld_whole (L5'.out.below' hC), ⟨_, by rw [ex1.out], U8.out⟩⟩)
    · exact .call (.inl rfl) rfl rfl fn_sign (fun a w' hC hs hl => isign_F ((hl 16 (by kernel_rfl) (by kernel_rfl)).below (BV'.out.trans (hC.mono BV'.out.size))))
    · exact .load (.agg #[.bool y1, .slice A10 n10 c10]) (.inl rfl) rfl rfl (fun a w' hC hs hl => by rw [show a.eval (.tmp 6) = (.pointer (some ⟨g6, 0, none⟩) : Value) from (hs 6 (by kernel_rfl))]; exact ⟨ld_whole (L6'.out.below' hC), ⟨_, by rw [ey1.out], U10.out⟩⟩)
    · exact .call (.inl rfl) rfl rfl fn_sign (fun a w' hC hs hl => isign_F ((hl 18 (by kernel_rfl) (by kernel_rfl)).below (BV'.out.trans (hC.mono BV'.out.size))))
    intro f w3 hC hF _
    have f17 : f 17 = .int .i64 (cmpI x 0) := hF 17 (by kernel_rfl)
    have f19 : f 19 = .int .i64 (cmpI y 0) := hF 19 (by kernel_rfl)
    rw [hsx.out] at f17
    rw [hsy.out] at f19
    clear hF
    simp only [patch, List.drop]
    generalize f 17 = v17 at *
    generalize f 19 = v19 at *
    generalize f 16 = v16 at *
    generalize f 18 = v18 at *
    subst f17 f19
    have B3 := hide (BV'.out.trans (hC.mono BV'.out.size))
    clear hC L5' L6' BV'
    have hres : Hid (cmpI x y = max (-1) (min 1 (sx - sy))) := by
      obtain ⟨p1, p2, p3⟩ := ksx.out
      obtain ⟨p4, p5, p6⟩ := ksy.out
      show _ = _
      unfold cmpI
      split
      · omega
      · split <;> omega
    obtain ⟨r, hr⟩ : ∃ r, Hid (max (-1) (min 1 (sx - sy)) = r) := ⟨_, rfl⟩
    clear hb hb2 hss
    rcases csx with rfl | rfl | rfl <;> rcases csy with rfl | rfl | rfl
    all_goals
      go_wp2
      exact opq_end hR ⟨_, rfl, B3, by rw [hres.out]; rfl⟩
  case pos =>
    subst hss
    have hb : (sx != sx) = false := by simp
    have hb2 : (sx == sx) = true := by simp
    go_wp2
    refine wp_region_facts 7 (fun w' => Below w2.heap.size w2 w') [(23, .eq ((.pointer (some ⟨g5, 1, none⟩) : Value))), (24, (.nat0 w x.natAbs)), (25, .eq ((.pointer (some ⟨g6, 1, none⟩) : Value))), (26, (.nat0 w y.natAbs)), (27, .eq (.int .i64 (cmpN x.natAbs y.natAbs))), (28, (.int0 w x)), (29, .eq (.int .i64 (cmpI x 0)))] [false, false, false, false, false, false, false, false, false, false, false, false, false, false, false, false, false, false, false, false, false, false, false, true, true, true, true, true, true, true, false] mixed (by kernel_rfl) (by kernel_rfl) (by kernel_rfl) (fun _ _ h hb => h.trans (hb.mono h.size)) ((Below.refl _ _).drew) ⟨?_, ?_, ?_, ?_, ?_, ?_, ?_, trivial⟩ ?_
    · exact .fieldAddr (.inl rfl) rfl rfl rfl (fun a w' hC hs hl => by rw [show a.eval (.tmp 5) = (.pointer (some ⟨g5, 0, none⟩) : Value) from (hs 5 (by kernel_rfl))]; exact fa_whole1)
    · exact .load (.slice A8 n8 c8) (.inl rfl) rfl rfl (fun a w' hC hs hl => by rw [show a.eval (.tmp 23) = (.pointer (some ⟨g5, 1, none⟩) : Value) from (hl 23 (by kernel_rfl) (by kernel_rfl))]; exact ⟨ld_Nat ((L5'.out.below' hC).at_ 1 rfl), U8.out⟩)
    · exact .fieldAddr (.inl rfl) rfl rfl rfl (fun a w' hC hs hl => by rw [show a.eval (.tmp 6) = (.pointer (some ⟨g6, 0, none⟩) : Value) from (hs 6 (by kernel_rfl))]; exact fa_whole1)
    · exact .load (.slice A10 n10 c10) (.inl rfl) rfl rfl (fun a w' hC hs hl => by rw [show a.eval (.tmp 25) = (.pointer (some ⟨g6, 1, none⟩) : Value) from (hl 25 (by kernel_rfl) (by kernel_rfl))]; exact ⟨ld_Nat ((L6'.out.below' hC).at_ 1 rfl), U10.out⟩)
    · exact .call (.inl rfl) rfl rfl fn_Cmp (fun a w' hC hs hl => nCmp_F ((hl 24 (by kernel_rfl) (by kernel_rfl)).below (BV'.out.trans (hC.mono BV'.out.size))) ((hl 26 (by kernel_rfl) (by kernel_rfl)).below (BV'.out.trans (hC.mono BV'.out.size))) (L_up S1.out (by decide)) (L_up S2.out (by decide)))
    · exact .load (.agg #[.bool x1, .slice A8 n8 c8]) (.inl rfl) rfl rfl (fun a w' hC hs hl => by rw [show a.eval (.tmp 5) = (.pointer (some ⟨g5, 0, none⟩) : Value) from (hs 5 (by kernel_rfl))]; exact ⟨ld_whole (L5'.out.below' hC), ⟨_, by rw [ex1.out], U8.out⟩⟩)
    · exact .call (.inl rfl) rfl rfl fn_sign (fun a w' hC hs hl => isign_F ((hl 28 (by kernel_rfl) (by kernel_rfl)).below (BV'.out.trans (hC.mono BV'.out.size))))
    intro f w3 hC hF _
    have f27 : f 27 = .int .i64 (cmpN x.natAbs y.natAbs) := hF 27 (by kernel_rfl)
    have f29 : f 29 = .int .i64 (cmpI x 0) := hF 29 (by kernel_rfl)
    rw [hsx.out] at f29
    clear hF
    simp only [patch, List.drop]
    generalize f 27 = v27 at *
    generalize f 29 = v29 at *
    generalize f 23 = v23 at *
    generalize f 24 = v24 at *
    generalize f 25 = v25 at *
    generalize f 26 = v26 at *
    generalize f 28 = v28 at *
    subst f27 f29
    have B3 := hide (BV'.out.trans (hC.mono BV'.out.size))
    clear hC L5' L6' BV'
    have hres : Hid (cmpI x y = cmpN x.natAbs y.natAbs * sx) := by
      obtain ⟨p1, p2, p3⟩ := ksx.out
      obtain ⟨p4, p5, p6⟩ := ksy.out
      show _ = _
      unfold cmpI cmpN
      rcases csx with rfl | rfl | rfl <;> (repeat' split) <;> omega
    have hr : cmpN x.natAbs y.natAbs = -1 ∨ cmpN x.natAbs y.natAbs = 0 ∨ cmpN x.natAbs y.natAbs = 1 := by unfold cmpN; (repeat' split) <;> omega
    clear hb hb2
    generalize cmpN x.natAbs y.natAbs = r at *
    rcases csx with rfl | rfl | rfl <;> rcases hr with rfl | rfl | rfl
    all_goals
      go_wp2
      exact opq_end hR ⟨_, rfl, B3, by rw [hres.out]; rfl⟩
end Go.Proofs.YtfpnhggbfakdkaaDoor

/- ints: Of, Back, Text, Parse; SameInt. -/
set_option linter.unusedVariables false
set_option linter.unusedSimpArgs false
set_option maxRecDepth 100000
namespace Go.Proofs.YtfpnhggbfakdkaaDoor
open Go.RowKit

theorem neg_wrap {n : Int} (h0 : n < 0) (h1 : -9223372036854775808 ≤ n) : IntKind.u64.wrap (wrap64 (-n)) = ((-n).toNat : Int) := by
  simp only [IntKind.wrap_u64, wrap64]
  omega
theorem pos_wrap {n : Int} (h0 : 0 ≤ n) (h1 : n < 9223372036854775808) : IntKind.u64.wrap n = (n.toNat : Int) := by
  simp only [IntKind.wrap_u64]
  omega
set_option maxHeartbeats 400000 in
theorem iOf_ok (w : World) (n : Int) (h0 : -9223372036854775808 ≤ n) (h1 : n < 9223372036854775808) :
    Calls Tryd.prog 54 #[.int .i64 n] w fun e w' => ∃ u, e = .returned u ∧ Below w.heap.size w w' ∧ IntR n w.heap.size w' u := by
  refine opq fun R hR => ?_
  have B0 := hide ((Below.refl w.heap.size w).alloc (Nat.le_refl _) (.cells #[.bool false, .slice none 0 0] 42))
  have K0 := hide (Blk.new w 42 #[.bool false, .slice none 0 0])
  by_cases hn : n < 0
  · have e1 : decide (n < 0) = true := by simpa using hn
    have hw := hide (neg_wrap hn h0)
    have hN : Hid ((-n).toNat < 18446744073709551616) := by show _ < _; omega
    have hZ : Hid (n.natAbs = (-n).toNat ∧ decide (n < 0) = (true && decide ((-n).toNat ≠ 0))) := by
      refine ⟨by omega, ?_⟩
      rw [Bool.eq_iff_iff]; simp <;> omega
    generalize (-n).toNat = N at *
    clear hn
    go_enter Tryd.func54, Tryd.ntmps54
    go_wp2_with fail
    rw [hw.out]
    refine (Of_ok _ N hN.out).mono ?_
    rintro e w1 ⟨u, rfl, ru, d1⟩
    have RU := hide (ru.mono (B' := w.heap.size) (by simp))
    have B1 := hide (B0.out.trans (d1.mono B0.out.size))
    have K1 := hide (K0.out.below' d1)
    clear ru d1 B0 K0
    go_wp2_with fail
    refine (isigned_F RU.out hZ.out.1 hZ.out.2).mono ?_
    rintro e w2 ⟨v9, rfl, d2, r9⟩
    obtain ⟨b9, A9, n9, c9, rfl⟩ := r9.slice
    have R9 := hide r9
    have B9 := hide (B1.out.trans (d2.mono B1.out.size))
    have K9 := hide (K1.out.below' d2)
    have q0 := K9.out.at_ 0 rfl
    have q1 := K9.out.at_ 1 rfl
    have q2 := K9.out.frozen 0
    have q3 := K9.out.frozen 1
    clear d2 r9
    go_wp2
    refine bodyPost_ret (v := .agg #[.bool b9, .slice A9 n9 c9]) (by simp [results, Tryd.results54, go_sem, q0, q1, q2, q3]) rfl ?_
    exact opq_end hR ⟨_, rfl, (by (repeat (first | exact B9 | exact Below.refl _ _ | refine Below.setCell ?_ (by first | (simp; done) | (simp; omega)) _ | refine Below.alloc ?_ (by first | (simp; done) | (simp; omega)) _))), R9.out.only K9.out (by decide) (((Only.refl _ _).set _ _).set _ _)⟩
  · have e1 : decide (n < 0) = false := by simp; omega
    have hw := hide (pos_wrap (Int.not_lt.1 hn) h1)
    have hN : Hid (n.toNat < 18446744073709551616) := by show _ < _; omega
    have hZ : Hid (n.natAbs = n.toNat ∧ decide (n < 0) = (false && decide (n.toNat ≠ 0))) := by
      refine ⟨by omega, ?_⟩
      rw [Bool.eq_iff_iff]; simp; omega
    generalize n.toNat = N at *
    clear hn
    go_enter Tryd.func54, Tryd.ntmps54
    go_wp2_with fail
    rw [hw.out]
    refine (Of_ok _ N hN.out).mono ?_
    rintro e w1 ⟨u, rfl, ru, d1⟩
    have RU := hide (ru.mono (B' := w.heap.size) (by simp))
    have B1 := hide (B0.out.trans (d1.mono B0.out.size))
    have K1 := hide (K0.out.below' d1)
    clear ru d1 B0 K0
    go_wp2_with fail
    refine (isigned_F RU.out hZ.out.1 hZ.out.2).mono ?_
    rintro e w2 ⟨v9, rfl, d2, r9⟩
    obtain ⟨b9, A9, n9, c9, rfl⟩ := r9.slice
    have R9 := hide r9
    have B9 := hide (B1.out.trans (d2.mono B1.out.size))
    have K9 := hide (K1.out.below' d2)
    have q0 := K9.out.at_ 0 rfl
    have q1 := K9.out.at_ 1 rfl
    have q2 := K9.out.frozen 0
    have q3 := K9.out.frozen 1
    clear d2 r9
    go_wp2
    refine bodyPost_ret (v := .agg #[.bool b9, .slice A9 n9 c9]) (by simp [results, Tryd.results54, go_sem, q0, q1, q2, q3]) rfl ?_
    exact opq_end hR ⟨_, rfl, (by (repeat (first | exact B9 | exact Below.refl _ _ | refine Below.setCell ?_ (by first | (simp; done) | (simp; omega)) _ | refine Below.alloc ?_ (by first | (simp; done) | (simp; omega)) _))), R9.out.only K9.out (by decide) (((Only.refl _ _).set _ _).set _ _)⟩
end Go.Proofs.YtfpnhggbfakdkaaDoor

/- ints: Back, Text, Parse; SameInt. -/
set_option linter.unusedVariables false
set_option linter.unusedSimpArgs false
set_option maxRecDepth 100000
namespace Go.Proofs.YtfpnhggbfakdkaaDoor
open Go.RowKit

/-- What Back answers of a number. -/
def back64 (z : Int) : Array Value := if -9223372036854775808 ≤ z ∧ z < 9223372036854775808 then #[.int .i64 z, .int .i64 0] else #[.int .i64 0, .int .i64 3]
/-- A number's text. -/
def itxt (z : Int) : List Nat := if z < 0 then 45 :: txt z.natAbs else txt z.natAbs
/-- A text's sign, and the rest of it. -/
def isgn (l : List Nat) : Bool × List Nat := if l.head? = some 45 then (true, l.tail) else (false, l)
def hyphen : ByteArray := ⟨#[45]⟩
end Go.Proofs.YtfpnhggbfakdkaaDoor

/- ints: contracts as the walks of regions ask. -/
set_option linter.unusedVariables false
set_option linter.unusedSimpArgs false
set_option maxRecDepth 100000
namespace Go.Proofs.YtfpnhggbfakdkaaDoor
open Go.RowKit

theorem Z_64 {z : Int} (h0 : -9223372036854775808 ≤ z) (h1 : z < 9223372036854775808) : L z.natAbs ≤ 2 := L_le.2 (by show z.natAbs < 18446744073709551616; omega)
theorem ican_lit {w : World} {u : Value} {N : Nat} (h : Can w u N) (z : Int) (hz : z = (N : Int)) : ICan w (.agg #[.bool false, u]) z := by
  subst hz
  refine ⟨u, ?_, by rw [Int.natAbs_natCast]; exact h⟩
  rw [decide_eq_false (by omega)]
theorem Blk.new_at (w : World) (g : Nat) (hg : w.heap.size = g) (t : TypeId) (cs : Array Value) : Blk (w.alloc (.cells cs t)) g t cs := by subst hg; exact Blk.new w t cs
/-- A cell of a block. -/
def CellAt (w : World) (a : Addr) (v : Value) : Prop := w.cell? a = some v
theorem CellAt.below {w w' : World} {a : Addr} {v : Value} (h : CellAt w a v) (hb : Below w.heap.size w w') : CellAt w' a v := cell_below hb h
theorem iCmp_eq {w : World} {v v' : Value} {x y r : Int} (h : IArg w v x) (h' : IArg w v' y) (hr : cmpI x y = r) : Calls Tryd.prog 65 #[v, v'] w fun e w' => ∃ u, e = .returned u ∧ Below w.heap.size w w' ∧ u = .int .i64 r :=
  (iCmp_ok h h').mono fun e w' ⟨u, h1, h2, h3⟩ => ⟨u, h1, h2, by rw [h3, hr]⟩
theorem fn_iMul (args : Array Value) (w : World) : (callFunc 71 args).run Tryd.prog w = .ok (.enter 71 args) w := callFunc_enter Tryd.func71 (by kernel_rfl) rfl args w
end Go.Proofs.YtfpnhggbfakdkaaDoor
