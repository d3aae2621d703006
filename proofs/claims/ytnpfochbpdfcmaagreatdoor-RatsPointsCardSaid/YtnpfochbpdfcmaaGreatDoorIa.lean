/- ints: Check, of, signed, turned, sign. -/
import Derived.Test.YtnpfochbpdfcmaaGreatDoorND
import Derived.Test.YtnpfochbpdfcmaaGreatDoorLr
import Derived.Test.YtnpfochbpdfcmaaGreatDoorFree2
set_option linter.unusedVariables false
set_option linter.unusedSimpArgs false
set_option maxRecDepth 100000
namespace Go.Proofs.YtnpfochbpdfcmaaGreatDoor
open Go.RowKit

/-- A whole number as it is told: a sign and parts, not too many. -/
def IPrt (w : World) (v : Value) (b : Bool) (xs : List Nat) : Prop := ∃ u, v = .agg #[.bool b, u] ∧ Prt w u xs
/-- The value reads as the whole number z. -/
def ICan (w : World) (v : Value) (z : Int) : Prop := ∃ u, v = .agg #[.bool (decide (z < 0)), u] ∧ Can w u z.natAbs
/-- .. in memory of its own from block B on. -/
def IntR (z : Int) (B : Nat) (w : World) (v : Value) : Prop := ∃ u, v = .agg #[.bool (decide (z < 0)), u] ∧ NatR z.natAbs B w u
theorem IPrt.below {w w' : World} {v : Value} {b : Bool} {xs : List Nat} (h : IPrt w v b xs) (hb : Below w.heap.size w w') : IPrt w' v b xs := by
  obtain ⟨u, e, h1⟩ := h
  exact ⟨u, e, h1.below hb⟩
theorem ICan.below {w w' : World} {v : Value} {z : Int} (h : ICan w v z) (hb : Below w.heap.size w w') : ICan w' v z := by
  obtain ⟨u, e, h1⟩ := h
  exact ⟨u, e, h1.below hb⟩
theorem IntR.below {z : Int} {B : Nat} {w w' : World} {v : Value} (h : IntR z B w v) (hb : Below w.heap.size w w') : IntR z B w' v := by
  obtain ⟨u, e, h1⟩ := h
  exact ⟨u, e, h1.below hb⟩
theorem IntR.mono {z : Int} {B B' : Nat} {w : World} {v : Value} (h : IntR z B w v) (hB : B' ≤ B) : IntR z B' w v := by
  obtain ⟨u, e, h1⟩ := h
  exact ⟨u, e, h1.mono hB⟩
theorem IntR.can {z : Int} {B : Nat} {w : World} {v : Value} (h : IntR z B w v) : ICan w v z := by
  obtain ⟨u, e, h1⟩ := h
  exact ⟨u, e, h1.can⟩
theorem ICan.prt {w : World} {v : Value} {z : Int} (h : ICan w v z) (hl : L z.natAbs ≤ 4398046511104) : IPrt w v (decide (z < 0)) (limbs z.natAbs) := by
  obtain ⟨u, e, h1⟩ := h
  exact ⟨u, e, h1.prt hl⟩
theorem IPrt.can {w : World} {v : Value} {b : Bool} {xs : List Nat} (h : IPrt w v b xs) (hc : iok b xs = true) : ICan w v (iv b xs) := by
  obtain ⟨u, rfl, h1⟩ := h
  refine ⟨u, by rw [iok_neg hc], ?_⟩
  rw [iok_abs hc]
  exact h1.can (iok_chk hc)
theorem ican_zero (w : World) : ICan w (.agg #[.bool false, .slice none 0 0]) 0 := ⟨_, rfl, can_nil w⟩
def Fact.nat (N : Nat) : Fact := ⟨fun v w => Can w v N, fun _ _ _ h hb => h.below hb⟩
def Fact.int (z : Int) : Fact := ⟨fun v w => ICan w v z, fun _ _ _ h hb => h.below hb⟩

set_option maxHeartbeats 400000 in
theorem iCheck_ok {w : World} {v : Value} {b : Bool} {xs : List Nat} (h : IPrt w v b xs) :
    Calls Tryz.prog 26 #[v] w fun e w' => e = .returned (.bool (iok b xs)) ∧ Hid (Below w.heap.size w w') := by
  refine opq fun R hR => ?_
  obtain ⟨u, rfl, hu⟩ := h
  obtain ⟨A, n, c, rfl, h1, h2, h3, h4⟩ := hu
  have hx : Hid (xs.isEmpty = decide (n = 0)) := by
    show _ = _
    rw [Bool.eq_iff_iff, List.isEmpty_iff, decide_eq_true_eq, ← h3.1]
    exact List.length_eq_zero_iff.symm
  have C := hide (Check_ok (w.alloc (.cells #[.bool b, .slice A n c] 25)) A n c xs (h3.below ((Below.refl _ _).alloc (Nat.le_refl _) _)))
  have HB := hide ((Below.refl w.heap.size w).alloc (Nat.le_refl _) (.cells #[.bool b, .slice A n c] 25))
  clear h3 h4
  have e0 : Hid (iok b xs = (chk xs && (!b || !decide (n = 0)))) := by rw [← hx.out]; exact rfl
  clear hx
  cases hc : chk xs
  · rw [hc] at C e0
    clear hc
    go_enter Tryz.func26, Tryz.ntmps26
    go_wp2_with fail
    refine C.out.mono ?_
    rintro e w' ⟨rfl, rfl⟩
    go_wp2
    exact opq_end hR ⟨ret_bool (by rw [e0.out]; rfl), HB⟩
  · rw [hc] at C e0
    clear hc
    cases b
    · go_enter Tryz.func26, Tryz.ntmps26
      go_wp2_with fail
      refine C.out.mono ?_
      rintro e w' ⟨rfl, rfl⟩
      go_wp2
      exact opq_end hR ⟨ret_bool (by rw [e0.out]; rfl), HB⟩
    · by_cases hn : n = 0
      · subst hn
        go_enter Tryz.func26, Tryz.ntmps26
        go_wp2_with fail
        refine C.out.mono ?_
        rintro e w' ⟨rfl, rfl⟩
        go_wp2
        exact opq_end hR ⟨ret_bool (by rw [e0.out]; rfl), HB⟩
      · have hn' : 0 < n := by omega
        have hn2 : Hid (decide (n = 0) = false) := by show _ = _; simp; omega
        clear hn
        go_enter Tryz.func26, Tryz.ntmps26
        go_wp2_with fail
        refine C.out.mono ?_
        rintro e w' ⟨rfl, rfl⟩
        go_wp2
        exact opq_end hR ⟨ret_bool (by rw [e0.out, hn2.out]; rfl), HB⟩

theorem bcell {W w1 : World} (hb : Below W.heap.size W w1) : (∀ b o, b < W.heap.size → w1.cell? ⟨b, o, none⟩ = W.cell? ⟨b, o, none⟩) ∧ (∀ b o, b < W.heap.size → w1.frozen? ⟨b, o, none⟩ = W.frozen? ⟨b, o, none⟩) :=
  ⟨fun b o h => hb.cell (p := ⟨b, o, none⟩) h, fun b o h => hb.frozen (p := ⟨b, o, none⟩) h⟩
theorem end_can {w W : World} {v : Value} {z : Int} (h : ICan w v z) (F : Below w.heap.size w W) : Hid (ICan W v z) ∧ Hid (Below w.heap.size w W) := ⟨h.below F, F⟩
theorem ints_box (w : World) (b : Bool) (u : Value) : Below w.heap.size w (w.alloc (.cells #[.bool b, u] 25)) := (Below.refl _ _).alloc (Nat.le_refl _) _
set_option maxHeartbeats 400000 in
theorem iof_eq {w : World} {v : Value} {b : Bool} {xs : List Nat} (h : IPrt w v b xs) :
    Calls Tryz.prog 69 #[v] w fun e w' => e = .returned (if iok b xs then v else .agg #[.bool false, .slice none 0 0]) ∧ Hid (Below w.heap.size w w') := by
  refine opq fun R hR => ?_
  have H := hide h
  have E : ∃ A n c, v = .agg #[.bool b, .slice A n c] := by obtain ⟨u, rfl, A, n, c, rfl, _⟩ := h; exact ⟨A, n, c, rfl⟩
  clear h
  obtain ⟨A, n, c, rfl⟩ := E
  cases hk : iok b xs
  all_goals
    have K := hide hk
    clear hk
    go_enter Tryz.func69, Tryz.ntmps69
    go_wp2_with fail
    refine (iCheck_ok (H.out.below (Below.alloc (Below.alloc (Below.refl _ _) (Nat.le_refl _) _) (by simp) _))).mono ?_
    rw [K.out]
    rintro e w1 ⟨rfl, d1⟩
    obtain ⟨hc, hf⟩ := bcell d1.out
    have B1 := hide (((Below.refl w.heap.size w).alloc (Nat.le_refl _) (.cells #[.bool b, .slice A n c] 25)).alloc (by simp) (.cells #[.bool false, .slice none 0 0] 95))
    have B2 := hide (B1.out.trans (d1.out.mono (by simp; omega)))
    clear d1
    go_wp2
  · refine bodyPost_ret (v := .agg #[.bool false, .slice none 0 0]) (by simp [results, Tryz.results69, go_sem, hc, hf]) rfl ?_
    exact opq_end hR ⟨by rw [K.out]; rfl, (by (repeat (first | exact B2 | exact Below.refl _ _ | refine Below.setCell ?_ (by first | (simp; done) | (simp; omega)) _ | refine Below.alloc ?_ (by first | (simp; done) | (simp; omega)) _)))⟩
  · refine bodyPost_ret (v := .agg #[.bool b, .slice A n c]) (by simp [results, Tryz.results69, go_sem, hc, hf]) rfl ?_
    exact opq_end hR ⟨by rw [K.out]; rfl, (by (repeat (first | exact B2 | exact Below.refl _ _ | refine Below.setCell ?_ (by first | (simp; done) | (simp; omega)) _ | refine Below.alloc ?_ (by first | (simp; done) | (simp; omega)) _)))⟩
/-- A whole number of whatever kind, not too long, that counts as z. -/
def IArg (w : World) (v : Value) (z : Int) : Prop := ∃ b xs, IPrt w v b xs ∧ xs.length ≤ 1000000000000 ∧ iv b xs = z
theorem IArg.below {w w' : World} {v : Value} {z : Int} (h : IArg w v z) (hb : Below w.heap.size w w') : IArg w' v z := by
  obtain ⟨b, xs, h1, h2, h3⟩ := h
  exact ⟨b, xs, h1.below hb, h2, h3⟩
theorem IArg.slice {w : World} {v : Value} {z : Int} (h : IArg w v z) : ∃ b A n c, v = .agg #[.bool b, .slice A n c] := by
  obtain ⟨b, xs, ⟨u, rfl, A, n, c, rfl, _⟩, _⟩ := h
  exact ⟨b, A, n, c, rfl⟩
theorem IArg.size {w : World} {v : Value} {z : Int} (h : IArg w v z) : L z.natAbs ≤ 1000000000000 := by
  obtain ⟨b, xs, ⟨u, rfl, h1⟩, h2, rfl⟩ := h
  exact Nat.le_trans (iv_L h1.is32) h2
theorem ICan.arg {w : World} {v : Value} {z : Int} (h : ICan w v z) (hl : L z.natAbs ≤ 1000000000000) : IArg w v z :=
  ⟨_, _, h.prt (L_up hl (by decide)), hl, iv_self z⟩
theorem iarg_zero (w : World) : IArg w (.agg #[.bool false, .slice none 0 0]) 0 := (ican_zero w).arg (by show L 0 ≤ _; rw [L_zero]; omega)
/-- What 'of' answers reads as the number in the world that the argument was read in. -/
theorem iof_F {w W : World} {v : Value} {z : Int} (h : IArg w v z) (hb : Below w.heap.size w W) :
    Calls Tryz.prog 69 #[v] W fun e w' => ∃ u, e = .returned u ∧ Below W.heap.size W w' ∧ ICan w u z := by
  obtain ⟨b, xs, h1, h2, rfl⟩ := h
  refine (iof_eq (h1.below hb)).mono ?_
  rintro e w' ⟨rfl, h4⟩
  refine ⟨_, rfl, h4.out, ?_⟩
  cases hk : iok b xs
  · rw [iv_no hk]; exact ican_zero w
  · exact h1.can hk
/-- .. read in one world for ever. -/
def Fact.iarg0 (w : World) (z : Int) : Fact := ⟨fun v _ => IArg w v z, fun _ _ _ h _ => h⟩
def Fact.int0 (w : World) (z : Int) : Fact := ⟨fun v _ => ICan w v z, fun _ _ _ h _ => h⟩
/-- A variable of a type, of the call's own. -/
def Fact.var (t : TypeId) (cs : Array Value) (B : Nat) : Fact := ⟨fun v w => ∃ g, v = .pointer (some ⟨g, 0, none⟩) ∧ B ≤ g ∧ Blk w g t cs, fun _ _ _ ⟨g, e, h0, h⟩ hb => ⟨g, e, h0, h.below' hb⟩⟩
end Go.Proofs.YtnpfochbpdfcmaaGreatDoor
