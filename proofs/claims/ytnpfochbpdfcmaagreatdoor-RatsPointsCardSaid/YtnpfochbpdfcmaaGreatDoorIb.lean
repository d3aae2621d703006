/- ints: signed, turned, sign, plus. -/
import Derived.Test.YtnpfochbpdfcmaaGreatDoorIa
set_option linter.unusedVariables false
set_option linter.unusedSimpArgs false
set_option maxRecDepth 100000
namespace Go.Proofs.YtnpfochbpdfcmaaGreatDoor
open Go.RowKit

set_option maxHeartbeats 400000 in
theorem isigned_ok {w : World} {u : Value} {b : Bool} {N : Nat} (h : Can w u N) :
    Calls Tryz.prog 70 #[.bool b, u] w fun e w' => e = .returned (.agg #[.bool (b && decide (N ≠ 0)), u]) ∧ Hid (Below w.heap.size w w') := by
  refine opq fun R hR => ?_
  obtain ⟨A, c, rfl, l, r⟩ := h
  have e0 : Hid (decide (N ≠ 0) = decide (0 < (limbs N).length)) := by
    show _ = _
    rw [decide_eq_decide]
    have := @is_zero_len N
    omega
  clear r
  generalize (limbs N).length = n at *
  have B2 := hide ((Below.refl w.heap.size w).alloc (Nat.le_refl _) (.cells #[.bool false, .slice none 0 0] 25))
  cases b
  · go_enter Tryz.func70, Tryz.ntmps70
    go_wp2
    refine bodyPost_ret (v := .agg #[.bool false, .slice A n c]) (by simp [results, Tryz.results70, go_sem]) rfl ?_
    exact opq_end hR ⟨rfl, (by (repeat (first | exact B2 | exact Below.refl _ _ | refine Below.setCell ?_ (by first | (simp; done) | (simp; omega)) _ | refine Below.alloc ?_ (by first | (simp; done) | (simp; omega)) _)))⟩
  · by_cases hn : 0 < n
    · have e1 : Hid (decide (0 < n) = true) := by show _ = _; simpa using hn
      go_enter Tryz.func70, Tryz.ntmps70
      go_wp2
      refine bodyPost_ret (v := .agg #[.bool true, .slice A n c]) (by simp [results, Tryz.results70, go_sem]) rfl ?_
      exact opq_end hR ⟨by rw [e0.out, e1.out]; rfl, (by (repeat (first | exact B2 | exact Below.refl _ _ | refine Below.setCell ?_ (by first | (simp; done) | (simp; omega)) _ | refine Below.alloc ?_ (by first | (simp; done) | (simp; omega)) _)))⟩
    · obtain rfl : n = 0 := by omega
      go_enter Tryz.func70, Tryz.ntmps70
      go_wp2
      refine bodyPost_ret (v := .agg #[.bool false, .slice A 0 c]) (by simp [results, Tryz.results70, go_sem]) rfl ?_
      exact opq_end hR ⟨by rw [e0.out]; rfl, (by (repeat (first | exact B2 | exact Below.refl _ _ | refine Below.setCell ?_ (by first | (simp; done) | (simp; omega)) _ | refine Below.alloc ?_ (by first | (simp; done) | (simp; omega)) _)))⟩
/-- Cells of one block alone have turned. -/
structure Only (g : Nat) (w W : World) : Prop where
  size : W.heap.size = w.heap.size
  block : ∀ k, k ≠ g → W.heap[k]? = w.heap[k]?
theorem Only.refl (g : Nat) (w : World) : Only g w w := ⟨rfl, fun _ _ => rfl⟩
theorem Only.set {g : Nat} {w W : World} (h : Only g w W) (i : Nat) (u : Value) : Only g w (W.setCell ⟨g, i, none⟩ u) :=
  ⟨by rw [← h.size]; simp [World.setCell], fun k hk => (Below.heap_setCell W ⟨g, i, none⟩ u k hk).trans (h.block k hk)⟩
theorem Only.cell {g : Nat} {w W : World} (h : Only g w W) {a : Addr} (ha : a.block ≠ g) : W.cell? a = w.cell? a := World.cell?_of_block (h.block a.block ha)
/-- A number in memory of its own stays as it was when a block of another type is written. -/
theorem NatR.only {N B g : Nat} {w W : World} {v : Value} {t : TypeId} {cs : Array Value} (h : NatR N B w v) (hb : Blk w g t cs) (ht : T32 ≠ t) (F : Only g w W) : NatR N B W v := by
  obtain ⟨A, c, e, r, f, l⟩ := h
  rcases f with f | ⟨g', cs', e1, hB, hk, hc⟩
  · have h0 : (limbs N).length = 0 := by omega
    have hN : limbs N = [] := List.eq_nil_of_length_eq_zero h0
    exact ⟨A, c, e, by rw [hN]; exact Rdk.nil _ _ _, .inl f, l⟩
  · have hne : g' ≠ g := hk.type_ne hb ht
    subst e1
    refine ⟨_, c, e, ⟨r.1, r.2.1, fun hn => ?_⟩, .inr ⟨g', cs', rfl, hB, hk.keep (F.block g' hne), hc⟩, l⟩
    obtain ⟨ad, e2, hl, hcl⟩ := r.2.2 hn
    cases e2
    refine ⟨_, rfl, by rw [F.size]; exact hl, fun j hj => ?_⟩
    rw [add0, F.cell hne, ← add0]
    exact hcl j hj
theorem icanF {w W : World} {v : Value} {z : Int} (h : Hid (ICan w v z)) (F : Below w.heap.size w W) : Hid (ICan W v z) := h.out.below F
theorem int_of_parts {w : World} {u : Value} {b : Bool} {N : Nat} {z : Int} (h : Can w u N) (h1 : z.natAbs = N) (h2 : decide (z < 0) = (b && decide (N ≠ 0))) : ICan w (.agg #[.bool (b && decide (N ≠ 0)), u]) z := ⟨u, by rw [h2], by rw [h1]; exact h⟩
theorem intR_of_parts {w : World} {u : Value} {b : Bool} {N B : Nat} {z : Int} (h : NatR N B w u) (h1 : z.natAbs = N) (h2 : decide (z < 0) = (b && decide (N ≠ 0))) : IntR z B w (.agg #[.bool (b && decide (N ≠ 0)), u]) := ⟨u, by rw [h2], by rw [h1]; exact h⟩

set_option maxHeartbeats 400000 in
theorem isign_ok {w : World} {v : Value} {x : Int} (h : ICan w v x) :
    Calls Tryz.prog 72 #[v] w fun e w' => e = .returned (.int .i64 (cmpI x 0)) ∧ Hid (Below w.heap.size w w') := by
  refine opq fun R hR => ?_
  obtain ⟨u, rfl, A, c, rfl, l, r⟩ := h
  have e0 := @is_zero_len x.natAbs
  clear r
  rcases Int.lt_trichotomy x 0 with hx | hx | hx
  · have e1 := hide (cmpI_lt hx)
    have e2 : decide (x < 0) = true := by simpa using hx
    rw [e2]
    clear e2
    generalize (limbs x.natAbs).length = n at *
    have B2 := hide ((Below.refl w.heap.size w).alloc (Nat.le_refl _) (.cells #[.bool true, .slice A n c] 95))
    clear e0 hx
    go_enter Tryz.func72, Tryz.ntmps72
    go_wp2
    exact opq_end hR ⟨by rw [e1.out]; rfl, B2⟩
  · subst hx
    have e1 := hide (cmpI_eq 0)
    have e2 : (limbs (0 : Int).natAbs).length = 0 := e0.2 rfl
    rw [e2]
    have B2 := hide ((Below.refl w.heap.size w).alloc (Nat.le_refl _) (.cells #[.bool false, .slice A 0 c] 95))
    clear e0 e2
    show Calls _ _ #[.agg #[.bool false, .slice A 0 c]] _ _
    go_enter Tryz.func72, Tryz.ntmps72
    go_wp2
    exact opq_end hR ⟨by rw [e1.out]; rfl, B2⟩
  · have e1 := hide (cmpI_gt hx)
    have e2 : decide (x < 0) = false := by simp; omega
    have e3 : 0 < (limbs x.natAbs).length := by omega
    rw [e2]
    clear e2 e0 hx
    generalize (limbs x.natAbs).length = n at *
    have B2 := hide ((Below.refl w.heap.size w).alloc (Nat.le_refl _) (.cells #[.bool false, .slice A n c] 95))
    go_enter Tryz.func72, Tryz.ntmps72
    go_wp2
    exact opq_end hR ⟨by rw [e1.out]; rfl, B2⟩

set_option maxHeartbeats 400000 in
theorem iturned_ok {w : World} {v : Value} {x : Int} (h : ICan w v x) :
    Calls Tryz.prog 116 #[v] w fun e w' => ∃ u, e = .returned u ∧ Hid (ICan w' u (-x)) ∧ Hid (Below w.heap.size w w') := by
  refine opq fun R hR => ?_
  obtain ⟨u, rfl, hu⟩ := h
  have hu2 := hu
  obtain ⟨A, c, rfl, l, r⟩ := hu
  clear r
  have U := hide hu2
  clear hu2
  have B0 := hide (((Below.refl w.heap.size w).alloc (Nat.le_refl _) (.cells #[.bool (decide (x < 0)), .slice A (limbs x.natAbs).length c] 95)).alloc (by simp) (.cells #[.bool false, .slice none 0 0] 95))
  go_enter Tryz.func116, Tryz.ntmps116
  go_wp2_with fail
  refine (isigned_ok (U.out.below B0.out)).mono ?_
  rintro e w1 ⟨rfl, d1⟩
  obtain ⟨hc, hf⟩ := bcell d1.out
  have B2 := hide (B0.out.trans (d1.out.mono (by simp; omega)))
  have Z := hide (int_of_parts (z := -x) (b := !decide (x < 0)) U.out (by simp) (by rw [Bool.eq_iff_iff]; simp; omega))
  clear d1 U
  generalize ((!decide (x < 0)) && decide (x.natAbs ≠ 0)) = b at *
  go_wp2
  refine bodyPost_ret (v := .agg #[.bool b, .slice A (limbs x.natAbs).length c]) (by simp [results, Tryz.results116, go_sem, hc, hf]) rfl ?_
  exact opq_end hR ⟨_, rfl, icanF Z (by (repeat (first | exact B2 | exact Below.refl _ _ | refine Below.setCell ?_ (by first | (simp; done) | (simp; omega)) _ | refine Below.alloc ?_ (by first | (simp; done) | (simp; omega)) _))), (by (repeat (first | exact B2 | exact Below.refl _ _ | refine Below.setCell ?_ (by first | (simp; done) | (simp; omega)) _ | refine Below.alloc ?_ (by first | (simp; done) | (simp; omega)) _)))⟩
end Go.Proofs.YtnpfochbpdfcmaaGreatDoor
