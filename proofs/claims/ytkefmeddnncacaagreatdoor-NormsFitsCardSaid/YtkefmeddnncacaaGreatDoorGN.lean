/- Grids and norms: words, what comes in, how large, twins; contracts of norms, the program's and the document's. -/
import Derived.Test.YtkefmeddnncacaaGreatDoorVB
import Derived.Test.YtkefmeddnncacaaGreatDoorVA
import Derived.Test.YtkefmeddnncacaaGreatDoorTW
import Derived.Test.YtkefmeddnncacaaGreatDoorFR
/- Grids of fractions: words; what comes in. -/
set_option linter.unusedVariables false
set_option linter.unusedSimpArgs false
set_option maxRecDepth 100000
namespace Go.Proofs.YtkefmeddnncacaaGreatDoor
open Go.ChangeShapes Go.WideShapes Go.ChangeAt Go.RowKit Go.Joins

/-- A list of lists whose elements are as told. -/
def Gst {α : Type} (E : World → Value → α → Prop) (w : World) (v : Value) (qss : List (List α)) : Prop :=
  ∃ (A : Option Addr) (n c : Nat) (us : List Value), v = .slice A n c ∧ n ≤ c ∧ n = qss.length ∧ us.length = n ∧ n ≤ 140737488355328 ∧
    (0 < n → ∃ ad, A = some ad ∧ ad.block < w.heap.size ∧ ∀ (j : Nat) u, us[j]? = some u → w.cell? (ad.add j) = some u) ∧
    ∀ (j : Nat) qs, qss[j]? = some qs → ∃ u, us[j]? = some u ∧ Lst E w u qs
section
variable {α β : Type} {E : World → Value → α → Prop} {w w' : World} {v : Value} {qss : List (List α)}
theorem Gst.sl (h : Gst E w v qss) : ∃ A c, v = .slice A qss.length c := by
  obtain ⟨A, n, c, us, e, _, h2, _⟩ := h
  subst h2
  exact ⟨A, c, e⟩
theorem Gst.len {A : Option Addr} {n c : Nat} (h : Gst E w (.slice A n c) qss) : qss.length = n := by
  obtain ⟨_, _, _, _, e, _, h2, _⟩ := h
  cases e
  exact h2.symm
theorem Gst.le_ (h : Gst E w v qss) : qss.length ≤ 140737488355328 := by
  obtain ⟨_, _, _, _, e, _, h2, _, h4, _⟩ := h
  omega
theorem Gst.below (h : Gst E w v qss) (hE : ∀ u q, E w u q → E w' u q) (hb : Below w.heap.size w w') : Gst E w' v qss := by
  obtain ⟨A, n, c, us, e, h1, h2, h3, h4, h5, h6⟩ := h
  refine ⟨A, n, c, us, e, h1, h2, h3, h4, fun h0 => ?_, fun j qs hq => ?_⟩
  · obtain ⟨ad, e1, hl, hc⟩ := h5 h0
    exact ⟨ad, e1, Nat.lt_of_lt_of_le hl hb.size, fun j u hu => cell_below hb (hc j u hu)⟩
  · obtain ⟨u, hu, hL⟩ := h6 j qs hq
    exact ⟨u, hu, hL.below hE hb⟩
theorem Gst.imp {F : World → Value → β → Prop} (h : Gst E w v qss) (f : α → β) (hf : ∀ qs ∈ qss, ∀ u q, q ∈ qs → E w u q → F w u (f q)) : Gst F w v (qss.map fun qs => qs.map f) := by
  obtain ⟨A, n, c, us, e, h1, h2, h3, h4, h5, h6⟩ := h
  refine ⟨A, n, c, us, e, h1, by rw [List.length_map]; exact h2, h3, h4, h5, fun j qs hq => ?_⟩
  rw [List.getElem?_map] at hq
  obtain ⟨p, hp, rfl⟩ := Option.map_eq_some_iff.1 hq
  obtain ⟨u, hu, hL⟩ := h6 j p hp
  exact ⟨u, hu, hL.imp f fun x q hq hx => hf p (List.mem_of_getElem? hp) x q hq hx⟩
/-- A row. -/
theorem Gst.at_ {A : Option Addr} {n c : Nat} (h : Gst E w (.slice A n c) qss) {j : Nat} {qs : List α} (hj : qss[j]? = some qs) :
    ∃ ad A1 c1, A = some ad ∧ j < n ∧ w.cell? (ad.add j) = some (.slice A1 qs.length c1) ∧ Lst E w (.slice A1 qs.length c1) qs := by
  obtain ⟨A', n', c', us, e, h1, h2, h3, h4, h5, h6⟩ := h
  cases e
  have hjn : j < n := by
    rw [h2]
    exact (List.getElem?_eq_some_iff.1 hj).1
  obtain ⟨ad, rfl, hl, hc⟩ := h5 (by omega)
  obtain ⟨u, hu, hL⟩ := h6 j qs hj
  obtain ⟨A1, n1, c1, us1, rfl, g1, g2, _⟩ := id hL
  subst g2
  exact ⟨ad, A1, c1, rfl, hjn, hc j _ hu, hL⟩
theorem gst_nil (E : World → Value → α → Prop) (w : World) : Gst E w (.slice none 0 0) [] := ⟨none, 0, 0, [], rfl, Nat.le_refl _, rfl, rfl, by omega, fun h => absurd h (by omega), fun j q h => by simp at h⟩
end
theorem Gst.rw_below {w w' : World} {v : Value} {ess : List (List Raw)} (h : Gst RRw w v ess) (hb : Below w.heap.size w w') : Gst RRw w' v ess := h.below (fun u q h => h.below hb) hb
theorem Gst.raw_below {w w' : World} {v : Value} {ess : List (List Raw)} (h : Gst RRaw w v ess) (hb : Below w.heap.size w w') : Gst RRaw w' v ess := h.below (fun u q h => h.below hb) hb
theorem Gst.can_below {w w' : World} {v : Value} {qss : List (List Rat)} (h : Gst RCan w v qss) (hb : Below w.heap.size w w') : Gst RCan w' v qss := h.below (fun u q h => h.below hb) hb
theorem Gst.arg_below {w w' : World} {v : Value} {qss : List (List Rat)} (h : Gst RArg w v qss) (hb : Below w.heap.size w w') : Gst RArg w' v qss := h.below (fun u q h => h.below hb) hb
/-- A list of fractions that came in. -/
theorem open_ratsF {H : Type} {enc : TypeId × Value → H} {W : World} {t : TypeId} {v : Value} {d : DataW H} {ps : List MemPlace} {fuel : Nat} (ht : Tryz.prog.underlying t = some (.slice 27))
    (hf : DataW.trod enc Tryz.prog W 0 (fun _ => true) true fuel t [v] = some (d, ps)) (hz : (DataW.weights Tryz.prog t d).all (· ≤ reachBytes) = true) : ∃ A n c es, v = .slice A n c ∧ Lst RRw W v es := by
  rcases Deep.open_slice ht hf with ⟨e, _⟩ | ⟨a, len, cap, m, n, D, Pl, e, _, hl, hm, hmm, hx, hi⟩
  · cases e
    exact ⟨none, 0, 0, [], rfl, lst_nil _ _⟩
  · cases e
    simp only [Prod.mk.injEq] at hx
    obtain ⟨rfl, rfl⟩ := hx
    have hcap : m = cap := by simpa using hmm
    subst hcap
    have hb : Tryz.prog.bytesOf 27 = 56 := by kernel_rfl
    have hc3 : Tryz.prog.cellsOf 27 = 3 := by kernel_rfl
    simp only [DataW.weights, ht, hb, List.all_cons, List.all_append, Bool.and_eq_true, decide_eq_true_eq] at hz
    obtain ⟨hz0, hz1, _⟩ := hz
    simp only [List.length_map, List.length_range] at hz0
    have hr : reachBytes = 140737488351232 := by decide
    rw [hr] at hz0
    rw [hc3] at hi
    have key : ∀ i, i < len → ∃ u e, W.cells? 0 (a.add (i * 3)) 3 = some u.cells.toList ∧ RRw W u e := fun i hlt => by
      obtain ⟨cs', h1, h2⟩ := hi i (by omega)
      obtain ⟨u, e, rfl, hu⟩ := rat_cells h2 (weightsAll_of hz1 (D i) (List.mem_map.2 ⟨i, List.mem_range.2 hlt, rfl⟩))
      exact ⟨u, e, h1, hu⟩
    obtain ⟨U, hU⟩ := Deep.choose_lt (α := Value) (p := fun i u => ∃ e, W.cells? 0 (a.add (i * 3)) 3 = some u.cells.toList ∧ RRw W u e) (fun i hlt => by
      obtain ⟨u, e, h1, h2⟩ := key i hlt
      exact ⟨u, e, h1, h2⟩)
    obtain ⟨E, hE⟩ := Deep.choose_lt (α := Bool × List Nat × List Nat) (p := fun i e => W.cells? 0 (a.add (i * 3)) 3 = some (U i).cells.toList ∧ RRw W (U i) e) (fun i hlt => hU i hlt)
    have hus : ∀ u ∈ (List.range len).map U, u.cells.size = 3 := fun u hu => by
      obtain ⟨i, hi2, rfl⟩ := List.mem_map.1 hu
      obtain ⟨_, _, _, _, _, _, e, _⟩ := (hE i (List.mem_range.1 hi2)).2
      rw [e]; rfl
    have hget : ∀ i, i < len → ((List.range len).map U)[i]? = some (U i) := fun i hlt => by
      rw [List.getElem?_map, List.getElem?_range hlt]; rfl
    have hcell : ∀ (j : Nat) u, (flat ((List.range len).map U))[j]? = some u → W.cell? (a.add j) = some u := fun j u hj => by
      have hlt : j < 3 * len := by
        have := (List.getElem?_eq_some_iff.1 hj).1
        rw [flat_len hus] at this
        simpa using this
      have hd : 3 * (j / 3) + j % 3 = j := Nat.div_add_mod j 3
      have h3 : j / 3 < len := by omega
      have := flat_get hus (hget (j / 3) h3) (j % 3) (Nat.mod_lt _ (by omega))
      rw [hd, hj] at this
      obtain ⟨_, _, hc⟩ := World.cells?_some (hE (j / 3) h3).1
      have := (hc (j % 3) (Nat.mod_lt _ (by omega))).trans this.symm
      rw [add_add, show j / 3 * 3 + j % 3 = j by omega] at this
      exact this
    refine ⟨some a, len, m, (List.range len).map E, rfl, some a, len, m, (List.range len).map U, rfl, hl, by simp, by simp, by omega, fun h0 => ⟨a, rfl, ?_, hcell⟩, fun j q hq => ?_⟩
    · obtain ⟨_, _, hc⟩ := World.cells?_some (hE 0 h0).1
      obtain ⟨_, _, _, _, _, _, e, _⟩ := (hE 0 h0).2
      have h4 := hc 0 (by omega)
      rw [e] at h4
      have h5 : W.cell? a = some (.bool (E 0).1) := by
        have e2 : (a.add (0 * 3)).add 0 = a := by unfold Addr.add; simp
        rw [e2] at h4
        exact h4
      exact World.block_lt_of_cell? W a h5
    · have hlt : j < len := by
        have := (List.getElem?_eq_some_iff.1 hq).1
        simpa using this
      rw [List.getElem?_map, List.getElem?_range hlt] at hq
      cases hq
      exact ⟨U j, hget j hlt, (hE j hlt).2⟩
theorem list1 {cs : List Value} (h : cs.length = 1) : ∃ a, cs = [a] := by
  match cs, h with
  | [a], _ => exact ⟨a, rfl⟩
/-- A grid that came in. -/
theorem open_gridF {H : Type} {enc : TypeId × Value → H} {W : World} {t : TypeId} {v : Value} {d : DataW H} {ps : List MemPlace} {fuel : Nat} (ht : Tryz.prog.underlying t = some (.slice 56))
    (hf : DataW.trod enc Tryz.prog W 0 (fun _ => true) true fuel t [v] = some (d, ps)) (hz : (DataW.weights Tryz.prog t d).all (· ≤ reachBytes) = true) : ∃ A n c ess, v = .slice A n c ∧ Gst RRw W v ess := by
  rcases Deep.open_slice ht hf with ⟨e, _⟩ | ⟨a, len, cap, m, n, D, Pl, e, _, hl, hm, hmm, hx, hi⟩
  · cases e
    exact ⟨none, 0, 0, [], rfl, gst_nil _ _⟩
  · cases e
    simp only [Prod.mk.injEq] at hx
    obtain ⟨rfl, rfl⟩ := hx
    have hcap : m = cap := by simpa using hmm
    subst hcap
    have hb : Tryz.prog.bytesOf 56 = 24 := by kernel_rfl
    have hc3 : Tryz.prog.cellsOf 56 = 1 := by kernel_rfl
    simp only [DataW.weights, ht, hb, List.all_cons, List.all_append, Bool.and_eq_true, decide_eq_true_eq] at hz
    obtain ⟨hz0, hz1, _⟩ := hz
    simp only [List.length_map, List.length_range] at hz0
    have hr : reachBytes = 140737488351232 := by decide
    rw [hr] at hz0
    rw [hc3] at hi
    have key : ∀ i, i < len → ∃ u es, W.cell? (a.add i) = some u ∧ Lst RRw W u es := fun i hlt => by
      obtain ⟨cs', h1, h2⟩ := hi i (by omega)
      obtain ⟨_, hlen, hc⟩ := World.cells?_some h1
      obtain ⟨u, rfl⟩ := list1 hlen
      obtain ⟨A1, n1, c1, es, e1, hL⟩ := open_ratsF (by kernel_rfl) h2 (weightsAll_of hz1 (D i) (List.mem_map.2 ⟨i, List.mem_range.2 hlt, rfl⟩))
      have := hc 0 (by omega)
      rw [add_add, Nat.mul_one, Nat.add_zero] at this
      exact ⟨u, es, by simpa using this, hL⟩
    obtain ⟨U, hU⟩ := Deep.choose_lt (α := Value) (p := fun i u => ∃ es, W.cell? (a.add i) = some u ∧ Lst RRw W u es) (fun i hlt => by
      obtain ⟨u, es, h1, h2⟩ := key i hlt
      exact ⟨u, es, h1, h2⟩)
    obtain ⟨X, hX⟩ := Deep.choose_lt (α := List (Bool × List Nat × List Nat)) (p := fun i es => W.cell? (a.add i) = some (U i) ∧ Lst RRw W (U i) es) (fun i hlt => hU i hlt)
    have hget : ∀ i, i < len → ((List.range len).map U)[i]? = some (U i) := fun i hlt => by
      rw [List.getElem?_map, List.getElem?_range hlt]; rfl
    refine ⟨some a, len, m, (List.range len).map X, rfl, some a, len, m, (List.range len).map U, rfl, hl, by simp, by simp, by omega, fun h0 => ⟨a, rfl, ?_, fun j u hj => ?_⟩, fun j q hq => ?_⟩
    · have h4 := (hX 0 h0).1
      have e2 : a.add 0 = a := by unfold Addr.add; simp
      rw [e2] at h4
      exact World.block_lt_of_cell? W a h4
    · have hlt : j < len := by
        have := (List.getElem?_eq_some_iff.1 hj).1
        simpa using this
      rw [hget j hlt] at hj
      cases hj
      exact (hX j hlt).1
    · have hlt : j < len := by
        have := (List.getElem?_eq_some_iff.1 hq).1
        simpa using this
      rw [List.getElem?_map, List.getElem?_range hlt] at hq
      cases hq
      exact ⟨U j, hget j hlt, (hX j hlt).2⟩
end Go.Proofs.YtkefmeddnncacaaGreatDoor

/- law helpers: how large lists, grids and norms are. -/
set_option linter.unusedVariables false
set_option linter.unusedSimpArgs false
set_option maxRecDepth 100000
namespace Go.Proofs.YtkefmeddnncacaaGreatDoor
open Go.RowKit

set_option maxHeartbeats 1000000 in
theorem RatsSize_mid (w : World) (A : Option Addr) (n c : Nat) (es : List Raw) (h : Lst RRw w (.slice A n c) es) (hn : n ≤ 1048576) : Calls Tryz.prog 43 #[.slice A n c] w fun e w' => ∃ r : Nat, e = .returned (.int .i64 (r : Int)) ∧ Cnt r (n + tsz es) ∧ r ≤ 500000000000000 ∧ Hid (Below w.heap.size w w') := by
  refine opq fun R hR => ?_
  have L := hide h
  have hq := hide h.len
  clear h
  go_enter Tryz.func43, Tryz.ntmps43
  go_wp2
  go_loopw [3, 4] (fun nv iv wr => ∃ (i z : Nat), i ≤ n ∧ iv = .int .i64 (i : Nat) ∧ nv = .int .i64 (z : Nat) ∧ z ≤ 200000000000000 ∧ Hid (Cnt z (n + tsz (es.take i))) ∧ Hid (Below w.heap.size w wr)) (fun _ iv _ => n - (intOf iv).toNat)
  case atStart => exact ⟨0, n, by omega, rfl, rfl, by omega, ⟨by simp [tsz], .inl (by simp [tsz])⟩, Below.refl _ _⟩
  case round =>
    obtain ⟨i, z, hi, rfl, rfl, hz, hC, hbel⟩ := hrel
    by_cases hlt : i < n
    · by_cases hm : z ≤ 1048576
      · obtain ⟨x, hx⟩ : ∃ x, es[i]? = some x := ⟨_, List.getElem?_eq_getElem (by rw [hq.out]; exact hlt)⟩
        obtain ⟨ad, b2, A2, n2, c2, D2, m2, k2, rfl, _, x0, x1, x2, X⟩ := (L.out.rw_below hbel.out).at_ tri_rw hx
        have hT := hide (show es.take (i + 1) = es.take i ++ [x] by
          rw [List.take_add_one, hx]; rfl)
        have hs : Hid (rsz x = 2 + n2 + m2) ∧ n2 ≤ 70368744177664 ∧ m2 ≤ 70368744177664 := by
          obtain ⟨_, _, _, _, _, _, e1, h1, _, _, h4, h5, _, _, h8⟩ := X
          cases e1
          refine ⟨?_, h4, h8⟩
          show _ = _
          rw [rsz, h1.1, h5.1]
        obtain ⟨hs, hs1, hs2⟩ := hs
        clear X hx
        go_wp2_with fail
        refine (RatSize_ok _ b2 A2 n2 c2 D2 m2 k2 hs1 hs2).mono ?_
        rintro e w1 ⟨r, rfl, hr, d0⟩
        replace hbel := hide (below_tr hbel.out d0.out)
        clear d0 x0 x1 x2
        have hr1 := hr.1
        obtain ⟨y, hy, hy2⟩ : ∃ y : Nat, (z : Int) + (r : Int) = (y : Nat) ∧ y = z + r := ⟨z + r, by omega, rfl⟩
        have hC2 : Hid (Cnt y (n + tsz (es.take (i + 1)))) := by
          show Cnt _ _
          rw [hT.out, tsz_snoc, hs.out]
          obtain ⟨h1, h2⟩ := hC.out
          obtain ⟨h3, h4⟩ := hr
          exact ⟨by omega, by omega⟩
        have hy3 : y ≤ 200000000000000 := by omega
        clear hr hr1 hy2
        go_wp2
        go_roundw
        case rel => exact ⟨i + 1, y, by omega, by go_num, rfl, hy3, hC2, hbel⟩
        case measure => simp [intOf]; omega
      · have hC2 : Hid (Cnt z (n + tsz es)) := by
          have := tsz_take es i
          obtain ⟨h1, h2⟩ := hC.out
          exact ⟨by omega, .inr (by omega)⟩
        go_wp2
        exact opq_end hR ⟨z, rfl, hC2.out, by omega, hbel⟩
    · obtain rfl : i = n := by omega
      rw [List.take_of_length_le (by rw [hq.out]; exact Nat.le_refl _)] at hC
      go_wp2
      exact opq_end hR ⟨z, rfl, hC.out, by omega, hbel⟩
theorem RatsSize_any (w : World) (A : Option Addr) (n c : Nat) (es : List Raw) (h : Lst RRw w (.slice A n c) es) : Calls Tryz.prog 43 #[.slice A n c] w fun e w' => ∃ r : Nat, e = .returned (.int .i64 (r : Int)) ∧ Cnt r (n + tsz es) ∧ r ≤ 500000000000000 ∧ Below w.heap.size w w' := by
  by_cases hn : n ≤ 1048576
  · exact (RatsSize_mid w A n c es h hn).mono fun e w' ⟨r, h1, h2, h3, h4⟩ => ⟨r, h1, h2, h3, h4.out⟩
  · have hb : n ≤ 140737488355328 := by
      obtain ⟨_, _, _, _, e, _, _, _, h4, _⟩ := h
      cases e
      exact h4
    refine opq fun R hR => ?_
    clear h
    go_enter Tryz.func43, Tryz.ntmps43
    go_wp2
    go_loopw [3, 4] (fun nv iv wr => nv = .int .i64 (n : Nat) ∧ iv = .int .i64 0 ∧ wr = w) (fun _ _ _ => 0)
    case atStart => exact ⟨rfl, rfl, rfl⟩
    case round =>
      obtain ⟨rfl, rfl, rfl⟩ := hrel
      have h0 : (0 : Int) < (n : Int) := by omega
      have h1 : ¬ ((n : Int) ≤ 1048576) := by omega
      go_wp2
      exact opq_end hR ⟨n, rfl, ⟨by omega, .inr (by omega)⟩, by omega, Below.refl _ _⟩
/-- How large a grid's rows are. -/
def gsz (ess : List (List Raw)) : Nat := (ess.map fun es => es.length + tsz es).sum
theorem gsz_snoc (ess : List (List Raw)) (es : List Raw) : gsz (ess ++ [es]) = gsz ess + (es.length + tsz es) := by simp [gsz]
theorem gsz_take (ess : List (List Raw)) (i : Nat) : gsz (ess.take i) ≤ gsz ess := by
  have : gsz ess = gsz (ess.take i) + gsz (ess.drop i) := by
    conv => lhs; rw [← List.take_append_drop i ess]
    unfold gsz
    rw [List.map_append, List.sum_append]
  omega
theorem gsz_mem {ess : List (List Raw)} {es : List Raw} (h : es ∈ ess) : es.length + tsz es ≤ gsz ess := by
  induction ess with
  | nil => cases h
  | cons a ess ih =>
    have : gsz (a :: ess) = a.length + tsz a + gsz ess := by simp [gsz]
    rcases List.mem_cons.1 h with rfl | h
    · omega
    · have := ih h
      omega
set_option maxHeartbeats 1000000 in
theorem GridSize_ok (w : World) (A : Option Addr) (n c : Nat) (ess : List (List Raw)) (h : Gst RRw w (.slice A n c) ess) : Calls Tryz.prog 155 #[.slice A n c] w fun e w' => ∃ r : Nat, e = .returned (.int .i64 (r : Int)) ∧ Cnt r (n + gsz ess) ∧ r ≤ 1000000000000000 ∧ Below w.heap.size w w' := by
  refine opq fun R hR => ?_
  have L := hide h
  have hq := hide h.len
  have hb : n ≤ 140737488355328 := by rw [← hq.out]; exact h.le_
  clear h
  go_enter Tryz.func155, Tryz.ntmps155
  go_wp2
  go_loopw [3, 4] (fun nv iv wr => ∃ (i z : Nat), i ≤ n ∧ iv = .int .i64 (i : Nat) ∧ nv = .int .i64 (z : Nat) ∧ z ≤ 1000000000000000 ∧ Hid (Cnt z (n + gsz (ess.take i))) ∧ Hid (Below w.heap.size w wr)) (fun _ iv _ => n - (intOf iv).toNat)
  case atStart => exact ⟨0, n, by omega, rfl, rfl, by omega, ⟨by simp [gsz], .inl (by simp [gsz])⟩, Below.refl _ _⟩
  case round =>
    obtain ⟨i, z, hi, rfl, rfl, hz, hC, hbel⟩ := hrel
    by_cases hlt : i < n
    · by_cases hm : z ≤ 1048576
      · obtain ⟨x, hx⟩ : ∃ x, ess[i]? = some x := ⟨_, List.getElem?_eq_getElem (by rw [hq.out]; exact hlt)⟩
        obtain ⟨ad, A1, c1, rfl, _, x0, X⟩ := (L.out.rw_below hbel.out).at_ hx
        have hT := hide (show ess.take (i + 1) = ess.take i ++ [x] by
          rw [List.take_add_one, hx]; rfl)
        replace X := hide X
        obtain ⟨m, hxm⟩ : ∃ m, Hid (x.length = m) := ⟨_, rfl⟩
        rw [hxm.out] at x0 X
        clear hx
        go_wp2_with fail
        refine (RatsSize_any _ A1 m c1 x X.out).mono ?_
        rintro e w1 ⟨r, rfl, hr, hr0, d0⟩
        replace hbel := hide (below_tr hbel.out d0)
        clear d0 x0 X
        obtain ⟨y, hy, hy2⟩ : ∃ y : Nat, (z : Int) + (r : Int) = (y : Nat) ∧ y = z + r := ⟨z + r, by omega, rfl⟩
        have hC2 : Hid (Cnt y (n + gsz (ess.take (i + 1)))) := by
          show Cnt _ _
          rw [hT.out, gsz_snoc, hxm.out]
          obtain ⟨h1, h2⟩ := hC.out
          obtain ⟨h3, h4⟩ := hr
          exact ⟨by omega, by omega⟩
        have hy3 : y ≤ 1000000000000000 := by omega
        clear hr hr0 hy2
        go_wp2
        go_roundw
        case rel => exact ⟨i + 1, y, by omega, by go_num, rfl, hy3, hC2, hbel⟩
        case measure => simp [intOf]; omega
      · have hC2 : Hid (Cnt z (n + gsz ess)) := by
          have := gsz_take ess i
          obtain ⟨h1, h2⟩ := hC.out
          exact ⟨by omega, .inr (by omega)⟩
        go_wp2
        exact opq_end hR ⟨z, rfl, hC2.out, hz, hbel.out⟩
    · obtain rfl : i = n := by omega
      rw [List.take_of_length_le (by rw [hq.out]; exact Nat.le_refl _)] at hC
      go_wp2
      exact opq_end hR ⟨z, rfl, hC.out, hz, hbel.out⟩
end Go.Proofs.YtkefmeddnncacaaGreatDoor

/- a grid's twin, and what is left of it. -/
set_option linter.unusedVariables false
set_option linter.unusedSimpArgs false
set_option maxRecDepth 100000
namespace Go.Proofs.YtkefmeddnncacaaGreatDoor
open Go.RowKit

theorem infoRs : (Tryz.prog.info? TRs).map (fun i => (i.zero, i.size, i.bytes)) = some (some (.slice none 0 0), 1, 24) := by kernel_rfl
theorem TwL.keepT {B : Nat} {w w' : World} {A : Option Addr} {n c : Nat} {us : List Value} {es : List Raw} (h : TwL B w A n c us es) (k : ∀ t, t ≠ TRs → ∀ g cs, Blk w g t cs → Blk w' g t cs) : TwL B w' A n c us es := by
  obtain ⟨q, d, cs, h1, h2, h3⟩ := h.row
  exact ⟨h.lu, h.le, h.lt, h.bd, ⟨q, d, cs, h1.keep fun g cs _ hk => k TR (by decide) g cs hk, k T32 (by decide) _ _ h2, h3⟩, fun j e he => by
    obtain ⟨u, hu, hE⟩ := h.els j e he
    exact ⟨u, hu, hE.keepB fun g cs hk => k T32 (by decide) g cs hk⟩, h.ap⟩
theorem TwL.mono {B B' : Nat} {w : World} {A : Option Addr} {n c : Nat} {us : List Value} {es : List Raw} (h : TwL B w A n c us es) (hB : B' ≤ B) : TwL B' w A n c us es := by
  obtain ⟨q, d, cs, h1, h2, h3⟩ := h.row
  exact ⟨h.lu, h.le, h.lt, h.bd, ⟨q, d, cs, h1.mono hB, h2, h3⟩, fun j e he => by
    obtain ⟨u, hu, hE⟩ := h.els j e he
    exact ⟨u, hu, hE.mono hB⟩, h.ap⟩
/-- A grid of the law's own: a twin of each row. -/
def TwG (B : Nat) (w : World) (v : Value) (ess : List (List Raw)) : Prop :=
  ∃ us : List Value, us.length = ess.length ∧ w.ownsRow B TRs 1 v ess.length us ∧ ∀ (j : Nat) es, ess[j]? = some es → ∃ X cx vs, us[j]? = some (.slice X es.length cx) ∧ TwL B w X es.length cx vs es
theorem TwG.below {B : Nat} {w w' : World} {v : Value} {ess : List (List Raw)} (h : TwG B w v ess) (hb : Below w.heap.size w w') : TwG B w' v ess := by
  obtain ⟨us, h1, h2, h3⟩ := h
  exact ⟨us, h1, own_below h2 hb, fun j es he => by
    obtain ⟨X, cx, vs, hu, hT⟩ := h3 j es he
    exact ⟨X, cx, vs, hu, hT.below hb⟩⟩
theorem own_monoT {t : TypeId} {size : Nat} {w : World} {B B' n : Nat} {v : Value} {xs : List Value} (h : w.ownsRow B t size v n xs) (hB : B' ≤ B) : w.ownsRow B' t size v n xs := by
  refine ⟨h.1, ?_⟩
  rcases h.2 with h2 | ⟨g, cap, cur, e1, hg, r⟩
  · exact .inl h2
  · exact .inr ⟨g, cap, cur, e1, Nat.le_trans hB hg, r⟩
theorem TwG.mono {B B' : Nat} {w : World} {v : Value} {ess : List (List Raw)} (h : TwG B w v ess) (hB : B' ≤ B) : TwG B' w v ess := by
  obtain ⟨us, h1, h2, h3⟩ := h
  exact ⟨us, h1, own_monoT h2 hB, fun j es he => by
    obtain ⟨X, cx, vs, hu, hT⟩ := h3 j es he
    exact ⟨X, cx, vs, hu, hT.mono hB⟩⟩
theorem TwG.sl {B : Nat} {w : World} {v : Value} {ess : List (List Raw)} (h : TwG B w v ess) : ∃ A c, v = .slice A ess.length c := by
  obtain ⟨us, h1, h2, h3⟩ := h
  exact own_slice h2
theorem TwG.le_ {B : Nat} {w : World} {v : Value} {ess : List (List Raw)} (h : TwG B w v ess) : ess.length ≤ 9223372036854775807 := by
  obtain ⟨us, h1, h2, h3⟩ := h
  rcases Nat.eq_zero_or_pos ess.length with h0 | h0
  · omega
  · obtain ⟨g, cap, cur, e, hB, hn, hm, _⟩ := own_some h2 h0
    omega
/-- A row. -/
theorem TwG.at_ {B : Nat} {w : World} {A : Option Addr} {n c : Nat} {ess : List (List Raw)} (h : TwG B w (.slice A n c) ess) {j : Nat} {es : List Raw} (hj : ess[j]? = some es) :
    ∃ ad X cx vs, A = some ad ∧ w.cell? (ad.add j) = some (.slice X es.length cx) ∧ TwL B w X es.length cx vs es := by
  obtain ⟨us, h1, h2, h3⟩ := h
  have h0 : 0 < ess.length := by have := (List.getElem?_eq_some_iff.1 hj).1; omega
  obtain ⟨g, cap, cur, e, hB, hn, hm, hk, hs, ht⟩ := own_some h2 h0
  obtain ⟨X, cx, vs, hu, hT⟩ := h3 j es hj
  cases e
  refine ⟨_, X, cx, vs, rfl, ?_, hT⟩
  rw [add0, hk.cell]
  exact take_get ht hu
theorem TwG.lst {α : Type} {E : World → Value → α → Prop} {f : Raw → α} {B : Nat} {w : World} {v : Value} {ess : List (List Raw)} (h : TwG B w v ess) (hE : ∀ X n c us es, TwL B w X n c us es → Lst E w (.slice X n c) (es.map f)) (hn : ess.length ≤ 1000000) : Gst E w v (ess.map fun es => es.map f) := by
  obtain ⟨us, h1, h2, h3⟩ := h
  have hel : ∀ (j : Nat) qs, (ess.map fun es => es.map f)[j]? = some qs → ∃ u, us[j]? = some u ∧ Lst E w u qs := fun j qs hq => by
    rw [List.getElem?_map] at hq
    obtain ⟨es, he, rfl⟩ := Option.map_eq_some_iff.1 hq
    obtain ⟨X, cx, vs, hu, hT⟩ := h3 j es he
    exact ⟨_, hu, hE _ _ _ _ _ hT⟩
  rcases h2.2 with ⟨e, h0⟩ | ⟨g, cap, cur, e, hB, hh, hnc, hcm, hcs, htk⟩
  · subst e
    have : ess = [] := List.eq_nil_of_length_eq_zero h0
    subst this
    exact gst_nil _ _
  · subst e
    refine ⟨_, _, cap, us, rfl, hnc, by rw [List.length_map], h1, by omega, fun h0 => ⟨_, rfl, (Array.getElem?_eq_some_iff.1 hh).1, fun j u hj => ?_⟩, hel⟩
    have k : Blk w g TRs cur := ⟨hh⟩
    rw [add0, k.cell]
    exact take_get htk hj
theorem TwG.raw {B : Nat} {w : World} {v : Value} {ess : List (List Raw)} (h : TwG B w v ess) (hn : ess.length ≤ 1000000) : Gst RRaw w v ess := by
  have := h.lst (f := id) (E := RRaw) (fun X n c us es hT => by rw [List.map_id]; exact hT.lst) hn
  simpa using this
theorem TwG.argl {B : Nat} {w : World} {v : Value} {ess : List (List Raw)} (h : TwG B w v ess) (hn : ess.length ≤ 1000000) : Gst RArg w v (ess.map fun es => es.map rvE) := h.lst (fun X n c us es hT => hT.argl) hn
set_option maxHeartbeats 2000000 in
theorem twinGrid_ok {w : World} {v : Value} {ess : List (List Raw)} (h : Gst RRaw w v ess) (hn : ess.length ≤ 1000000) (hl : ∀ es ∈ ess, es.length ≤ 100000 ∧ ∀ e ∈ es, SmE e) :
    Calls Tryz.prog 53 #[v] w fun e w' => ∃ u, e = .returned u ∧ Below w.heap.size w w' ∧ TwG w.heap.size w' u ess := by
  refine opq fun R hR => ?_
  obtain ⟨A, c, rfl⟩ := h.sl
  obtain ⟨n, hq⟩ : ∃ n, Hid (ess.length = n) := ⟨_, rfl⟩
  rw [hq.out] at h hn ⊢
  have L := hide h
  replace hl := hide hl
  clear h
  go_enter Tryz.func53, Tryz.ntmps53
  go_wp2
  go_loopw [3, 4] (fun tv iv wr => ∃ (i : Nat), i ≤ n ∧ iv = .int .i64 (i : Nat) ∧ Hid (Below w.heap.size w wr) ∧ Hid (TwG w.heap.size wr tv (ess.take i))) (fun _ iv _ => n - (intOf iv).toNat)
  case atStart => exact ⟨0, by omega, rfl, Below.refl _ _, [], rfl, World.ownsRow_nil _ _ _ _, fun j es h => by simp at h⟩
  case round =>
    rename_i tv0 _
    obtain ⟨i, hi, rfl, b0, tg⟩ := hrel
    by_cases hlt : i < n
    · obtain ⟨x, hx⟩ : ∃ x, ess[i]? = some x := ⟨_, List.getElem?_eq_getElem (by rw [hq.out]; exact hlt)⟩
      obtain ⟨ad, A1, c1, rfl, _, x0, X⟩ := (L.out.raw_below b0.out).at_ hx
      have hT := hide (show ess.take (i + 1) = ess.take i ++ [x] by
        rw [List.take_add_one, hx]; rfl)
      have hsx := hide (hl.out x (List.mem_of_getElem? hx))
      have hlen : Hid ((ess.take i).length = i) := by
        show _ = _
        rw [List.length_take, hq.out]; omega
      obtain ⟨m, hxm⟩ : ∃ m, Hid (x.length = m) := ⟨_, rfl⟩
      rw [hxm.out] at x0 X
      replace X := hide X
      clear hx
      go_wp2_with fail
      refine (twinRats_n hxm.out X.out (by rw [← hxm.out]; exact hsx.out.1) hsx.out.2).mono ?_
      rintro e w1 ⟨X1, cx, us1, rfl, d1, TL⟩
      have yy : Below w1.heap.size w1 (w1.alloc (.cells #[.slice X1 m cx] TRs)) := (Below.refl _ _).alloc (Nat.le_refl _) _
      have D := hide (below_tr d1 yy)
      have K := hide (Blk.new w1 TRs #[.slice X1 m cx])
      have hbs := b0.out.size
      have T2 := hide ((TL.below yy).mono hbs)
      have tg2 := hide (tg.out.below D.out)
      have b2 := hide (below_tr b0.out D.out)
      have hb2 : Hid (w.heap.size ≤ (w1.alloc (.cells #[.slice X1 m cx] TRs)).heap.size) := b2.out.size
      clear d1 TL yy x0 X D tg b0 hbs
      obtain ⟨us, g1, g2, g3⟩ := tg2.out
      rw [hlen.out] at g1 g2
      replace g1 := hide g1
      replace g2 := hide g2
      replace g3 := hide g3
      obtain ⟨A0, c0, e0⟩ := own_slice g2.out
      subst e0
      clear tg2
      go_wp2_with (at_builtin; refine wpList_appv (P := Tryz.prog) (t := 67) (e := TRs) (z := .slice none 0 0) (size := 1) (b := 24) (by kernel_rfl) infoRs rfl (by omega) _ rfl _ _ rfl w.heap.size i _ us rfl g2.out ⟨w1.heap.size, 0, none⟩ 1 1 [.slice X1 m cx] rfl rfl (fun j u hj => by rw [add0, K.out.cell]; simpa using hj) (fun u hu => by simp at hu; subst hu; rfl) (by omega) (by omega) hb2.out ?_; intro v' w3 q1 q2)
      go_roundw
      case rel =>
        have far : ∀ t, t ≠ TRs → ∀ g cs, Blk (w1.alloc (.cells #[.slice X1 m cx] TRs)) g t cs → Blk w3 g t cs := fun t ht g cs hk => blk_grown g2.out q2.out hk ht
        refine ⟨i + 1, by omega, by go_num, b2.out.trans ((Below.refl _ _).grown q2.out hb2.out (fun k e => (own_rowT g2.out k e).1)), us ++ [.slice X1 m cx], ?_, ?_, fun j es hj => ?_⟩
        · rw [hT.out, List.length_append, List.length_append, g1.out, hlen.out]; rfl
        · rw [hT.out, List.length_append, hlen.out]
          exact q1.out
        · rw [hT.out] at hj
          by_cases hji : j < i
          · rw [List.getElem?_append_left (by rw [hlen.out]; exact hji)] at hj
            obtain ⟨X', cx', vs, hu, hTL⟩ := g3.out j es hj
            exact ⟨X', cx', vs, by rw [List.getElem?_append_left (by rw [g1.out]; exact hji)]; exact hu, hTL.keepT far⟩
          · rw [List.getElem?_append_right (by rw [hlen.out]; omega), hlen.out] at hj
            have := (List.getElem?_eq_some_iff.1 hj).1
            simp at this
            obtain rfl : j = i := by omega
            simp at hj
            subst hj
            refine ⟨X1, cx, us1, ?_, ?_⟩
            · rw [List.getElem?_append_right (by rw [g1.out]; exact Nat.le_refl _), g1.out, Nat.sub_self, hxm.out]; rfl
            · rw [hxm.out]
              exact T2.out.keepT far
      case measure => simp [intOf]; omega
    · obtain rfl : i = n := by omega
      rw [List.take_of_length_le (by rw [hq.out]; exact Nat.le_refl _)] at tg
      go_wp2
      exact opq_end hR ⟨_, rfl, b0.out, tg.out⟩
theorem fgd_assayerlaw01_LeftRats (args : Array Value) (w : World) : (callFunc 34 args).run Tryz.prog w = .ok (.enter 34 args) w := callFunc_enter Tryz.func34 (by kernel_rfl) rfl args w
set_option maxHeartbeats 2000000 in
theorem leftGrid_ok {B : Nat} {w : World} {v v' : Value} {ess : List (List Raw)} (h : TwG B w v ess) (h' : Gst RRaw w v' ess) :
    Calls Tryz.prog 61 #[v, v'] w fun e w' => ∃ u, e = .returned u ∧ Below w.heap.size w w' ∧ u = .bool true := by
  refine opq fun R hR => ?_
  obtain ⟨A, c, rfl⟩ := h.sl
  obtain ⟨A', c', rfl⟩ := h'.sl
  have hb := h'.le_
  obtain ⟨n, hq⟩ : ∃ n, Hid (ess.length = n) := ⟨_, rfl⟩
  rw [hq.out] at h h' hb ⊢
  have TG := hide h
  have M := hide h'
  clear h h'
  go_enter Tryz.func61, Tryz.ntmps61
  go_wp2
  go_loopw [5] (fun iv wr => ∃ (i : Nat), i ≤ n ∧ iv = .int .i64 (i : Nat) ∧ Hid (Below w.heap.size w wr)) (fun iv _ => n - (intOf iv).toNat)
  case atStart => exact ⟨0, by omega, rfl, Below.refl _ _⟩
  case round =>
    obtain ⟨i, hi, rfl, b0⟩ := hrel
    by_cases hlt : i < n
    · obtain ⟨x, hx⟩ : ∃ x, ess[i]? = some x := ⟨_, List.getElem?_eq_getElem (by rw [hq.out]; exact hlt)⟩
      obtain ⟨ad, X, cx, vs, rfl, x0, H1⟩ := (TG.out.below b0.out).at_ hx
      obtain ⟨ad2, A3, c3, rfl, _, y0, H2⟩ := (M.out.raw_below b0.out).at_ hx
      obtain ⟨m, hxm⟩ : ∃ m, Hid (x.length = m) := ⟨_, rfl⟩
      rw [hxm.out] at x0 y0 H1 H2
      replace H1 := hide H1
      replace H2 := hide H2
      have P0 := hide x0
      have Q0 := hide y0
      clear x0 y0 hx
      have hlt2 : ¬ ((n : Int) ≤ (i : Int)) := by omega
      go_wp2
      refine wp_region_facts 10 (fun w' => Below wr.heap.size wr w') [(17, .eq (.slice (some ad) n c)), (18, .eq (.int .i64 (i : Nat))), (19, .eq ((.pointer (some (ad.add i)) : Value))), (20, .eq (.slice X m cx)), (21, .eq (.slice (some ad2) n c')), (22, .eq (.int .i64 (i : Nat))), (23, .eq ((.pointer (some (ad2.add i)) : Value))), (24, .eq (.slice A3 m c3)), (25, .eq (.bool true)), (26, .eq (.bool false))] [false, false, false, false, false, false, false, false, false, false, false, false, false, false, false, false, false, true, true, true, true, true, true, true, true, true, true] mixed (by kernel_rfl) (by kernel_rfl) (by kernel_rfl) (fun _ _ h hb => h.trans (hb.mono h.size)) ((Below.refl _ _).drew) ⟨?_, ?_, ?_, ?_, ?_, ?_, ?_, ?_, ?_, ?_, trivial⟩ ?_
      · exact .moveC (.inl rfl) (.inl rfl) rfl (fun a w' hC hs => (hs 0 (by kernel_rfl)))
      · exact .moveC (.inl rfl) (.inl rfl) rfl (fun a w' hC hs => (hs 5 (by kernel_rfl)))
      · exact .value (.inl rfl) (by intro T e; cases e) rfl rfl (fun a w' hC hs hl => by
          have e0 : a.eval (.tmp 17) = (.slice (some ad) n c) := (hl 17 (by kernel_rfl) (by kernel_rfl))
          have e1 : a.eval (.tmp 18) = (.int .i64 (i : Nat)) := (hl 18 (by kernel_rfl) (by kernel_rfl))
          simp only [execOp, e0, e1]
          simp [go_sem, hlt2])
      · exact .load (.slice X m cx) (.inl rfl) rfl rfl (fun a w' hC hs hl => by rw [show a.eval (.tmp 19) = (.pointer (some (ad.add i)) : Value) from (hl 19 (by kernel_rfl) (by kernel_rfl))]; exact ⟨by simp [go_sem, cell_below hC P0.out], rfl⟩)
      · exact .moveC (.inl rfl) (.inl rfl) rfl (fun a w' hC hs => (hs 1 (by kernel_rfl)))
      · exact .moveC (.inl rfl) (.inl rfl) rfl (fun a w' hC hs => (hs 5 (by kernel_rfl)))
      · exact .value (.inl rfl) (by intro T e; cases e) rfl rfl (fun a w' hC hs hl => by
          have e0 : a.eval (.tmp 21) = (.slice (some ad2) n c') := (hl 21 (by kernel_rfl) (by kernel_rfl))
          have e1 : a.eval (.tmp 22) = (.int .i64 (i : Nat)) := (hl 22 (by kernel_rfl) (by kernel_rfl))
          simp only [execOp, e0, e1]
          simp [go_sem, hlt2])
      · exact .load (.slice A3 m c3) (.inl rfl) rfl rfl (fun a w' hC hs hl => by rw [show a.eval (.tmp 23) = (.pointer (some (ad2.add i)) : Value) from (hl 23 (by kernel_rfl) (by kernel_rfl))]; exact ⟨by simp [go_sem, cell_below hC Q0.out], rfl⟩)
      · exact .call (.inl rfl) rfl rfl fgd_assayerlaw01_LeftRats (fun a w' hC hs hl => by
          show Calls _ _ #[a.eval (.tmp 20), a.eval (.tmp 24)] _ _
          rw [show a.eval (.tmp 20) = (.slice X m cx : Value) from (hl 20 (by kernel_rfl) (by kernel_rfl)), show a.eval (.tmp 24) = (.slice A3 m c3 : Value) from (hl 24 (by kernel_rfl) (by kernel_rfl))]
          exact leftRats_ok (H1.out.below hC) (H2.out.raw_below hC))
      · exact .value (.inl rfl) (by intro T e; cases e) rfl rfl (fun a w' hC hs hl => by
          have e0 : a.eval (.tmp 25) = (.bool true) := (hl 25 (by kernel_rfl) (by kernel_rfl))
          simp only [execOp, e0]
          skip
          simp [go_sem] <;> rfl)
      · intro f wz hC hF _
        have fz : f 26 = .bool false := hF 26 (by kernel_rfl)
        clear hF
        simp only [patch, List.drop]
        rw [fz]
        clear fz
        try change wpList _ _ _ [] _ _
        generalize f 17 = y17_
        generalize f 18 = y18_
        generalize f 19 = y19_
        generalize f 20 = y20_
        generalize f 21 = y21_
        generalize f 22 = y22_
        generalize f 23 = y23_
        generalize f 24 = y24_
        generalize f 25 = y25_
        have b0' := hide (below_tr b0.out hC)
        clear hC P0 Q0 hlt2 H1 H2
        go_wp2
        go_roundw
        case rel => exact ⟨i + 1, by omega, by go_num, b0'⟩
        case measure => simp [intOf]; omega
    · obtain rfl : i = n := by omega
      go_wp2
      exact opq_end hR ⟨_, rfl, b0.out, rfl⟩
end Go.Proofs.YtkefmeddnncacaaGreatDoor

/- lists of truth values: words; what comes in; a list's twin, and what is left of it. -/
set_option linter.unusedVariables false
set_option linter.unusedSimpArgs false
set_option maxRecDepth 100000
namespace Go.Proofs.YtkefmeddnncacaaGreatDoor
open Go.ChangeShapes Go.WideShapes Go.ChangeAt Go.RowKit Go.Joins

abbrev TBL : TypeId := 4
theorem infoBL : (Tryz.prog.info? TBL).map (fun i => (i.zero, i.size, i.bytes)) = some (some (.bool false), 1, 1) := by kernel_rfl
/-- A list of truth values. -/
def Bst (w : World) (v : Value) (bs : List Bool) : Prop :=
  ∃ (A : Option Addr) (n c : Nat), v = .slice A n c ∧ n ≤ c ∧ n = bs.length ∧ n ≤ 140737488355328 ∧ (0 < n → ∃ ad, A = some ad ∧ ad.block < w.heap.size ∧ ∀ (j : Nat) b, bs[j]? = some b → w.cell? (ad.add j) = some (.bool b))
theorem Bst.sl {w : World} {v : Value} {bs : List Bool} (h : Bst w v bs) : ∃ A c, v = .slice A bs.length c := by
  obtain ⟨A, n, c, e, _, h2, _⟩ := h
  subst h2
  exact ⟨A, c, e⟩
theorem Bst.len {w : World} {A : Option Addr} {n c : Nat} {bs : List Bool} (h : Bst w (.slice A n c) bs) : bs.length = n := by
  obtain ⟨_, _, _, e, _, h2, _⟩ := h
  cases e
  exact h2.symm
theorem Bst.le_ {w : World} {v : Value} {bs : List Bool} (h : Bst w v bs) : bs.length ≤ 140737488355328 := by
  obtain ⟨_, _, _, e, _, h2, h3, _⟩ := h
  omega
theorem Bst.below {w w' : World} {v : Value} {bs : List Bool} (h : Bst w v bs) (hb : Below w.heap.size w w') : Bst w' v bs := by
  obtain ⟨A, n, c, e, h1, h2, h3, h5⟩ := h
  refine ⟨A, n, c, e, h1, h2, h3, fun h0 => ?_⟩
  obtain ⟨ad, e1, hl, hc⟩ := h5 h0
  exact ⟨ad, e1, Nat.lt_of_lt_of_le hl hb.size, fun j u hu => cell_below hb (hc j u hu)⟩
theorem Bst.at_ {w : World} {A : Option Addr} {n c : Nat} {bs : List Bool} (h : Bst w (.slice A n c) bs) {j : Nat} {b : Bool} (hj : bs[j]? = some b) : ∃ ad, A = some ad ∧ w.cell? (ad.add j) = some (.bool b) := by
  obtain ⟨A', n', c', e, h1, h2, h3, h5⟩ := h
  cases e
  have : j < n := by rw [h2]; exact (List.getElem?_eq_some_iff.1 hj).1
  obtain ⟨ad, e1, hl, hc⟩ := h5 (by omega)
  exact ⟨ad, e1, hc j b hj⟩
theorem bst_nil (w : World) : Bst w (.slice none 0 0) [] := ⟨none, 0, 0, rfl, Nat.le_refl _, rfl, by omega, fun h => absurd h (by omega)⟩
theorem open_boolsF {H : Type} {enc : TypeId × Value → H} {W : World} {t : TypeId} {v : Value} {d : DataW H} {ps : List MemPlace} {fuel : Nat} (ht : Tryz.prog.underlying t = some (.slice TBL))
    (hf : DataW.trod enc Tryz.prog W 0 (fun _ => true) true fuel t [v] = some (d, ps)) (hz : (DataW.weights Tryz.prog t d).all (· ≤ reachBytes) = true) : ∃ A n c bs, v = .slice A n c ∧ Bst W v bs := by
  rcases Deep.open_slice ht hf with ⟨e, _⟩ | ⟨a, len, cap, m, n, D, Pl, e, _, hl, hm, hmm, hx, hi⟩
  · cases e
    exact ⟨none, 0, 0, [], rfl, bst_nil _⟩
  · cases e
    simp only [Prod.mk.injEq] at hx
    obtain ⟨rfl, rfl⟩ := hx
    have hcap : m = cap := by simpa using hmm
    subst hcap
    have hb : Tryz.prog.bytesOf TBL = 1 := by kernel_rfl
    have hc3 : Tryz.prog.cellsOf TBL = 1 := by kernel_rfl
    simp only [DataW.weights, ht, hb, List.all_cons, List.all_append, Bool.and_eq_true, decide_eq_true_eq] at hz
    obtain ⟨hz0, hz1, _⟩ := hz
    simp only [List.length_map, List.length_range] at hz0
    have hr : reachBytes = 140737488351232 := by decide
    rw [hr] at hz0
    rw [hc3] at hi
    have key : ∀ i, i < len → ∃ b, W.cell? (a.add i) = some (.bool b) := fun i hlt => by
      obtain ⟨cs', h1, h2⟩ := hi i (by omega)
      obtain ⟨_, hlen, hc⟩ := World.cells?_some h1
      obtain ⟨u, rfl⟩ := list1 hlen
      obtain ⟨b, rfl⟩ := trod_bool (by kernel_rfl) h2
      have := hc 0 (by omega)
      rw [add_add, Nat.mul_one, Nat.add_zero] at this
      exact ⟨b, by simpa using this⟩
    obtain ⟨U, hU⟩ := Deep.choose_lt (α := Bool) (p := fun i b => W.cell? (a.add i) = some (.bool b)) key
    refine ⟨some a, len, m, (List.range len).map U, rfl, some a, len, m, rfl, hl, by simp, by omega, fun h0 => ⟨a, rfl, ?_, fun j u hj => ?_⟩⟩
    · have h4 := hU 0 h0
      have e2 : a.add 0 = a := by unfold Addr.add; simp
      rw [e2] at h4
      exact World.block_lt_of_cell? W a h4
    · have hlt : j < len := by
        have := (List.getElem?_eq_some_iff.1 hj).1
        simpa using this
      rw [List.getElem?_map, List.getElem?_range hlt] at hj
      cases hj
      exact hU j hlt
theorem own_cap {t : TypeId} {size : Nat} {w : World} {B n c : Nat} {A : Option Addr} {xs : List Value} (h : w.ownsRow B t size (.slice A (n + 1) c) (n + 1) xs) : n < c := by
  obtain ⟨g, cap, cur, e, hB, hn, _⟩ := own_some h (by omega)
  cases e
  exact hn
/-- A twin. -/
def TwB (B : Nat) (w : World) (A : Option Addr) (n c : Nat) (bs : List Bool) : Prop := bs.length = n ∧ n < c ∧ n ≤ 100000 ∧ w.ownsRow B TBL 1 (.slice A (n + 1) c) (n + 1) ((bs ++ [true]).map fun b => Value.bool b)
theorem TwB.below {B : Nat} {w w' : World} {A : Option Addr} {n c : Nat} {bs : List Bool} (h : TwB B w A n c bs) (hb : Below w.heap.size w w') : TwB B w' A n c bs := ⟨h.1, h.2.1, h.2.2.1, own_below h.2.2.2 hb⟩
theorem TwB.mono {B B' : Nat} {w : World} {A : Option Addr} {n c : Nat} {bs : List Bool} (h : TwB B w A n c bs) (hB : B' ≤ B) : TwB B' w A n c bs := ⟨h.1, h.2.1, h.2.2.1, own_monoT h.2.2.2 hB⟩
theorem TwB.cell {B : Nat} {w : World} {A : Option Addr} {n c : Nat} {bs : List Bool} (h : TwB B w A n c bs) : ∃ ad, A = some ad ∧ ad.block < w.heap.size ∧ (∀ (j : Nat) b, bs[j]? = some b → w.cell? (ad.add j) = some (.bool b)) ∧ w.cell? (ad.add n) = some (.bool true) := by
  obtain ⟨h1, h2, h3, h4⟩ := h
  obtain ⟨g, cap, cur, e, hB, hn, hm, hk, hs, ht⟩ := own_some h4 (by omega)
  cases e
  refine ⟨_, rfl, hk.lt, fun j b hj => ?_, ?_⟩
  · rw [add0, hk.cell]
    refine take_get ht ?_
    rw [List.getElem?_map, List.getElem?_append_left (by exact (List.getElem?_eq_some_iff.1 hj).1), hj]
    rfl
  · rw [add0, hk.cell]
    refine take_get ht ?_
    rw [List.getElem?_map, List.getElem?_append_right (by omega), h1, Nat.sub_self]
    rfl
theorem TwB.bst {B : Nat} {w : World} {A : Option Addr} {n c : Nat} {bs : List Bool} (h : TwB B w A n c bs) : Bst w (.slice A n c) bs := by
  obtain ⟨ad, e, hl, hc, _⟩ := h.cell
  obtain ⟨h1, h2, h3, _⟩ := h
  exact ⟨A, n, c, rfl, by omega, h1.symm, by omega, fun _ => ⟨ad, e, hl, hc⟩⟩
theorem mkB_room (c : Int) (m : Nat) (hc : c = m) (hm : m ≤ 1000000) (w : World) :
    (Instr.makeSlice 68 (.int .i64 0) (.int .i64 c)).run Tryz.prog w = .ok (.slice (some ⟨w.heap.size, 0, none⟩) 0 m) (w.alloc (.cells (madeCells #[.bool false] m) TBL)) := by
  subst hc
  obtain ⟨i0, hi, hz0, hz1, hz2⟩ := info_parts infoBL
  have hb' : (i0.bytes : Int) * (m : Int) ≤ 281474976710656 := by
    rw [hz2]
    omega
  have hr := run_make (P := Tryz.prog) w 68 TBL i0 (.bool false) (by kernel_rfl) hi hz0 .i64 .i64 0 (m : Int) (by omega) (by omega) hb' (by omega)
  rw [hr, hz1]
  simp only [Int.toNat_natCast, Nat.mul_one]
  rfl
set_option maxHeartbeats 2000000 in
theorem twinBools_ok {w : World} {v : Value} {bs : List Bool} {n : Nat} (hn : bs.length = n) (h : Bst w v bs) (hl : n ≤ 100000) :
    Calls Tryz.prog 158 #[v] w fun e w' => ∃ X c, e = .returned (.slice X n c) ∧ Below w.heap.size w w' ∧ TwB w.heap.size w' X n c bs := by
  refine opq fun R hR => ?_
  obtain ⟨A, c, rfl⟩ := h.sl
  rw [hn] at h ⊢
  replace hn := hide hn
  have L := hide h
  clear h
  have hmk := mkB_room ((n : Int) + 1) (n + 1) (by omega) (by omega)
  go_enter Tryz.func158, Tryz.ntmps158
  go_wp2
  clear hmk
  have r0 : Hid ((w.alloc (.cells (madeCells #[.bool false] (n + 1)) TBL)).ownsRow w.heap.size TBL 1 (.slice (some ⟨w.heap.size, 0, none⟩) 0 (n + 1)) 0 ((bs.take 0).map fun b => Value.bool b)) :=
    ⟨rfl, .inr ⟨w.heap.size, n + 1, _, rfl, Nat.le_refl _, (Blk.new w TBL _).eq, Nat.zero_le _, (by simp [maxLen]; omega), (by rw [size_madeCells, Nat.mul_one]), by simp⟩⟩
  have b0 := hide ((Below.refl w.heap.size w).alloc (Nat.le_refl _) (.cells (madeCells #[.bool false] (n + 1)) TBL))
  go_loopw [3, 4] (fun tv iv wr => ∃ (i : Nat) (T : Option Addr) (cT : Nat), i ≤ n ∧ iv = .int .i64 (i : Nat) ∧ tv = .slice T i cT ∧ Hid (Below w.heap.size w wr) ∧ Hid (wr.ownsRow w.heap.size TBL 1 (.slice T i cT) i ((bs.take i).map fun b => Value.bool b))) (fun _ iv _ => n - (intOf iv).toNat)
  case atStart => exact ⟨0, _, _, by omega, rfl, rfl, b0, r0⟩
  case round =>
    clear b0 r0
    obtain ⟨i, T, cT, hi, rfl, rfl, b0, row⟩ := hrel
    by_cases hlt : i < n
    · obtain ⟨x, hx⟩ : ∃ x, bs[i]? = some x := ⟨_, List.getElem?_eq_getElem (by rw [hn.out]; exact hlt)⟩
      obtain ⟨ad, rfl, x0⟩ := (L.out.below b0.out).at_ hx
      have hT := hide (show (bs.take (i + 1)).map (fun b => Value.bool b) = (bs.take i).map (fun b => Value.bool b) ++ [.bool x] by
        rw [List.take_add_one, hx, List.map_append]; rfl)
      have yy : Below wr.heap.size wr (wr.alloc (.cells #[.bool x] TBL)) := (Below.refl _ _).alloc (Nat.le_refl _) _
      have K := hide (Blk.new wr TBL #[.bool x])
      have g2 := hide (own_below row.out yy)
      have b2 := hide (below_tr b0.out yy)
      have hb2 : Hid (w.heap.size ≤ (wr.alloc (.cells #[.bool x] TBL)).heap.size) := b2.out.size
      clear yy row b0 hx
      go_wp2_with (at_builtin; refine wpList_appv (P := Tryz.prog) (t := 68) (e := TBL) (z := .bool false) (size := 1) (b := 1) (by kernel_rfl) infoBL rfl (by omega) _ rfl _ _ rfl w.heap.size i _ ((bs.take i).map fun b => Value.bool b) rfl g2.out ⟨wr.heap.size, 0, none⟩ 1 1 [.bool x] rfl rfl (fun j u hj => by rw [add0, K.out.cell]; simpa using hj) (fun u hu => by simp at hu; subst hu; rfl) (by omega) (by omega) hb2.out ?_; intro v' w3 q1 q2)
      obtain ⟨T2, cT2, e2⟩ := own_slice q1.out
      subst e2
      go_roundw
      case rel =>
        refine ⟨i + 1, T2, cT2, by omega, by go_num, rfl, b2.out.trans ((Below.refl _ _).grown q2.out hb2.out (fun k e => (own_rowT g2.out k e).1)), ?_⟩
        rw [hT.out]
        exact q1.out
      case measure => simp [intOf]; omega
    · obtain rfl : i = n := by omega
      rw [List.take_of_length_le (by rw [hn.out]; exact Nat.le_refl _)] at row
      have yy : Below wr.heap.size wr (wr.alloc (.cells #[.bool true] TBL)) := (Below.refl _ _).alloc (Nat.le_refl _) _
      have K := hide (Blk.new wr TBL #[.bool true])
      have g2 := hide (own_below row.out yy)
      have b2 := hide (below_tr b0.out yy)
      have hb2 : Hid (w.heap.size ≤ (wr.alloc (.cells #[.bool true] TBL)).heap.size) := b2.out.size
      clear yy row b0
      go_wp2_with (at_builtin; refine wpList_appv (P := Tryz.prog) (t := 68) (e := TBL) (z := .bool false) (size := 1) (b := 1) (by kernel_rfl) infoBL rfl (by omega) _ rfl _ _ rfl w.heap.size i _ (bs.map fun b => Value.bool b) rfl g2.out ⟨wr.heap.size, 0, none⟩ 1 1 [.bool true] rfl rfl (fun j u hj => by rw [add0, K.out.cell]; simpa using hj) (fun u hu => by simp at hu; subst hu; rfl) (by omega) (by omega) hb2.out ?_; intro v' w3 q1 q2; obtain ⟨T2, cT2, e2⟩ := own_slice q1.out; subst e2; have hc2 : i < cT2 := own_cap q1.out)
      have b3 := hide (b2.out.trans ((Below.refl _ _).grown q2.out hb2.out (fun k e => (own_rowT g2.out k e).1)))
      have TB : Hid (TwB w.heap.size w3 T2 i cT2 bs) := ⟨hn.out, hc2, hl, by rw [List.map_append]; exact q1.out⟩
      go_wp2
      exact opq_end hR ⟨T2, cT2, rfl, b3.out, TB.out⟩
set_option maxHeartbeats 2000000 in
theorem leftBools_ok {B : Nat} {w : World} {X0 : Option Addr} {n c : Nat} {v : Value} {bs : List Bool} (h : TwB B w X0 n c bs) (h' : Bst w v bs) :
    Calls Tryz.prog 163 #[.slice X0 n c, v] w fun e w' => ∃ u, e = .returned u ∧ Below w.heap.size w w' ∧ u = .bool true := by
  refine opq fun R hR => ?_
  obtain ⟨A', c', rfl⟩ := h'.sl
  have hle := h.1
  have hlc := h.2.1
  have hbd := h.2.2.1
  rw [hle] at h' ⊢
  obtain ⟨ad, rfl, _, hcell, m0⟩ := h.cell
  replace hcell := hide hcell
  replace m0 := hide m0
  replace hle := hide hle
  have M := hide h'
  clear h h'
  have hc1 : ¬ ((c : Int) ≤ (n : Int)) := by omega
  go_enter Tryz.func163, Tryz.ntmps163
  go_wp2
  go_loopw [5] (fun iv wr => ∃ (i : Nat), i ≤ n ∧ iv = .int .i64 (i : Nat) ∧ Hid (Below w.heap.size w wr)) (fun iv _ => n - (intOf iv).toNat)
  case atStart => exact ⟨0, by omega, rfl, Below.refl _ _⟩
  case round =>
    obtain ⟨i, hi, rfl, b0⟩ := hrel
    by_cases hlt : i < n
    · obtain ⟨x, hx⟩ : ∃ x, bs[i]? = some x := ⟨_, List.getElem?_eq_getElem (by rw [hle.out]; exact hlt)⟩
      have P0 := hide (cell_below b0.out (hcell.out i x hx))
      obtain ⟨ad2, rfl, y0⟩ := (M.out.below b0.out).at_ hx
      have Q0 := hide y0
      clear y0 hx
      have hlt2 : ¬ ((n : Int) ≤ (i : Int)) := by omega
      go_wp2
      refine wp_region_facts 9 (fun w' => Below wr.heap.size wr w') [(25, .eq (.slice (some ad) n c)), (26, .eq (.int .i64 (i : Nat))), (27, .eq ((.pointer (some (ad.add i)) : Value))), (28, .eq (.bool x)), (29, .eq (.slice (some ad2) n c')), (30, .eq (.int .i64 (i : Nat))), (31, .eq ((.pointer (some (ad2.add i)) : Value))), (32, .eq (.bool x)), (33, .eq (.bool false))] [false, false, false, false, false, false, false, false, false, false, false, false, false, false, false, false, false, false, false, false, false, false, false, false, false, true, true, true, true, true, true, true, true, true, false, false, false, false, false, false, false, false, false, false] mixed (by kernel_rfl) (by kernel_rfl) (by kernel_rfl) (fun _ _ h hb => h.trans (hb.mono h.size)) ((Below.refl _ _).drew) ⟨?_, ?_, ?_, ?_, ?_, ?_, ?_, ?_, ?_, trivial⟩ ?_
      · exact .moveC (.inl rfl) (.inl rfl) rfl (fun a w' hC hs => (hs 0 (by kernel_rfl)))
      · exact .moveC (.inl rfl) (.inl rfl) rfl (fun a w' hC hs => (hs 5 (by kernel_rfl)))
      · exact .value (.inl rfl) (by intro T e; cases e) rfl rfl (fun a w' hC hs hl => by
          have e0 : a.eval (.tmp 25) = (.slice (some ad) n c) := (hl 25 (by kernel_rfl) (by kernel_rfl))
          have e1 : a.eval (.tmp 26) = (.int .i64 (i : Nat)) := (hl 26 (by kernel_rfl) (by kernel_rfl))
          simp only [execOp, e0, e1]
          simp [go_sem, hlt2])
      · exact .load (.bool x) (.inl rfl) rfl rfl (fun a w' hC hs hl => by rw [show a.eval (.tmp 27) = (.pointer (some (ad.add i)) : Value) from (hl 27 (by kernel_rfl) (by kernel_rfl))]; exact ⟨by simp [go_sem, cell_below hC P0.out], rfl⟩)
      · exact .moveC (.inl rfl) (.inl rfl) rfl (fun a w' hC hs => (hs 1 (by kernel_rfl)))
      · exact .moveC (.inl rfl) (.inl rfl) rfl (fun a w' hC hs => (hs 5 (by kernel_rfl)))
      · exact .value (.inl rfl) (by intro T e; cases e) rfl rfl (fun a w' hC hs hl => by
          have e0 : a.eval (.tmp 29) = (.slice (some ad2) n c') := (hl 29 (by kernel_rfl) (by kernel_rfl))
          have e1 : a.eval (.tmp 30) = (.int .i64 (i : Nat)) := (hl 30 (by kernel_rfl) (by kernel_rfl))
          simp only [execOp, e0, e1]
          simp [go_sem, hlt2])
      · exact .load (.bool x) (.inl rfl) rfl rfl (fun a w' hC hs hl => by rw [show a.eval (.tmp 31) = (.pointer (some (ad2.add i)) : Value) from (hl 31 (by kernel_rfl) (by kernel_rfl))]; exact ⟨by simp [go_sem, cell_below hC Q0.out], rfl⟩)
      · exact .value (.inl rfl) (by intro T e; cases e) rfl rfl (fun a w' hC hs hl => by
          have e0 : a.eval (.tmp 28) = (.bool x) := (hl 28 (by kernel_rfl) (by kernel_rfl))
          have e1 : a.eval (.tmp 32) = (.bool x) := (hl 32 (by kernel_rfl) (by kernel_rfl))
          simp only [execOp, e0, e1]
          skip
          simp [go_sem, bne_self_eq_false])
      · intro f wz hC hF _
        have fz : f 33 = .bool false := hF 33 (by kernel_rfl)
        clear hF
        simp only [patch, List.drop]
        rw [fz]
        clear fz
        try change wpList _ _ _ [] _ _
        generalize f 25 = y25_
        generalize f 26 = y26_
        generalize f 27 = y27_
        generalize f 28 = y28_
        generalize f 29 = y29_
        generalize f 30 = y30_
        generalize f 31 = y31_
        generalize f 32 = y32_
        have b0' := hide (below_tr b0.out hC)
        clear hC P0 Q0 hlt2
        go_wp2
        go_roundw
        case rel => exact ⟨i + 1, by omega, by go_num, b0'⟩
        case measure => simp [intOf]; omega
    · obtain rfl : i = n := by omega
      have M0 := cell_below b0.out m0.out
      go_wp2
      exact opq_end hR ⟨_, rfl, b0.out, rfl⟩
end Go.Proofs.YtkefmeddnncacaaGreatDoor

/- norms: words; what comes in; how large; a norm's twin, and what is left of it. -/
set_option linter.unusedVariables false
set_option linter.unusedSimpArgs false
set_option maxRecDepth 100000
namespace Go.Proofs.YtkefmeddnncacaaGreatDoor
open Go.ChangeShapes Go.WideShapes Go.ChangeAt Go.RowKit Go.Joins

/-- A norm, as it is told. -/
structure RN where
  left : List (List Raw)
  right : List Raw
  goal : List Raw
  whole : List Bool
/-- A norm that came in. -/
structure NRw (w : World) (AL : Option Addr) (nL cL : Nat) (AR : Option Addr) (nR cR : Nat) (AG : Option Addr) (nG cG : Nat) (AW : Option Addr) (nW cW : Nat) (N : RN) : Prop where
  l : Gst RRw w (.slice AL nL cL) N.left
  r : Lst RRw w (.slice AR nR cR) N.right
  g : Lst RRw w (.slice AG nG cG) N.goal
  b : Bst w (.slice AW nW cW) N.whole
/-- A norm whose fractions are told, and not too long. -/
structure NSt (w : World) (AL : Option Addr) (nL cL : Nat) (AR : Option Addr) (nR cR : Nat) (AG : Option Addr) (nG cG : Nat) (AW : Option Addr) (nW cW : Nat) (N : RN) : Prop where
  l : Gst RRaw w (.slice AL nL cL) N.left
  la : Gst RArg w (.slice AL nL cL) (N.left.map fun es => es.map rvE)
  r : Lst RRaw w (.slice AR nR cR) N.right
  ra : Lst RArg w (.slice AR nR cR) (N.right.map rvE)
  g : Lst RRaw w (.slice AG nG cG) N.goal
  b : Bst w (.slice AW nW cW) N.whole
/-- A twin. -/
structure NTw (B : Nat) (w : World) (AL : Option Addr) (nL cL : Nat) (AR : Option Addr) (nR cR : Nat) (AG : Option Addr) (nG cG : Nat) (AW : Option Addr) (nW cW : Nat) (N : RN) : Prop where
  l : TwG B w (.slice AL nL cL) N.left
  r : ∃ us, TwL B w AR nR cR us N.right
  g : ∃ us, TwL B w AG nG cG us N.goal
  b : TwB B w AW nW cW N.whole
section
variable {w w' : World} {AL : Option Addr} {nL cL : Nat} {AR : Option Addr} {nR cR : Nat} {AG : Option Addr} {nG cG : Nat} {AW : Option Addr} {nW cW : Nat} {N : RN} {B : Nat}
theorem NRw.below (h : NRw w AL nL cL AR nR cR AG nG cG AW nW cW N) (k : Below w.heap.size w w') : NRw w' AL nL cL AR nR cR AG nG cG AW nW cW N := ⟨h.l.rw_below k, h.r.rw_below k, h.g.rw_below k, h.b.below k⟩
theorem NSt.below (h : NSt w AL nL cL AR nR cR AG nG cG AW nW cW N) (k : Below w.heap.size w w') : NSt w' AL nL cL AR nR cR AG nG cG AW nW cW N := ⟨h.l.raw_below k, h.la.arg_below k, h.r.raw_below k, h.ra.arg_below k, h.g.raw_below k, h.b.below k⟩
theorem NTw.below (h : NTw B w AL nL cL AR nR cR AG nG cG AW nW cW N) (k : Below w.heap.size w w') : NTw B w' AL nL cL AR nR cR AG nG cG AW nW cW N := ⟨h.l.below k, by
    obtain ⟨us, x⟩ := h.r
    exact ⟨us, x.below k⟩, by
    obtain ⟨us, x⟩ := h.g
    exact ⟨us, x.below k⟩, h.b.below k⟩
theorem NSt.lens (h : NSt w AL nL cL AR nR cR AG nG cG AW nW cW N) : N.left.length = nL ∧ N.right.length = nR ∧ N.goal.length = nG ∧ N.whole.length = nW := ⟨h.l.len, h.r.len, h.g.len, h.b.len⟩
theorem NTw.st (h : NTw B w AL nL cL AR nR cR AG nG cG AW nW cW N) (hn : N.left.length ≤ 1000000) : NSt w AL nL cL AR nR cR AG nG cG AW nW cW N := by
  obtain ⟨us, x⟩ := h.r
  obtain ⟨vs, y⟩ := h.g
  exact ⟨h.l.raw hn, h.l.argl hn, x.lst, x.argl, y.lst, h.b.bst⟩
end
theorem TwL.keepN {w : World} {B : Nat} {A : Option Addr} {n c : Nat} {us : List Value} {es : List Raw} {w' : World} (h : TwL B w A n c us es) (k : ∀ t, t ≠ 70 → ∀ g cs, Blk w g t cs → Blk w' g t cs) : TwL B w' A n c us es := by
  obtain ⟨q, d, cs, h1, h2, h3⟩ := h.row
  exact ⟨h.lu, h.le, h.lt, h.bd, ⟨q, d, cs, h1.keep fun g cs _ hk => k TR (by decide) g cs hk, k T32 (by decide) _ _ h2, h3⟩, fun j e he => by
    obtain ⟨u, hu, hE⟩ := h.els j e he
    exact ⟨u, hu, hE.keepB fun g cs hk => k T32 (by decide) g cs hk⟩, h.ap⟩
theorem own_keepS {t : TypeId} {size : Nat} {w w' : World} {B n : Nat} {v : Value} {xs : List Value} (h : w.ownsRow B t size v n xs) (k : ∀ r cs, Blk w r t cs → Blk w' r t cs) : w'.ownsRow B t size v n xs := by
  refine ⟨h.1, ?_⟩
  rcases h.2 with e | ⟨r, cap, cur, e, hB, hh, rest⟩
  · exact .inl e
  · exact .inr ⟨r, cap, cur, e, hB, (k r cur ⟨hh⟩).eq, rest⟩
theorem TwG.keepN {w : World} {B : Nat} {v : Value} {ess : List (List Raw)} {w' : World} (h : TwG B w v ess) (k : ∀ t, t ≠ 70 → ∀ g cs, Blk w g t cs → Blk w' g t cs) : TwG B w' v ess := by
  obtain ⟨us, h1, h2, h3⟩ := h
  exact ⟨us, h1, own_keepS h2 fun r cs hk => k TRs (by decide) r cs hk, fun j es he => by
    obtain ⟨X, cx, vs, hu, hT⟩ := h3 j es he
    exact ⟨X, cx, vs, hu, hT.keepN k⟩⟩
theorem TwB.keepN {w : World} {B : Nat} {A : Option Addr} {n c : Nat} {bs : List Bool} {w' : World} (h : TwB B w A n c bs) (k : ∀ t, t ≠ 70 → ∀ g cs, Blk w g t cs → Blk w' g t cs) : TwB B w' A n c bs := ⟨h.1, h.2.1, h.2.2.1, own_keepS h.2.2.2 fun r cs hk => k TBL (by decide) r cs hk⟩
/-- How large a norm is. -/
def nsz (N : RN) : Nat := 1 + (N.left.length + gsz N.left) + (N.right.length + tsz N.right) + (N.goal.length + tsz N.goal) + N.whole.length
theorem tsz_gsz {ess : List (List Raw)} {es : List Raw} (h : es ∈ ess) {k : Nat} (hk : gsz ess ≤ k) : es.length ≤ k ∧ tsz es ≤ k := by
  have := gsz_mem h
  omega
theorem smE_k {es : List Raw} (hl : tsz es ≤ 100000) : ∀ e ∈ es, SmE e := fun e he => by
  have := Nat.le_trans (tsz_mem he) hl
  unfold rsz at this
  exact ⟨by omega, by omega⟩
theorem Gst.rawW {w : World} {v : Value} {ess : List (List Raw)} (h : Gst RRw w v ess) (k : Nat) (hl : gsz ess ≤ k) (hk : k ≤ 1000000) : Gst RRaw w v ess ∧ Gst RArg w v (ess.map fun es => es.map rvE) := by
  constructor
  · have := h.imp (F := RRaw) id fun qs hq u q hm hu => (hu.raw (Nat.le_trans (tsz_mem hm) (Nat.le_trans (tsz_gsz hq hl).2 hk))).1
    simpa using this
  · exact h.imp rvE fun qs hq u q hm hu => hu.arg (Nat.le_trans (tsz_mem hm) (Nat.le_trans (tsz_gsz hq hl).2 hk))
theorem NRw.st {w : World} {AL : Option Addr} {nL cL : Nat} {AR : Option Addr} {nR cR : Nat} {AG : Option Addr} {nG cG : Nat} {AW : Option Addr} {nW cW : Nat} {N : RN} (h : NRw w AL nL cL AR nR cR AG nG cG AW nW cW N) (hs : nsz N ≤ 3000) : NSt w AL nL cL AR nR cR AG nG cG AW nW cW N := by
  unfold nsz at hs
  have x := h.l.rawW 3000 (by omega) (by decide)
  exact ⟨x.1, x.2, (h.r.rawW 3000 (by omega) (by decide)).1, h.r.argW 3000 (by omega) (by decide), (h.g.rawW 3000 (by omega) (by decide)).1, h.b⟩
theorem array4 {a : Array Value} (h : a.size = 4) : ∃ x0 x1 x2 x3, a = #[x0, x1, x2, x3] := by
  obtain ⟨l⟩ := a
  match l, h with
  | [a, b, c, d], _ => exact ⟨a, b, c, d, rfl⟩
/-- A norm that came in. -/
theorem open_norm {H : Type} {enc : TypeId × Value → H} {W : World} {base : Nat} {v : Value} {d : DataW H} {ps : List MemPlace}
    (hval : Value.okWide Tryz.prog W .any base 70 v) (h : DataW.Trod enc Tryz.prog W 0 (fun _ => true) true 70 v d ps) (hz : (DataW.weights Tryz.prog 70 d).all (· ≤ reachBytes) = true) :
    ∃ AL nL cL AR nR cR AG nG cG AW nW cW N, v = .agg #[.slice AL nL cL, .slice AR nR cR, .slice AG nG cG, .slice AW nW cW] ∧ NRw W AL nL cL AR nR cR AG nG cG AW nW cW N := by
  obtain ⟨cs, rfl, hsz⟩ := okWide_struct Tryz.underlying70 hval
  obtain ⟨x0, x1, x2, x3, rfl⟩ := array4 (hsz.trans (by kernel_rfl))
  obtain ⟨fuel, hf⟩ := h
  obtain ⟨xs, n, _, hx, hl, hlen, hfs⟩ := DataW.trod_struct Tryz.underlying70 hf
  match xs, hlen with
  | [y0, y1, y2, y3], _ =>
    simp only [Prod.mk.injEq] at hx
    obtain ⟨rfl, rfl⟩ := hx
    have hz' := hz
    simp only [DataW.weights, Tryz.underlying70, DataW.weightsEach, List.map_cons, List.map_nil, List.append_nil, List.all_append, Bool.and_eq_true] at hz'
    obtain ⟨z0, z1, z2, z3⟩ := hz'
    have h0 : DataW.trod enc Tryz.prog W 0 (fun _ => true) true n 67 [x0] = some y0 := hfs 0 _ rfl
    have h1 : DataW.trod enc Tryz.prog W 0 (fun _ => true) true n 56 [x1] = some y1 := hfs 1 _ rfl
    have h2 : DataW.trod enc Tryz.prog W 0 (fun _ => true) true n 56 [x2] = some y2 := hfs 2 _ rfl
    have h3 : DataW.trod enc Tryz.prog W 0 (fun _ => true) true n 68 [x3] = some y3 := hfs 3 _ rfl
    obtain ⟨AL, nL, cL, es0, rfl, L0⟩ := open_gridF (by kernel_rfl) h0 z0
    obtain ⟨AR, nR, cR, es1, rfl, L1⟩ := open_ratsF (by kernel_rfl) h1 z1
    obtain ⟨AG, nG, cG, es2, rfl, L2⟩ := open_ratsF (by kernel_rfl) h2 z2
    obtain ⟨AW, nW, cW, es3, rfl, L3⟩ := open_boolsF (by kernel_rfl) h3 (by simpa using z3)
    exact ⟨AL, nL, cL, AR, nR, cR, AG, nG, cG, AW, nW, cW, ⟨es0, es1, es2, es3⟩, rfl, ⟨L0, L1, L2, L3⟩⟩
theorem BoolsSize_ok (w : World) (A : Option Addr) (n c : Nat) : Calls Tryz.prog 156 #[.slice A n c] w fun e w' => e = .returned (.int .i64 (n : Nat)) ∧ Below w.heap.size w w' := by
  refine opq fun R hR => ?_
  go_enter Tryz.func156, Tryz.ntmps156
  go_wp2
  exact opq_end hR ⟨rfl, Below.refl _ _⟩
set_option maxHeartbeats 2000000 in
theorem NormSize_ok {w : World} {AL : Option Addr} {nL cL : Nat} {AR : Option Addr} {nR cR : Nat} {AG : Option Addr} {nG cG : Nat} {AW : Option Addr} {nW cW : Nat} {N : RN} (h : NRw w AL nL cL AR nR cR AG nG cG AW nW cW N) :
    Calls Tryz.prog 42 #[.agg #[.slice AL nL cL, .slice AR nR cR, .slice AG nG cG, .slice AW nW cW]] w fun e w' => ∃ r : Nat, e = .returned (.int .i64 (r : Int)) ∧ Cnt r (nsz N) ∧ Below w.heap.size w w' := by
  refine opq fun R hR => ?_
  have lL := h.l.len
  have lR := h.r.len
  have lG := h.g.len
  have lW := h.b.len
  have bW : nW ≤ 140737488355328 := by rw [← lW]; exact h.b.le_
  have hN : Hid (nsz N = 1 + (nL + gsz N.left) + (nR + tsz N.right) + (nG + tsz N.goal) + nW) := by
    show _ = _
    rw [nsz, lL, lR, lG, lW]
  clear lL lR lG lW
  replace h := hide h
  have K := hide (Blk.new w 70 #[.slice AL nL cL, .slice AR nR cR, .slice AG nG cG, .slice AW nW cW])
  have b0 := hide ((Below.refl w.heap.size w).alloc (Nat.le_refl _) (.cells #[.slice AL nL cL, .slice AR nR cR, .slice AG nG cG, .slice AW nW cW] 70))
  have c0 := K.out.at_ 0 rfl
  go_enter Tryz.func42, Tryz.ntmps42
  go_wp2_with fail
  refine (GridSize_ok _ AL nL cL N.left (h.out.l.rw_below b0.out)).mono ?_
  rintro e w1 ⟨r1, rfl, q1, s1, d0⟩
  replace K := hide (K.out.below' d0)
  replace b0 := hide (below_tr b0.out d0)
  clear d0 c0
  obtain ⟨y1, hy1, t1⟩ : ∃ y : Nat, (1 : Int) + (r1 : Int) = (y : Nat) ∧ y = 1 + r1 := ⟨1 + r1, by omega, rfl⟩
  have C1 : Hid (Cnt y1 (1 + (nL + gsz N.left))) := ⟨by have := q1.1; omega, by have := q1.2; omega⟩
  have v1 : y1 ≤ 1000000000000001 := by omega
  clear q1 s1 t1
  by_cases g1 : y1 ≤ 1048576
  · have c1 := K.out.at_ 1 rfl
    go_wp2_with fail
    refine (RatsSize_any _ AR nR cR N.right (h.out.r.rw_below b0.out)).mono ?_
    rintro e w2 ⟨r2, rfl, q2, s2, d0⟩
    replace K := hide (K.out.below' d0)
    replace b0 := hide (below_tr b0.out d0)
    clear d0 c1
    obtain ⟨y2, hy2, t2⟩ : ∃ y : Nat, (y1 : Int) + (r2 : Int) = (y : Nat) ∧ y = y1 + r2 := ⟨y1 + r2, by omega, rfl⟩
    have C2 : Hid (Cnt y2 (1 + (nL + gsz N.left) + (nR + tsz N.right))) := ⟨by have := q2.1; have := C1.out.1; omega, by have := q2.2; have := C1.out.2; omega⟩
    have v2 : y2 ≤ 2000000000000001 := by omega
    clear q2 s2 t2
    by_cases g2 : y2 ≤ 1048576
    · have c2 := K.out.at_ 2 rfl
      go_wp2_with fail
      refine (RatsSize_any _ AG nG cG N.goal (h.out.g.rw_below b0.out)).mono ?_
      rintro e w3 ⟨r3, rfl, q3, s3, d0⟩
      replace K := hide (K.out.below' d0)
      replace b0 := hide (below_tr b0.out d0)
      clear d0 c2
      obtain ⟨y3, hy3, t3⟩ : ∃ y : Nat, (y2 : Int) + (r3 : Int) = (y : Nat) ∧ y = y2 + r3 := ⟨y2 + r3, by omega, rfl⟩
      have C3 : Hid (Cnt y3 (1 + (nL + gsz N.left) + (nR + tsz N.right) + (nG + tsz N.goal))) := ⟨by have := q3.1; have := C2.out.1; omega, by have := q3.2; have := C2.out.2; omega⟩
      have v3 : y3 ≤ 3000000000000001 := by omega
      clear q3 s3 t3
      by_cases g3 : y3 ≤ 1048576
      · have c3 := K.out.at_ 3 rfl
        go_wp2_with fail
        refine (BoolsSize_ok _ AW nW cW).mono ?_
        rintro e w4 ⟨rfl, d0⟩
        replace b0 := hide (below_tr b0.out d0)
        clear d0 c3
        obtain ⟨y4, hy4, t4⟩ : ∃ y : Nat, (y3 : Int) + (nW : Int) = (y : Nat) ∧ y = y3 + nW := ⟨y3 + nW, by omega, rfl⟩
        have C4 : Hid (Cnt y4 (nsz N)) := by
          show Cnt _ _
          rw [hN.out]
          exact ⟨by have := C3.out.1; omega, by have := C3.out.2; omega⟩
        clear t4
        go_wp2
        exact opq_end hR ⟨y4, rfl, C4.out, b0.out⟩
      · have C4 : Hid (Cnt y3 (nsz N)) := by
          show Cnt _ _
          rw [hN.out]
          exact ⟨by have := C3.out.1; omega, .inr (by omega)⟩
        go_wp2
        exact opq_end hR ⟨y3, rfl, C4.out, b0.out⟩
    · have C4 : Hid (Cnt y2 (nsz N)) := by
        show Cnt _ _
        rw [hN.out]
        exact ⟨by have := C2.out.1; omega, .inr (by omega)⟩
      go_wp2
      exact opq_end hR ⟨y2, rfl, C4.out, b0.out⟩
  · have C4 : Hid (Cnt y1 (nsz N)) := by
      show Cnt _ _
      rw [hN.out]
      exact ⟨by have := C1.out.1; omega, .inr (by omega)⟩
    go_wp2
    exact opq_end hR ⟨y1, rfl, C4.out, b0.out⟩
def Fact.twG (ess : List (List Raw)) (n B : Nat) : Fact := ⟨fun v w => ∃ A c, v = .slice A n c ∧ TwG B w (.slice A n c) ess, fun _ _ _ ⟨A, c, h1, h2⟩ hb => ⟨A, c, h1, h2.below hb⟩⟩
def Fact.twL (es : List Raw) (n B : Nat) : Fact := ⟨fun v w => ∃ A c us, v = .slice A n c ∧ TwL B w A n c us es, fun _ _ _ ⟨A, c, us, h1, h2⟩ hb => ⟨A, c, us, h1, h2.below hb⟩⟩
def Fact.twB (bs : List Bool) (n B : Nat) : Fact := ⟨fun v w => ∃ A c, v = .slice A n c ∧ TwB B w A n c bs, fun _ _ _ ⟨A, c, h1, h2⟩ hb => ⟨A, c, h1, h2.below hb⟩⟩
theorem tw_g {w : World} {v : Value} {ess : List (List Raw)} {n B : Nat} (hn : ess.length = n) (h : Gst RRaw w v ess) (hl : n ≤ 1000000) (hs : ∀ es ∈ ess, es.length ≤ 100000 ∧ ∀ e ∈ es, SmE e) (hB : B ≤ w.heap.size) :
    Calls Tryz.prog 53 #[v] w fun e w' => ∃ u, e = .returned u ∧ Below w.heap.size w w' ∧ (Fact.twG ess n B).holds u w' :=
  (twinGrid_ok h (by omega) hs).mono fun e w' ⟨u, h1, h2, h3⟩ => by
    obtain ⟨A, c, rfl⟩ := h3.sl
    rw [hn] at h1 h3
    exact ⟨_, h1, h2, A, c, rfl, h3.mono hB⟩
theorem tw_l {w : World} {v : Value} {es : List Raw} {n B : Nat} (hn : es.length = n) (h : Lst RRaw w v es) (hl : n ≤ 100000) (hs : ∀ e ∈ es, SmE e) (hB : B ≤ w.heap.size) :
    Calls Tryz.prog 28 #[v] w fun e w' => ∃ u, e = .returned u ∧ Below w.heap.size w w' ∧ (Fact.twL es n B).holds u w' :=
  (twinRats_n hn h hl hs).mono fun e w' ⟨X, c, us, h1, h2, h3⟩ => ⟨_, h1, h2, X, c, us, rfl, h3.mono hB⟩
theorem tw_b {w : World} {v : Value} {bs : List Bool} {n B : Nat} (hn : bs.length = n) (h : Bst w v bs) (hl : n ≤ 100000) (hB : B ≤ w.heap.size) :
    Calls Tryz.prog 158 #[v] w fun e w' => ∃ u, e = .returned u ∧ Below w.heap.size w w' ∧ (Fact.twB bs n B).holds u w' :=
  (twinBools_ok hn h hl).mono fun e w' ⟨X, c, h1, h2, h3⟩ => ⟨_, h1, h2, X, c, rfl, h3.mono hB⟩
theorem fgf_assayerlaw01_TwinBools (args : Array Value) (w : World) : (callFunc 158 args).run Tryz.prog w = .ok (.enter 158 args) w := callFunc_enter Tryz.func158 (by kernel_rfl) rfl args w
theorem fgf_assayerlaw01_TwinGrid (args : Array Value) (w : World) : (callFunc 53 args).run Tryz.prog w = .ok (.enter 53 args) w := callFunc_enter Tryz.func53 (by kernel_rfl) rfl args w
theorem fgf_assayerlaw01_TwinRats (args : Array Value) (w : World) : (callFunc 28 args).run Tryz.prog w = .ok (.enter 28 args) w := callFunc_enter Tryz.func28 (by kernel_rfl) rfl args w
set_option maxHeartbeats 4000000 in
theorem twinNorm_ok {w : World} {AL : Option Addr} {nL cL : Nat} {AR : Option Addr} {nR cR : Nat} {AG : Option Addr} {nG cG : Nat} {AW : Option Addr} {nW cW : Nat} {N : RN} (h : NSt w AL nL cL AR nR cR AG nG cG AW nW cW N) (hs : nsz N ≤ 3000) :
    Calls Tryz.prog 44 #[.agg #[.slice AL nL cL, .slice AR nR cR, .slice AG nG cG, .slice AW nW cW]] w fun e w' => ∃ XL dL XR dR XG dG XW dW, e = .returned (.agg #[.slice XL nL dL, .slice XR nR dR, .slice XG nG dG, .slice XW nW dW]) ∧ Below w.heap.size w w' ∧ NTw w.heap.size w' XL nL dL XR nR dR XG nG dG XW nW dW N := by
  refine opq fun R hR => ?_
  obtain ⟨lL, lR, lG, lW⟩ := h.lens
  unfold nsz at hs
  have hll := hide (show ∀ es ∈ N.left, es.length ≤ 100000 ∧ ∀ e ∈ es, SmE e from fun es he => ⟨Nat.le_trans (tsz_gsz he (show gsz N.left ≤ 3000 by omega)).1 (by decide), smE_k (Nat.le_trans (tsz_gsz he (show gsz N.left ≤ 3000 by omega)).2 (by decide))⟩)
  have sr := hide (smE_k (show tsz N.right ≤ 100000 by omega))
  have sg := hide (smE_k (show tsz N.goal ≤ 100000 by omega))
  have vl : Hid (nL ≤ 1000000) := (by omega : nL ≤ 1000000)
  have vr : Hid (nR ≤ 100000) := (by omega : nR ≤ 100000)
  have vg : Hid (nG ≤ 100000) := (by omega : nG ≤ 100000)
  have vw : Hid (nW ≤ 100000) := (by omega : nW ≤ 100000)
  replace lL := hide lL
  replace lR := hide lR
  replace lG := hide lG
  replace lW := hide lW
  replace h := hide h
  clear hs
  go_enter Tryz.func44, Tryz.ntmps44
  go_wp2
  obtain ⟨W1, hW, K1, K2, b0, ZW⟩ := alloc2 w #[.slice AL nL cL, .slice AR nR cR, .slice AG nG cG, .slice AW nW cW] #[.slice none 0 0, .slice none 0 0, .slice none 0 0, .slice none 0 0] 70 70
  rw [hW]
  clear hW ZW
  have P0 : Hid (W1.cell? ⟨w.heap.size, 0, none⟩ = some (.slice AL nL cL)) := K1.out.at_ 0 rfl
  have P1 : Hid (W1.cell? ⟨w.heap.size, 1, none⟩ = some (.slice AR nR cR)) := K1.out.at_ 1 rfl
  have P2 : Hid (W1.cell? ⟨w.heap.size, 2, none⟩ = some (.slice AG nG cG)) := K1.out.at_ 2 rfl
  have P3 : Hid (W1.cell? ⟨w.heap.size, 3, none⟩ = some (.slice AW nW cW)) := K1.out.at_ 3 rfl
  refine wp_region_facts 12 (fun w' => Below W1.heap.size W1 w') [(3, .eq ((.pointer (some ⟨w.heap.size, 0, none⟩) : Value))), (4, .eq (.slice AL nL cL)), (5, (.twG N.left nL w.heap.size)), (6, .eq ((.pointer (some ⟨w.heap.size, 1, none⟩) : Value))), (7, .eq (.slice AR nR cR)), (8, (.twL N.right nR w.heap.size)), (9, .eq ((.pointer (some ⟨w.heap.size, 2, none⟩) : Value))), (10, .eq (.slice AG nG cG)), (11, (.twL N.goal nG w.heap.size)), (12, .eq ((.pointer (some ⟨w.heap.size, 3, none⟩) : Value))), (13, .eq (.slice AW nW cW)), (14, (.twB N.whole nW w.heap.size))] [false, false, false, true, true, true, true, true, true, true, true, true, true, true, true, false] mixed (by kernel_rfl) (by kernel_rfl) (by kernel_rfl) (fun _ _ h hb => h.trans (hb.mono h.size)) ((Below.refl _ _).drew) ⟨?_, ?_, ?_, ?_, ?_, ?_, ?_, ?_, ?_, ?_, ?_, ?_, trivial⟩ ?_
  · exact .fieldAddr (.inl rfl) rfl rfl rfl (fun a w' hC hs hl => by rw [show a.eval (.tmp 1) = (.pointer (some ⟨w.heap.size, 0, none⟩) : Value) from (hs 1 (by kernel_rfl))]; simp [go_sem])
  · exact .load (.slice AL nL cL) (.inl rfl) rfl rfl (fun a w' hC hs hl => by rw [show a.eval (.tmp 3) = (.pointer (some ⟨w.heap.size, 0, none⟩) : Value) from (hl 3 (by kernel_rfl) (by kernel_rfl))]; exact ⟨by simp [go_sem, cell_below hC P0.out], rfl⟩)
  · exact .call (.inl rfl) rfl rfl fgf_assayerlaw01_TwinGrid (fun a w' hC hs hl => by
      show Calls _ _ #[a.eval (.tmp 4)] _ _
      rw [show a.eval (.tmp 4) = (.slice AL nL cL : Value) from (hl 4 (by kernel_rfl) (by kernel_rfl))]
      exact tw_g lL.out (h.out.l.raw_below (below_tr b0.out hC)) vl.out hll.out (below_tr b0.out hC).size)
  · exact .fieldAddr (.inl rfl) rfl rfl rfl (fun a w' hC hs hl => by rw [show a.eval (.tmp 1) = (.pointer (some ⟨w.heap.size, 0, none⟩) : Value) from (hs 1 (by kernel_rfl))]; simp [go_sem])
  · exact .load (.slice AR nR cR) (.inl rfl) rfl rfl (fun a w' hC hs hl => by rw [show a.eval (.tmp 6) = (.pointer (some ⟨w.heap.size, 1, none⟩) : Value) from (hl 6 (by kernel_rfl) (by kernel_rfl))]; exact ⟨by simp [go_sem, cell_below hC P1.out], rfl⟩)
  · exact .call (.inl rfl) rfl rfl fgf_assayerlaw01_TwinRats (fun a w' hC hs hl => by
      show Calls _ _ #[a.eval (.tmp 7)] _ _
      rw [show a.eval (.tmp 7) = (.slice AR nR cR : Value) from (hl 7 (by kernel_rfl) (by kernel_rfl))]
      exact tw_l lR.out (h.out.r.raw_below (below_tr b0.out hC)) vr.out sr.out (below_tr b0.out hC).size)
  · exact .fieldAddr (.inl rfl) rfl rfl rfl (fun a w' hC hs hl => by rw [show a.eval (.tmp 1) = (.pointer (some ⟨w.heap.size, 0, none⟩) : Value) from (hs 1 (by kernel_rfl))]; simp [go_sem])
  · exact .load (.slice AG nG cG) (.inl rfl) rfl rfl (fun a w' hC hs hl => by rw [show a.eval (.tmp 9) = (.pointer (some ⟨w.heap.size, 2, none⟩) : Value) from (hl 9 (by kernel_rfl) (by kernel_rfl))]; exact ⟨by simp [go_sem, cell_below hC P2.out], rfl⟩)
  · exact .call (.inl rfl) rfl rfl fgf_assayerlaw01_TwinRats (fun a w' hC hs hl => by
      show Calls _ _ #[a.eval (.tmp 10)] _ _
      rw [show a.eval (.tmp 10) = (.slice AG nG cG : Value) from (hl 10 (by kernel_rfl) (by kernel_rfl))]
      exact tw_l lG.out (h.out.g.raw_below (below_tr b0.out hC)) vg.out sg.out (below_tr b0.out hC).size)
  · exact .fieldAddr (.inl rfl) rfl rfl rfl (fun a w' hC hs hl => by rw [show a.eval (.tmp 1) = (.pointer (some ⟨w.heap.size, 0, none⟩) : Value) from (hs 1 (by kernel_rfl))]; simp [go_sem])
  · exact .load (.slice AW nW cW) (.inl rfl) rfl rfl (fun a w' hC hs hl => by rw [show a.eval (.tmp 12) = (.pointer (some ⟨w.heap.size, 3, none⟩) : Value) from (hl 12 (by kernel_rfl) (by kernel_rfl))]; exact ⟨by simp [go_sem, cell_below hC P3.out], rfl⟩)
  · exact .call (.inl rfl) rfl rfl fgf_assayerlaw01_TwinBools (fun a w' hC hs hl => by
      show Calls _ _ #[a.eval (.tmp 13)] _ _
      rw [show a.eval (.tmp 13) = (.slice AW nW cW : Value) from (hl 13 (by kernel_rfl) (by kernel_rfl))]
      exact tw_b lW.out (h.out.b.below (below_tr b0.out hC)) vw.out (below_tr b0.out hC).size)
  · intro f wz hC hF _
    have f5 : (Fact.twG N.left nL w.heap.size).holds (f 5) wz := hF 5 (by kernel_rfl)
    have f8 : (Fact.twL N.right nR w.heap.size).holds (f 8) wz := hF 8 (by kernel_rfl)
    have f11 : (Fact.twL N.goal nG w.heap.size).holds (f 11) wz := hF 11 (by kernel_rfl)
    have f14 : (Fact.twB N.whole nW w.heap.size).holds (f 14) wz := hF 14 (by kernel_rfl)
    clear hF
    simp only [patch, List.drop]
    obtain ⟨XL, dL, e5, t5⟩ := f5
    obtain ⟨XR, dR, us8, e8, t8⟩ := f8
    obtain ⟨XG, dG, us11, e11, t11⟩ := f11
    obtain ⟨XW, dW, e14, t14⟩ := f14
    rw [e5, e8, e11, e14]
    clear e5 e8 e11 e14
    generalize f 3 = y3_
    generalize f 4 = y4_
    generalize f 6 = y6_
    generalize f 7 = y7_
    generalize f 9 = y9_
    generalize f 10 = y10_
    generalize f 12 = y12_
    generalize f 13 = y13_
    replace t5 := hide t5
    replace t8 := hide t8
    replace t11 := hide t11
    replace t14 := hide t14
    have b1 := hide (below_tr b0.out hC)
    have KB := hide (K2.out.below' hC)
    clear hC b0 K1 K2 P0 P1 P2 P3 h
    have c0 := KB.out.at_ 0 rfl
    have c1 := KB.out.at_ 1 rfl
    have c2 := KB.out.at_ 2 rfl
    have c3 := KB.out.at_ 3 rfl
    have f0 := KB.out.frozen 0
    have f1 := KB.out.frozen 1
    have f2 := KB.out.frozen 2
    have f3 := KB.out.frozen 3
    go_wp2
    have far : ∀ t, t ≠ 70 → ∀ g cs, Blk wz g t cs → Blk ((((wz.setCell ⟨w.heap.size + 1, 0, none⟩ (.slice XL nL dL)).setCell ⟨w.heap.size + 1, 1, none⟩ (.slice XR nR dR)).setCell ⟨w.heap.size + 1, 2, none⟩ (.slice XG nG dG)).setCell ⟨w.heap.size + 1, 3, none⟩ (.slice XW nW dW)) g t cs := fun t ht g cs hk => (((hk.far (p := ⟨w.heap.size + 1, 0, none⟩) (hk.type_ne KB.out ht) _).far (p := ⟨w.heap.size + 1, 1, none⟩) (hk.type_ne KB.out ht) _).far (p := ⟨w.heap.size + 1, 2, none⟩) (hk.type_ne KB.out ht) _).far (p := ⟨w.heap.size + 1, 3, none⟩) (hk.type_ne KB.out ht) _
    have NT : NTw w.heap.size ((((wz.setCell ⟨w.heap.size + 1, 0, none⟩ (.slice XL nL dL)).setCell ⟨w.heap.size + 1, 1, none⟩ (.slice XR nR dR)).setCell ⟨w.heap.size + 1, 2, none⟩ (.slice XG nG dG)).setCell ⟨w.heap.size + 1, 3, none⟩ (.slice XW nW dW)) XL nL dL XR nR dR XG nG dG XW nW dW N :=
      ⟨t5.out.keepN far, ⟨us8, t8.out.keepN far⟩, ⟨us11, t11.out.keepN far⟩, t14.out.keepN far⟩
    have bb : Below w.heap.size w ((((wz.setCell ⟨w.heap.size + 1, 0, none⟩ (.slice XL nL dL)).setCell ⟨w.heap.size + 1, 1, none⟩ (.slice XR nR dR)).setCell ⟨w.heap.size + 1, 2, none⟩ (.slice XG nG dG)).setCell ⟨w.heap.size + 1, 3, none⟩ (.slice XW nW dW)) := (((b1.out.setCell (p := ⟨w.heap.size + 1, 0, none⟩) (Nat.le_succ _) _).setCell (p := ⟨w.heap.size + 1, 1, none⟩) (Nat.le_succ _) _).setCell (p := ⟨w.heap.size + 1, 2, none⟩) (Nat.le_succ _) _).setCell (p := ⟨w.heap.size + 1, 3, none⟩) (Nat.le_succ _) _
    refine bodyPost_ret (v := .agg #[.slice XL nL dL, .slice XR nR dR, .slice XG nG dG, .slice XW nW dW]) (by simp [results, Tryz.results44, go_sem, c0, c1, c2, c3, f0, f1, f2, f3]) rfl ?_
    exact opq_end hR ⟨XL, dL, XR, dR, XG, dG, XW, dW, rfl, bb, NT⟩
set_option maxHeartbeats 2000000 in
theorem leftNorm_ok {B : Nat} {w : World} {AL : Option Addr} {nL cL : Nat} {AR : Option Addr} {nR cR : Nat} {AG : Option Addr} {nG cG : Nat} {AW : Option Addr} {nW cW : Nat} {XL : Option Addr} {dL : Nat} {XR : Option Addr} {dR : Nat} {XG : Option Addr} {dG : Nat} {XW : Option Addr} {dW : Nat} {N : RN} (h : NTw B w XL nL dL XR nR dR XG nG dG XW nW dW N) (h' : NSt w AL nL cL AR nR cR AG nG cG AW nW cW N) :
    Calls Tryz.prog 51 #[.agg #[.slice XL nL dL, .slice XR nR dR, .slice XG nG dG, .slice XW nW dW], .agg #[.slice AL nL cL, .slice AR nR cR, .slice AG nG cG, .slice AW nW cW]] w fun e w' => ∃ u, e = .returned u ∧ Below w.heap.size w w' ∧ u = .bool true := by
  refine opq fun R hR => ?_
  replace h := hide h
  replace h' := hide h'
  have b0 := hide ((Below.refl w.heap.size w).alloc (Nat.le_refl _) (.cells #[.slice XL nL dL, .slice XR nR dR, .slice XG nG dG, .slice XW nW dW] 70))
  have b1 := hide (b0.out.alloc b0.out.size (.cells #[.slice AL nL cL, .slice AR nR cR, .slice AG nG cG, .slice AW nW cW] 70))
  have K1 := hide ((Blk.new_at w w.heap.size rfl 70 #[.slice XL nL dL, .slice XR nR dR, .slice XG nG dG, .slice XW nW dW]).alloc (.cells #[.slice AL nL cL, .slice AR nR cR, .slice AG nG cG, .slice AW nW cW] 70))
  have K2 := hide (Blk.new_at (w.alloc (.cells #[.slice XL nL dL, .slice XR nR dR, .slice XG nG dG, .slice XW nW dW] 70)) (w.heap.size + 1) (by simp) 70 #[.slice AL nL cL, .slice AR nR cR, .slice AG nG cG, .slice AW nW cW])
  clear b0
  go_enter Tryz.func51, Tryz.ntmps51
  have x0 := K1.out.at_ 0 rfl
  have y0 := K2.out.at_ 0 rfl
  go_wp2_with fail
  refine (leftGrid_ok (h.out.l.below b1.out) (h'.out.l.raw_below b1.out)).mono ?_
  rintro e w1 ⟨_, rfl, d1, rfl⟩
  replace K1 := hide (K1.out.below' d1)
  replace K2 := hide (K2.out.below' d1)
  replace b1 := hide (below_tr b1.out d1)
  clear d1 x0 y0
  obtain ⟨us, hr⟩ := (h.out.below b1.out).r
  replace hr := hide hr
  have x1 := K1.out.at_ 1 rfl
  have y1 := K2.out.at_ 1 rfl
  go_wp2_with fail
  refine (leftRats_ok hr.out (h'.out.r.raw_below b1.out)).mono ?_
  rintro e w2 ⟨_, rfl, d1, rfl⟩
  replace K1 := hide (K1.out.below' d1)
  replace K2 := hide (K2.out.below' d1)
  replace b1 := hide (below_tr b1.out d1)
  clear d1 x1 y1
  clear hr
  obtain ⟨us, hr⟩ := (h.out.below b1.out).g
  replace hr := hide hr
  have x2 := K1.out.at_ 2 rfl
  have y2 := K2.out.at_ 2 rfl
  go_wp2_with fail
  refine (leftRats_ok hr.out (h'.out.g.raw_below b1.out)).mono ?_
  rintro e w3 ⟨_, rfl, d1, rfl⟩
  replace K1 := hide (K1.out.below' d1)
  replace K2 := hide (K2.out.below' d1)
  replace b1 := hide (below_tr b1.out d1)
  clear d1 x2 y2
  have x3 := K1.out.at_ 3 rfl
  have y3 := K2.out.at_ 3 rfl
  go_wp2_with fail
  refine (leftBools_ok (h.out.b.below b1.out) (h'.out.b.below b1.out)).mono ?_
  rintro e w4 ⟨_, rfl, d1, rfl⟩
  replace K1 := hide (K1.out.below' d1)
  replace K2 := hide (K2.out.below' d1)
  replace b1 := hide (below_tr b1.out d1)
  clear d1 x3 y3
  go_wp2
  exact opq_end hR ⟨_, rfl, b1.out, rfl⟩
end Go.Proofs.YtkefmeddnncacaaGreatDoor

/- norms: Check, may, Fits, Whole. -/
set_option linter.unusedVariables false
set_option linter.unusedSimpArgs false
set_option maxRecDepth 100000
namespace Go.Proofs.YtkefmeddnncacaaGreatDoor
open Go.RowKit

def rowB (k : Nat) (es : List Raw) : Bool := decide (es.length = k) && es.all rk
def lensB (N : RN) : Bool := decide (1 ≤ N.goal.length) && decide (N.goal.length ≤ 32) && decide (N.whole.length = N.goal.length) && decide (N.left.length ≤ 192) && decide (N.right.length = N.left.length)
/-- May a norm be? -/
def nok (N : RN) : Bool := lensB N && (N.goal.all rk && (N.right.all rk && N.left.all (rowB N.goal.length)))
/-- May a point of it be asked for? -/
def nmay (N : RN) (x : List Raw) : Bool := nok N && (x.all rk && decide (x.length = N.goal.length))
def fitB (x : List Raw) (p : List Raw × Raw) : Bool := decide (cmpQ (dot (p.1.map rvE) (x.map rvE)) (rvE p.2) ≤ 0)
def nfits (N : RN) (x : List Raw) : Bool := nmay N x && (N.left.zip N.right).all (fitB x)
def wholeB (p : Bool × Raw) : Bool := !p.1 || decide ((rvE p.2).den = 1)
def nwhole (N : RN) (x : List Raw) : Bool := nmay N x && (N.whole.zip x).all wholeB
abbrev nkF (g : Nat) : Value := .func (.func 160) #[] #[.pointer (some ⟨g, 0, none⟩)]
set_option maxHeartbeats 1000000 in
theorem nCheck1_ok (w : World) (A : Option Addr) (n c : Nat) (es : List Raw) (h : Lst RRaw w (.slice A n c) es) (g k : Nat) (hg : w.cell? ⟨g, 0, none⟩ = some (.int .i64 (k : Nat))) (hT : Tab w) :
    Calls Tryz.prog 160 #[.slice A n c, .pointer (some ⟨g, 0, none⟩)] w fun e' w' => e' = .returned (.bool (!(rowB k es))) ∧ Below w.heap.size w w' := by
  refine opq fun R hR => ?_
  have hl := h.len
  have L := hide h
  have T := hide hT
  clear h hT
  go_enter Tryz.func160, Tryz.ntmps160
  by_cases hk : n = k
  · have e1 : Hid (rowB k es = es.all rk) := by
      show _ = _
      unfold rowB
      rw [decide_eq_true (by rw [hl]; exact hk), Bool.true_and]
    subst hk
    replace hl := hide hl
    go_wp2_with fail
    refine (vCheck_L L.out T.out (es.all rk) rfl).mono ?_
    rintro e' w1 ⟨_, rfl, d0, rfl⟩
    replace d0 := hide d0
    clear hg
    go_wp2
    exact opq_end hR ⟨by rw [e1.out]; rfl, d0.out⟩
  · have e1 : Hid (rowB k es = false) := by
      show _ = _
      unfold rowB
      rw [decide_eq_false (by rw [hl]; exact hk), Bool.false_and]
    have hk2 : ¬ ((n : Int) = (k : Int)) := by omega
    replace hl := hide hl
    go_wp2
    exact opq_end hR ⟨by rw [e1.out]; simp, Below.refl _ _⟩
set_option maxHeartbeats 1000000 in
theorem nIndex_ok (w : World) (A : Option Addr) (n c : Nat) (ess : List (List Raw)) (h : Gst RRaw w (.slice A n c) ess) (g k : Nat) (hg : w.cell? ⟨g, 0, none⟩ = some (.int .i64 (k : Nat))) (hT : Tab w) :
    Calls Tryz.prog 262 #[.slice A n c, nkF g] w fun e w' => ∃ r : Int, e = .returned (.int .i64 r) ∧ Hid (decide (0 ≤ r) = !(ess.all (rowB k))) ∧ Hid (Below w.heap.size w w') := by
  refine opq fun R hR => ?_
  have L := hide h
  have T := hide hT
  have hq := hide h.len
  have hn : n ≤ 140737488355328 := by rw [← h.len]; exact h.le_
  replace hg := hide hg
  clear h hT
  go_enter Tryz.func262, Tryz.ntmps262
  go_wp2
  go_loopw [8] (fun iv wr => ∃ (i : Nat), i ≤ n ∧ iv = .int .i64 (i : Nat) ∧ Hid ((ess.take i).all (rowB k) = true) ∧ Hid (Below w.heap.size w wr)) (fun iv _ => n - (intOf iv).toNat)
  case atStart => exact ⟨0, by omega, rfl, rfl, Below.refl _ _⟩
  case round =>
    obtain ⟨i, hi, rfl, hall, hbel⟩ := hrel
    by_cases hlt : i < n
    · obtain ⟨x, hx⟩ : ∃ x, ess[i]? = some x := ⟨_, List.getElem?_eq_getElem (by rw [hq.out]; exact hlt)⟩
      obtain ⟨ad, A1, c1, rfl, _, x0, X⟩ := (L.out.raw_below hbel.out).at_ hx
      have hT := hide (show ess.take (i + 1) = ess.take i ++ [x] by
        rw [List.take_add_one, hx]; rfl)
      have hm := hide (List.mem_of_getElem? hx)
      replace X := hide X
      replace hx := hide hx
      generalize x.length = m at *
      go_wp2_with fail
      refine (nCheck1_ok _ A1 m c1 x X.out g k (cell_below hbel.out hg.out) (T.out.below hbel.out)).mono ?_
      rintro e w1 ⟨rfl, d0⟩
      replace hbel := hide (below_tr hbel.out d0)
      clear d0 x0 X
      by_cases hr : rowB k x = true
      · rw [hr]
        have h2 : Hid ((ess.take (i + 1)).all (rowB k) = true) := by
          show _ = _
          rw [hT.out, List.all_append, hall.out]
          simp [hr]
        go_wp2
        go_roundw
        case rel => exact ⟨i + 1, by omega, by go_num, h2, hbel⟩
        case measure => simp [intOf]; omega
      · have hr2 : rowB k x = false := by simpa using hr
        rw [hr2]
        have h2 : Hid (decide (0 ≤ ((i : Nat) : Int)) = !(ess.all (rowB k))) := by
          show _ = _
          have : ess.all (rowB k) = false := List.all_eq_false.2 ⟨x, hm.out, by simp [hr2]⟩
          rw [this]
          simp
        go_wp2
        exact opq_end hR ⟨_, rfl, h2, hbel⟩
    · obtain rfl : i = n := by omega
      rw [List.take_of_length_le (by rw [hq.out]; exact Nat.le_refl _)] at hall
      have h2 : Hid (decide (0 ≤ (-1 : Int)) = !(ess.all (rowB k))) := by
        show _ = _
        rw [hall.out]; rfl
      go_wp2
      exact opq_end hR ⟨_, rfl, h2, hbel⟩
theorem nContains_ok (w : World) (A : Option Addr) (n c : Nat) (ess : List (List Raw)) (h : Gst RRaw w (.slice A n c) ess) (g k : Nat) (hg : w.cell? ⟨g, 0, none⟩ = some (.int .i64 (k : Nat))) (hT : Tab w) :
    Calls Tryz.prog 159 #[.slice A n c, nkF g] w fun e w' => e = .returned (.bool (!(ess.all (rowB k)))) ∧ Below w.heap.size w w' := by
  refine opq fun R hR => ?_
  go_enter Tryz.func159, Tryz.ntmps159
  have C := hide (nIndex_ok w A n c ess h g k hg hT)
  clear h hT hg
  go_wp2_with fail
  refine C.out.mono ?_
  rintro e w1 ⟨r, rfl, hr, d0⟩
  go_wp2
  exact opq_end hR ⟨ret_bool hr.out, d0.out⟩
theorem nok_lens {N : RN} (h : lensB N = false) : nok N = false := by unfold nok; rw [h, Bool.false_and]
set_option maxHeartbeats 4000000 in
theorem normCheck_ok {w : World} {AL : Option Addr} {nL cL : Nat} {AR : Option Addr} {nR cR : Nat} {AG : Option Addr} {nG cG : Nat} {AW : Option Addr} {nW cW : Nat} {N : RN} (h : NSt w AL nL cL AR nR cR AG nG cG AW nW cW N) (hT : Tab w) (r : Bool) (hr : nok N = r) :
    Calls Tryz.prog 45 #[.agg #[.slice AL nL cL, .slice AR nR cR, .slice AG nG cG, .slice AW nW cW]] w fun e w' => ∃ u, e = .returned u ∧ Below w.heap.size w w' ∧ u = .bool r := by
  refine opq fun R hR => ?_
  obtain ⟨lL, lR, lG, lW⟩ := h.lens
  have hlen : Hid (lensB N = (decide (1 ≤ nG) && decide (nG ≤ 32) && decide (nW = nG) && decide (nL ≤ 192) && decide (nR = nL))) := by
    show _ = _
    rw [lensB, lL, lR, lG, lW]
  have hnok : Hid (nok N = (lensB N && (N.goal.all rk && (N.right.all rk && N.left.all (rowB nG))))) := by
    show _ = _
    rw [nok, lG]
  clear lL lR lG lW
  replace h := hide h
  have T := hide hT
  replace hr := hide hr
  clear hT
  have K := hide ((Blk.new w 70 #[.slice AL nL cL, .slice AR nR cR, .slice AG nG cG, .slice AW nW cW]).alloc (.cells #[.int .i64 (nG : Nat)] 3))
  have KM := hide (Blk.new_at (w.alloc (.cells #[.slice AL nL cL, .slice AR nR cR, .slice AG nG cG, .slice AW nW cW] 70)) (w.heap.size + 1) (by simp) 3 #[.int .i64 (nG : Nat)])
  have b0 := hide (((Below.refl w.heap.size w).alloc (Nat.le_refl _) (.cells #[.slice AL nL cL, .slice AR nR cR, .slice AG nG cG, .slice AW nW cW] 70)).alloc (by simp) (.cells #[.int .i64 (nG : Nat)] 3))
  go_enter Tryz.func45, Tryz.ntmps45
  have c0 := K.out.at_ 0 rfl
  have c1 := K.out.at_ 1 rfl
  have c2 := K.out.at_ 2 rfl
  have c3 := K.out.at_ 3 rfl
  have m0 := KM.out.at_ 0 rfl
  have bad : Hid (lensB N = false → r = false) := fun e => by rw [← hr.out]; exact nok_lens e
  by_cases h1 : 1 ≤ nG
  case neg =>
    have z1 : (nG : Int) < 1 := by omega
    have e0 := bad.out (by rw [hlen.out, decide_eq_false h1]; rfl)
    subst e0
    go_wp2
    exact opq_end hR ⟨_, rfl, b0.out, rfl⟩
  have z1 : ¬ ((nG : Int) < 1) := by omega
  by_cases h2 : nG ≤ 32
  case neg =>
    have z2 : (nG : Int) > 32 := by omega
    have e0 := bad.out (by rw [hlen.out, decide_eq_false h2]; simp)
    subst e0
    go_wp2
    exact opq_end hR ⟨_, rfl, b0.out, rfl⟩
  have z2 : ¬ ((nG : Int) > 32) := by omega
  by_cases h3 : nW = nG
  case neg =>
    have z3 : ¬ ((nW : Int) = (nG : Int)) := by omega
    have e0 := bad.out (by rw [hlen.out, decide_eq_false h3]; simp)
    subst e0
    go_wp2
    exact opq_end hR ⟨_, rfl, b0.out, rfl⟩
  subst h3
  by_cases h4 : nL ≤ 192
  case neg =>
    have z4 : (nL : Int) > 192 := by omega
    have e0 := bad.out (by rw [hlen.out, decide_eq_false h4]; simp)
    subst e0
    go_wp2
    exact opq_end hR ⟨_, rfl, b0.out, rfl⟩
  have z4 : ¬ ((nL : Int) > 192) := by omega
  by_cases h5 : nR = nL
  case neg =>
    have z5 : ¬ ((nR : Int) = (nL : Int)) := by omega
    have e0 := bad.out (by rw [hlen.out, decide_eq_false h5]; simp)
    subst e0
    go_wp2
    exact opq_end hR ⟨_, rfl, b0.out, rfl⟩
  subst h5
  have e1 : Hid (nok N = (N.goal.all rk && (N.right.all rk && N.left.all (rowB nW)))) := by
    show _ = _
    rw [hnok.out, hlen.out]
    simp [h1, h2, h4]
  clear hlen hnok bad
  cases ha : N.goal.all rk with
  | false =>
    have e0 : r = false := by rw [← hr.out, e1.out, ha, Bool.false_and]
    subst e0
    replace ha := hide ha
    go_wp2_with fail
    refine (vCheck_L (h.out.g.raw_below b0.out) (T.out.below b0.out) false ha.out).mono ?_
    rintro e w1 ⟨_, rfl, d0, rfl⟩
    replace b0 := hide (below_tr b0.out d0)
    clear d0 c0 c1 c2 c3 m0
    go_wp2
    exact opq_end hR ⟨_, rfl, b0.out, rfl⟩
  | true =>
    replace ha := hide ha
    go_wp2_with fail
    refine (vCheck_L (h.out.g.raw_below b0.out) (T.out.below b0.out) true ha.out).mono ?_
    rintro e w1 ⟨_, rfl, d0, rfl⟩
    replace b0 := hide (below_tr b0.out d0)
    replace K := hide (K.out.below' d0)
    replace KM := hide (KM.out.below' d0)
    clear d0 c0 c1 c2 c3 m0
    have c1 := K.out.at_ 1 rfl
    cases hb : N.right.all rk with
    | false =>
      have e0 : r = false := by rw [← hr.out, e1.out, ha.out, hb]; rfl
      subst e0
      replace hb := hide hb
      go_wp2_with fail
      refine (vCheck_L (h.out.r.raw_below b0.out) (T.out.below b0.out) false hb.out).mono ?_
      rintro e w2 ⟨_, rfl, d0, rfl⟩
      replace b0 := hide (below_tr b0.out d0)
      clear d0 c1
      go_wp2
      exact opq_end hR ⟨_, rfl, b0.out, rfl⟩
    | true =>
      have e0 : Hid (r = N.left.all (rowB nW)) := by
        show _ = _
        rw [← hr.out, e1.out, ha.out, hb]; rfl
      replace hb := hide hb
      go_wp2_with fail
      refine (vCheck_L (h.out.r.raw_below b0.out) (T.out.below b0.out) true hb.out).mono ?_
      rintro e w2 ⟨_, rfl, d0, rfl⟩
      replace b0 := hide (below_tr b0.out d0)
      replace K := hide (K.out.below' d0)
      replace KM := hide (KM.out.below' d0)
      clear d0 c1
      have c0 := K.out.at_ 0 rfl
      go_wp2_with fail
      refine (nContains_ok _ AL _ cL N.left (h.out.l.raw_below b0.out) (w.heap.size + 1) nW (KM.out.at_ 0 rfl) (T.out.below b0.out)).mono ?_
      rintro e w3 ⟨rfl, d0⟩
      replace b0 := hide (below_tr b0.out d0)
      clear d0 c0
      go_wp2
      exact opq_end hR ⟨_, rfl, b0.out, by rw [e0.out]; simp⟩
set_option maxHeartbeats 2000000 in
theorem normMay_ok {w : World} {AL : Option Addr} {nL cL : Nat} {AR : Option Addr} {nR cR : Nat} {AG : Option Addr} {nG cG : Nat} {AW : Option Addr} {nW cW : Nat} {N : RN} (h : NSt w AL nL cL AR nR cR AG nG cG AW nW cW N) {AX : Option Addr} {nX cX : Nat} {x : List Raw} (hx : Lst RRaw w (.slice AX nX cX) x) (hT : Tab w) (r : Bool) (hr : nmay N x = r) :
    Calls Tryz.prog 161 #[.agg #[.slice AL nL cL, .slice AR nR cR, .slice AG nG cG, .slice AW nW cW], .slice AX nX cX] w fun e w' => ∃ u, e = .returned u ∧ Below w.heap.size w w' ∧ u = .bool r := by
  refine opq fun R hR => ?_
  have lG := h.lens.2.2.1
  have lX := hx.len
  have hm : Hid (nmay N x = (nok N && (x.all rk && decide (nX = nG)))) := by
    show _ = _
    rw [nmay, lG, lX]
  clear lG lX
  replace h := hide h
  replace hx := hide hx
  have T := hide hT
  replace hr := hide hr
  clear hT
  have K := hide (Blk.new w 70 #[.slice AL nL cL, .slice AR nR cR, .slice AG nG cG, .slice AW nW cW])
  have b0 := hide ((Below.refl w.heap.size w).alloc (Nat.le_refl _) (.cells #[.slice AL nL cL, .slice AR nR cR, .slice AG nG cG, .slice AW nW cW] 70))
  go_enter Tryz.func161, Tryz.ntmps161
  have c0 := K.out.at_ 0 rfl
  have c1 := K.out.at_ 1 rfl
  have c2 := K.out.at_ 2 rfl
  have c3 := K.out.at_ 3 rfl
  cases ha : nok N with
  | false =>
    have e0 : r = false := by rw [← hr.out, hm.out, ha, Bool.false_and]
    subst e0
    replace ha := hide ha
    go_wp2_with fail
    refine (normCheck_ok (h.out.below b0.out) (T.out.below b0.out) false ha.out).mono ?_
    rintro e w1 ⟨_, rfl, d0, rfl⟩
    replace b0 := hide (below_tr b0.out d0)
    clear d0 c0 c1 c2 c3
    go_wp2
    exact opq_end hR ⟨_, rfl, b0.out, rfl⟩
  | true =>
    replace ha := hide ha
    go_wp2_with fail
    refine (normCheck_ok (h.out.below b0.out) (T.out.below b0.out) true ha.out).mono ?_
    rintro e w1 ⟨_, rfl, d0, rfl⟩
    replace b0 := hide (below_tr b0.out d0)
    replace K := hide (K.out.below' d0)
    clear d0 c0 c1 c2 c3
    cases hb : x.all rk with
    | false =>
      have e0 : r = false := by rw [← hr.out, hm.out, ha.out, hb]; rfl
      subst e0
      replace hb := hide hb
      go_wp2_with fail
      refine (vCheck_L (hx.out.raw_below b0.out) (T.out.below b0.out) false hb.out).mono ?_
      rintro e w2 ⟨_, rfl, d0, rfl⟩
      replace b0 := hide (below_tr b0.out d0)
      clear d0
      go_wp2
      exact opq_end hR ⟨_, rfl, b0.out, rfl⟩
    | true =>
      have e0 : Hid (r = decide (nX = nG)) := by
        show _ = _
        rw [← hr.out, hm.out, ha.out, hb]; rfl
      replace hb := hide hb
      go_wp2_with fail
      refine (vCheck_L (hx.out.raw_below b0.out) (T.out.below b0.out) true hb.out).mono ?_
      rintro e w2 ⟨_, rfl, d0, rfl⟩
      replace b0 := hide (below_tr b0.out d0)
      replace K := hide (K.out.below' d0)
      clear d0
      have c2 := K.out.at_ 2 rfl
      by_cases hxg : nX = nG
      · subst hxg
        have e1 : r = true := by rw [e0.out]; simp
        subst e1
        go_wp2
        exact opq_end hR ⟨_, rfl, b0.out, rfl⟩
      · have e1 : r = false := by rw [e0.out, decide_eq_false hxg]
        subst e1
        have z : ((nX : Int) == (nG : Int)) = false := by simp; omega
        go_wp2
        exact opq_end hR ⟨_, rfl, b0.out, rfl⟩
end Go.Proofs.YtkefmeddnncacaaGreatDoor

/- norms: Fits. -/
set_option linter.unusedVariables false
set_option linter.unusedSimpArgs false
set_option maxRecDepth 100000
namespace Go.Proofs.YtkefmeddnncacaaGreatDoor
open Go.RowKit

theorem RRaw.siz {w : World} {u : Value} {e : Raw} (h : RRaw w u e) (hl : rsz e ≤ 1000000) : H (rvE e) (rsz e) := by
  obtain ⟨a, d, _, h1, h2⟩ := h
  unfold rsz at hl ⊢
  exact H_rv h1.is32 h2.is32 (by omega) (by omega) (by omega)
theorem Lst.siz {w : World} {v : Value} {es : List Raw} (h : Lst RRaw w v es) (hl : tsz es ≤ 1000000) : ∀ e ∈ es, H (rvE e) (rsz e) := fun e he => by
  obtain ⟨A, n, c, us, _, h1, h2, h3, h4, h5, h6⟩ := h
  obtain ⟨j, hj, rfl⟩ := List.getElem_of_mem he
  obtain ⟨u, hu, hE⟩ := h6 j _ (List.getElem?_eq_getElem hj)
  exact hE.siz (Nat.le_trans (tsz_mem he) hl)
theorem Lst.hs {w : World} {v : Value} {es : List Raw} (h : Lst RRaw w v es) {k : Nat} (hl : tsz es ≤ k) (hk : k ≤ 1000000) : Hs (es.map rvE) k := fun q hq => by
  obtain ⟨e, he, rfl⟩ := List.mem_map.1 hq
  exact (h.siz (Nat.le_trans hl hk) e he).up (Nat.le_trans (tsz_mem he) hl)
theorem H_dotS (l : List (Raw × Raw)) (hl : ∀ p ∈ l, H (rvE p.1) (rsz p.1) ∧ H (rvE p.2) (rsz p.2)) : ∀ (s : Rat) (m : Nat), H s m → H (dotA s (l.map fun p => (rvE p.1, rvE p.2))) (m + (l.map fun p => rsz p.1 + rsz p.2 + 1).sum) := by
  induction l with
  | nil => intro s m h; simpa [dotA] using h
  | cons p l ih =>
    intro s m h
    have h1 := hl p List.mem_cons_self
    have := ih (fun q hq => hl q (List.mem_cons_of_mem _ hq)) (s + rvE p.1 * rvE p.2) (m + (rsz p.1 + rsz p.2 + 1)) (H_add h (H_mul h1.1 h1.2 (Nat.le_refl _)) (by omega))
    simp only [List.map_cons, List.sum_cons]
    rw [← Nat.add_assoc]
    exact this
theorem zip_sum (es fs : List Raw) : ((es.zip fs).map fun p => rsz p.1 + rsz p.2 + 1).sum ≤ tsz es + tsz fs + es.length := by
  induction es generalizing fs with
  | nil => simp
  | cons e es ih =>
    cases fs with
    | nil => simp
    | cons f fs =>
      have := ih fs
      simp only [List.zip_cons_cons, List.map_cons, List.sum_cons, tsz, List.length_cons] at this ⊢
      omega
theorem H_dotN {es fs : List Raw} (h : ∀ e ∈ es, H (rvE e) (rsz e)) (h' : ∀ e ∈ fs, H (rvE e) (rsz e)) : H (dot (es.map rvE) (fs.map rvE)) (1 + (tsz es + tsz fs + es.length)) := by
  unfold dot
  rw [List.zip_map]
  refine (H_dotS (es.zip fs) (fun p hp => ?_) 0 1 (H_zero (Nat.le_refl _))).up (Nat.add_le_add_left (zip_sum es fs) 1)
  have := List.of_mem_zip (a := p.1) (b := p.2) hp
  exact ⟨h _ this.1, h' _ this.2⟩
theorem nmay_parts {N : RN} {x : List Raw} (h : nmay N x = true) : N.right.length = N.left.length ∧ (∀ row ∈ N.left, row.length = N.goal.length ∧ row.all rk = true) ∧ N.right.all rk = true ∧ x.all rk = true ∧ x.length = N.goal.length ∧ N.whole.length = N.goal.length ∧ N.goal.length ≤ 32 := by
  unfold nmay nok lensB at h
  simp only [Bool.and_eq_true, decide_eq_true_eq] at h
  obtain ⟨⟨⟨⟨⟨⟨a1, a2⟩, a3⟩, a4⟩, a5⟩, b1, b2, b3⟩, c1, c2⟩ := h
  refine ⟨a5, fun row hr => ?_, b2, c1, c2, a3, a2⟩
  have := List.all_eq_true.1 b3 row hr
  unfold rowB at this
  simpa using this
theorem cmp3 (a b : Rat) : cmpQ a b = -1 ∨ cmpQ a b = 0 ∨ cmpQ a b = 1 := by
  unfold cmpQ
  split
  · exact .inl rfl
  · split
    · exact .inr (.inl rfl)
    · exact .inr (.inr rfl)
theorem fgh_rats_Cmp (args : Array Value) (w : World) : (callFunc 153 args).run Tryz.prog w = .ok (.enter 153 args) w := callFunc_enter Tryz.func153 (by kernel_rfl) rfl args w
set_option maxHeartbeats 4000000 in
theorem normFits_ok {w : World} {AL : Option Addr} {nL cL : Nat} {AR : Option Addr} {nR cR : Nat} {AG : Option Addr} {nG cG : Nat} {AW : Option Addr} {nW cW : Nat} {N : RN} (h : NSt w AL nL cL AR nR cR AG nG cG AW nW cW N) (hs : nsz N ≤ 3000) {AX : Option Addr} {nX cX : Nat} {x : List Raw} (hx : Lst RRaw w (.slice AX nX cX) x) (hxa : Lst RArg w (.slice AX nX cX) (x.map rvE)) (sx : tsz x ≤ 500) (hT : Tab w) (r : Bool) (hr : nfits N x = r) :
    Calls Tryz.prog 47 #[.agg #[.slice AL nL cL, .slice AR nR cR, .slice AG nG cG, .slice AW nW cW], .slice AX nX cX] w fun e w' => ∃ u, e = .returned u ∧ Below w.heap.size w w' ∧ u = .bool r := by
  refine opq fun R hR => ?_
  have hN := hs
  unfold nsz at hN
  have lL := hide h.lens.1
  have lR := hide h.lens.2.1
  have gL : Hid (gsz N.left ≤ 3000) := (by omega : gsz N.left ≤ 3000)
  have gR : Hid (tsz N.right ≤ 3000) := (by omega : tsz N.right ≤ 3000)
  have sxx := hide sx
  have bL : nL ≤ 140737488355328 := by rw [← lL.out]; exact h.l.le_
  clear hs hN sx
  replace h := hide h
  replace hx := hide hx
  replace hxa := hide hxa
  replace hr := hide hr
  have T := hide hT
  clear hT
  have K := hide (Blk.new w 70 #[.slice AL nL cL, .slice AR nR cR, .slice AG nG cG, .slice AW nW cW])
  have b0 := hide ((Below.refl w.heap.size w).alloc (Nat.le_refl _) (.cells #[.slice AL nL cL, .slice AR nR cR, .slice AG nG cG, .slice AW nW cW] 70))
  go_enter Tryz.func47, Tryz.ntmps47
  have c0 := K.out.at_ 0 rfl
  have c1 := K.out.at_ 1 rfl
  have c2 := K.out.at_ 2 rfl
  have c3 := K.out.at_ 3 rfl
  cases hm : nmay N x with
  | false =>
    have e0 : r = false := by rw [← hr.out, nfits, hm, Bool.false_and]
    subst e0
    replace hm := hide hm
    go_wp2_with fail
    refine (normMay_ok (h.out.below b0.out) (hx.out.raw_below b0.out) (T.out.below b0.out) false hm.out).mono ?_
    rintro e w1 ⟨_, rfl, d0, rfl⟩
    replace b0 := hide (below_tr b0.out d0)
    clear d0 c0 c1 c2 c3
    go_wp2
    exact opq_end hR ⟨_, rfl, b0.out, rfl⟩
  | true =>
  obtain ⟨mR, mrow, mrr, mx, mxl, mwl, m32⟩ := nmay_parts hm
  have hr2 : Hid ((N.left.zip N.right).all (fitB x) = r) := by
    show _ = _
    rw [← hr.out, nfits, hm, Bool.true_and]
  have eRL : nL = nR := by rw [← lL.out, ← lR.out]; exact mR.symm
  subst eRL
  replace mrow := hide mrow
  replace mrr := hide mrr
  replace mx := hide mx
  replace mxl := hide mxl
  replace m32 := hide m32
  replace hm := hide hm
  clear mR mwl hr
  go_wp2_with fail
  refine (normMay_ok (h.out.below b0.out) (hx.out.raw_below b0.out) (T.out.below b0.out) true hm.out).mono ?_
  rintro e w1 ⟨_, rfl, d0, rfl⟩
  replace b0 := hide (below_tr b0.out d0)
  replace K := hide (K.out.below' d0)
  clear d0 c0 c1 c2 c3
  have c0 := K.out.at_ 0 rfl
  go_wp2
  clear c0
  go_loopw [16] (fun iv wr => ∃ (i : Nat), i ≤ nL ∧ iv = .int .i64 (i : Nat) ∧ Hid (Below w.heap.size w wr) ∧ Hid (Blk wr w.heap.size 70 #[.slice AL nL cL, .slice AR nL cR, .slice AG nG cG, .slice AW nW cW]) ∧ Hid (((N.left.zip N.right).take i).all (fitB x) = true)) (fun iv _ => nL - (intOf iv).toNat)
  case atStart => exact ⟨0, by omega, rfl, b0, K, by show _ = _; simp⟩
  case round =>
    clear b0 K
    obtain ⟨i, hi, rfl, b0, K, al⟩ := hrel
    have c0 := K.out.at_ 0 rfl
    by_cases hlt : i < nL
    · obtain ⟨row, hrow⟩ : ∃ row, N.left[i]? = some row := ⟨_, List.getElem?_eq_getElem (by rw [lL.out]; exact hlt)⟩
      obtain ⟨p, hp⟩ : ∃ p, N.right[i]? = some p := ⟨_, List.getElem?_eq_getElem (by rw [lR.out]; exact hlt)⟩
      have hzz : (N.left.zip N.right)[i]? = some (row, p) := List.getElem?_zip_eq_some.2 ⟨hrow, hp⟩
      have hmem := List.mem_of_getElem? hrow
      obtain ⟨hrl, hra⟩ := mrow.out row hmem
      have srow := tsz_gsz hmem gL.out
      obtain ⟨ad, A1, c1, e1, _, x0, X⟩ := h.out.l.at_ hrow
      obtain ⟨adr, b5, A5, n5, c5, D5, m5, k5, e2, _, y0, y1, y2, Y⟩ := h.out.ra.at_ tri_arg (q := rvE p) (j := i) (by rw [List.getElem?_map, hp]; rfl)
      subst e1
      subst e2
      replace x0 := cell_below b0.out x0
      have sp : Hid (H (rvE p) 100000) := ((h.out.r.siz (Nat.le_trans gR.out (by decide))) p (List.mem_of_getElem? hp)).up (Nat.le_trans (tsz_mem (List.mem_of_getElem? hp)) (Nat.le_trans gR.out (by decide)))
      have sd : Hid (H (dot (row.map rvE) (x.map rvE)) 100000) := (H_dotN (X.siz (Nat.le_trans srow.2 (by decide))) (hx.out.siz (Nat.le_trans sxx.out (by decide)))).up (by have := sxx.out; omega)
      have hsr : Hid (Hs (row.map rvE) 3000) := X.hs srow.2 (by decide)
      have hsx : Hid (Hs (x.map rvE) 3000) := hx.out.hs (Nat.le_trans sxx.out (by decide)) (by decide)
      have hfit : Hid (fits row x = true) := by
        show _ = _
        unfold fits
        rw [hra, mx.out, decide_eq_true (by rw [hrl, mxl.out])]
        rfl
      have alS : cmpQ (dot (row.map rvE) (x.map rvE)) (rvE p) ≤ 0 → Hid (((N.left.zip N.right).take (i + 1)).all (fitB x) = true) := fun hle => by
        show _ = _
        rw [List.take_add_one, hzz, List.all_append, al.out]
        simp [fitB, hle]
      have alN : ¬ (cmpQ (dot (row.map rvE) (x.map rvE)) (rvE p) ≤ 0) → r = false := fun hle => by
        rw [← hr2.out, List.all_eq_false]
        exact ⟨_, List.mem_of_getElem? hzz, by simp [fitB, hle]⟩
      replace X := hide X
      replace hrl := hide hrl
      replace hra := hide hra
      clear hzz hmem srow hrow hp
      obtain ⟨mm, hmm⟩ : ∃ mm, Hid (row.length = mm) := ⟨_, rfl⟩
      rw [hmm.out] at x0 X
      have hlt2 : ¬ ((nL : Int) ≤ (i : Int)) := by omega
      go_wp2_with fail
      refine (vDot_T (k := 3000) ((X.out.raw_below b0.out).canW hra) ((hx.out.raw_below b0.out).canW mx.out) (by rw [List.length_map, List.length_map, hrl, mxl.out]) hsr.out hsx.out (by rw [List.length_map, hrl]; have := m32.out; omega) (T.out.below b0.out)).mono ?_
      rintro e w2 ⟨u, rfl, d0, q0⟩
      have d1 := hide d0
      obtain ⟨b4, A4, n4, c4, D4, m4, k4, rfl⟩ := q0.slice
      have yy : Below w2.heap.size w2 (w2.alloc (.cells #[.bool b4, .slice A4 n4 c4, .slice D4 m4 k4] TR)) := (Below.refl _ _).alloc (Nat.le_refl _) _
      have KS := hide (Blk.new w2 TR #[.bool b4, .slice A4 n4 c4, .slice D4 m4 k4])
      have Z0 : Hid ((w2.alloc (.cells #[.bool b4, .slice A4 n4 c4, .slice D4 m4 k4] TR)).cell? ⟨w2.heap.size, 0, none⟩ = some (.bool b4)) := KS.out.at_ 0 rfl
      have Z1 : Hid ((w2.alloc (.cells #[.bool b4, .slice A4 n4 c4, .slice D4 m4 k4] TR)).cell? ⟨w2.heap.size, 1, none⟩ = some (.slice A4 n4 c4)) := KS.out.at_ 1 rfl
      have Z2 : Hid ((w2.alloc (.cells #[.bool b4, .slice A4 n4 c4, .slice D4 m4 k4] TR)).cell? ⟨w2.heap.size, 2, none⟩ = some (.slice D4 m4 k4)) := KS.out.at_ 2 rfl
      have SU := hide ((q0.arg (sd.out.up (by decide))).below yy)
      have D := below_tr d1.out yy
      have E0 := hide (cell_below D (cell_below b0.out y0))
      have E1 := hide (cell_below D (cell_below b0.out y1))
      have E2 := hide (cell_below D (cell_below b0.out y2))
      replace Y := hide ((Y.below b0.out).below D)
      replace b0 := hide (below_tr b0.out D)
      replace K := hide (K.out.below' D)
      have KR1 : Hid ((w2.alloc (.cells #[.bool b4, .slice A4 n4 c4, .slice D4 m4 k4] TR)).cell? ⟨w.heap.size, 1, none⟩ = some (.slice (some adr) nL cR)) := K.out.at_ 1 rfl
      have s1 := sd
      have s2 := sp
      clear D d0 d1 yy KS q0 y0 y1 y2 c0 x0 X
      rcases cmp3 (dot (row.map rvE) (x.map rvE)) (rvE p) with hc | hc | hc
      · replace hc := hide hc
        have al2 := alS (by rw [hc.out]; decide)
        go_wp2
        refine wp_region_facts 8 (fun w' => Below (w2.alloc (.cells #[.bool b4, .slice A4 n4 c4, .slice D4 m4 k4] TR)).heap.size (w2.alloc (.cells #[.bool b4, .slice A4 n4 c4, .slice D4 m4 k4] TR)) w') [(27, .eq (.agg #[.bool b4, .slice A4 n4 c4, .slice D4 m4 k4])), (28, .eq ((.pointer (some ⟨w.heap.size, 1, none⟩) : Value))), (29, .eq (.slice (some adr) nL cR)), (30, .eq (.int .i64 (i : Nat))), (31, .eq ((.pointer (some (adr.add (i * 3))) : Value))), (32, .eq (.agg #[.bool b5, .slice A5 n5 c5, .slice D5 m5 k5])), (33, .eq (.int .i64 (-1))), (34, .eq (.bool false))] [false, false, false, false, false, false, false, false, false, false, false, false, false, false, false, false, false, false, false, false, false, false, false, false, false, false, false, true, true, true, true, true, true, true, true, false] mixed (by kernel_rfl) (by kernel_rfl) (by kernel_rfl) (fun _ _ h hb => h.trans (hb.mono h.size)) ((Below.refl _ _).drew) ⟨?_, ?_, ?_, ?_, ?_, ?_, ?_, ?_, trivial⟩ ?_
        · exact .load (.agg #[.bool b4, .slice A4 n4 c4, .slice D4 m4 k4]) (.inl rfl) rfl rfl (fun a w' hC hs hl => by rw [show a.eval (.tmp 7) = (.pointer (some ⟨w2.heap.size, 0, none⟩) : Value) from (hs 7 (by kernel_rfl))]; exact ⟨by simp [go_sem, cell_below hC Z0.out, cell_below hC Z1.out, cell_below hC Z2.out], rfl⟩)
        · exact .fieldAddr (.inl rfl) rfl rfl rfl (fun a w' hC hs hl => by rw [show a.eval (.tmp 2) = (.pointer (some ⟨w.heap.size, 0, none⟩) : Value) from (hs 2 (by kernel_rfl))]; simp [go_sem])
        · exact .load (.slice (some adr) nL cR) (.inl rfl) rfl rfl (fun a w' hC hs hl => by rw [show a.eval (.tmp 28) = (.pointer (some ⟨w.heap.size, 1, none⟩) : Value) from (hl 28 (by kernel_rfl) (by kernel_rfl))]; exact ⟨by simp [go_sem, cell_below hC KR1.out], rfl⟩)
        · exact .moveC (.inl rfl) (.inl rfl) rfl (fun a w' hC hs => (hs 5 (by kernel_rfl)))
        · exact .value (.inl rfl) (by intro T e; cases e) rfl rfl (fun a w' hC hs hl => by
            have e0 : a.eval (.tmp 29) = (.slice (some adr) nL cR) := (hl 29 (by kernel_rfl) (by kernel_rfl))
            have e1 : a.eval (.tmp 30) = (.int .i64 (i : Nat)) := (hl 30 (by kernel_rfl) (by kernel_rfl))
            simp only [execOp, e0, e1]
            simp [go_sem, hlt2])
        · exact .load (.agg #[.bool b5, .slice A5 n5 c5, .slice D5 m5 k5]) (.inl rfl) rfl rfl (fun a w' hC hs hl => by rw [show a.eval (.tmp 31) = (.pointer (some (adr.add (i * 3))) : Value) from (hl 31 (by kernel_rfl) (by kernel_rfl))]; exact ⟨ld_RatAt (cell_below hC E0.out) (cell_below hC E1.out) (cell_below hC E2.out), rfl⟩)
        · exact .call (.inl rfl) rfl rfl fgh_rats_Cmp (fun a w' hC hs hl => by
            show Calls _ _ #[a.eval (.tmp 27), a.eval (.tmp 32)] _ _
            rw [show a.eval (.tmp 27) = (.agg #[.bool b4, .slice A4 n4 c4, .slice D4 m4 k4] : Value) from (hl 27 (by kernel_rfl) (by kernel_rfl)), show a.eval (.tmp 32) = (.agg #[.bool b5, .slice A5 n5 c5, .slice D5 m5 k5] : Value) from (hl 32 (by kernel_rfl) (by kernel_rfl))]
            exact rCmp_eq (SU.out.below hC) (Y.out.below hC) (T.out.below (below_tr b0.out hC)) (-1) hc.out)
        · exact .value (.inl rfl) (by intro T e; cases e) rfl rfl (fun a w' hC hs hl => by
            have e0 : a.eval (.tmp 33) = (.int .i64 (-1)) := (hl 33 (by kernel_rfl) (by kernel_rfl))
            simp only [execOp, e0]
            simp only [Act.eval]
            simp [go_sem] <;> rfl)
        · intro f wz hC hF _
          have fz : f 34 = .bool false := hF 34 (by kernel_rfl)
          clear hF
          simp only [patch, List.drop]
          rw [fz]
          clear fz
          try change wpList _ _ _ [] _ _
          generalize f 27 = y27_
          generalize f 28 = y28_
          generalize f 29 = y29_
          generalize f 30 = y30_
          generalize f 31 = y31_
          generalize f 32 = y32_
          generalize f 33 = y33_
          have b0' := hide (below_tr b0.out hC)
          have K' := hide (K.out.below' hC)
          clear hC Z0 Z1 Z2 KR1 E0 E1 E2 hlt2 SU Y
          go_wp2
          go_roundw
          case rel => exact ⟨i + 1, by omega, by go_num, b0', K', al2⟩
          case measure => simp [intOf]; omega
      · replace hc := hide hc
        have al2 := alS (by rw [hc.out]; decide)
        go_wp2
        refine wp_region_facts 8 (fun w' => Below (w2.alloc (.cells #[.bool b4, .slice A4 n4 c4, .slice D4 m4 k4] TR)).heap.size (w2.alloc (.cells #[.bool b4, .slice A4 n4 c4, .slice D4 m4 k4] TR)) w') [(27, .eq (.agg #[.bool b4, .slice A4 n4 c4, .slice D4 m4 k4])), (28, .eq ((.pointer (some ⟨w.heap.size, 1, none⟩) : Value))), (29, .eq (.slice (some adr) nL cR)), (30, .eq (.int .i64 (i : Nat))), (31, .eq ((.pointer (some (adr.add (i * 3))) : Value))), (32, .eq (.agg #[.bool b5, .slice A5 n5 c5, .slice D5 m5 k5])), (33, .eq (.int .i64 (0))), (34, .eq (.bool false))] [false, false, false, false, false, false, false, false, false, false, false, false, false, false, false, false, false, false, false, false, false, false, false, false, false, false, false, true, true, true, true, true, true, true, true, false] mixed (by kernel_rfl) (by kernel_rfl) (by kernel_rfl) (fun _ _ h hb => h.trans (hb.mono h.size)) ((Below.refl _ _).drew) ⟨?_, ?_, ?_, ?_, ?_, ?_, ?_, ?_, trivial⟩ ?_
        · exact .load (.agg #[.bool b4, .slice A4 n4 c4, .slice D4 m4 k4]) (.inl rfl) rfl rfl (fun a w' hC hs hl => by rw [show a.eval (.tmp 7) = (.pointer (some ⟨w2.heap.size, 0, none⟩) : Value) from (hs 7 (by kernel_rfl))]; exact ⟨by simp [go_sem, cell_below hC Z0.out, cell_below hC Z1.out, cell_below hC Z2.out], rfl⟩)
        · exact .fieldAddr (.inl rfl) rfl rfl rfl (fun a w' hC hs hl => by rw [show a.eval (.tmp 2) = (.pointer (some ⟨w.heap.size, 0, none⟩) : Value) from (hs 2 (by kernel_rfl))]; simp [go_sem])
        · exact .load (.slice (some adr) nL cR) (.inl rfl) rfl rfl (fun a w' hC hs hl => by rw [show a.eval (.tmp 28) = (.pointer (some ⟨w.heap.size, 1, none⟩) : Value) from (hl 28 (by kernel_rfl) (by kernel_rfl))]; exact ⟨by simp [go_sem, cell_below hC KR1.out], rfl⟩)
        · exact .moveC (.inl rfl) (.inl rfl) rfl (fun a w' hC hs => (hs 5 (by kernel_rfl)))
        · exact .value (.inl rfl) (by intro T e; cases e) rfl rfl (fun a w' hC hs hl => by
            have e0 : a.eval (.tmp 29) = (.slice (some adr) nL cR) := (hl 29 (by kernel_rfl) (by kernel_rfl))
            have e1 : a.eval (.tmp 30) = (.int .i64 (i : Nat)) := (hl 30 (by kernel_rfl) (by kernel_rfl))
            simp only [execOp, e0, e1]
            simp [go_sem, hlt2])
        · exact .load (.agg #[.bool b5, .slice A5 n5 c5, .slice D5 m5 k5]) (.inl rfl) rfl rfl (fun a w' hC hs hl => by rw [show a.eval (.tmp 31) = (.pointer (some (adr.add (i * 3))) : Value) from (hl 31 (by kernel_rfl) (by kernel_rfl))]; exact ⟨ld_RatAt (cell_below hC E0.out) (cell_below hC E1.out) (cell_below hC E2.out), rfl⟩)
        · exact .call (.inl rfl) rfl rfl fgh_rats_Cmp (fun a w' hC hs hl => by
            show Calls _ _ #[a.eval (.tmp 27), a.eval (.tmp 32)] _ _
            rw [show a.eval (.tmp 27) = (.agg #[.bool b4, .slice A4 n4 c4, .slice D4 m4 k4] : Value) from (hl 27 (by kernel_rfl) (by kernel_rfl)), show a.eval (.tmp 32) = (.agg #[.bool b5, .slice A5 n5 c5, .slice D5 m5 k5] : Value) from (hl 32 (by kernel_rfl) (by kernel_rfl))]
            exact rCmp_eq (SU.out.below hC) (Y.out.below hC) (T.out.below (below_tr b0.out hC)) (0) hc.out)
        · exact .value (.inl rfl) (by intro T e; cases e) rfl rfl (fun a w' hC hs hl => by
            have e0 : a.eval (.tmp 33) = (.int .i64 (0)) := (hl 33 (by kernel_rfl) (by kernel_rfl))
            simp only [execOp, e0]
            simp only [Act.eval]
            simp [go_sem] <;> rfl)
        · intro f wz hC hF _
          have fz : f 34 = .bool false := hF 34 (by kernel_rfl)
          clear hF
          simp only [patch, List.drop]
          rw [fz]
          clear fz
          try change wpList _ _ _ [] _ _
          generalize f 27 = y27_
          generalize f 28 = y28_
          generalize f 29 = y29_
          generalize f 30 = y30_
          generalize f 31 = y31_
          generalize f 32 = y32_
          generalize f 33 = y33_
          have b0' := hide (below_tr b0.out hC)
          have K' := hide (K.out.below' hC)
          clear hC Z0 Z1 Z2 KR1 E0 E1 E2 hlt2 SU Y
          go_wp2
          go_roundw
          case rel => exact ⟨i + 1, by omega, by go_num, b0', K', al2⟩
          case measure => simp [intOf]; omega
      · replace hc := hide hc
        have e0 : r = false := alN (by rw [hc.out]; decide)
        subst e0
        go_wp2
        refine wp_region_facts 8 (fun w' => Below (w2.alloc (.cells #[.bool b4, .slice A4 n4 c4, .slice D4 m4 k4] TR)).heap.size (w2.alloc (.cells #[.bool b4, .slice A4 n4 c4, .slice D4 m4 k4] TR)) w') [(27, .eq (.agg #[.bool b4, .slice A4 n4 c4, .slice D4 m4 k4])), (28, .eq ((.pointer (some ⟨w.heap.size, 1, none⟩) : Value))), (29, .eq (.slice (some adr) nL cR)), (30, .eq (.int .i64 (i : Nat))), (31, .eq ((.pointer (some (adr.add (i * 3))) : Value))), (32, .eq (.agg #[.bool b5, .slice A5 n5 c5, .slice D5 m5 k5])), (33, .eq (.int .i64 (1))), (34, .eq (.bool true))] [false, false, false, false, false, false, false, false, false, false, false, false, false, false, false, false, false, false, false, false, false, false, false, false, false, false, false, true, true, true, true, true, true, true, true, false] mixed (by kernel_rfl) (by kernel_rfl) (by kernel_rfl) (fun _ _ h hb => h.trans (hb.mono h.size)) ((Below.refl _ _).drew) ⟨?_, ?_, ?_, ?_, ?_, ?_, ?_, ?_, trivial⟩ ?_
        · exact .load (.agg #[.bool b4, .slice A4 n4 c4, .slice D4 m4 k4]) (.inl rfl) rfl rfl (fun a w' hC hs hl => by rw [show a.eval (.tmp 7) = (.pointer (some ⟨w2.heap.size, 0, none⟩) : Value) from (hs 7 (by kernel_rfl))]; exact ⟨by simp [go_sem, cell_below hC Z0.out, cell_below hC Z1.out, cell_below hC Z2.out], rfl⟩)
        · exact .fieldAddr (.inl rfl) rfl rfl rfl (fun a w' hC hs hl => by rw [show a.eval (.tmp 2) = (.pointer (some ⟨w.heap.size, 0, none⟩) : Value) from (hs 2 (by kernel_rfl))]; simp [go_sem])
        · exact .load (.slice (some adr) nL cR) (.inl rfl) rfl rfl (fun a w' hC hs hl => by rw [show a.eval (.tmp 28) = (.pointer (some ⟨w.heap.size, 1, none⟩) : Value) from (hl 28 (by kernel_rfl) (by kernel_rfl))]; exact ⟨by simp [go_sem, cell_below hC KR1.out], rfl⟩)
        · exact .moveC (.inl rfl) (.inl rfl) rfl (fun a w' hC hs => (hs 5 (by kernel_rfl)))
        · exact .value (.inl rfl) (by intro T e; cases e) rfl rfl (fun a w' hC hs hl => by
            have e0 : a.eval (.tmp 29) = (.slice (some adr) nL cR) := (hl 29 (by kernel_rfl) (by kernel_rfl))
            have e1 : a.eval (.tmp 30) = (.int .i64 (i : Nat)) := (hl 30 (by kernel_rfl) (by kernel_rfl))
            simp only [execOp, e0, e1]
            simp [go_sem, hlt2])
        · exact .load (.agg #[.bool b5, .slice A5 n5 c5, .slice D5 m5 k5]) (.inl rfl) rfl rfl (fun a w' hC hs hl => by rw [show a.eval (.tmp 31) = (.pointer (some (adr.add (i * 3))) : Value) from (hl 31 (by kernel_rfl) (by kernel_rfl))]; exact ⟨ld_RatAt (cell_below hC E0.out) (cell_below hC E1.out) (cell_below hC E2.out), rfl⟩)
        · exact .call (.inl rfl) rfl rfl fgh_rats_Cmp (fun a w' hC hs hl => by
            show Calls _ _ #[a.eval (.tmp 27), a.eval (.tmp 32)] _ _
            rw [show a.eval (.tmp 27) = (.agg #[.bool b4, .slice A4 n4 c4, .slice D4 m4 k4] : Value) from (hl 27 (by kernel_rfl) (by kernel_rfl)), show a.eval (.tmp 32) = (.agg #[.bool b5, .slice A5 n5 c5, .slice D5 m5 k5] : Value) from (hl 32 (by kernel_rfl) (by kernel_rfl))]
            exact rCmp_eq (SU.out.below hC) (Y.out.below hC) (T.out.below (below_tr b0.out hC)) (1) hc.out)
        · exact .value (.inl rfl) (by intro T e; cases e) rfl rfl (fun a w' hC hs hl => by
            have e0 : a.eval (.tmp 33) = (.int .i64 (1)) := (hl 33 (by kernel_rfl) (by kernel_rfl))
            simp only [execOp, e0]
            simp only [Act.eval]
            simp [go_sem] <;> rfl)
        · intro f wz hC hF _
          have fz : f 34 = .bool true := hF 34 (by kernel_rfl)
          clear hF
          simp only [patch, List.drop]
          rw [fz]
          clear fz
          try change wpList _ _ _ [] _ _
          generalize f 27 = y27_
          generalize f 28 = y28_
          generalize f 29 = y29_
          generalize f 30 = y30_
          generalize f 31 = y31_
          generalize f 32 = y32_
          generalize f 33 = y33_
          have b0' := hide (below_tr b0.out hC)
          have K' := hide (K.out.below' hC)
          clear hC Z0 Z1 Z2 KR1 E0 E1 E2 hlt2 SU Y
          go_wp2
          exact opq_end hR ⟨_, rfl, b0'.out, rfl⟩
    · obtain rfl : i = nL := by omega
      have e0 : r = true := by
        rw [← hr2.out, ← al.out, List.take_of_length_le (by rw [List.length_zip, lL.out, lR.out]; omega)]
      subst e0
      go_wp2
      exact opq_end hR ⟨_, rfl, b0.out, rfl⟩
set_option maxHeartbeats 4000000 in
theorem normWhole_ok {w : World} {AL : Option Addr} {nL cL : Nat} {AR : Option Addr} {nR cR : Nat} {AG : Option Addr} {nG cG : Nat} {AW : Option Addr} {nW cW : Nat} {N : RN} (h : NSt w AL nL cL AR nR cR AG nG cG AW nW cW N) {AX : Option Addr} {nX cX : Nat} {x : List Raw} (hx : Lst RRaw w (.slice AX nX cX) x) (hxa : Lst RArg w (.slice AX nX cX) (x.map rvE)) (hT : Tab w) (r : Bool) (hr : nwhole N x = r) :
    Calls Tryz.prog 49 #[.agg #[.slice AL nL cL, .slice AR nR cR, .slice AG nG cG, .slice AW nW cW], .slice AX nX cX] w fun e w' => ∃ u, e = .returned u ∧ Below w.heap.size w w' ∧ u = .bool r := by
  refine opq fun R hR => ?_
  have lX := hide hx.len
  have lW := hide h.lens.2.2.2
  have lG := hide h.lens.2.2.1
  have bX : nX ≤ 140737488355328 := by rw [← lX.out]; exact hx.le_
  replace h := hide h
  replace hx := hide hx
  replace hxa := hide hxa
  replace hr := hide hr
  have T := hide hT
  clear hT
  have K := hide (Blk.new w 70 #[.slice AL nL cL, .slice AR nR cR, .slice AG nG cG, .slice AW nW cW])
  have b0 := hide ((Below.refl w.heap.size w).alloc (Nat.le_refl _) (.cells #[.slice AL nL cL, .slice AR nR cR, .slice AG nG cG, .slice AW nW cW] 70))
  go_enter Tryz.func49, Tryz.ntmps49
  have c0 := K.out.at_ 0 rfl
  have c1 := K.out.at_ 1 rfl
  have c2 := K.out.at_ 2 rfl
  have c3 := K.out.at_ 3 rfl
  cases hm : nmay N x with
  | false =>
    have e0 : r = false := by rw [← hr.out, nwhole, hm, Bool.false_and]
    subst e0
    replace hm := hide hm
    go_wp2_with fail
    refine (normMay_ok (h.out.below b0.out) (hx.out.raw_below b0.out) (T.out.below b0.out) false hm.out).mono ?_
    rintro e w1 ⟨_, rfl, d0, rfl⟩
    replace b0 := hide (below_tr b0.out d0)
    clear d0 c0 c1 c2 c3
    go_wp2
    exact opq_end hR ⟨_, rfl, b0.out, rfl⟩
  | true =>
  obtain ⟨mR, mrow, mrr, mx, mxl, mwl, m32⟩ := nmay_parts hm
  have hr2 : Hid ((N.whole.zip x).all wholeB = r) := by
    show _ = _
    rw [← hr.out, nwhole, hm, Bool.true_and]
  have eW : nX = nW := by rw [← lX.out, ← lW.out, mxl, mwl]
  subst eW
  replace hm := hide hm
  clear mR mrow mrr mx mxl mwl m32 hr
  go_wp2_with fail
  refine (normMay_ok (h.out.below b0.out) (hx.out.raw_below b0.out) (T.out.below b0.out) true hm.out).mono ?_
  rintro e w1 ⟨_, rfl, d0, rfl⟩
  replace b0 := hide (below_tr b0.out d0)
  replace K := hide (K.out.below' d0)
  clear d0 c0 c1 c2 c3
  go_wp2
  go_loopw [13] (fun iv wr => ∃ (i : Nat), i ≤ nX ∧ iv = .int .i64 (i : Nat) ∧ Hid (Below w.heap.size w wr) ∧ Hid (Blk wr w.heap.size 70 #[.slice AL nL cL, .slice AR nR cR, .slice AG nG cG, .slice AW nX cW]) ∧ Hid (((N.whole.zip x).take i).all wholeB = true)) (fun iv _ => nX - (intOf iv).toNat)
  case atStart => exact ⟨0, by omega, rfl, b0, K, by show _ = _; simp⟩
  case round =>
    clear b0 K
    obtain ⟨i, hi, rfl, b0, K, al⟩ := hrel
    have c3 := K.out.at_ 3 rfl
    by_cases hlt : i < nX
    · obtain ⟨b, hb⟩ : ∃ b, N.whole[i]? = some b := ⟨_, List.getElem?_eq_getElem (by rw [lW.out]; exact hlt)⟩
      obtain ⟨p, hp⟩ : ∃ p, x[i]? = some p := ⟨_, List.getElem?_eq_getElem (by rw [lX.out]; exact hlt)⟩
      have hzz : (N.whole.zip x)[i]? = some (b, p) := List.getElem?_zip_eq_some.2 ⟨hb, hp⟩
      obtain ⟨ad, e1, x0⟩ := h.out.b.at_ hb
      obtain ⟨adr, b5, A5, n5, c5, D5, m5, k5, e2, _, y0, y1, y2, Y⟩ := hxa.out.at_ tri_arg (q := rvE p) (j := i) (by rw [List.getElem?_map, hp]; rfl)
      subst e1
      subst e2
      have yy : Below wr.heap.size wr (wr.alloc (.cells #[.bool b5, .slice A5 n5 c5, .slice D5 m5 k5] TR)) := (Below.refl _ _).alloc (Nat.le_refl _) _
      have KS := hide (Blk.new wr TR #[.bool b5, .slice A5 n5 c5, .slice D5 m5 k5])
      have z0 := KS.out.at_ 0 rfl
      have z1 := KS.out.at_ 1 rfl
      have z2 := KS.out.at_ 2 rfl
      replace Y := hide ((Y.below b0.out).below yy)
      replace y0 := cell_below b0.out y0
      replace y1 := cell_below b0.out y1
      replace y2 := cell_below b0.out y2
      replace x0 := cell_below (below_tr b0.out yy) x0
      replace b0 := hide (below_tr b0.out yy)
      replace K := hide (K.out.below' yy)
      clear yy KS c3
      have c3 := K.out.at_ 3 rfl
      have alS : wholeB (b, p) = true → Hid (((N.whole.zip x).take (i + 1)).all wholeB = true) := fun hle => by
        show _ = _
        rw [List.take_add_one, hzz, List.all_append, al.out]
        simp [hle]
      have alN : wholeB (b, p) = false → r = false := fun hle => by
        rw [← hr2.out, List.all_eq_false]
        exact ⟨_, List.mem_of_getElem? hzz, by simp [hle]⟩
      replace alS := hide alS
      replace alN := hide alN
      clear hzz hb hp
      cases b with
      | false =>
        have al2 := alS.out rfl
        go_wp2
        go_roundw
        case rel => exact ⟨i + 1, by omega, by go_num, b0, K, al2⟩
        case measure => simp [intOf]; omega
      | true =>
        cases hc : decide ((rvE p).den = 1) with
        | true =>
          have al2 := alS.out (by unfold wholeB; rw [hc]; rfl)
          replace hc := hide hc
          go_wp2_with fail
          refine (rWhole_eq Y.out (T.out.below b0.out) true hc.out).mono ?_
          rintro e w3 ⟨_, rfl, d0, rfl⟩
          replace b0 := hide (below_tr b0.out d0)
          replace K := hide (K.out.below' d0)
          clear d0 x0 y0 y1 y2 c3 z0 z1 z2
          go_wp2
          go_roundw
          case rel => exact ⟨i + 1, by omega, by go_num, b0, K, al2⟩
          case measure => simp [intOf]; omega
        | false =>
          have e0 : r = false := alN.out (by unfold wholeB; rw [hc]; rfl)
          subst e0
          replace hc := hide hc
          go_wp2_with fail
          refine (rWhole_eq Y.out (T.out.below b0.out) false hc.out).mono ?_
          rintro e w3 ⟨_, rfl, d0, rfl⟩
          replace b0 := hide (below_tr b0.out d0)
          clear d0 x0 y0 y1 y2 c3 z0 z1 z2
          go_wp2
          exact opq_end hR ⟨_, rfl, b0.out, rfl⟩
    · obtain rfl : i = nX := by omega
      have e0 : r = true := by
        rw [← hr2.out, ← al.out, List.take_of_length_le (by rw [List.length_zip, lX.out, lW.out]; omega)]
      subst e0
      go_wp2
      exact opq_end hR ⟨_, rfl, b0.out, rfl⟩
end Go.Proofs.YtkefmeddnncacaaGreatDoor

/- the document's norms: Check, may, Fits, Whole. -/
set_option linter.unusedVariables false
set_option linter.unusedSimpArgs false
set_option maxRecDepth 100000
namespace Go.Proofs.YtkefmeddnncacaaGreatDoor
open Go.RowKit

theorem krWhole_e {w : World} {v : Value} {p : Rat} (h : RArg w v p) {r : Bool} (hr : decide (p.den = 1) = r) :
    Calls Tryz.prog 17 #[v] w fun e w' => ∃ u, e = .returned u ∧ Below w.heap.size w w' ∧ u = .bool r := (krWhole_P h).mono fun e w' ⟨u, h1, h2, h3⟩ => ⟨u, h1, h2, by rw [h3, hr]⟩
set_option maxHeartbeats 4000000 in
theorem qnormCheck_ok {w : World} {AL : Option Addr} {nL cL : Nat} {AR : Option Addr} {nR cR : Nat} {AG : Option Addr} {nG cG : Nat} {AW : Option Addr} {nW cW : Nat} {N : RN} (h : NSt w AL nL cL AR nR cR AG nG cG AW nW cW N) (r : Bool) (hr : nok N = r) :
    Calls Tryz.prog 46 #[.agg #[.slice AL nL cL, .slice AR nR cR, .slice AG nG cG, .slice AW nW cW]] w fun e w' => ∃ u, e = .returned u ∧ Below w.heap.size w w' ∧ u = .bool r := by
  refine opq fun R hR => ?_
  obtain ⟨lL, lR, lG, lW⟩ := h.lens
  have hlen : Hid (lensB N = (decide (1 ≤ nG) && decide (nG ≤ 32) && decide (nW = nG) && decide (nL ≤ 192) && decide (nR = nL))) := by
    show _ = _
    rw [lensB, lL, lR, lG, lW]
  have hnok : Hid (nok N = (lensB N && (N.goal.all rk && (N.right.all rk && N.left.all (rowB nG))))) := by
    show _ = _
    rw [nok, lG]
  clear lL lR lG lW
  replace h := hide h
  replace hr := hide hr
  have K := hide (Blk.new w 70 #[.slice AL nL cL, .slice AR nR cR, .slice AG nG cG, .slice AW nW cW])
  have b0 := hide ((Below.refl w.heap.size w).alloc (Nat.le_refl _) (.cells #[.slice AL nL cL, .slice AR nR cR, .slice AG nG cG, .slice AW nW cW] 70))
  go_enter Tryz.func46, Tryz.ntmps46
  have c0 := K.out.at_ 0 rfl
  have c1 := K.out.at_ 1 rfl
  have c2 := K.out.at_ 2 rfl
  have c3 := K.out.at_ 3 rfl
  have bad : Hid (lensB N = false → r = false) := fun e => by rw [← hr.out]; exact nok_lens e
  by_cases h1 : 1 ≤ nG
  case neg =>
    have z1 : (nG : Int) < 1 := by omega
    have e0 := bad.out (by rw [hlen.out, decide_eq_false h1]; rfl)
    subst e0
    go_wp2
    exact opq_end hR ⟨_, rfl, b0.out, rfl⟩
  have z1 : ¬ ((nG : Int) < 1) := by omega
  by_cases h2 : nG ≤ 32
  case neg =>
    have z2 : (nG : Int) > 32 := by omega
    have e0 := bad.out (by rw [hlen.out, decide_eq_false h2]; simp)
    subst e0
    go_wp2
    exact opq_end hR ⟨_, rfl, b0.out, rfl⟩
  have z2 : ¬ ((nG : Int) > 32) := by omega
  by_cases h3 : nW = nG
  case neg =>
    have z3 : ¬ ((nW : Int) = (nG : Int)) := by omega
    have e0 := bad.out (by rw [hlen.out, decide_eq_false h3]; simp)
    subst e0
    go_wp2
    exact opq_end hR ⟨_, rfl, b0.out, rfl⟩
  subst h3
  by_cases h4 : nL ≤ 192
  case neg =>
    have z4 : (nL : Int) > 192 := by omega
    have e0 := bad.out (by rw [hlen.out, decide_eq_false h4]; simp)
    subst e0
    go_wp2
    exact opq_end hR ⟨_, rfl, b0.out, rfl⟩
  have z4 : ¬ ((nL : Int) > 192) := by omega
  by_cases h5 : nR = nL
  case neg =>
    have z5 : ¬ ((nR : Int) = (nL : Int)) := by omega
    have e0 := bad.out (by rw [hlen.out, decide_eq_false h5]; simp)
    subst e0
    go_wp2
    exact opq_end hR ⟨_, rfl, b0.out, rfl⟩
  subst h5
  have e1 : Hid (nok N = (N.goal.all rk && (N.right.all rk && N.left.all (rowB nW)))) := by
    show _ = _
    rw [hnok.out, hlen.out]
    simp [h1, h2, h4]
  clear hlen hnok bad
  cases ha : N.goal.all rk with
  | false =>
    have e0 : r = false := by rw [← hr.out, e1.out, ha, Bool.false_and]
    subst e0
    replace ha := hide ha
    go_wp2_with fail
    refine (vkCheck_P (h.out.g.raw_below b0.out) false ha.out).mono ?_
    rintro e w1 ⟨_, rfl, d0, rfl⟩
    replace b0 := hide (below_tr b0.out d0)
    clear d0 c0 c1 c2 c3
    go_wp2
    exact opq_end hR ⟨_, rfl, b0.out, rfl⟩
  | true =>
    replace ha := hide ha
    go_wp2_with fail
    refine (vkCheck_P (h.out.g.raw_below b0.out) true ha.out).mono ?_
    rintro e w1 ⟨_, rfl, d0, rfl⟩
    replace b0 := hide (below_tr b0.out d0)
    replace K := hide (K.out.below' d0)
    clear d0 c0 c1 c2 c3
    have c1 := K.out.at_ 1 rfl
    cases hb : N.right.all rk with
    | false =>
      have e0 : r = false := by rw [← hr.out, e1.out, ha.out, hb]; rfl
      subst e0
      replace hb := hide hb
      go_wp2_with fail
      refine (vkCheck_P (h.out.r.raw_below b0.out) false hb.out).mono ?_
      rintro e w2 ⟨_, rfl, d0, rfl⟩
      replace b0 := hide (below_tr b0.out d0)
      clear d0 c1
      go_wp2
      exact opq_end hR ⟨_, rfl, b0.out, rfl⟩
    | true =>
      have e0 : Hid (r = N.left.all (rowB nW)) := by
        show _ = _
        rw [← hr.out, e1.out, ha.out, hb]; rfl
      replace hb := hide hb
      go_wp2_with fail
      refine (vkCheck_P (h.out.r.raw_below b0.out) true hb.out).mono ?_
      rintro e w2 ⟨_, rfl, d0, rfl⟩
      replace b0 := hide (below_tr b0.out d0)
      replace K := hide (K.out.below' d0)
      clear d0 c1
      have c0 := K.out.at_ 0 rfl
      go_wp2
      clear c0
      have lL := hide h.out.l.len
      have bL : nR ≤ 140737488355328 := by rw [← lL.out]; exact h.out.l.le_
      go_loopw [4] (fun iv wr => ∃ (i : Nat), i ≤ nR ∧ iv = .int .i64 (i : Nat) ∧ Hid (Below w.heap.size w wr) ∧ Hid (Blk wr w.heap.size 70 #[.slice AL nR cL, .slice AR nR cR, .slice AG nW cG, .slice AW nW cW]) ∧ Hid ((N.left.take i).all (rowB nW) = true)) (fun iv _ => nR - (intOf iv).toNat)
      case atStart => exact ⟨0, by omega, rfl, b0, K, by show _ = _; simp⟩
      case round =>
        clear b0 K
        obtain ⟨i, hi, rfl, b0, K, al⟩ := hrel
        have c0 := K.out.at_ 0 rfl
        by_cases hlt : i < nR
        · obtain ⟨row, hrow⟩ : ∃ row, N.left[i]? = some row := ⟨_, List.getElem?_eq_getElem (by rw [lL.out]; exact hlt)⟩
          obtain ⟨ad, A1, c1, e1, _, x0, X⟩ := h.out.l.at_ hrow
          subst e1
          replace x0 := cell_below b0.out x0
          have alS : rowB nW row = true → Hid ((N.left.take (i + 1)).all (rowB nW) = true) := fun hle => by
            show _ = _
            rw [List.take_add_one, hrow, List.all_append, al.out]
            simp [hle]
          have alN : rowB nW row = false → r = false := fun hle => by
            rw [e0.out, List.all_eq_false]
            exact ⟨_, List.mem_of_getElem? hrow, by simp [hle]⟩
          replace alS := hide alS
          replace alN := hide alN
          replace X := hide X
          clear hrow
          obtain ⟨mm, hmm⟩ : ∃ mm, Hid (row.length = mm) := ⟨_, rfl⟩
          rw [hmm.out] at x0 X
          by_cases hmk : mm = nW
          · subst hmk
            cases hc : row.all rk with
            | true =>
              have al2 := alS.out (by unfold rowB; rw [hmm.out, hc]; simp)
              replace hc := hide hc
              go_wp2_with fail
              refine (vkCheck_P (X.out.raw_below b0.out) true hc.out).mono ?_
              rintro e w3 ⟨_, rfl, d0, rfl⟩
              replace b0 := hide (below_tr b0.out d0)
              replace K := hide (K.out.below' d0)
              clear d0 c0 x0
              go_wp2
              go_roundw
              case rel => exact ⟨i + 1, by omega, by go_num, b0, K, al2⟩
              case measure => simp [intOf]; omega
            | false =>
              have er : r = false := alN.out (by unfold rowB; rw [hmm.out, hc]; simp)
              replace hc := hide hc
              go_wp2_with fail
              refine (vkCheck_P (X.out.raw_below b0.out) false hc.out).mono ?_
              rintro e w3 ⟨_, rfl, d0, rfl⟩
              replace b0 := hide (below_tr b0.out d0)
              clear d0 c0 x0
              replace er := hide er
              go_wp2
              exact opq_end hR ⟨_, rfl, b0.out, by rw [er.out]; rfl⟩
          · have er : Hid (r = false) := alN.out (by unfold rowB; rw [hmm.out, decide_eq_false hmk, Bool.false_and])
            have z : ¬ ((mm : Int) = (nW : Int)) := by omega
            go_wp2
            exact opq_end hR ⟨_, rfl, b0.out, by rw [er.out]; rfl⟩
        · obtain rfl : i = nR := by omega
          have er : Hid (r = true) := by
            show _ = _
            rw [e0.out, ← al.out, List.take_of_length_le (by rw [lL.out]; exact Nat.le_refl _)]
          go_wp2
          exact opq_end hR ⟨_, rfl, b0.out, by rw [er.out]; rfl⟩
set_option maxHeartbeats 2000000 in
theorem qnormMay_ok {w : World} {AL : Option Addr} {nL cL : Nat} {AR : Option Addr} {nR cR : Nat} {AG : Option Addr} {nG cG : Nat} {AW : Option Addr} {nW cW : Nat} {N : RN} (h : NSt w AL nL cL AR nR cR AG nG cG AW nW cW N) {AX : Option Addr} {nX cX : Nat} {x : List Raw} (hx : Lst RRaw w (.slice AX nX cX) x) (r : Bool) (hr : nmay N x = r) :
    Calls Tryz.prog 162 #[.agg #[.slice AL nL cL, .slice AR nR cR, .slice AG nG cG, .slice AW nW cW], .slice AX nX cX] w fun e w' => ∃ u, e = .returned u ∧ Below w.heap.size w w' ∧ u = .bool r := by
  refine opq fun R hR => ?_
  have lG := h.lens.2.2.1
  have lX := hx.len
  have hm : Hid (nmay N x = (nok N && (x.all rk && decide (nX = nG)))) := by
    show _ = _
    rw [nmay, lG, lX]
  clear lG lX
  replace h := hide h
  replace hx := hide hx
  replace hr := hide hr
  have K := hide (Blk.new w 70 #[.slice AL nL cL, .slice AR nR cR, .slice AG nG cG, .slice AW nW cW])
  have b0 := hide ((Below.refl w.heap.size w).alloc (Nat.le_refl _) (.cells #[.slice AL nL cL, .slice AR nR cR, .slice AG nG cG, .slice AW nW cW] 70))
  go_enter Tryz.func162, Tryz.ntmps162
  have c0 := K.out.at_ 0 rfl
  have c1 := K.out.at_ 1 rfl
  have c2 := K.out.at_ 2 rfl
  have c3 := K.out.at_ 3 rfl
  cases ha : nok N with
  | false =>
    have e0 : r = false := by rw [← hr.out, hm.out, ha, Bool.false_and]
    subst e0
    replace ha := hide ha
    go_wp2_with fail
    refine (qnormCheck_ok (h.out.below b0.out) false ha.out).mono ?_
    rintro e w1 ⟨_, rfl, d0, rfl⟩
    replace b0 := hide (below_tr b0.out d0)
    clear d0 c0 c1 c2 c3
    go_wp2
    exact opq_end hR ⟨_, rfl, b0.out, rfl⟩
  | true =>
    replace ha := hide ha
    go_wp2_with fail
    refine (qnormCheck_ok (h.out.below b0.out) true ha.out).mono ?_
    rintro e w1 ⟨_, rfl, d0, rfl⟩
    replace b0 := hide (below_tr b0.out d0)
    replace K := hide (K.out.below' d0)
    clear d0 c0 c1 c2 c3
    have c2 := K.out.at_ 2 rfl
    by_cases hxg : nX = nG
    case neg =>
      have e1 : r = false := by rw [← hr.out, hm.out, ha.out, decide_eq_false hxg, Bool.and_false]; rfl
      subst e1
      have z : ((nX : Int) == (nG : Int)) = false := by simp; omega
      go_wp2
      exact opq_end hR ⟨_, rfl, b0.out, rfl⟩
    subst hxg
    have e0 : Hid (r = x.all rk) := by
      show _ = _
      rw [← hr.out, hm.out, ha.out]; simp
    obtain ⟨q, hq⟩ : ∃ q, x.all rk = q := ⟨_, rfl⟩
    rw [hq] at e0
    replace hq := hide hq
    go_wp2_with fail
    refine (vkCheck_P (hx.out.raw_below b0.out) q hq.out).mono ?_
    rintro e w2 ⟨_, rfl, d0, rfl⟩
    replace b0 := hide (below_tr b0.out d0)
    clear d0 c2
    go_wp2
    exact opq_end hR ⟨_, rfl, b0.out, by rw [e0.out]; rfl⟩
theorem fgi_assayerref03_Cmp (args : Array Value) (w : World) : (callFunc 154 args).run Tryz.prog w = .ok (.enter 154 args) w := callFunc_enter Tryz.func154 (by kernel_rfl) rfl args w
set_option maxHeartbeats 4000000 in
theorem qnormFits_ok {w : World} {AL : Option Addr} {nL cL : Nat} {AR : Option Addr} {nR cR : Nat} {AG : Option Addr} {nG cG : Nat} {AW : Option Addr} {nW cW : Nat} {N : RN} (h : NSt w AL nL cL AR nR cR AG nG cG AW nW cW N) (hs : nsz N ≤ 3000) {AX : Option Addr} {nX cX : Nat} {x : List Raw} (hx : Lst RRaw w (.slice AX nX cX) x) (hxa : Lst RArg w (.slice AX nX cX) (x.map rvE)) (sx : tsz x ≤ 500) (r : Bool) (hr : nfits N x = r) :
    Calls Tryz.prog 48 #[.agg #[.slice AL nL cL, .slice AR nR cR, .slice AG nG cG, .slice AW nW cW], .slice AX nX cX] w fun e w' => ∃ u, e = .returned u ∧ Below w.heap.size w w' ∧ u = .bool r := by
  refine opq fun R hR => ?_
  have hN := hs
  unfold nsz at hN
  have lL := hide h.lens.1
  have lR := hide h.lens.2.1
  have gL : Hid (gsz N.left ≤ 3000) := (by omega : gsz N.left ≤ 3000)
  have gR : Hid (tsz N.right ≤ 3000) := (by omega : tsz N.right ≤ 3000)
  have sxx := hide sx
  have bL : nL ≤ 140737488355328 := by rw [← lL.out]; exact h.l.le_
  clear hs hN sx
  replace h := hide h
  replace hx := hide hx
  replace hxa := hide hxa
  replace hr := hide hr
  have K := hide (Blk.new w 70 #[.slice AL nL cL, .slice AR nR cR, .slice AG nG cG, .slice AW nW cW])
  have b0 := hide ((Below.refl w.heap.size w).alloc (Nat.le_refl _) (.cells #[.slice AL nL cL, .slice AR nR cR, .slice AG nG cG, .slice AW nW cW] 70))
  go_enter Tryz.func48, Tryz.ntmps48
  have c0 := K.out.at_ 0 rfl
  have c1 := K.out.at_ 1 rfl
  have c2 := K.out.at_ 2 rfl
  have c3 := K.out.at_ 3 rfl
  cases hm : nmay N x with
  | false =>
    have e0 : r = false := by rw [← hr.out, nfits, hm, Bool.false_and]
    subst e0
    replace hm := hide hm
    go_wp2_with fail
    refine (qnormMay_ok (h.out.below b0.out) (hx.out.raw_below b0.out) false hm.out).mono ?_
    rintro e w1 ⟨_, rfl, d0, rfl⟩
    replace b0 := hide (below_tr b0.out d0)
    clear d0 c0 c1 c2 c3
    go_wp2
    exact opq_end hR ⟨_, rfl, b0.out, rfl⟩
  | true =>
  obtain ⟨mR, mrow, mrr, mx, mxl, mwl, m32⟩ := nmay_parts hm
  have hr2 : Hid ((N.left.zip N.right).all (fitB x) = r) := by
    show _ = _
    rw [← hr.out, nfits, hm, Bool.true_and]
  have eRL : nL = nR := by rw [← lL.out, ← lR.out]; exact mR.symm
  subst eRL
  replace mrow := hide mrow
  replace mrr := hide mrr
  replace mx := hide mx
  replace mxl := hide mxl
  replace m32 := hide m32
  replace hm := hide hm
  clear mR mwl hr
  go_wp2_with fail
  refine (qnormMay_ok (h.out.below b0.out) (hx.out.raw_below b0.out) true hm.out).mono ?_
  rintro e w1 ⟨_, rfl, d0, rfl⟩
  replace b0 := hide (below_tr b0.out d0)
  replace K := hide (K.out.below' d0)
  clear d0 c0 c1 c2 c3
  have c0 := K.out.at_ 0 rfl
  go_wp2
  clear c0
  go_loopw [5] (fun iv wr => ∃ (i : Nat), i ≤ nL ∧ iv = .int .i64 (i : Nat) ∧ Hid (Below w.heap.size w wr) ∧ Hid (Blk wr w.heap.size 70 #[.slice AL nL cL, .slice AR nL cR, .slice AG nG cG, .slice AW nW cW]) ∧ Hid (((N.left.zip N.right).take i).all (fitB x) = true)) (fun iv _ => nL - (intOf iv).toNat)
  case atStart => exact ⟨0, by omega, rfl, b0, K, by show _ = _; simp⟩
  case round =>
    clear b0 K
    obtain ⟨i, hi, rfl, b0, K, al⟩ := hrel
    have c0 := K.out.at_ 0 rfl
    by_cases hlt : i < nL
    · obtain ⟨row, hrow⟩ : ∃ row, N.left[i]? = some row := ⟨_, List.getElem?_eq_getElem (by rw [lL.out]; exact hlt)⟩
      obtain ⟨p, hp⟩ : ∃ p, N.right[i]? = some p := ⟨_, List.getElem?_eq_getElem (by rw [lR.out]; exact hlt)⟩
      have hzz : (N.left.zip N.right)[i]? = some (row, p) := List.getElem?_zip_eq_some.2 ⟨hrow, hp⟩
      have hmem := List.mem_of_getElem? hrow
      obtain ⟨hrl, hra⟩ := mrow.out row hmem
      have srow := tsz_gsz hmem gL.out
      obtain ⟨ad, A1, c1, e1, _, x0, X⟩ := h.out.l.at_ hrow
      obtain ⟨ad', A1', c1', e3, _, x0', XA⟩ := h.out.la.at_ (qs := row.map rvE) (j := i) (by rw [List.getElem?_map, hrow]; rfl)
      rw [e1] at e3
      cases e3
      rw [List.length_map] at x0' XA
      obtain ⟨rfl, rfl⟩ : A1 = A1' ∧ c1 = c1' := by
        have q := x0.symm.trans x0'
        simp at q
        exact q
      clear x0'
      replace XA := hide XA
      obtain ⟨adr, b5, A5, n5, c5, D5, m5, k5, e2, _, y0, y1, y2, Y⟩ := h.out.ra.at_ tri_arg (q := rvE p) (j := i) (by rw [List.getElem?_map, hp]; rfl)
      subst e1
      subst e2
      replace x0 := cell_below b0.out x0
      have sp : Hid (H (rvE p) 100000) := ((h.out.r.siz (Nat.le_trans gR.out (by decide))) p (List.mem_of_getElem? hp)).up (Nat.le_trans (tsz_mem (List.mem_of_getElem? hp)) (Nat.le_trans gR.out (by decide)))
      have sd : Hid (H (dot (row.map rvE) (x.map rvE)) 100000) := (H_dotN (X.siz (Nat.le_trans srow.2 (by decide))) (hx.out.siz (Nat.le_trans sxx.out (by decide)))).up (by have := sxx.out; omega)
      have hsr : Hid (Hs (row.map rvE) 3000) := X.hs srow.2 (by decide)
      have hsx : Hid (Hs (x.map rvE) 3000) := hx.out.hs (Nat.le_trans sxx.out (by decide)) (by decide)
      have hfit : Hid (fits row x = true) := by
        show _ = _
        unfold fits
        rw [hra, mx.out, decide_eq_true (by rw [hrl, mxl.out])]
        rfl
      have alS : cmpQ (dot (row.map rvE) (x.map rvE)) (rvE p) ≤ 0 → Hid (((N.left.zip N.right).take (i + 1)).all (fitB x) = true) := fun hle => by
        show _ = _
        rw [List.take_add_one, hzz, List.all_append, al.out]
        simp [fitB, hle]
      have alN : ¬ (cmpQ (dot (row.map rvE) (x.map rvE)) (rvE p) ≤ 0) → r = false := fun hle => by
        rw [← hr2.out, List.all_eq_false]
        exact ⟨_, List.mem_of_getElem? hzz, by simp [fitB, hle]⟩
      replace X := hide X
      replace hrl := hide hrl
      replace hra := hide hra
      clear hzz hmem srow hrow hp
      obtain ⟨mm, hmm⟩ : ∃ mm, Hid (row.length = mm) := ⟨_, rfl⟩
      rw [hmm.out] at x0 X
      rw [hmm.out] at XA
      have hlt2 : ¬ ((nL : Int) ≤ (i : Int)) := by omega
      go_wp2_with fail
      refine (vkDot_ok (X.out.raw_below b0.out) (XA.out.arg_below b0.out) (hx.out.raw_below b0.out) (hxa.out.arg_below b0.out) hfit.out 3000 hsr.out hsx.out (by rw [hrl]; have := m32.out; omega)).mono ?_
      rintro e w2 ⟨u, rfl, d0, q0'⟩
      have d1 := hide d0
      have q0 := q0'.can
      obtain ⟨b4, A4, n4, c4, D4, m4, k4, rfl⟩ := q0.slice
      have yy : Below w2.heap.size w2 (w2.alloc (.cells #[.bool b4, .slice A4 n4 c4, .slice D4 m4 k4] TR)) := (Below.refl _ _).alloc (Nat.le_refl _) _
      have KS := hide (Blk.new w2 TR #[.bool b4, .slice A4 n4 c4, .slice D4 m4 k4])
      have Z0 : Hid ((w2.alloc (.cells #[.bool b4, .slice A4 n4 c4, .slice D4 m4 k4] TR)).cell? ⟨w2.heap.size, 0, none⟩ = some (.bool b4)) := KS.out.at_ 0 rfl
      have Z1 : Hid ((w2.alloc (.cells #[.bool b4, .slice A4 n4 c4, .slice D4 m4 k4] TR)).cell? ⟨w2.heap.size, 1, none⟩ = some (.slice A4 n4 c4)) := KS.out.at_ 1 rfl
      have Z2 : Hid ((w2.alloc (.cells #[.bool b4, .slice A4 n4 c4, .slice D4 m4 k4] TR)).cell? ⟨w2.heap.size, 2, none⟩ = some (.slice D4 m4 k4)) := KS.out.at_ 2 rfl
      have SU := hide ((q0.arg (sd.out.up (by decide))).below yy)
      have D := below_tr d1.out yy
      have E0 := hide (cell_below D (cell_below b0.out y0))
      have E1 := hide (cell_below D (cell_below b0.out y1))
      have E2 := hide (cell_below D (cell_below b0.out y2))
      replace Y := hide ((Y.below b0.out).below D)
      replace b0 := hide (below_tr b0.out D)
      replace K := hide (K.out.below' D)
      have KR1 : Hid ((w2.alloc (.cells #[.bool b4, .slice A4 n4 c4, .slice D4 m4 k4] TR)).cell? ⟨w.heap.size, 1, none⟩ = some (.slice (some adr) nL cR)) := K.out.at_ 1 rfl
      have s1 := sd
      have s2 := sp
      clear D d0 d1 yy KS q0 y0 y1 y2 c0 x0 X
      rcases cmp3 (dot (row.map rvE) (x.map rvE)) (rvE p) with hc | hc | hc
      · replace hc := hide hc
        have al2 := alS (by rw [hc.out]; decide)
        go_wp2
        refine wp_region_facts 8 (fun w' => Below (w2.alloc (.cells #[.bool b4, .slice A4 n4 c4, .slice D4 m4 k4] TR)).heap.size (w2.alloc (.cells #[.bool b4, .slice A4 n4 c4, .slice D4 m4 k4] TR)) w') [(29, .eq (.agg #[.bool b4, .slice A4 n4 c4, .slice D4 m4 k4])), (30, .eq ((.pointer (some ⟨w.heap.size, 1, none⟩) : Value))), (31, .eq (.slice (some adr) nL cR)), (32, .eq (.int .i64 (i : Nat))), (33, .eq ((.pointer (some (adr.add (i * 3))) : Value))), (34, .eq (.agg #[.bool b5, .slice A5 n5 c5, .slice D5 m5 k5])), (35, .eq (.int .i64 (-1))), (36, .eq (.bool false))] [false, false, false, false, false, false, false, false, false, false, false, false, false, false, false, false, false, false, false, false, false, false, false, false, false, false, false, false, false, true, true, true, true, true, true, true, true] mixed (by kernel_rfl) (by kernel_rfl) (by kernel_rfl) (fun _ _ h hb => h.trans (hb.mono h.size)) ((Below.refl _ _).drew) ⟨?_, ?_, ?_, ?_, ?_, ?_, ?_, ?_, trivial⟩ ?_
        · exact .load (.agg #[.bool b4, .slice A4 n4 c4, .slice D4 m4 k4]) (.inl rfl) rfl rfl (fun a w' hC hs hl => by rw [show a.eval (.tmp 6) = (.pointer (some ⟨w2.heap.size, 0, none⟩) : Value) from (hs 6 (by kernel_rfl))]; exact ⟨by simp [go_sem, cell_below hC Z0.out, cell_below hC Z1.out, cell_below hC Z2.out], rfl⟩)
        · exact .fieldAddr (.inl rfl) rfl rfl rfl (fun a w' hC hs hl => by rw [show a.eval (.tmp 2) = (.pointer (some ⟨w.heap.size, 0, none⟩) : Value) from (hs 2 (by kernel_rfl))]; simp [go_sem])
        · exact .load (.slice (some adr) nL cR) (.inl rfl) rfl rfl (fun a w' hC hs hl => by rw [show a.eval (.tmp 30) = (.pointer (some ⟨w.heap.size, 1, none⟩) : Value) from (hl 30 (by kernel_rfl) (by kernel_rfl))]; exact ⟨by simp [go_sem, cell_below hC KR1.out], rfl⟩)
        · exact .moveC (.inl rfl) (.inl rfl) rfl (fun a w' hC hs => (hs 5 (by kernel_rfl)))
        · exact .value (.inl rfl) (by intro T e; cases e) rfl rfl (fun a w' hC hs hl => by
            have e0 : a.eval (.tmp 31) = (.slice (some adr) nL cR) := (hl 31 (by kernel_rfl) (by kernel_rfl))
            have e1 : a.eval (.tmp 32) = (.int .i64 (i : Nat)) := (hl 32 (by kernel_rfl) (by kernel_rfl))
            simp only [execOp, e0, e1]
            simp [go_sem, hlt2])
        · exact .load (.agg #[.bool b5, .slice A5 n5 c5, .slice D5 m5 k5]) (.inl rfl) rfl rfl (fun a w' hC hs hl => by rw [show a.eval (.tmp 33) = (.pointer (some (adr.add (i * 3))) : Value) from (hl 33 (by kernel_rfl) (by kernel_rfl))]; exact ⟨ld_RatAt (cell_below hC E0.out) (cell_below hC E1.out) (cell_below hC E2.out), rfl⟩)
        · exact .call (.inl rfl) rfl rfl fgi_assayerref03_Cmp (fun a w' hC hs hl => by
            show Calls _ _ #[a.eval (.tmp 29), a.eval (.tmp 34)] _ _
            rw [show a.eval (.tmp 29) = (.agg #[.bool b4, .slice A4 n4 c4, .slice D4 m4 k4] : Value) from (hl 29 (by kernel_rfl) (by kernel_rfl)), show a.eval (.tmp 34) = (.agg #[.bool b5, .slice A5 n5 c5, .slice D5 m5 k5] : Value) from (hl 34 (by kernel_rfl) (by kernel_rfl))]
            exact krCmp_eq (SU.out.below hC) (Y.out.below hC) s1.out s2.out hc.out)
        · exact .value (.inl rfl) (by intro T e; cases e) rfl rfl (fun a w' hC hs hl => by
            have e0 : a.eval (.tmp 35) = (.int .i64 (-1)) := (hl 35 (by kernel_rfl) (by kernel_rfl))
            simp only [execOp, e0]
            simp only [Act.eval]
            simp [go_sem] <;> rfl)
        · intro f wz hC hF _
          have fz : f 36 = .bool false := hF 36 (by kernel_rfl)
          clear hF
          simp only [patch, List.drop]
          rw [fz]
          clear fz
          try change wpList _ _ _ [] _ _
          generalize f 29 = y29_
          generalize f 30 = y30_
          generalize f 31 = y31_
          generalize f 32 = y32_
          generalize f 33 = y33_
          generalize f 34 = y34_
          generalize f 35 = y35_
          have b0' := hide (below_tr b0.out hC)
          have K' := hide (K.out.below' hC)
          clear hC Z0 Z1 Z2 KR1 E0 E1 E2 hlt2 SU Y
          go_wp2
          go_roundw
          case rel => exact ⟨i + 1, by omega, by go_num, b0', K', al2⟩
          case measure => simp [intOf]; omega
      · replace hc := hide hc
        have al2 := alS (by rw [hc.out]; decide)
        go_wp2
        refine wp_region_facts 8 (fun w' => Below (w2.alloc (.cells #[.bool b4, .slice A4 n4 c4, .slice D4 m4 k4] TR)).heap.size (w2.alloc (.cells #[.bool b4, .slice A4 n4 c4, .slice D4 m4 k4] TR)) w') [(29, .eq (.agg #[.bool b4, .slice A4 n4 c4, .slice D4 m4 k4])), (30, .eq ((.pointer (some ⟨w.heap.size, 1, none⟩) : Value))), (31, .eq (.slice (some adr) nL cR)), (32, .eq (.int .i64 (i : Nat))), (33, .eq ((.pointer (some (adr.add (i * 3))) : Value))), (34, .eq (.agg #[.bool b5, .slice A5 n5 c5, .slice D5 m5 k5])), (35, .eq (.int .i64 (0))), (36, .eq (.bool false))] [false, false, false, false, false, false, false, false, false, false, false, false, false, false, false, false, false, false, false, false, false, false, false, false, false, false, false, false, false, true, true, true, true, true, true, true, true] mixed (by kernel_rfl) (by kernel_rfl) (by kernel_rfl) (fun _ _ h hb => h.trans (hb.mono h.size)) ((Below.refl _ _).drew) ⟨?_, ?_, ?_, ?_, ?_, ?_, ?_, ?_, trivial⟩ ?_
        · exact .load (.agg #[.bool b4, .slice A4 n4 c4, .slice D4 m4 k4]) (.inl rfl) rfl rfl (fun a w' hC hs hl => by rw [show a.eval (.tmp 6) = (.pointer (some ⟨w2.heap.size, 0, none⟩) : Value) from (hs 6 (by kernel_rfl))]; exact ⟨by simp [go_sem, cell_below hC Z0.out, cell_below hC Z1.out, cell_below hC Z2.out], rfl⟩)
        · exact .fieldAddr (.inl rfl) rfl rfl rfl (fun a w' hC hs hl => by rw [show a.eval (.tmp 2) = (.pointer (some ⟨w.heap.size, 0, none⟩) : Value) from (hs 2 (by kernel_rfl))]; simp [go_sem])
        · exact .load (.slice (some adr) nL cR) (.inl rfl) rfl rfl (fun a w' hC hs hl => by rw [show a.eval (.tmp 30) = (.pointer (some ⟨w.heap.size, 1, none⟩) : Value) from (hl 30 (by kernel_rfl) (by kernel_rfl))]; exact ⟨by simp [go_sem, cell_below hC KR1.out], rfl⟩)
        · exact .moveC (.inl rfl) (.inl rfl) rfl (fun a w' hC hs => (hs 5 (by kernel_rfl)))
        · exact .value (.inl rfl) (by intro T e; cases e) rfl rfl (fun a w' hC hs hl => by
            have e0 : a.eval (.tmp 31) = (.slice (some adr) nL cR) := (hl 31 (by kernel_rfl) (by kernel_rfl))
            have e1 : a.eval (.tmp 32) = (.int .i64 (i : Nat)) := (hl 32 (by kernel_rfl) (by kernel_rfl))
            simp only [execOp, e0, e1]
            simp [go_sem, hlt2])
        · exact .load (.agg #[.bool b5, .slice A5 n5 c5, .slice D5 m5 k5]) (.inl rfl) rfl rfl (fun a w' hC hs hl => by rw [show a.eval (.tmp 33) = (.pointer (some (adr.add (i * 3))) : Value) from (hl 33 (by kernel_rfl) (by kernel_rfl))]; exact ⟨ld_RatAt (cell_below hC E0.out) (cell_below hC E1.out) (cell_below hC E2.out), rfl⟩)
        · exact .call (.inl rfl) rfl rfl fgi_assayerref03_Cmp (fun a w' hC hs hl => by
            show Calls _ _ #[a.eval (.tmp 29), a.eval (.tmp 34)] _ _
            rw [show a.eval (.tmp 29) = (.agg #[.bool b4, .slice A4 n4 c4, .slice D4 m4 k4] : Value) from (hl 29 (by kernel_rfl) (by kernel_rfl)), show a.eval (.tmp 34) = (.agg #[.bool b5, .slice A5 n5 c5, .slice D5 m5 k5] : Value) from (hl 34 (by kernel_rfl) (by kernel_rfl))]
            exact krCmp_eq (SU.out.below hC) (Y.out.below hC) s1.out s2.out hc.out)
        · exact .value (.inl rfl) (by intro T e; cases e) rfl rfl (fun a w' hC hs hl => by
            have e0 : a.eval (.tmp 35) = (.int .i64 (0)) := (hl 35 (by kernel_rfl) (by kernel_rfl))
            simp only [execOp, e0]
            simp only [Act.eval]
            simp [go_sem] <;> rfl)
        · intro f wz hC hF _
          have fz : f 36 = .bool false := hF 36 (by kernel_rfl)
          clear hF
          simp only [patch, List.drop]
          rw [fz]
          clear fz
          try change wpList _ _ _ [] _ _
          generalize f 29 = y29_
          generalize f 30 = y30_
          generalize f 31 = y31_
          generalize f 32 = y32_
          generalize f 33 = y33_
          generalize f 34 = y34_
          generalize f 35 = y35_
          have b0' := hide (below_tr b0.out hC)
          have K' := hide (K.out.below' hC)
          clear hC Z0 Z1 Z2 KR1 E0 E1 E2 hlt2 SU Y
          go_wp2
          go_roundw
          case rel => exact ⟨i + 1, by omega, by go_num, b0', K', al2⟩
          case measure => simp [intOf]; omega
      · replace hc := hide hc
        have e0 : r = false := alN (by rw [hc.out]; decide)
        subst e0
        go_wp2
        refine wp_region_facts 8 (fun w' => Below (w2.alloc (.cells #[.bool b4, .slice A4 n4 c4, .slice D4 m4 k4] TR)).heap.size (w2.alloc (.cells #[.bool b4, .slice A4 n4 c4, .slice D4 m4 k4] TR)) w') [(29, .eq (.agg #[.bool b4, .slice A4 n4 c4, .slice D4 m4 k4])), (30, .eq ((.pointer (some ⟨w.heap.size, 1, none⟩) : Value))), (31, .eq (.slice (some adr) nL cR)), (32, .eq (.int .i64 (i : Nat))), (33, .eq ((.pointer (some (adr.add (i * 3))) : Value))), (34, .eq (.agg #[.bool b5, .slice A5 n5 c5, .slice D5 m5 k5])), (35, .eq (.int .i64 (1))), (36, .eq (.bool true))] [false, false, false, false, false, false, false, false, false, false, false, false, false, false, false, false, false, false, false, false, false, false, false, false, false, false, false, false, false, true, true, true, true, true, true, true, true] mixed (by kernel_rfl) (by kernel_rfl) (by kernel_rfl) (fun _ _ h hb => h.trans (hb.mono h.size)) ((Below.refl _ _).drew) ⟨?_, ?_, ?_, ?_, ?_, ?_, ?_, ?_, trivial⟩ ?_
        · exact .load (.agg #[.bool b4, .slice A4 n4 c4, .slice D4 m4 k4]) (.inl rfl) rfl rfl (fun a w' hC hs hl => by rw [show a.eval (.tmp 6) = (.pointer (some ⟨w2.heap.size, 0, none⟩) : Value) from (hs 6 (by kernel_rfl))]; exact ⟨by simp [go_sem, cell_below hC Z0.out, cell_below hC Z1.out, cell_below hC Z2.out], rfl⟩)
        · exact .fieldAddr (.inl rfl) rfl rfl rfl (fun a w' hC hs hl => by rw [show a.eval (.tmp 2) = (.pointer (some ⟨w.heap.size, 0, none⟩) : Value) from (hs 2 (by kernel_rfl))]; simp [go_sem])
        · exact .load (.slice (some adr) nL cR) (.inl rfl) rfl rfl (fun a w' hC hs hl => by rw [show a.eval (.tmp 30) = (.pointer (some ⟨w.heap.size, 1, none⟩) : Value) from (hl 30 (by kernel_rfl) (by kernel_rfl))]; exact ⟨by simp [go_sem, cell_below hC KR1.out], rfl⟩)
        · exact .moveC (.inl rfl) (.inl rfl) rfl (fun a w' hC hs => (hs 5 (by kernel_rfl)))
        · exact .value (.inl rfl) (by intro T e; cases e) rfl rfl (fun a w' hC hs hl => by
            have e0 : a.eval (.tmp 31) = (.slice (some adr) nL cR) := (hl 31 (by kernel_rfl) (by kernel_rfl))
            have e1 : a.eval (.tmp 32) = (.int .i64 (i : Nat)) := (hl 32 (by kernel_rfl) (by kernel_rfl))
            simp only [execOp, e0, e1]
            simp [go_sem, hlt2])
        · exact .load (.agg #[.bool b5, .slice A5 n5 c5, .slice D5 m5 k5]) (.inl rfl) rfl rfl (fun a w' hC hs hl => by rw [show a.eval (.tmp 33) = (.pointer (some (adr.add (i * 3))) : Value) from (hl 33 (by kernel_rfl) (by kernel_rfl))]; exact ⟨ld_RatAt (cell_below hC E0.out) (cell_below hC E1.out) (cell_below hC E2.out), rfl⟩)
        · exact .call (.inl rfl) rfl rfl fgi_assayerref03_Cmp (fun a w' hC hs hl => by
            show Calls _ _ #[a.eval (.tmp 29), a.eval (.tmp 34)] _ _
            rw [show a.eval (.tmp 29) = (.agg #[.bool b4, .slice A4 n4 c4, .slice D4 m4 k4] : Value) from (hl 29 (by kernel_rfl) (by kernel_rfl)), show a.eval (.tmp 34) = (.agg #[.bool b5, .slice A5 n5 c5, .slice D5 m5 k5] : Value) from (hl 34 (by kernel_rfl) (by kernel_rfl))]
            exact krCmp_eq (SU.out.below hC) (Y.out.below hC) s1.out s2.out hc.out)
        · exact .value (.inl rfl) (by intro T e; cases e) rfl rfl (fun a w' hC hs hl => by
            have e0 : a.eval (.tmp 35) = (.int .i64 (1)) := (hl 35 (by kernel_rfl) (by kernel_rfl))
            simp only [execOp, e0]
            simp only [Act.eval]
            simp [go_sem] <;> rfl)
        · intro f wz hC hF _
          have fz : f 36 = .bool true := hF 36 (by kernel_rfl)
          clear hF
          simp only [patch, List.drop]
          rw [fz]
          clear fz
          try change wpList _ _ _ [] _ _
          generalize f 29 = y29_
          generalize f 30 = y30_
          generalize f 31 = y31_
          generalize f 32 = y32_
          generalize f 33 = y33_
          generalize f 34 = y34_
          generalize f 35 = y35_
          have b0' := hide (below_tr b0.out hC)
          have K' := hide (K.out.below' hC)
          clear hC Z0 Z1 Z2 KR1 E0 E1 E2 hlt2 SU Y
          go_wp2
          exact opq_end hR ⟨_, rfl, b0'.out, rfl⟩
    · obtain rfl : i = nL := by omega
      have e0 : r = true := by
        rw [← hr2.out, ← al.out, List.take_of_length_le (by rw [List.length_zip, lL.out, lR.out]; omega)]
      subst e0
      go_wp2
      exact opq_end hR ⟨_, rfl, b0.out, rfl⟩
set_option maxHeartbeats 4000000 in
theorem qnormWhole_ok {w : World} {AL : Option Addr} {nL cL : Nat} {AR : Option Addr} {nR cR : Nat} {AG : Option Addr} {nG cG : Nat} {AW : Option Addr} {nW cW : Nat} {N : RN} (h : NSt w AL nL cL AR nR cR AG nG cG AW nW cW N) {AX : Option Addr} {nX cX : Nat} {x : List Raw} (hx : Lst RRaw w (.slice AX nX cX) x) (hxa : Lst RArg w (.slice AX nX cX) (x.map rvE)) (r : Bool) (hr : nwhole N x = r) :
    Calls Tryz.prog 50 #[.agg #[.slice AL nL cL, .slice AR nR cR, .slice AG nG cG, .slice AW nW cW], .slice AX nX cX] w fun e w' => ∃ u, e = .returned u ∧ Below w.heap.size w w' ∧ u = .bool r := by
  refine opq fun R hR => ?_
  have lX := hide hx.len
  have lW := hide h.lens.2.2.2
  have lG := hide h.lens.2.2.1
  have bX : nX ≤ 140737488355328 := by rw [← lX.out]; exact hx.le_
  replace h := hide h
  replace hx := hide hx
  replace hxa := hide hxa
  replace hr := hide hr
  have K := hide (Blk.new w 70 #[.slice AL nL cL, .slice AR nR cR, .slice AG nG cG, .slice AW nW cW])
  have b0 := hide ((Below.refl w.heap.size w).alloc (Nat.le_refl _) (.cells #[.slice AL nL cL, .slice AR nR cR, .slice AG nG cG, .slice AW nW cW] 70))
  go_enter Tryz.func50, Tryz.ntmps50
  have c0 := K.out.at_ 0 rfl
  have c1 := K.out.at_ 1 rfl
  have c2 := K.out.at_ 2 rfl
  have c3 := K.out.at_ 3 rfl
  cases hm : nmay N x with
  | false =>
    have e0 : r = false := by rw [← hr.out, nwhole, hm, Bool.false_and]
    subst e0
    replace hm := hide hm
    go_wp2_with fail
    refine (qnormMay_ok (h.out.below b0.out) (hx.out.raw_below b0.out) false hm.out).mono ?_
    rintro e w1 ⟨_, rfl, d0, rfl⟩
    replace b0 := hide (below_tr b0.out d0)
    clear d0 c0 c1 c2 c3
    go_wp2
    exact opq_end hR ⟨_, rfl, b0.out, rfl⟩
  | true =>
  obtain ⟨mR, mrow, mrr, mx, mxl, mwl, m32⟩ := nmay_parts hm
  have hr2 : Hid ((N.whole.zip x).all wholeB = r) := by
    show _ = _
    rw [← hr.out, nwhole, hm, Bool.true_and]
  have eW : nX = nW := by rw [← lX.out, ← lW.out, mxl, mwl]
  subst eW
  replace hm := hide hm
  clear mR mrow mrr mx mxl mwl m32 hr
  go_wp2_with fail
  refine (qnormMay_ok (h.out.below b0.out) (hx.out.raw_below b0.out) true hm.out).mono ?_
  rintro e w1 ⟨_, rfl, d0, rfl⟩
  replace b0 := hide (below_tr b0.out d0)
  replace K := hide (K.out.below' d0)
  clear d0 c0 c1 c2 c3
  go_wp2
  go_loopw [5] (fun iv wr => ∃ (i : Nat), i ≤ nX ∧ iv = .int .i64 (i : Nat) ∧ Hid (Below w.heap.size w wr) ∧ Hid (Blk wr w.heap.size 70 #[.slice AL nL cL, .slice AR nR cR, .slice AG nG cG, .slice AW nX cW]) ∧ Hid (((N.whole.zip x).take i).all wholeB = true)) (fun iv _ => nX - (intOf iv).toNat)
  case atStart => exact ⟨0, by omega, rfl, b0, K, by show _ = _; simp⟩
  case round =>
    clear b0 K
    obtain ⟨i, hi, rfl, b0, K, al⟩ := hrel
    have c3 := K.out.at_ 3 rfl
    by_cases hlt : i < nX
    · obtain ⟨b, hb⟩ : ∃ b, N.whole[i]? = some b := ⟨_, List.getElem?_eq_getElem (by rw [lW.out]; exact hlt)⟩
      obtain ⟨p, hp⟩ : ∃ p, x[i]? = some p := ⟨_, List.getElem?_eq_getElem (by rw [lX.out]; exact hlt)⟩
      have hzz : (N.whole.zip x)[i]? = some (b, p) := List.getElem?_zip_eq_some.2 ⟨hb, hp⟩
      obtain ⟨ad, e1, x0⟩ := h.out.b.at_ hb
      obtain ⟨adr, b5, A5, n5, c5, D5, m5, k5, e2, _, y0, y1, y2, Y⟩ := hxa.out.at_ tri_arg (q := rvE p) (j := i) (by rw [List.getElem?_map, hp]; rfl)
      subst e1
      subst e2
      replace Y := hide Y
      replace y0 := cell_below b0.out y0
      replace y1 := cell_below b0.out y1
      replace y2 := cell_below b0.out y2
      replace x0 := cell_below b0.out x0
      have alS : wholeB (b, p) = true → Hid (((N.whole.zip x).take (i + 1)).all wholeB = true) := fun hle => by
        show _ = _
        rw [List.take_add_one, hzz, List.all_append, al.out]
        simp [hle]
      have alN : wholeB (b, p) = false → r = false := fun hle => by
        rw [← hr2.out, List.all_eq_false]
        exact ⟨_, List.mem_of_getElem? hzz, by simp [hle]⟩
      replace alS := hide alS
      replace alN := hide alN
      clear hzz hb hp
      cases b with
      | false =>
        have al2 := alS.out rfl
        go_wp2
        go_roundw
        case rel => exact ⟨i + 1, by omega, by go_num, b0, K, al2⟩
        case measure => simp [intOf]; omega
      | true =>
        cases hc : decide ((rvE p).den = 1) with
        | true =>
          have al2 := alS.out (by unfold wholeB; rw [hc]; rfl)
          replace hc := hide hc
          go_wp2_with fail
          refine (krWhole_e (r := true) (Y.out.below b0.out) hc.out).mono ?_
          rintro e w3 ⟨_, rfl, d0, rfl⟩
          replace b0 := hide (below_tr b0.out d0)
          replace K := hide (K.out.below' d0)
          clear d0 x0 y0 y1 y2 c3
          go_wp2
          go_roundw
          case rel => exact ⟨i + 1, by omega, by go_num, b0, K, al2⟩
          case measure => simp [intOf]; omega
        | false =>
          have e0 : r = false := alN.out (by unfold wholeB; rw [hc]; rfl)
          subst e0
          replace hc := hide hc
          go_wp2_with fail
          refine (krWhole_e (r := false) (Y.out.below b0.out) hc.out).mono ?_
          rintro e w3 ⟨_, rfl, d0, rfl⟩
          replace b0 := hide (below_tr b0.out d0)
          clear d0 x0 y0 y1 y2 c3
          go_wp2
          exact opq_end hR ⟨_, rfl, b0.out, rfl⟩
    · obtain rfl : i = nX := by omega
      have e0 : r = true := by
        rw [← hr2.out, ← al.out, List.take_of_length_le (by rw [List.length_zip, lX.out, lW.out]; omega)]
      subst e0
      go_wp2
      exact opq_end hR ⟨_, rfl, b0.out, rfl⟩
end Go.Proofs.YtkefmeddnncacaaGreatDoor
