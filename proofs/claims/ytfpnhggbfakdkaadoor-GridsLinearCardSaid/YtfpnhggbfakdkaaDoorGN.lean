/- Grids and norms: words, what comes in, how large, twins; contracts of norms, the program's and the document's. -/
import Derived.Test.YtfpnhggbfakdkaaDoorVB
import Derived.Test.YtfpnhggbfakdkaaDoorVA
import Derived.Test.YtfpnhggbfakdkaaDoorTW
import Derived.Test.YtfpnhggbfakdkaaDoorFR
/- Grids of fractions: words; what comes in. -/
set_option linter.unusedVariables false
set_option linter.unusedSimpArgs false
set_option maxRecDepth 100000
namespace Go.Proofs.YtfpnhggbfakdkaaDoor
open Go.ChangeShapes Go.WideShapes Go.ChangeAt Go.RowKit Go.Joins

/-- A list of lists whose elements are as told. -/
def Gst {α : Type} (E : World → Value → α → Prop) (w : World) (v : Value) (qss : List (List α)) : Prop :=
  ∃ (A : Option Addr) (n c : Nat) (us : List Value), v = .slice A n c ∧ n ≤ c ∧ n = qss.length ∧ us.length = n ∧ n ≤ 140737488355328 ∧
    (0 < n → ∃ ad, A = some ad ∧ ad.block < w.heap.size ∧ ∀ (j : Nat) u, us[j]? = some u → w.cell? (ad.add j) = some u) ∧
    ∀ (j : Nat) qs, qss[j]? = some qs → ∃ u, us[j]? = some u ∧ Lst E w u qs
section
variable {α β : Type} {E : World → Value → α → Prop} {w w' : World} {v : Value} {qss : List (List α)}
theorem Gst.sl (h : Gst E w v qss) : ∃ A c, v = .slice A qss.length c := by
  obtain ⟨A, n, c, us, e, _, h2, _⟩ := h
  subst h2
  exact ⟨A, c, e⟩
theorem Gst.len {A : Option Addr} {n c : Nat} (h : Gst E w (.slice A n c) qss) : qss.length = n := by
  obtain ⟨_, _, _, _, e, _, h2, _⟩ := h
  cases e
  exact h2.symm
theorem Gst.le_ (h : Gst E w v qss) : qss.length ≤ 140737488355328 := by
  obtain ⟨_, _, _, _, e, _, h2, _, h4, _⟩ := h
  omega
theorem Gst.below (h : Gst E w v qss) (hE : ∀ u q, E w u q → E w' u q) (hb : Below w.heap.size w w') : Gst E w' v qss := by
  obtain ⟨A, n, c, us, e, h1, h2, h3, h4, h5, h6⟩ := h
  refine ⟨A, n, c, us, e, h1, h2, h3, h4, fun h0 => ?_, fun j qs hq => ?_⟩
  · obtain ⟨ad, e1, hl, hc⟩ := h5 h0
    exact ⟨ad, e1, Nat.lt_of_lt_of_le hl hb.size, fun j u hu => cell_below hb (hc j u hu)⟩
  · obtain ⟨u, hu, hL⟩ := h6 j qs hq
    exact ⟨u, hu, hL.below hE hb⟩
theorem Gst.imp {F : World → Value → β → Prop} (h : Gst E w v qss) (f : α → β) (hf : ∀ qs ∈ qss, ∀ u q, q ∈ qs → E w u q → F w u (f q)) : Gst F w v (qss.map fun qs => qs.map f) := by
  obtain ⟨A, n, c, us, e, h1, h2, h3, h4, h5, h6⟩ := h
  refine ⟨A, n, c, us, e, h1, by rw [List.length_map]; exact h2, h3, h4, h5, fun j qs hq => ?_⟩
  rw [List.getElem?_map] at hq
  obtain ⟨p, hp, rfl⟩ := Option.map_eq_some_iff.1 hq
  obtain ⟨u, hu, hL⟩ := h6 j p hp
  exact ⟨u, hu, hL.imp f fun x q hq hx => hf p (List.mem_of_getElem? hp) x q hq hx⟩
/-- A row. -/
theorem Gst.at_ {A : Option Addr} {n c : Nat} (h : Gst E w (.slice A n c) qss) {j : Nat} {qs : List α} (hj : qss[j]? = some qs) :
    ∃ ad A1 c1, A = some ad ∧ j < n ∧ w.cell? (ad.add j) = some (.slice A1 qs.length c1) ∧ Lst E w (.slice A1 qs.length c1) qs := by
  obtain ⟨A', n', c', us, e, h1, h2, h3, h4, h5, h6⟩ := h
  cases e
  have hjn : j < n := by
    rw [h2]
    exact (List.getElem?_eq_some_iff.1 hj).1
  obtain ⟨ad, rfl, hl, hc⟩ := h5 (by omega)
  obtain ⟨u, hu, hL⟩ := h6 j qs hj
  obtain ⟨A1, n1, c1, us1, rfl, g1, g2, _⟩ := id hL
  subst g2
  exact ⟨ad, A1, c1, rfl, hjn, hc j _ hu, hL⟩
theorem gst_nil (E : World → Value → α → Prop) (w : World) : Gst E w (.slice none 0 0) [] := ⟨none, 0, 0, [], rfl, Nat.le_refl _, rfl, rfl, by omega, fun h => absurd h (by omega), fun j q h => by simp at h⟩
end
theorem Gst.rw_below {w w' : World} {v : Value} {ess : List (List Raw)} (h : Gst RRw w v ess) (hb : Below w.heap.size w w') : Gst RRw w' v ess := h.below (fun u q h => h.below hb) hb
theorem Gst.raw_below {w w' : World} {v : Value} {ess : List (List Raw)} (h : Gst RRaw w v ess) (hb : Below w.heap.size w w') : Gst RRaw w' v ess := h.below (fun u q h => h.below hb) hb
theorem Gst.can_below {w w' : World} {v : Value} {qss : List (List Rat)} (h : Gst RCan w v qss) (hb : Below w.heap.size w w') : Gst RCan w' v qss := h.below (fun u q h => h.below hb) hb
theorem Gst.arg_below {w w' : World} {v : Value} {qss : List (List Rat)} (h : Gst RArg w v qss) (hb : Below w.heap.size w w') : Gst RArg w' v qss := h.below (fun u q h => h.below hb) hb
/-- A list of fractions that came in. -/
theorem open_ratsF {H : Type} {enc : TypeId × Value → H} {W : World} {t : TypeId} {v : Value} {d : DataW H} {ps : List MemPlace} {fuel : Nat} (ht : Tryd.prog.underlying t = some (.slice 44))
    (hf : DataW.trod enc Tryd.prog W 0 (fun _ => true) true fuel t [v] = some (d, ps)) (hz : (DataW.weights Tryd.prog t d).all (· ≤ reachBytes) = true) : ∃ A n c es, v = .slice A n c ∧ Lst RRw W v es := by
  rcases Deep.open_slice ht hf with ⟨e, _⟩ | ⟨a, len, cap, m, n, D, Pl, e, _, hl, hm, hmm, hx, hi⟩
  · cases e
    exact ⟨none, 0, 0, [], rfl, lst_nil _ _⟩
  · cases e
    simp only [Prod.mk.injEq] at hx
    obtain ⟨rfl, rfl⟩ := hx
    have hcap : m = cap := by simpa using hmm
    subst hcap
    have hb : Tryd.prog.bytesOf 44 = 56 := by kernel_rfl
    have hc3 : Tryd.prog.cellsOf 44 = 3 := by kernel_rfl
    simp only [DataW.weights, ht, hb, List.all_cons, List.all_append, Bool.and_eq_true, decide_eq_true_eq] at hz
    obtain ⟨hz0, hz1, _⟩ := hz
    simp only [List.length_map, List.length_range] at hz0
    have hr : reachBytes = 140737488351232 := by decide
    rw [hr] at hz0
    rw [hc3] at hi
    have key : ∀ i, i < len → ∃ u e, W.cells? 0 (a.add (i * 3)) 3 = some u.cells.toList ∧ RRw W u e := fun i hlt => by
      obtain ⟨cs', h1, h2⟩ := hi i (by omega)
      obtain ⟨u, e, rfl, hu⟩ := rat_cells h2 (weightsAll_of hz1 (D i) (List.mem_map.2 ⟨i, List.mem_range.2 hlt, rfl⟩))
      exact ⟨u, e, h1, hu⟩
    obtain ⟨U, hU⟩ := Deep.choose_lt (α := Value) (p := fun i u => ∃ e, W.cells? 0 (a.add (i * 3)) 3 = some u.cells.toList ∧ RRw W u e) (fun i hlt => by
      obtain ⟨u, e, h1, h2⟩ := key i hlt
      exact ⟨u, e, h1, h2⟩)
    obtain ⟨E, hE⟩ := Deep.choose_lt (α := Bool × List Nat × List Nat) (p := fun i e => W.cells? 0 (a.add (i * 3)) 3 = some (U i).cells.toList ∧ RRw W (U i) e) (fun i hlt => hU i hlt)
    have hus : ∀ u ∈ (List.range len).map U, u.cells.size = 3 := fun u hu => by
      obtain ⟨i, hi2, rfl⟩ := List.mem_map.1 hu
      obtain ⟨_, _, _, _, _, _, e, _⟩ := (hE i (List.mem_range.1 hi2)).2
      rw [e]; rfl
    have hget : ∀ i, i < len → ((List.range len).map U)[i]? = some (U i) := fun i hlt => by
      rw [List.getElem?_map, List.getElem?_range hlt]; rfl
    have hcell : ∀ (j : Nat) u, (flat ((List.range len).map U))[j]? = some u → W.cell? (a.add j) = some u := fun j u hj => by
      have hlt : j < 3 * len := by
        have := (List.getElem?_eq_some_iff.1 hj).1
        rw [flat_len hus] at this
        simpa using this
      have hd : 3 * (j / 3) + j % 3 = j := Nat.div_add_mod j 3
      have h3 : j / 3 < len := by omega
      have := flat_get hus (hget (j / 3) h3) (j % 3) (Nat.mod_lt _ (by omega))
      rw [hd, hj] at this
      obtain ⟨_, _, hc⟩ := World.cells?_some (hE (j / 3) h3).1
      have := (hc (j % 3) (Nat.mod_lt _ (by omega))).trans this.symm
      rw [add_add, show j / 3 * 3 + j % 3 = j by omega] at this
      exact this
    refine ⟨some a, len, m, (List.range len).map E, rfl, some a, len, m, (List.range len).map U, rfl, hl, by simp, by simp, by omega, fun h0 => ⟨a, rfl, ?_, hcell⟩, fun j q hq => ?_⟩
    · obtain ⟨_, _, hc⟩ := World.cells?_some (hE 0 h0).1
      obtain ⟨_, _, _, _, _, _, e, _⟩ := (hE 0 h0).2
      have h4 := hc 0 (by omega)
      rw [e] at h4
      have h5 : W.cell? a = some (.bool (E 0).1) := by
        have e2 : (a.add (0 * 3)).add 0 = a := by unfold Addr.add; simp
        rw [e2] at h4
        exact h4
      exact World.block_lt_of_cell? W a h5
    · have hlt : j < len := by
        have := (List.getElem?_eq_some_iff.1 hq).1
        simpa using this
      rw [List.getElem?_map, List.getElem?_range hlt] at hq
      cases hq
      exact ⟨U j, hget j hlt, (hE j hlt).2⟩
theorem list1 {cs : List Value} (h : cs.length = 1) : ∃ a, cs = [a] := by
  match cs, h with
  | [a], _ => exact ⟨a, rfl⟩
/-- A grid that came in. -/
theorem open_gridF {H : Type} {enc : TypeId × Value → H} {W : World} {t : TypeId} {v : Value} {d : DataW H} {ps : List MemPlace} {fuel : Nat} (ht : Tryd.prog.underlying t = some (.slice 30))
    (hf : DataW.trod enc Tryd.prog W 0 (fun _ => true) true fuel t [v] = some (d, ps)) (hz : (DataW.weights Tryd.prog t d).all (· ≤ reachBytes) = true) : ∃ A n c ess, v = .slice A n c ∧ Gst RRw W v ess := by
  rcases Deep.open_slice ht hf with ⟨e, _⟩ | ⟨a, len, cap, m, n, D, Pl, e, _, hl, hm, hmm, hx, hi⟩
  · cases e
    exact ⟨none, 0, 0, [], rfl, gst_nil _ _⟩
  · cases e
    simp only [Prod.mk.injEq] at hx
    obtain ⟨rfl, rfl⟩ := hx
    have hcap : m = cap := by simpa using hmm
    subst hcap
    have hb : Tryd.prog.bytesOf 30 = 24 := by kernel_rfl
    have hc3 : Tryd.prog.cellsOf 30 = 1 := by kernel_rfl
    simp only [DataW.weights, ht, hb, List.all_cons, List.all_append, Bool.and_eq_true, decide_eq_true_eq] at hz
    obtain ⟨hz0, hz1, _⟩ := hz
    simp only [List.length_map, List.length_range] at hz0
    have hr : reachBytes = 140737488351232 := by decide
    rw [hr] at hz0
    rw [hc3] at hi
    have key : ∀ i, i < len → ∃ u es, W.cell? (a.add i) = some u ∧ Lst RRw W u es := fun i hlt => by
      obtain ⟨cs', h1, h2⟩ := hi i (by omega)
      obtain ⟨_, hlen, hc⟩ := World.cells?_some h1
      obtain ⟨u, rfl⟩ := list1 hlen
      obtain ⟨A1, n1, c1, es, e1, hL⟩ := open_ratsF (by kernel_rfl) h2 (weightsAll_of hz1 (D i) (List.mem_map.2 ⟨i, List.mem_range.2 hlt, rfl⟩))
      have := hc 0 (by omega)
      rw [add_add, Nat.mul_one, Nat.add_zero] at this
      exact ⟨u, es, by simpa using this, hL⟩
    obtain ⟨U, hU⟩ := Deep.choose_lt (α := Value) (p := fun i u => ∃ es, W.cell? (a.add i) = some u ∧ Lst RRw W u es) (fun i hlt => by
      obtain ⟨u, es, h1, h2⟩ := key i hlt
      exact ⟨u, es, h1, h2⟩)
    obtain ⟨X, hX⟩ := Deep.choose_lt (α := List (Bool × List Nat × List Nat)) (p := fun i es => W.cell? (a.add i) = some (U i) ∧ Lst RRw W (U i) es) (fun i hlt => hU i hlt)
    have hget : ∀ i, i < len → ((List.range len).map U)[i]? = some (U i) := fun i hlt => by
      rw [List.getElem?_map, List.getElem?_range hlt]; rfl
    refine ⟨some a, len, m, (List.range len).map X, rfl, some a, len, m, (List.range len).map U, rfl, hl, by simp, by simp, by omega, fun h0 => ⟨a, rfl, ?_, fun j u hj => ?_⟩, fun j q hq => ?_⟩
    · have h4 := (hX 0 h0).1
      have e2 : a.add 0 = a := by unfold Addr.add; simp
      rw [e2] at h4
      exact World.block_lt_of_cell? W a h4
    · have hlt : j < len := by
        have := (List.getElem?_eq_some_iff.1 hj).1
        simpa using this
      rw [hget j hlt] at hj
      cases hj
      exact (hX j hlt).1
    · have hlt : j < len := by
        have := (List.getElem?_eq_some_iff.1 hq).1
        simpa using this
      rw [List.getElem?_map, List.getElem?_range hlt] at hq
      cases hq
      exact ⟨U j, hget j hlt, (hX j hlt).2⟩
theorem open_grid {H : Type} {enc : TypeId × Value → H} {W : World} {t : TypeId} {v : Value} {d : DataW H} {ps : List MemPlace} (ht : Tryd.prog.underlying t = some (.slice 30))
    (h : DataW.Trod enc Tryd.prog W 0 (fun _ => true) true t v d ps) (hv : v.cells.toList = [v]) (hz : (DataW.weights Tryd.prog t d).all (· ≤ reachBytes) = true) : ∃ A n c ess, v = .slice A n c ∧ Gst RRw W v ess := by
  obtain ⟨fuel, hf⟩ := h
  rw [hv] at hf
  exact open_gridF ht hf hz
end Go.Proofs.YtfpnhggbfakdkaaDoor

/- law helpers: how large lists, grids and norms are. -/
set_option linter.unusedVariables false
set_option linter.unusedSimpArgs false
set_option maxRecDepth 100000
namespace Go.Proofs.YtfpnhggbfakdkaaDoor
open Go.RowKit

set_option maxHeartbeats 1000000 in
theorem RatsSize_mid (w : World) (A : Option Addr) (n c : Nat) (es : List Raw) (h : Lst RRw w (.slice A n c) es) (hn : n ≤ 1048576) : Calls Tryd.prog 15 #[.slice A n c] w fun e w' => ∃ r : Nat, e = .returned (.int .i64 (r : Int)) ∧ Cnt r (n + tsz es) ∧ r ≤ 500000000000000 ∧ Hid (Below w.heap.size w w') := by
  refine opq fun R hR => ?_
  have L := hide h
  have hq := hide h.len
  clear h
  go_enter Tryd.func15, Tryd.ntmps15
  go_wp2
  go_loopw [3, 4] (fun nv iv wr => ∃ (i z : Nat), i ≤ n ∧ iv = .int .i64 (i : Nat) ∧ nv = .int .i64 (z : Nat) ∧ z ≤ 200000000000000 ∧ Hid (Cnt z (n + tsz (es.take i))) ∧ Hid (Below w.heap.size w wr)) (fun _ iv _ => n - (intOf iv).toNat)
  case atStart => exact ⟨0, n, by omega, rfl, rfl, by omega, ⟨by simp [tsz], .inl (by simp [tsz])⟩, Below.refl _ _⟩
  case round =>
    obtain ⟨i, z, hi, rfl, rfl, hz, hC, hbel⟩ := hrel
    by_cases hlt : i < n
    · by_cases hm : z ≤ 1048576
      · obtain ⟨x, hx⟩ : ∃ x, es[i]? = some x := ⟨_, List.getElem?_eq_getElem (by rw [hq.out]; exact hlt)⟩
        obtain ⟨ad, b2, A2, n2, c2, D2, m2, k2, rfl, _, x0, x1, x2, X⟩ := (L.out.rw_below hbel.out).at_ tri_rw hx
        have hT := hide (show es.take (i + 1) = es.take i ++ [x] by
          rw [List.take_add_one, hx]; rfl)
        have hs : Hid (rsz x = 2 + n2 + m2) ∧ n2 ≤ 70368744177664 ∧ m2 ≤ 70368744177664 := by
          obtain ⟨_, _, _, _, _, _, e1, h1, _, _, h4, h5, _, _, h8⟩ := X
          cases e1
          refine ⟨?_, h4, h8⟩
          show _ = _
          rw [rsz, h1.1, h5.1]
        obtain ⟨hs, hs1, hs2⟩ := hs
        clear X hx
        go_wp2_with fail
        refine (RatSize_ok _ b2 A2 n2 c2 D2 m2 k2 hs1 hs2).mono ?_
        rintro e w1 ⟨r, rfl, hr, d0⟩
        replace hbel := hide (below_tr hbel.out d0.out)
        clear d0 x0 x1 x2
        have hr1 := hr.1
        obtain ⟨y, hy, hy2⟩ : ∃ y : Nat, (z : Int) + (r : Int) = (y : Nat) ∧ y = z + r := ⟨z + r, by omega, rfl⟩
        have hC2 : Hid (Cnt y (n + tsz (es.take (i + 1)))) := by
          show Cnt _ _
          rw [hT.out, tsz_snoc, hs.out]
          obtain ⟨h1, h2⟩ := hC.out
          obtain ⟨h3, h4⟩ := hr
          exact ⟨by omega, by omega⟩
        have hy3 : y ≤ 200000000000000 := by omega
        clear hr hr1 hy2
        go_wp2
        go_roundw
        case rel => exact ⟨i + 1, y, by omega, by go_num, rfl, hy3, hC2, hbel⟩
        case measure => simp [intOf]; omega
      · have hC2 : Hid (Cnt z (n + tsz es)) := by
          have := tsz_take es i
          obtain ⟨h1, h2⟩ := hC.out
          exact ⟨by omega, .inr (by omega)⟩
        go_wp2
        exact opq_end hR ⟨z, rfl, hC2.out, by omega, hbel⟩
    · obtain rfl : i = n := by omega
      rw [List.take_of_length_le (by rw [hq.out]; exact Nat.le_refl _)] at hC
      go_wp2
      exact opq_end hR ⟨z, rfl, hC.out, by omega, hbel⟩
theorem RatsSize_any (w : World) (A : Option Addr) (n c : Nat) (es : List Raw) (h : Lst RRw w (.slice A n c) es) : Calls Tryd.prog 15 #[.slice A n c] w fun e w' => ∃ r : Nat, e = .returned (.int .i64 (r : Int)) ∧ Cnt r (n + tsz es) ∧ r ≤ 500000000000000 ∧ Below w.heap.size w w' := by
  by_cases hn : n ≤ 1048576
  · exact (RatsSize_mid w A n c es h hn).mono fun e w' ⟨r, h1, h2, h3, h4⟩ => ⟨r, h1, h2, h3, h4.out⟩
  · have hb : n ≤ 140737488355328 := by
      obtain ⟨_, _, _, _, e, _, _, _, h4, _⟩ := h
      cases e
      exact h4
    refine opq fun R hR => ?_
    clear h
    go_enter Tryd.func15, Tryd.ntmps15
    go_wp2
    go_loopw [3, 4] (fun nv iv wr => nv = .int .i64 (n : Nat) ∧ iv = .int .i64 0 ∧ wr = w) (fun _ _ _ => 0)
    case atStart => exact ⟨rfl, rfl, rfl⟩
    case round =>
      obtain ⟨rfl, rfl, rfl⟩ := hrel
      have h0 : (0 : Int) < (n : Int) := by omega
      have h1 : ¬ ((n : Int) ≤ 1048576) := by omega
      go_wp2
      exact opq_end hR ⟨n, rfl, ⟨by omega, .inr (by omega)⟩, by omega, Below.refl _ _⟩
/-- How large a grid's rows are. -/
def gsz (ess : List (List Raw)) : Nat := (ess.map fun es => es.length + tsz es).sum
theorem gsz_snoc (ess : List (List Raw)) (es : List Raw) : gsz (ess ++ [es]) = gsz ess + (es.length + tsz es) := by simp [gsz]
theorem gsz_take (ess : List (List Raw)) (i : Nat) : gsz (ess.take i) ≤ gsz ess := by
  have : gsz ess = gsz (ess.take i) + gsz (ess.drop i) := by
    conv => lhs; rw [← List.take_append_drop i ess]
    unfold gsz
    rw [List.map_append, List.sum_append]
  omega
theorem gsz_mem {ess : List (List Raw)} {es : List Raw} (h : es ∈ ess) : es.length + tsz es ≤ gsz ess := by
  induction ess with
  | nil => cases h
  | cons a ess ih =>
    have : gsz (a :: ess) = a.length + tsz a + gsz ess := by simp [gsz]
    rcases List.mem_cons.1 h with rfl | h
    · omega
    · have := ih h
      omega
set_option maxHeartbeats 1000000 in
theorem GridSize_ok (w : World) (A : Option Addr) (n c : Nat) (ess : List (List Raw)) (h : Gst RRw w (.slice A n c) ess) : Calls Tryd.prog 28 #[.slice A n c] w fun e w' => ∃ r : Nat, e = .returned (.int .i64 (r : Int)) ∧ Cnt r (n + gsz ess) ∧ r ≤ 1000000000000000 ∧ Below w.heap.size w w' := by
  refine opq fun R hR => ?_
  have L := hide h
  have hq := hide h.len
  have hb : n ≤ 140737488355328 := by rw [← hq.out]; exact h.le_
  clear h
  go_enter Tryd.func28, Tryd.ntmps28
  go_wp2
  go_loopw [3, 4] (fun nv iv wr => ∃ (i z : Nat), i ≤ n ∧ iv = .int .i64 (i : Nat) ∧ nv = .int .i64 (z : Nat) ∧ z ≤ 1000000000000000 ∧ Hid (Cnt z (n + gsz (ess.take i))) ∧ Hid (Below w.heap.size w wr)) (fun _ iv _ => n - (intOf iv).toNat)
  case atStart => exact ⟨0, n, by omega, rfl, rfl, by omega, ⟨by simp [gsz], .inl (by simp [gsz])⟩, Below.refl _ _⟩
  case round =>
    obtain ⟨i, z, hi, rfl, rfl, hz, hC, hbel⟩ := hrel
    by_cases hlt : i < n
    · by_cases hm : z ≤ 1048576
      · obtain ⟨x, hx⟩ : ∃ x, ess[i]? = some x := ⟨_, List.getElem?_eq_getElem (by rw [hq.out]; exact hlt)⟩
        obtain ⟨ad, A1, c1, rfl, _, x0, X⟩ := (L.out.rw_below hbel.out).at_ hx
        have hT := hide (show ess.take (i + 1) = ess.take i ++ [x] by
          rw [List.take_add_one, hx]; rfl)
        replace X := hide X
        obtain ⟨m, hxm⟩ : ∃ m, Hid (x.length = m) := ⟨_, rfl⟩
        rw [hxm.out] at x0 X
        clear hx
        go_wp2_with fail
        refine (RatsSize_any _ A1 m c1 x X.out).mono ?_
        rintro e w1 ⟨r, rfl, hr, hr0, d0⟩
        replace hbel := hide (below_tr hbel.out d0)
        clear d0 x0 X
        obtain ⟨y, hy, hy2⟩ : ∃ y : Nat, (z : Int) + (r : Int) = (y : Nat) ∧ y = z + r := ⟨z + r, by omega, rfl⟩
        have hC2 : Hid (Cnt y (n + gsz (ess.take (i + 1)))) := by
          show Cnt _ _
          rw [hT.out, gsz_snoc, hxm.out]
          obtain ⟨h1, h2⟩ := hC.out
          obtain ⟨h3, h4⟩ := hr
          exact ⟨by omega, by omega⟩
        have hy3 : y ≤ 1000000000000000 := by omega
        clear hr hr0 hy2
        go_wp2
        go_roundw
        case rel => exact ⟨i + 1, y, by omega, by go_num, rfl, hy3, hC2, hbel⟩
        case measure => simp [intOf]; omega
      · have hC2 : Hid (Cnt z (n + gsz ess)) := by
          have := gsz_take ess i
          obtain ⟨h1, h2⟩ := hC.out
          exact ⟨by omega, .inr (by omega)⟩
        go_wp2
        exact opq_end hR ⟨z, rfl, hC2.out, hz, hbel.out⟩
    · obtain rfl : i = n := by omega
      rw [List.take_of_length_le (by rw [hq.out]; exact Nat.le_refl _)] at hC
      go_wp2
      exact opq_end hR ⟨z, rfl, hC.out, hz, hbel.out⟩
end Go.Proofs.YtfpnhggbfakdkaaDoor

/- a grid's twin, and what is left of it. -/
set_option linter.unusedVariables false
set_option linter.unusedSimpArgs false
set_option maxRecDepth 100000
namespace Go.Proofs.YtfpnhggbfakdkaaDoor
open Go.RowKit

theorem infoRs : (Tryd.prog.info? TRs).map (fun i => (i.zero, i.size, i.bytes)) = some (some (.slice none 0 0), 1, 24) := by kernel_rfl
theorem TwL.mono {B B' : Nat} {w : World} {A : Option Addr} {n c : Nat} {us : List Value} {es : List Raw} (h : TwL B w A n c us es) (hB : B' ≤ B) : TwL B' w A n c us es := by
  obtain ⟨q, d, cs, h1, h2, h3⟩ := h.row
  exact ⟨h.lu, h.le, h.lt, h.bd, ⟨q, d, cs, h1.mono hB, h2, h3⟩, fun j e he => by
    obtain ⟨u, hu, hE⟩ := h.els j e he
    exact ⟨u, hu, hE.mono hB⟩, h.ap⟩
/-- A grid of the law's own: a twin of each row. -/
def TwG (B : Nat) (w : World) (v : Value) (ess : List (List Raw)) : Prop :=
  ∃ us : List Value, us.length = ess.length ∧ w.ownsRow B TRs 1 v ess.length us ∧ ∀ (j : Nat) es, ess[j]? = some es → ∃ X cx vs, us[j]? = some (.slice X es.length cx) ∧ TwL B w X es.length cx vs es
theorem TwG.below {B : Nat} {w w' : World} {v : Value} {ess : List (List Raw)} (h : TwG B w v ess) (hb : Below w.heap.size w w') : TwG B w' v ess := by
  obtain ⟨us, h1, h2, h3⟩ := h
  exact ⟨us, h1, own_below h2 hb, fun j es he => by
    obtain ⟨X, cx, vs, hu, hT⟩ := h3 j es he
    exact ⟨X, cx, vs, hu, hT.below hb⟩⟩
theorem own_monoT {t : TypeId} {size : Nat} {w : World} {B B' n : Nat} {v : Value} {xs : List Value} (h : w.ownsRow B t size v n xs) (hB : B' ≤ B) : w.ownsRow B' t size v n xs := by
  refine ⟨h.1, ?_⟩
  rcases h.2 with h2 | ⟨g, cap, cur, e1, hg, r⟩
  · exact .inl h2
  · exact .inr ⟨g, cap, cur, e1, Nat.le_trans hB hg, r⟩
theorem TwG.mono {B B' : Nat} {w : World} {v : Value} {ess : List (List Raw)} (h : TwG B w v ess) (hB : B' ≤ B) : TwG B' w v ess := by
  obtain ⟨us, h1, h2, h3⟩ := h
  exact ⟨us, h1, own_monoT h2 hB, fun j es he => by
    obtain ⟨X, cx, vs, hu, hT⟩ := h3 j es he
    exact ⟨X, cx, vs, hu, hT.mono hB⟩⟩
theorem TwG.sl {B : Nat} {w : World} {v : Value} {ess : List (List Raw)} (h : TwG B w v ess) : ∃ A c, v = .slice A ess.length c := by
  obtain ⟨us, h1, h2, h3⟩ := h
  exact own_slice h2
theorem TwG.le_ {B : Nat} {w : World} {v : Value} {ess : List (List Raw)} (h : TwG B w v ess) : ess.length ≤ 9223372036854775807 := by
  obtain ⟨us, h1, h2, h3⟩ := h
  rcases Nat.eq_zero_or_pos ess.length with h0 | h0
  · omega
  · obtain ⟨g, cap, cur, e, hB, hn, hm, _⟩ := own_some h2 h0
    omega
/-- A row. -/
theorem TwG.at_ {B : Nat} {w : World} {A : Option Addr} {n c : Nat} {ess : List (List Raw)} (h : TwG B w (.slice A n c) ess) {j : Nat} {es : List Raw} (hj : ess[j]? = some es) :
    ∃ ad X cx vs, A = some ad ∧ w.cell? (ad.add j) = some (.slice X es.length cx) ∧ TwL B w X es.length cx vs es := by
  obtain ⟨us, h1, h2, h3⟩ := h
  have h0 : 0 < ess.length := by have := (List.getElem?_eq_some_iff.1 hj).1; omega
  obtain ⟨g, cap, cur, e, hB, hn, hm, hk, hs, ht⟩ := own_some h2 h0
  obtain ⟨X, cx, vs, hu, hT⟩ := h3 j es hj
  cases e
  refine ⟨_, X, cx, vs, rfl, ?_, hT⟩
  rw [add0, hk.cell]
  exact take_get ht hu
theorem TwG.lst {α : Type} {E : World → Value → α → Prop} {f : Raw → α} {B : Nat} {w : World} {v : Value} {ess : List (List Raw)} (h : TwG B w v ess) (hE : ∀ X n c us es, TwL B w X n c us es → Lst E w (.slice X n c) (es.map f)) (hn : ess.length ≤ 1000000) : Gst E w v (ess.map fun es => es.map f) := by
  obtain ⟨us, h1, h2, h3⟩ := h
  have hel : ∀ (j : Nat) qs, (ess.map fun es => es.map f)[j]? = some qs → ∃ u, us[j]? = some u ∧ Lst E w u qs := fun j qs hq => by
    rw [List.getElem?_map] at hq
    obtain ⟨es, he, rfl⟩ := Option.map_eq_some_iff.1 hq
    obtain ⟨X, cx, vs, hu, hT⟩ := h3 j es he
    exact ⟨_, hu, hE _ _ _ _ _ hT⟩
  rcases h2.2 with ⟨e, h0⟩ | ⟨g, cap, cur, e, hB, hh, hnc, hcm, hcs, htk⟩
  · subst e
    have : ess = [] := List.eq_nil_of_length_eq_zero h0
    subst this
    exact gst_nil _ _
  · subst e
    refine ⟨_, _, cap, us, rfl, hnc, by rw [List.length_map], h1, by omega, fun h0 => ⟨_, rfl, (Array.getElem?_eq_some_iff.1 hh).1, fun j u hj => ?_⟩, hel⟩
    have k : Blk w g TRs cur := ⟨hh⟩
    rw [add0, k.cell]
    exact take_get htk hj
theorem TwG.raw {B : Nat} {w : World} {v : Value} {ess : List (List Raw)} (h : TwG B w v ess) (hn : ess.length ≤ 1000000) : Gst RRaw w v ess := by
  have := h.lst (f := id) (E := RRaw) (fun X n c us es hT => by rw [List.map_id]; exact hT.lst) hn
  simpa using this
end Go.Proofs.YtfpnhggbfakdkaaDoor

/- lists of truth values: words; what comes in; a list's twin, and what is left of it. -/
set_option linter.unusedVariables false
set_option linter.unusedSimpArgs false
set_option maxRecDepth 100000
namespace Go.Proofs.YtfpnhggbfakdkaaDoor
open Go.ChangeShapes Go.WideShapes Go.ChangeAt Go.RowKit Go.Joins

abbrev TBL : TypeId := 4
/-- A list of truth values. -/
def Bst (w : World) (v : Value) (bs : List Bool) : Prop :=
  ∃ (A : Option Addr) (n c : Nat), v = .slice A n c ∧ n ≤ c ∧ n = bs.length ∧ n ≤ 140737488355328 ∧ (0 < n → ∃ ad, A = some ad ∧ ad.block < w.heap.size ∧ ∀ (j : Nat) b, bs[j]? = some b → w.cell? (ad.add j) = some (.bool b))
theorem Bst.sl {w : World} {v : Value} {bs : List Bool} (h : Bst w v bs) : ∃ A c, v = .slice A bs.length c := by
  obtain ⟨A, n, c, e, _, h2, _⟩ := h
  subst h2
  exact ⟨A, c, e⟩
theorem Bst.len {w : World} {A : Option Addr} {n c : Nat} {bs : List Bool} (h : Bst w (.slice A n c) bs) : bs.length = n := by
  obtain ⟨_, _, _, e, _, h2, _⟩ := h
  cases e
  exact h2.symm
theorem Bst.le_ {w : World} {v : Value} {bs : List Bool} (h : Bst w v bs) : bs.length ≤ 140737488355328 := by
  obtain ⟨_, _, _, e, _, h2, h3, _⟩ := h
  omega
theorem Bst.below {w w' : World} {v : Value} {bs : List Bool} (h : Bst w v bs) (hb : Below w.heap.size w w') : Bst w' v bs := by
  obtain ⟨A, n, c, e, h1, h2, h3, h5⟩ := h
  refine ⟨A, n, c, e, h1, h2, h3, fun h0 => ?_⟩
  obtain ⟨ad, e1, hl, hc⟩ := h5 h0
  exact ⟨ad, e1, Nat.lt_of_lt_of_le hl hb.size, fun j u hu => cell_below hb (hc j u hu)⟩
theorem Bst.at_ {w : World} {A : Option Addr} {n c : Nat} {bs : List Bool} (h : Bst w (.slice A n c) bs) {j : Nat} {b : Bool} (hj : bs[j]? = some b) : ∃ ad, A = some ad ∧ w.cell? (ad.add j) = some (.bool b) := by
  obtain ⟨A', n', c', e, h1, h2, h3, h5⟩ := h
  cases e
  have : j < n := by rw [h2]; exact (List.getElem?_eq_some_iff.1 hj).1
  obtain ⟨ad, e1, hl, hc⟩ := h5 (by omega)
  exact ⟨ad, e1, hc j b hj⟩
/-- A twin. -/
def TwB (B : Nat) (w : World) (A : Option Addr) (n c : Nat) (bs : List Bool) : Prop := bs.length = n ∧ n < c ∧ n ≤ 100000 ∧ w.ownsRow B TBL 1 (.slice A (n + 1) c) (n + 1) ((bs ++ [true]).map fun b => Value.bool b)
theorem TwB.below {B : Nat} {w w' : World} {A : Option Addr} {n c : Nat} {bs : List Bool} (h : TwB B w A n c bs) (hb : Below w.heap.size w w') : TwB B w' A n c bs := ⟨h.1, h.2.1, h.2.2.1, own_below h.2.2.2 hb⟩
theorem TwB.mono {B B' : Nat} {w : World} {A : Option Addr} {n c : Nat} {bs : List Bool} (h : TwB B w A n c bs) (hB : B' ≤ B) : TwB B' w A n c bs := ⟨h.1, h.2.1, h.2.2.1, own_monoT h.2.2.2 hB⟩
theorem TwB.cell {B : Nat} {w : World} {A : Option Addr} {n c : Nat} {bs : List Bool} (h : TwB B w A n c bs) : ∃ ad, A = some ad ∧ ad.block < w.heap.size ∧ (∀ (j : Nat) b, bs[j]? = some b → w.cell? (ad.add j) = some (.bool b)) ∧ w.cell? (ad.add n) = some (.bool true) := by
  obtain ⟨h1, h2, h3, h4⟩ := h
  obtain ⟨g, cap, cur, e, hB, hn, hm, hk, hs, ht⟩ := own_some h4 (by omega)
  cases e
  refine ⟨_, rfl, hk.lt, fun j b hj => ?_, ?_⟩
  · rw [add0, hk.cell]
    refine take_get ht ?_
    rw [List.getElem?_map, List.getElem?_append_left (by exact (List.getElem?_eq_some_iff.1 hj).1), hj]
    rfl
  · rw [add0, hk.cell]
    refine take_get ht ?_
    rw [List.getElem?_map, List.getElem?_append_right (by omega), h1, Nat.sub_self]
    rfl
end Go.Proofs.YtfpnhggbfakdkaaDoor

/- norms: words; what comes in; how large; a norm's twin, and what is left of it. -/
set_option linter.unusedVariables false
set_option linter.unusedSimpArgs false
set_option maxRecDepth 100000
namespace Go.Proofs.YtfpnhggbfakdkaaDoor
open Go.ChangeShapes Go.WideShapes Go.ChangeAt Go.RowKit Go.Joins

/-- A norm, as it is told. -/
structure RN where
  left : List (List Raw)
  right : List Raw
  goal : List Raw
  whole : List Bool
/-- A norm that came in. -/
structure NRw (w : World) (AL : Option Addr) (nL cL : Nat) (AR : Option Addr) (nR cR : Nat) (AG : Option Addr) (nG cG : Nat) (AW : Option Addr) (nW cW : Nat) (N : RN) : Prop where
  l : Gst RRw w (.slice AL nL cL) N.left
  r : Lst RRw w (.slice AR nR cR) N.right
  g : Lst RRw w (.slice AG nG cG) N.goal
  b : Bst w (.slice AW nW cW) N.whole
/-- A norm whose fractions are told, and not too long. -/
structure NSt (w : World) (AL : Option Addr) (nL cL : Nat) (AR : Option Addr) (nR cR : Nat) (AG : Option Addr) (nG cG : Nat) (AW : Option Addr) (nW cW : Nat) (N : RN) : Prop where
  l : Gst RRaw w (.slice AL nL cL) N.left
  la : Gst RArg w (.slice AL nL cL) (N.left.map fun es => es.map rvE)
  r : Lst RRaw w (.slice AR nR cR) N.right
  ra : Lst RArg w (.slice AR nR cR) (N.right.map rvE)
  g : Lst RRaw w (.slice AG nG cG) N.goal
  b : Bst w (.slice AW nW cW) N.whole
/-- A twin. -/
structure NTw (B : Nat) (w : World) (AL : Option Addr) (nL cL : Nat) (AR : Option Addr) (nR cR : Nat) (AG : Option Addr) (nG cG : Nat) (AW : Option Addr) (nW cW : Nat) (N : RN) : Prop where
  l : TwG B w (.slice AL nL cL) N.left
  r : ∃ us, TwL B w AR nR cR us N.right
  g : ∃ us, TwL B w AG nG cG us N.goal
  b : TwB B w AW nW cW N.whole
section
variable {w w' : World} {AL : Option Addr} {nL cL : Nat} {AR : Option Addr} {nR cR : Nat} {AG : Option Addr} {nG cG : Nat} {AW : Option Addr} {nW cW : Nat} {N : RN} {B : Nat}
theorem NRw.below (h : NRw w AL nL cL AR nR cR AG nG cG AW nW cW N) (k : Below w.heap.size w w') : NRw w' AL nL cL AR nR cR AG nG cG AW nW cW N := ⟨h.l.rw_below k, h.r.rw_below k, h.g.rw_below k, h.b.below k⟩
theorem NSt.below (h : NSt w AL nL cL AR nR cR AG nG cG AW nW cW N) (k : Below w.heap.size w w') : NSt w' AL nL cL AR nR cR AG nG cG AW nW cW N := ⟨h.l.raw_below k, h.la.arg_below k, h.r.raw_below k, h.ra.arg_below k, h.g.raw_below k, h.b.below k⟩
theorem NTw.below (h : NTw B w AL nL cL AR nR cR AG nG cG AW nW cW N) (k : Below w.heap.size w w') : NTw B w' AL nL cL AR nR cR AG nG cG AW nW cW N := ⟨h.l.below k, by
    obtain ⟨us, x⟩ := h.r
    exact ⟨us, x.below k⟩, by
    obtain ⟨us, x⟩ := h.g
    exact ⟨us, x.below k⟩, h.b.below k⟩
theorem NSt.lens (h : NSt w AL nL cL AR nR cR AG nG cG AW nW cW N) : N.left.length = nL ∧ N.right.length = nR ∧ N.goal.length = nG ∧ N.whole.length = nW := ⟨h.l.len, h.r.len, h.g.len, h.b.len⟩
end
theorem own_keepS {t : TypeId} {size : Nat} {w w' : World} {B n : Nat} {v : Value} {xs : List Value} (h : w.ownsRow B t size v n xs) (k : ∀ r cs, Blk w r t cs → Blk w' r t cs) : w'.ownsRow B t size v n xs := by
  refine ⟨h.1, ?_⟩
  rcases h.2 with e | ⟨r, cap, cur, e, hB, hh, rest⟩
  · exact .inl e
  · exact .inr ⟨r, cap, cur, e, hB, (k r cur ⟨hh⟩).eq, rest⟩
/-- How large a norm is. -/
def nsz (N : RN) : Nat := 1 + (N.left.length + gsz N.left) + (N.right.length + tsz N.right) + (N.goal.length + tsz N.goal) + N.whole.length
theorem tsz_gsz {ess : List (List Raw)} {es : List Raw} (h : es ∈ ess) {k : Nat} (hk : gsz ess ≤ k) : es.length ≤ k ∧ tsz es ≤ k := by
  have := gsz_mem h
  omega
theorem Gst.rawW {w : World} {v : Value} {ess : List (List Raw)} (h : Gst RRw w v ess) (k : Nat) (hl : gsz ess ≤ k) (hk : k ≤ 1000000) : Gst RRaw w v ess ∧ Gst RArg w v (ess.map fun es => es.map rvE) := by
  constructor
  · have := h.imp (F := RRaw) id fun qs hq u q hm hu => (hu.raw (Nat.le_trans (tsz_mem hm) (Nat.le_trans (tsz_gsz hq hl).2 hk))).1
    simpa using this
  · exact h.imp rvE fun qs hq u q hm hu => hu.arg (Nat.le_trans (tsz_mem hm) (Nat.le_trans (tsz_gsz hq hl).2 hk))
def Fact.twG (ess : List (List Raw)) (n B : Nat) : Fact := ⟨fun v w => ∃ A c, v = .slice A n c ∧ TwG B w (.slice A n c) ess, fun _ _ _ ⟨A, c, h1, h2⟩ hb => ⟨A, c, h1, h2.below hb⟩⟩
def Fact.twL (es : List Raw) (n B : Nat) : Fact := ⟨fun v w => ∃ A c us, v = .slice A n c ∧ TwL B w A n c us es, fun _ _ _ ⟨A, c, us, h1, h2⟩ hb => ⟨A, c, us, h1, h2.below hb⟩⟩
def Fact.twB (bs : List Bool) (n B : Nat) : Fact := ⟨fun v w => ∃ A c, v = .slice A n c ∧ TwB B w A n c bs, fun _ _ _ ⟨A, c, h1, h2⟩ hb => ⟨A, c, h1, h2.below hb⟩⟩
end Go.Proofs.YtfpnhggbfakdkaaDoor

/- norms: Check, may, Fits, Whole. -/
set_option linter.unusedVariables false
set_option linter.unusedSimpArgs false
set_option maxRecDepth 100000
namespace Go.Proofs.YtfpnhggbfakdkaaDoor
open Go.RowKit

def rowB (k : Nat) (es : List Raw) : Bool := decide (es.length = k) && es.all rk
def lensB (N : RN) : Bool := decide (1 ≤ N.goal.length) && decide (N.goal.length ≤ 32) && decide (N.whole.length = N.goal.length) && decide (N.left.length ≤ 192) && decide (N.right.length = N.left.length)
/-- May a norm be? -/
def nok (N : RN) : Bool := lensB N && (N.goal.all rk && (N.right.all rk && N.left.all (rowB N.goal.length)))
/-- May a point of it be asked for? -/
def nmay (N : RN) (x : List Raw) : Bool := nok N && (x.all rk && decide (x.length = N.goal.length))
def fitB (x : List Raw) (p : List Raw × Raw) : Bool := decide (cmpQ (dot (p.1.map rvE) (x.map rvE)) (rvE p.2) ≤ 0)
def nfits (N : RN) (x : List Raw) : Bool := nmay N x && (N.left.zip N.right).all (fitB x)
def wholeB (p : Bool × Raw) : Bool := !p.1 || decide ((rvE p.2).den = 1)
def nwhole (N : RN) (x : List Raw) : Bool := nmay N x && (N.whole.zip x).all wholeB
end Go.Proofs.YtfpnhggbfakdkaaDoor

/- norms: Fits. -/
set_option linter.unusedVariables false
set_option linter.unusedSimpArgs false
set_option maxRecDepth 100000
namespace Go.Proofs.YtfpnhggbfakdkaaDoor
open Go.RowKit

theorem RRaw.siz {w : World} {u : Value} {e : Raw} (h : RRaw w u e) (hl : rsz e ≤ 1000000) : H (rvE e) (rsz e) := by
  obtain ⟨a, d, _, h1, h2⟩ := h
  unfold rsz at hl ⊢
  exact H_rv h1.is32 h2.is32 (by omega) (by omega) (by omega)
theorem Lst.siz {w : World} {v : Value} {es : List Raw} (h : Lst RRaw w v es) (hl : tsz es ≤ 1000000) : ∀ e ∈ es, H (rvE e) (rsz e) := fun e he => by
  obtain ⟨A, n, c, us, _, h1, h2, h3, h4, h5, h6⟩ := h
  obtain ⟨j, hj, rfl⟩ := List.getElem_of_mem he
  obtain ⟨u, hu, hE⟩ := h6 j _ (List.getElem?_eq_getElem hj)
  exact hE.siz (Nat.le_trans (tsz_mem he) hl)
theorem Lst.hs {w : World} {v : Value} {es : List Raw} (h : Lst RRaw w v es) {k : Nat} (hl : tsz es ≤ k) (hk : k ≤ 1000000) : Hs (es.map rvE) k := fun q hq => by
  obtain ⟨e, he, rfl⟩ := List.mem_map.1 hq
  exact (h.siz (Nat.le_trans hl hk) e he).up (Nat.le_trans (tsz_mem he) hl)
end Go.Proofs.YtfpnhggbfakdkaaDoor

/- the document's norms: Check, may, Fits, Whole. -/
set_option linter.unusedVariables false
set_option linter.unusedSimpArgs false
set_option maxRecDepth 100000
namespace Go.Proofs.YtfpnhggbfakdkaaDoor
open Go.RowKit

end Go.Proofs.YtfpnhggbfakdkaaDoor
