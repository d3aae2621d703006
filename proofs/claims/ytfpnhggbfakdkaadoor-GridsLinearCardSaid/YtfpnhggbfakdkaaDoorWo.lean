/- grids: what is made of a list, in words of sums; what is refused. -/
import Derived.Test.YtfpnhggbfakdkaaDoorWm
set_option linter.unusedVariables false
set_option linter.unusedSimpArgs false
set_option maxRecDepth 100000
namespace Go.Proofs.YtfpnhggbfakdkaaDoor
open Go.RowKit

theorem getD_at {qss : List (List Rat)} {i : Nat} {q : List Rat} (h : qss[i]? = some q) : qss.getD i [] = q := by rw [List.getD_eq_getElem?_getD, h]; rfl
theorem mat_at {qss : List (List Rat)} {i : Nat} {q : List Rat} (h : qss[i]? = some q) (j : Nat) : mat (fun a => qss.getD a []) i j = q.getD j 0 := by
  unfold mat
  show (qss.getD i []).getD j 0 = _
  rw [getD_at h]
theorem list_eq {a b : List Rat} {n : Nat} (h1 : a.length = n) (h2 : b.length = n) (h : ∀ j, j < n → a.getD j 0 = b.getD j 0) : a = b := by
  refine List.ext_getElem (by omega) fun j p q => ?_
  have := h j (by omega)
  simp only [List.getD_eq_getElem?_getD, List.getElem?_eq_getElem p, List.getElem?_eq_getElem q] at this
  exact this
theorem Hs_times {qss : List (List Rat)} {N s : Nat} (G : GQ qss N s) {xs : List Rat} (hx : Hs xs s) {m : Nat} (hN : N ≤ m) {k : Nat} (hk : 1 + m * (2 * s + 1) ≤ k) (hk2 : k ≤ 100000000000) : Hs (qss.map fun q => dot q xs) k := fun y hy => by
  obtain ⟨q, hq, rfl⟩ := List.mem_map.1 hy
  exact H_dot (G.hs q hq) hx m k (by rw [G.rect q hq]; exact hN) hk hk2
/-- What is told of a column that a grid makes of x. -/
theorem SolR.back {m n : Nat} {A : Nat → Nat → Rat} {b : Nat → Rat} {er : Nat} {ys xs : List Rat} (h : SolR m n A b er ys) (hx : xs.length = n) (hs : Sol m n A b fun j => xs.getD j 0) : (rnk m n A < n ∧ er = 8) ∨ (rnk m n A = n ∧ er = 0 ∧ ys = xs) := by
  by_cases hr : rnk m n A < n
  · left
    refine ⟨hr, ?_⟩
    have : SolR m n A b 8 [] := .inr (.inr ⟨rfl, rfl, ⟨_, hs⟩, hr⟩)
    exact (h.unique this).1
  · right
    have h0 := rnk_le m n A
    have hf : rnk m n A = n := by omega
    have hu : SolR m n A b 0 xs := .inl ⟨rfl, hx, fun x => by
      constructor
      · intro h j hj
        have h3 : Nul m n A (fun j => x j + (-1) * xs.getD j 0) := fun i hi => by
          rw [Sgm_congr (g := fun j => A i j * x j + (-1) * (A i j * xs.getD j 0)) fun j _ => by grind, Sgm_add, Sgm_mul, h i hi, hs i hi]
          grind
        have := rnk_full.1 hf _ h3 j hj
        grind
      · intro h i hi
        rw [← hs i hi]
        exact Sgm_congr fun j hj => by rw [h j hj]⟩
    exact ⟨hf, h.unique hu⟩
theorem times_bad {w : World} {A X : Option Addr} {n c k d : Nat} {qss : List (List Rat)} {xs : List Rat} {N s : Nat} (h : Gst RCan w (.slice A n c) qss) (h' : Lst RCan w (.slice X k d) xs) (G : GQ qss N s) (hx : Hs xs s) (hn : 0 < n) (hk : k ≠ N) (hs : s ≤ 100000000000) (hT : Tab w) :
    Calls Tryd.prog 18 #[.slice A n c, .slice X k d] w fun e w' => e = .returned (.tuple #[.slice none 0 0, .int .i64 1]) ∧ Below w.heap.size w w' := by
  refine opq fun R hR => ?_
  have L := hide h
  have T := hide hT
  have hl := hide h.len
  have GR := hide (h.rawQ G hs)
  have LR := hide (lst_raw_of_can h' (hx.up (by omega)))
  have G' := hide G
  have hkb : k ≤ 140737488355328 := by rw [← h'.len]; exact h'.le_
  have ok0 := hide G.gok
  have ok1 := hide (all_rk xs)
  clear h h' hT G
  go_enter Tryd.func18, Tryd.ntmps18
  go_wp2_with fail
  refine (gridCheck_ok GR.out T.out true ok0.out).mono ?_
  rintro e' w1 ⟨_, rfl, d0, rfl⟩
  have b0 := hide d0
  clear d0
  go_wp2_with fail
  refine (vCheck_L (LR.out.raw_below b0.out) (T.out.below b0.out) true ok1.out).mono ?_
  rintro e' w2 ⟨_, rfl, d0, rfl⟩
  replace b0 := hide (below_tr b0.out d0)
  clear d0 GR LR ok0 ok1
  obtain ⟨q0, hq0⟩ : ∃ q, qss[0]? = some q := ⟨_, List.getElem?_eq_getElem (by rw [hl.out]; exact hn)⟩
  obtain ⟨ad, A1, c1, rfl, _, x0, X0⟩ := (L.out.can_below b0.out).at_ hq0
  rw [G'.out.rect q0 (List.mem_of_getElem? hq0), addr_zero] at x0
  have hn0 : (n : Int) > 0 := by omega
  have hkn : ¬ ((k : Int) = (N : Int)) := by omega
  clear X0 hq0 hn
  go_wp2
  exact opq_end hR ⟨rfl, b0.out⟩
/-- A raw grid that may be. -/
theorem gcan {w : World} {A : Option Addr} {n c : Nat} {ess : List (List Raw)} {s : Nat} (h : Gst RRaw w (.slice A n c) ess) (hk : gok ess = true) (hq : ∀ es ∈ ess, Hs (es.map rvE) s) : Gst RCan w (.slice A n c) (ess.map fun es => es.map rvE) ∧ GQ (ess.map fun es => es.map rvE) (cols ess) s := by
  have hr := List.all_eq_true.1 hk
  have hrow : ∀ es ∈ ess, es.length = cols ess ∧ es.all rk = true := fun es he => by
    have := hr es he
    unfold rowB at this
    rw [Bool.and_eq_true, decide_eq_true_eq] at this
    exact this
  refine ⟨h.imp rvE fun es he u e hm hu => hu.can (List.all_eq_true.1 (hrow es he).2 e hm), ⟨fun qs hqs => ?_, fun qs hqs => ?_, fun e => ?_⟩⟩
  · obtain ⟨es, he, rfl⟩ := List.mem_map.1 hqs
    rw [List.length_map]
    exact (hrow es he).1
  · obtain ⟨es, he, rfl⟩ := List.mem_map.1 hqs
    exact hq es he
  · have : ess = [] := List.map_eq_nil_iff.1 e
    rw [this]; rfl
theorem times_raw {w : World} {A X : Option Addr} {n c k d : Nat} {ess : List (List Raw)} {fs : List Raw} {s : Nat} (h : Gst RRaw w (.slice A n c) ess) (h' : Lst RRaw w (.slice X k d) fs) (hq : ∀ es ∈ ess, Hs (es.map rvE) s) (hx : Hs (fs.map rvE) s) (hN : cols ess ≤ 100) (hs : s ≤ 100000000) (hn : n ≤ 1000000) (hT : Tab w) :
    Calls Tryd.prog 18 #[.slice A n c, .slice X k d] w fun e w' => ∃ u m cc er, e = .returned (.tuple #[.slice u m cc, .int .i64 (er : Nat)]) ∧ Below w.heap.size w w' ∧ ((er = 0 ∧ m = n ∧ gok ess = true ∧ fs.all rk = true ∧ (0 < n → k = cols ess) ∧ OLst w' w.heap.size (.slice u m cc) ((ess.map fun es => es.map rvE).map fun q => dot q (fs.map rvE))) ∨ (er = 1 ∧ m = 0 ∧ ¬ (gok ess = true ∧ fs.all rk = true ∧ (0 < n → k = cols ess)))) := by
  have hl := h.len
  by_cases hg : gok ess = true
  · obtain ⟨GC, GG⟩ := gcan h hg hq
    by_cases hf : fs.all rk = true
    · have LX := h'.canW hf
      by_cases hk : 0 < n → k = cols ess
      · refine (times_ok GC LX GG hx hk ?_ (by omega) hn hT).mono fun e w' ⟨u, h1, h2, h3⟩ => ?_
        · have := Nat.mul_le_mul hN (show 2 * s + 1 ≤ 200000001 by omega)
          omega
        · obtain ⟨B, d', rfl⟩ := OLst.slN (N := n) h3 (by rw [List.length_map, List.length_map, hl])
          exact ⟨B, n, d', 0, h1, h2, .inl ⟨rfl, rfl, hg, hf, hk, h3⟩⟩
      · have hkk : 0 < n ∧ k ≠ cols ess := by omega
        exact (times_bad GC LX GG hx hkk.1 hkk.2 (by omega) hT).mono fun e w' ⟨h1, h2⟩ => ⟨none, 0, 0, 1, h1, h2, .inr ⟨rfl, rfl, fun q => hk q.2.2⟩⟩
    · have hf2 : fs.all rk = false := Bool.eq_false_iff.2 hf
      refine Calls.mono (R := fun e w' => e = .returned (.tuple #[.slice none 0 0, .int .i64 1]) ∧ Below w.heap.size w w') ?_ fun e w' ⟨h1, h2⟩ => ⟨none, 0, 0, 1, h1, h2, .inr ⟨rfl, rfl, fun q => hf q.2.1⟩⟩
      refine opq fun R hR => ?_
      replace h := hide h
      replace h' := hide h'
      have T := hide hT
      clear hT GC GG
      go_enter Tryd.func18, Tryd.ntmps18
      go_wp2_with fail
      refine (gridCheck_ok h.out T.out true hg).mono ?_
      rintro e' w1 ⟨_, rfl, d0, rfl⟩
      have b0 := hide d0
      clear d0
      go_wp2_with fail
      refine (vCheck_L (h'.out.raw_below b0.out) (T.out.below b0.out) false hf2).mono ?_
      rintro e' w2 ⟨_, rfl, d0, rfl⟩
      replace b0 := hide (below_tr b0.out d0)
      clear d0
      go_wp2
      exact opq_end hR ⟨rfl, b0.out⟩
  · have hg2 : gok ess = false := by simpa using hg
    refine Calls.mono (R := fun e w' => e = .returned (.tuple #[.slice none 0 0, .int .i64 1]) ∧ Below w.heap.size w w') ?_ fun e w' ⟨h1, h2⟩ => ⟨none, 0, 0, 1, h1, h2, .inr ⟨rfl, rfl, fun q => hg q.1⟩⟩
    refine opq fun R hR => ?_
    replace h := hide h
    have T := hide hT
    clear hT
    go_enter Tryd.func18, Tryd.ntmps18
    go_wp2_with fail
    refine (gridCheck_ok h.out T.out false hg2).mono ?_
    rintro e' w1 ⟨_, rfl, d0, rfl⟩
    go_wp2
    exact opq_end hR ⟨rfl, d0⟩
theorem graw_hs {w : World} {A : Option Addr} {n c : Nat} {ess : List (List Raw)} (h : Gst RRaw w (.slice A n c) ess) (hg : gsz ess ≤ 300) : ∀ es ∈ ess, Hs (es.map rvE) 300 := fun es he q hm => by
  obtain ⟨e, hm', rfl⟩ := List.mem_map.1 hm
  obtain ⟨A', n', c', us, e1, h1, h2, h3, h4, h5, h6⟩ := h
  cases e1
  obtain ⟨j, hj, rfl⟩ := List.getElem_of_mem he
  obtain ⟨u, hu, hL⟩ := h6 j _ (List.getElem?_eq_getElem hj)
  obtain ⟨A2, n2, c2, vs, e2, k1, k2, k3, k4, k5, k6⟩ := hL
  obtain ⟨i, hi, rfl⟩ := List.getElem_of_mem hm'
  obtain ⟨v, hv, hE⟩ := k6 i _ (List.getElem?_eq_getElem hi)
  have hs1 := tsz_mem (List.getElem_mem hi)
  have hs2 := (tsz_gsz he hg).2
  exact (hE.siz (by omega)).up (by omega)
theorem vSame_yes {w : World} {v v' : Value} {ps : List Rat} {k : Nat} (h : Lst RCan w v ps) (h' : Lst RCan w v' ps) (hp : Hs ps k) (hk : k ≤ 100000000000) (hT : Tab w) :
    Calls Tryd.prog 19 #[v, v'] w fun e w' => ∃ u, e = .returned u ∧ Below w.heap.size w w' ∧ u = .bool true := vSame_L h h' hp hp hk hT true (by simp)
end Go.Proofs.YtfpnhggbfakdkaaDoor
