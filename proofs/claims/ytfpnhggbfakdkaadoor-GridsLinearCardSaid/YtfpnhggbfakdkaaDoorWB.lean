/- grids: Times, Rank, Turn, Solve; a law's own list, what is too great. -/
import Derived.Test.YtfpnhggbfakdkaaDoorWA
import Derived.Test.YtfpnhggbfakdkaaDoorVt
import Derived.Lib.AppendZeros
import Derived.Test.YtfpnhggbfakdkaaDoorLN
import Derived.Test.YtfpnhggbfakdkaaDoorVB
/- grids: Times. -/
set_option linter.unusedVariables false
set_option linter.unusedSimpArgs false
set_option maxRecDepth 100000
namespace Go.Proofs.YtfpnhggbfakdkaaDoor
open Go.RowKit

/-- A grid of rows as long, whose numbers are not too long. -/
structure GQ (qss : List (List Rat)) (N s : Nat) : Prop where
  rect : ∀ qs ∈ qss, qs.length = N
  hs : ∀ qs ∈ qss, Hs qs s
  n0 : qss = [] → N = 0
theorem GQ.cols {qss : List (List Rat)} {N s : Nat} (h : GQ qss N s) : ((qss[0]?).map List.length).getD 0 = N := by
  rcases qss with _ | ⟨q, r⟩
  · exact (h.n0 rfl).symm
  · exact h.rect q (List.mem_cons_self ..)
theorem GQ.gok {qss : List (List Rat)} {N s : Nat} (h : GQ qss N s) : gok (qss.map fun qs => qs.map rawOf) = true := by
  unfold Go.Proofs.YtfpnhggbfakdkaaDoor.gok
  refine List.all_eq_true.2 fun es he => ?_
  obtain ⟨qs, hq, rfl⟩ := List.mem_map.1 he
  have e : Go.Proofs.YtfpnhggbfakdkaaDoor.cols (qss.map fun qs => qs.map rawOf) = N := by
    have := h.cols
    unfold Go.Proofs.YtfpnhggbfakdkaaDoor.cols
    rw [List.getElem?_map]
    cases e : qss[0]? with
    | none => rw [e] at this; exact this
    | some q => rw [e] at this; simpa using this
  unfold rowB
  rw [e, all_rk, Bool.and_true, decide_eq_true_eq, List.length_map]
  exact h.rect qs hq
theorem Gst.rawQ {w : World} {v : Value} {qss : List (List Rat)} {N s : Nat} (h : Gst RCan w v qss) (G : GQ qss N s) (hs : s ≤ 100000000000) : Gst RRaw w v (qss.map fun qs => qs.map rawOf) :=
  h.imp rawOf fun qs hq u q hm hu => hu.prt ((G.hs qs hq q hm).up (by omega))
set_option maxHeartbeats 2000000 in
theorem times_ok {w : World} {A X : Option Addr} {n c k d : Nat} {qss : List (List Rat)} {xs : List Rat} {N s : Nat} (h : Gst RCan w (.slice A n c) qss) (h' : Lst RCan w (.slice X k d) xs) (G : GQ qss N s) (hx : Hs xs s) (hk : 0 < n → k = N) (hsz : 1 + N * (2 * s + 1) ≤ 100000000000) (hs : s ≤ 100000000000) (hn : n ≤ 1000000) (hT : Tab w) :
    Calls Tryd.prog 18 #[.slice A n c, .slice X k d] w fun e w' => ∃ u, e = .returned (.tuple #[u, .int .i64 0]) ∧ Below w.heap.size w w' ∧ OLst w' w.heap.size u (qss.map fun q => dot q xs) := by
  refine opq fun R hR => ?_
  have L := hide h
  have LX := hide h'
  have T := hide hT
  have hl := hide h.len
  have hlx := hide h'.len
  have GR := hide (h.rawQ G hs)
  have LR := hide (lst_raw_of_can h' (hx.up (by omega)))
  have G' := hide G
  have hkb : k ≤ 140737488355328 := by rw [← h'.len]; exact h'.le_
  replace hx := hide hx
  replace hsz := hide hsz
  have ok0 := hide G.gok
  have ok1 := hide (all_rk xs)
  clear h h' hT G
  go_enter Tryd.func18, Tryd.ntmps18
  go_wp2_with fail
  refine (gridCheck_ok GR.out T.out true ok0.out).mono ?_
  rintro e' w1 ⟨_, rfl, d0, rfl⟩
  have b0 := hide d0
  clear d0
  go_wp2_with fail
  refine (vCheck_L (LR.out.raw_below b0.out) (T.out.below b0.out) true ok1.out).mono ?_
  rintro e' w2 ⟨_, rfl, d0, rfl⟩
  replace b0 := hide (below_tr b0.out d0)
  clear d0 GR LR ok0 ok1
  by_cases h0 : n = 0
  · subst h0
    have e0 : Hid (qss = []) := List.eq_nil_of_length_eq_zero hl.out
    go_wp2
    go_loopw [4, 34] (fun tv iv wr => tv = .slice none 0 0 ∧ iv = .int .i64 ((0 : Nat) : Int) ∧ wr = w2) (fun _ _ _ => 0)
    case atStart => exact ⟨rfl, rfl, rfl⟩
    case round =>
      obtain ⟨rfl, rfl, rfl⟩ := hrel
      go_wp2
      exact opq_end hR ⟨_, rfl, b0.out, by rw [e0.out]; exact OLst.nil _ _⟩
  · have hn0 : 0 < n := by omega
    have hkN := hk hn0
    subst hkN
    obtain ⟨q0, hq0⟩ : ∃ q, qss[0]? = some q := ⟨_, List.getElem?_eq_getElem (by rw [hl.out]; exact hn0)⟩
    obtain ⟨ad, A1, c1, rfl, _, x0, X0⟩ := (L.out.can_below b0.out).at_ hq0
    have hk0 := G'.out.rect q0 (List.mem_of_getElem? hq0)
    rw [hk0, addr_zero] at x0
    clear X0 hq0 hk
    go_wp2
    go_loopw [4, 34] (fun tv iv wr => ∃ (i : Nat) (A' : Option Addr) (c' : Nat), i ≤ n ∧ iv = .int .i64 (i : Nat) ∧ tv = .slice A' i c' ∧ Hid (OLst wr w2.heap.size (.slice A' i c') ((qss.take i).map fun q => dot q xs)) ∧ Hid (Below w2.heap.size w2 wr)) (fun _ iv _ => n - (intOf iv).toNat)
    case atStart => exact ⟨0, _, _, by omega, rfl, rfl, OLst.nil _ _, Below.refl _ _⟩
    case round =>
      clear x0
      obtain ⟨i, A', c', hi, rfl, rfl, own, hbel⟩ := hrel
      by_cases hlt : i < n
      · obtain ⟨x, hx1⟩ : ∃ x, qss[i]? = some x := ⟨_, List.getElem?_eq_getElem (by rw [hl.out]; exact hlt)⟩
        obtain ⟨ad', A2, c2, eA, _, x0, X2⟩ := (L.out.can_below (below_tr b0.out hbel.out)).at_ hx1
        cases eA
        have hT := hide (show qss.take (i + 1) = qss.take i ++ [x] by
          rw [List.take_add_one, hx1]; rfl)
        have hxm := List.mem_of_getElem? hx1
        have hxl := G'.out.rect x hxm
        have hxh := hide (G'.out.hs x hxm)
        rw [hxl] at x0 X2
        replace X2 := hide X2
        replace hx1 := hide hx1
        replace hxl := hide hxl
        go_wp2_with fail
        refine (vDot_ok _ A2 X k c2 d x xs s X2.out (LX.out.can_below (below_tr b0.out hbel.out)) hxh.out hx.out hsz.out (T.out.below (below_tr b0.out hbel.out))).mono ?_
        rintro e w4 ⟨u, rfl, d0, r⟩
        have hs0 := hide hbel.out.size
        have r1 := hide r
        replace hbel := hide (below_tr hbel.out d0)
        have D0 := hide d0
        clear d0 r x0 X2
        obtain ⟨b3, A3, n3, c3, D3, m3, k3, rfl⟩ := r1.out.slice
        have yy : Below w4.heap.size w4 (w4.alloc (.cells #[.bool b3, .slice A3 n3 c3, .slice D3 m3 k3] TR)) := (Below.refl _ _).alloc (Nat.le_refl _) _
        have K6 := hide (Blk.new w4 TR #[.bool b3, .slice A3 n3 c3, .slice D3 m3 k3])
        have u0 := K6.out.at_ 0 rfl
        have u1 := K6.out.at_ 1 rfl
        have u2 := K6.out.at_ 2 rfl
        have K := hide (Blk.new_at (w4.alloc (.cells #[.bool b3, .slice A3 n3 c3, .slice D3 m3 k3] TR)) (w4.heap.size + 1) (by simp) TR #[.bool b3, .slice A3 n3 c3, .slice D3 m3 k3])
        have y1 : Below (w4.alloc (.cells #[.bool b3, .slice A3 n3 c3, .slice D3 m3 k3] TR)).heap.size (w4.alloc (.cells #[.bool b3, .slice A3 n3 c3, .slice D3 m3 k3] TR)) ((w4.alloc (.cells #[.bool b3, .slice A3 n3 c3, .slice D3 m3 k3] TR)).alloc (.cells #[.bool b3, .slice A3 n3 c3, .slice D3 m3 k3] TR)) := (Below.refl _ _).alloc (Nat.le_refl _) _
        have y2 := hide (below_tr yy y1)
        have O2 := hide (below_tr D0.out y2.out)
        have R2 := hide (r1.out.below y2.out)
        have B2 := hide (below_tr hbel.out y2.out)
        have hlen : Hid (((qss.take i).map fun q => dot q xs).length = i) := by
          show _ = _
          rw [List.length_map, List.length_take, hl.out]; omega
        clear r1 hbel y1 D0 yy K6 y2
        go_wp2_with (at_builtin; refine wpList_appO rfl _ _ rfl w2.heap.size _ ((qss.take i).map fun q => dot q xs) rfl own.out O2.out hs0.out rfl K.out R2.out (by rw [hlen.out]; omega) B2.out.size ?_; intro v' w3 q1 q2 q3)
        have q4 : Hid (OLst w3 w2.heap.size v' ((qss.take (i + 1)).map fun q => dot q xs)) := by
          show OLst _ _ _ _
          rw [hT.out, List.map_append]
          exact q1.out
        obtain ⟨A', c', rfl⟩ := q4.out.slice
        have hlen2 : Hid (((qss.take (i + 1)).map fun q => dot q xs).length = i + 1) := by
          show _ = _
          rw [List.length_map, List.length_take, hl.out]; omega
        rw [hlen2.out] at q4 ⊢
        have B4 := hide (B2.out.trans q2.out)
        go_roundw
        case rel => exact ⟨i + 1, A', c', by omega, by go_num, rfl, q4, B4⟩
        case measure => simp [intOf]; omega
      · obtain rfl : i = n := by omega
        rw [List.take_of_length_le (by rw [hl.out]; exact Nat.le_refl _)] at own
        have B5 := hide (below_tr b0.out hbel.out)
        have O5 : Hid (OLst wr w.heap.size (.slice A' i c') (qss.map fun q => dot q xs)) := own.out.mono b0.out.size
        go_wp2
        exact opq_end hR ⟨_, rfl, B5, O5⟩
end Go.Proofs.YtfpnhggbfakdkaaDoor

/- grids: Rank. -/
set_option linter.unusedVariables false
set_option linter.unusedSimpArgs false
set_option maxRecDepth 100000
namespace Go.Proofs.YtfpnhggbfakdkaaDoor
open Go.RowKit

/-- The values of a grid's rows. -/
theorem Gst.vals {w : World} {A : Option Addr} {n c : Nat} {qss : List (List Rat)} (h : Gst RCan w (.slice A n c) qss) :
    ∃ us : List Value, us.length = n ∧ (0 < n → ∃ ad, A = some ad ∧ ∀ (j : Nat) u, us[j]? = some u → w.cell? (ad.add j) = some u) ∧ ∀ (j : Nat) qs, qss[j]? = some qs → ∃ A' c', us[j]? = some (.slice A' qs.length c') ∧ Lst RCan w (.slice A' qs.length c') qs := by
  obtain ⟨A', n', c', us, e, h1, h2, h3, h4, h5, h6⟩ := h
  cases e
  refine ⟨us, h3, fun h0 => ?_, fun j qs hq => ?_⟩
  · obtain ⟨ad, e, _, hc⟩ := h5 h0
    exact ⟨ad, e, hc⟩
  · obtain ⟨u, hu, hL⟩ := h6 j qs hq
    obtain ⟨B, d, rfl⟩ := hL.sl
    exact ⟨B, d, hu, hL⟩
theorem slices_one {us : List Value} {n : Nat} {qss : List (List Rat)} {w : World} (hn : us.length = n) (hq : qss.length = n) (h : ∀ (j : Nat) qs, qss[j]? = some qs → ∃ A' c', us[j]? = some (.slice A' qs.length c') ∧ Lst RCan w (.slice A' qs.length c') qs) : ∀ u ∈ us, u.oneCell' = true := by
  intro u hu
  obtain ⟨j, hj, rfl⟩ := List.getElem_of_mem hu
  obtain ⟨A', c', e, _⟩ := h j _ (List.getElem?_eq_getElem (by omega))
  rw [List.getElem?_eq_getElem hj] at e
  rw [Option.some.inj e]
  rfl
set_option maxHeartbeats 1000000 in
theorem cloneG_ok {w : World} {A : Option Addr} {n c : Nat} {us : List Value} (hA : 0 < n → ∃ ad, A = some ad ∧ ∀ (j : Nat) u, us[j]? = some u → w.cell? (ad.add j) = some u) (hl : us.length = n) (h1 : ∀ u ∈ us, u.oneCell' = true) (hlt : ∀ ad, A = some ad → 0 < n → ad.block < w.heap.size) (hn : n ≤ 1000000) :
    Calls Tryd.prog 33 #[.slice A n c] w fun e w' => ∃ A' c', e = .returned (.slice A' n c') ∧ Below w.heap.size w w' ∧ w'.ownsRow w.heap.size TRs 1 (.slice A' n c') n us := by
  refine opq fun R hR => ?_
  have hnil := fun W => Lib.run_eql_slice_nil (P := Tryd.prog) W 22 30 A n c 0 0 (by kernel_rfl)
  go_enter Tryd.func33, Tryd.ntmps33
  rcases A with _ | ad
  · have hn0 : n = 0 := by
      rcases Nat.eq_zero_or_pos n with h0 | h0
      · exact h0
      · obtain ⟨ad, h, _⟩ := hA h0; cases h
    subst hn0
    obtain rfl : us = [] := List.eq_nil_of_length_eq_zero hl
    clear hA hlt
    go_wp2
    exact opq_end hR ⟨none, 0, rfl, Below.refl _ _, World.ownsRow_nil _ _ _ _⟩
  · have bA : Below w.heap.size w (w.alloc (.cells #[] TRs)) := (Below.refl _ _).alloc (Nat.le_refl _) _
    have own : (w.alloc (.cells #[] TRs)).ownsRow w.heap.size TRs 1 (.slice (some ⟨w.heap.size, 0, none⟩) 0 0) 0 [] :=
      own_blk (Blk.new w TRs #[]) (Nat.le_refl _) rfl (by omega) (Nat.le_refl _) rfl
    have HN : Hid (∀ (j : Nat) u, us[j]? = some u → (w.alloc (.cells #[] TRs)).cell? (ad.add j) = some u) := fun j u hu => by
      have h0 : 0 < n := by
        have := (List.getElem?_eq_some_iff.1 hu).1
        omega
      obtain ⟨ad', e, hc⟩ := hA h0
      cases e
      exact cell_below bA (hc j u hu)
    have HW := hide own
    have HB := hide bA
    replace h1 := hide h1
    replace hl := hide hl
    clear own bA hA hlt
    go_wp2_with (at_builtin; refine wpList_appv (P := Tryd.prog) (t := 22) (e := TRs) (z := .slice none 0 0) (size := 1) (b := 24) (by kernel_rfl) infoRs rfl (by omega) _ rfl _ _ rfl w.heap.size 0 _ [] rfl HW.out ad n c us rfl (by rw [hl.out]; omega) HN.out h1.out (by omega) (by omega) (by simp) ?_; intro v' w' q1 q2)
    rw [List.nil_append, Nat.zero_add] at q1
    have hv : ∃ A' c', v' = .slice A' n c' := by
      rcases q1.out.2 with ⟨e, h0⟩ | ⟨g, cap, cur, e, _⟩
      · subst h0; exact ⟨_, _, e⟩
      · exact ⟨_, _, e⟩
    obtain ⟨A', c', rfl⟩ := hv
    exact opq_end hR ⟨A', c', rfl, HB.out.grown q2.out (by simp) (fun k e => by cases e; exact Nat.le_refl _), q1.out⟩
/-- A run of no column. -/
theorem turn0_ok (w : World) (p : Nat) : Calls Tryd.prog 34 #[.pointer (some ⟨p, 0, none⟩), .int .i64 ((0 : Nat) : Int)] w fun e w' => e = .returned (.tuple #[]) ∧ Below w.heap.size w w' := by
  refine opq fun R hR => ?_
  go_enter Tryd.func34, Tryd.ntmps34
  go_wp2
  go_step3
  go_wp2
  go_step3
  go_wp2
  go_loopw [12] (fun iv wr => iv = .int .i64 ((0 : Nat) : Int) ∧ wr = w) (fun _ _ => 0)
  case atStart => exact ⟨rfl, rfl⟩
  case round =>
    obtain ⟨rfl, rfl⟩ := hrel
    go_wp2
    go_end0
    exact opq_end hR ⟨rfl, Below.refl _ _⟩
theorem gst_of_own {w : World} {B n : Nat} {v : Value} {us : List Value} {qss : List (List Rat)} (h : w.ownsRow B TRs 1 v n us) (hq : qss.length = n) (hn : n ≤ 1000000) (h3 : ∀ (j : Nat) qs, qss[j]? = some qs → ∃ A' c', us[j]? = some (.slice A' qs.length c') ∧ Lst RCan w (.slice A' qs.length c') qs) : Gst RCan w v qss := by
  have hl : us.length = n := by rw [h.1, Nat.mul_one]
  rcases Nat.eq_zero_or_pos n with h0 | h0
  · obtain ⟨A, c, rfl⟩ := own_slice h
    subst h0
    obtain rfl : qss = [] := List.eq_nil_of_length_eq_zero hq
    exact ⟨A, 0, c, us, rfl, Nat.zero_le _, rfl, hl, by decide, fun q => absurd q (by decide), fun j qs e => by simp at e⟩
  · obtain ⟨g, cap, cur, rfl, hB, hnc, hm, hk, hs, ht⟩ := own_some h h0
    refine ⟨_, n, cap, us, rfl, hnc, hq.symm, hl, by omega, fun _ => ⟨_, rfl, hk.lt, fun j u hj => ?_⟩, fun j qs e => ?_⟩
    · rw [add0]
      exact (hk.cell j).trans (take_get ht hj)
    · obtain ⟨A', c', e1, e2⟩ := h3 j qs e
      exact ⟨_, e1, e2⟩
set_option maxHeartbeats 2000000 in
/-- How many rows do not hang on the others. -/
theorem rank_any {w : World} {A : Option Addr} {n c : Nat} {qss : List (List Rat)} {N s S : Nat} {Inv : Nat → (Nat → List Rat) → List Nat → Prop} (h : Gst RCan w (.slice A n c) qss) (G : GQ qss N s) (hs : s ≤ 100000000000) (hn : n ≤ 1000000) (hN : N ≤ 1000000) (hT : Tab w)
    (hS1 : 1 ≤ S) (hS2 : S ≤ 1000000000) (hI0 : Inv 0 (fun j => qss.getD j []) []) (hIs : ∀ k M hs, k < N → Inv k M hs → (∀ i, hs.length ≤ i → i < n → (M i).getD k 0 = 0) → Inv (k + 1) M hs)
    (hIt : ∀ k M hs at_, k < N → Inv k M hs → Ech n k (mat M) hs → (∀ j, j < n → (M j).length = N) → hs.length ≤ at_ → at_ < n → (M at_).getD k 0 ≠ 0 → Inv (k + 1) (stp (swp M hs.length at_) hs.length k n) (hs ++ [k]))
    (hIz : ∀ k M hs, k ≤ N → Inv k M hs → ∀ j, j < n → Hs (M j) S) :
    Calls Tryd.prog 13 #[.slice A n c] w fun e w' => e = .returned (.tuple #[.int .i64 (rnk n N (mat fun j => qss.getD j []) : Nat), .int .i64 0]) ∧ Below w.heap.size w w' := by
  refine opq fun R hR => ?_
  obtain ⟨us, hu1, hu2, hu3⟩ := h.vals
  have hl := hide h.len
  have L := hide h
  have T := hide hT
  have GR := hide (h.rawQ G hs)
  have G' := hide G
  have ok0 := hide G.gok
  have H1 := hide (slices_one hu1 hl.out hu3)
  have H2 := hide hu2
  have H3 := hide hu3
  have HL := hide hu1
  have HA : Hid (∀ ad, A = some ad → 0 < n → ad.block < w.heap.size) := fun ad e h0 => by
    obtain ⟨A', n', c', us', e', h1, h2, h3, h4, h5, h6⟩ := h
    cases e'
    obtain ⟨ad', e2, hb, _⟩ := h5 h0
    rw [e] at e2
    cases e2
    exact hb
  replace hI0 := hide hI0
  replace hIs := hide hIs
  replace hIt := hide hIt
  replace hIz := hide hIz
  clear h hT hu1 hu2 hu3 G
  go_enter Tryd.func13, Tryd.ntmps13
  go_wp2_with fail
  refine (gridCheck_ok GR.out T.out true ok0.out).mono ?_
  rintro e' w1 ⟨_, rfl, d0, rfl⟩
  have b0 := hide d0
  clear d0 GR ok0
  go_wp2_with fail
  refine (cloneG_ok (w := w1) (A := A) (n := n) (c := c) (us := us) (fun h0 => ?_) HL.out H1.out (fun ad e h0 => Nat.lt_of_lt_of_le (HA.out ad e h0) b0.out.size) hn).mono ?_
  · obtain ⟨ad, e, hc⟩ := H2.out h0
    exact ⟨ad, e, fun j u hu => cell_below b0.out (hc j u hu)⟩
  rintro e' w2 ⟨A', c', rfl, d0, own⟩
  have o1 := hide (own_monoT own b0.out.size)
  replace b0 := hide (below_tr b0.out d0)
  clear d0 own
  have K := hide (Blk.new w2 67 #[.slice A' n c', .slice none 0 0])
  have b1 : Below w2.heap.size w2 (w2.alloc (.cells #[.slice A' n c', .slice none 0 0] 67)) := (Below.refl _ _).alloc (Nat.le_refl _) _
  have o2 := hide (own_below o1.out b1)
  have b2 := hide (below_tr b0.out b1)
  have hp := b0.out.size
  have p0 := K.out.at_ 0 rfl
  clear b1
  have WS0 : Hid (WS w (w2.alloc (.cells #[.slice A' n c', .slice none 0 0] 67)) w2.heap.size A' n c' none 0 N (fun j => qss.getD j []) []) := by
    refine ⟨b2.out, hp, K.out, ⟨us, HL.out, o2.out, fun j hj => ?_⟩, World.ownsRow_nil _ _ _ _, fun j hj => ?_, hn, hN⟩
    · obtain ⟨q, hq⟩ : ∃ q, qss[j]? = some q := ⟨_, List.getElem?_eq_getElem (by rw [hl.out]; exact hj)⟩
      obtain ⟨B, d, e1, e2⟩ := H3.out j q hq
      have := G'.out.rect q (List.mem_of_getElem? hq)
      rw [this] at e1 e2
      refine ⟨B, d, e1, .inl ?_⟩
      rw [show qss.getD j [] = q by rw [List.getD_eq_getElem?_getD, hq]; rfl]
      exact e2
    · obtain ⟨q, hq⟩ : ∃ q, qss[j]? = some q := ⟨_, List.getElem?_eq_getElem (by rw [hl.out]; exact hj)⟩
      show (qss.getD j []).length = N
      rw [show qss.getD j [] = q by rw [List.getD_eq_getElem?_getD, hq]; rfl]
      exact G'.out.rect q (List.mem_of_getElem? hq)
  have LG : Hid (Gst RCan (w2.alloc (.cells #[.slice A' n c', .slice none 0 0] 67)) (.slice A' n c') qss) :=
    gst_of_own o2.out hl.out hn fun j qs e => by
      obtain ⟨B, d, e1, e2⟩ := H3.out j qs e
      exact ⟨B, d, e1, e2.can_below b2.out⟩
  go_wp2_with fail
  refine (columns_ok LG.out N G'.out.cols).mono ?_
  rintro e' w3 ⟨_, rfl, d0, rfl⟩
  replace WS0 := hide (WS0.out.below d0)
  clear p0 d0 LG
  by_cases h0 : n = 0
  · subst h0
    obtain rfl := G'.out.n0 (List.eq_nil_of_length_eq_zero hl.out)
    have e0 : rnk 0 0 (mat fun j => qss.getD j []) = 0 := Nat.le_zero.1 (rnk_le 0 0 _)
    rw [e0] at hR
    go_wp2_with fail
    refine (turn0_ok w3 _).mono ?_
    rintro e' w4 ⟨rfl, d0⟩
    replace WS0 := hide (WS0.out.below d0)
    have p1 := WS0.out.pc.at_ 1 rfl
    go_wp2
    exact opq_end hR ⟨rfl, WS0.out.b⟩
  · go_wp2_with fail
    refine (turn_ok (S := S) (Inv := Inv) WS0.out (by omega) N (Nat.le_refl N) T.out hS1 hS2 hI0.out hIs.out hIt.out hIz.out).mono ?_
    rintro e' w4 ⟨rfl, Hd, hc, M, hs', W4, E4, N4, _⟩
    have p1 := W4.out.pc.at_ 1 rfl
    have er : rnk n N (mat fun j => qss.getD j []) = hs'.length := by
      rw [rnk_congr N4.out]
      exact E4.out.count
    rw [er] at hR
    clear N4 E4 er
    replace p1 : w4.cell? ⟨w2.heap.size, 1, none⟩ = some (.slice Hd hs'.length hc) := p1
    generalize hs'.length = r at *
    go_wp2
    exact opq_end hR ⟨rfl, W4.out.b⟩
end Go.Proofs.YtfpnhggbfakdkaaDoor

/- grids: Turn. -/
set_option linter.unusedVariables false
set_option linter.unusedSimpArgs false
set_option maxRecDepth 100000
namespace Go.Proofs.YtfpnhggbfakdkaaDoor
open Go.RowKit

theorem fwh_rats_Of (args : Array Value) (w : World) : (callFunc 26 args).run Tryd.prog w = .ok (.enter 26 args) w := callFunc_enter Tryd.func26 (by kernel_rfl) rfl args w
theorem fwh_vecs_Scale (args : Array Value) (w : World) : (callFunc 32 args).run Tryd.prog w = .ok (.enter 32 args) w := callFunc_enter Tryd.func32 (by kernel_rfl) rfl args w
theorem rOf1 (w : World) : Calls Tryd.prog 26 #[.int .i64 1] w fun e w' => ∃ u, e = .returned u ∧ Below w.heap.size w w' ∧ RCan w' u 1 := (rOf_P w 1 (by decide) (by decide)).mono fun e w' ⟨u, h1, h2, h3⟩ => ⟨u, h1, h2, by simpa using h3.can⟩
theorem H_one : H 1 100000000000 := ⟨Nat.le_trans (L_small (N := 1) (by decide)) (by decide), Nat.le_trans (L_small (N := 1) (by decide)) (by decide)⟩
theorem vScale1 {w : World} {v u0 : Value} {ps : List Rat} {B : Nat} (hB : B ≤ w.heap.size) (h : Lst RCan w v ps) (h0 : RCan w u0 1) (hp : Hs ps 100000000000) (hT : Tab w) (hn : ps.length ≤ 1000000) :
    Calls Tryd.prog 32 #[v, u0] w fun e w' => ∃ u, e = .returned u ∧ Below w.heap.size w w' ∧ OLst w' B u (ps.map (· * 1)) := by
  obtain ⟨A, c, rfl⟩ := h.sl
  obtain ⟨b0, A0, n0, c0, D0, m0, k0, rfl⟩ := h0.slice
  have h1 : Lst RArg w (.slice A ps.length c) ps := by
    have := h.imp (F := RArg) id fun u q hq hu => hu.arg (hp q hq)
    rwa [List.map_id] at this
  exact (Scale_ok w A _ c ps b0 A0 n0 c0 D0 m0 k0 1 h1 (h0.arg H_one) hn hT).mono fun e w' ⟨u, h1, h2, h3⟩ => ⟨_, h1, h2.out, h3.out.mono hB⟩
/-- One more, from a list of one. -/
theorem wpList_appL {w : World} {ops : Array Oper} {rest : List Oper} {o : Oper} {a : Act} {Q : Exit → Act → World → Prop} (hgd : o.guard = none) (s x : Operand)
    (ho : o.op = .call { callee := .builtin .append, args := #[s, x], argTypes := #[30, 30] })
    (B : Nat) (v : Value) (qs : List Rat) (hs : a.eval s = v) {w0 : World} (hown0 : OLst w0 B v qs) (hb0 : Below w0.heap.size w0 w) (hB0 : B ≤ w0.heap.size) {vx : Value} {q : Rat} (hx : a.eval x = vx) (hL : OLst w w0.heap.size vx [q])
    (hn : qs.length ≤ 1000000) (hbase : B ≤ w.heap.size)
    (h : ∀ v' w', Hid (OLst w' B v' (qs ++ [q])) → Hid (Below B w w') → Hid (B ≤ w'.heap.size) → wpList Tryd.prog ops Q rest (a.put o.dst v') w') : wpList Tryd.prog ops Q (o :: rest) a w := by
  obtain ⟨ux, l1, l2, l3, _⟩ := hL
  obtain ⟨u, hu, hq⟩ := l3 0 q rfl
  obtain ⟨b, A, m, c, D, k, d, rfl⟩ := hq.slice
  obtain rfl : ux = [.agg #[.bool b, .slice A m c, .slice D k d]] := by
    match ux, l1, hu with
    | [y], _, e => cases e; rfl
  obtain ⟨g, cap, cur, rfl, _, hnc, hcm, hg, hcs, htk⟩ := own_some l2 (Nat.lt_succ_self 0)
  have hfr : ∀ us' : List Value, us'.length = qs.length → (∀ (j : Nat) q, qs[j]? = some q → ∃ u, us'[j]? = some u ∧ RatR q B w0 u) → ∀ u' ∈ us', ∀ g', uhas u' g' → ¬ uhas (.agg #[.bool b, .slice A m c, .slice D k d]) g' := fun us' e1 e3 => OLst.elt (v := v) e1 e3 hq
  obtain ⟨us, h1, h2', h3', h4⟩ := hown0
  have h3 : ∀ (j : Nat) q, qs[j]? = some q → ∃ u, us[j]? = some u ∧ RatR q B w u := fun j q hq => by
    obtain ⟨u, hu, hr⟩ := h3' j q hq
    exact ⟨u, hu, hr.below hb0⟩
  have h2 := own_below h2' hb0
  have hap := UAp.snoc h4 (hfr us h1 h3')
  replace hq := hq.mono hB0
  refine wpList_appv (P := Tryd.prog) (t := 30) (e := TR) (z := .agg #[.bool false, .slice none 0 0, .slice none 0 0]) (size := 3) (b := 56) (by kernel_rfl) infoR rfl (by omega) w hgd s x ho B qs.length v (flat us) hs h2 ⟨g, 0, none⟩ 1 cap [.bool b, .slice A m c, .slice D k d] hx rfl (fun j u hj => ?_) (fun u hu => ?_) (by omega) (by omega) hbase (fun v' w' k1 k2 => h v' w' ?_ ?_ ?_)
  · rw [add0, hg.cell]
    exact take_get htk hj
  · simp at hu
    rcases hu with rfl | rfl | rfl <;> rfl
  · have hr := fun k e => (own_row h2 k e).2
    have k1' : w'.ownsRow B TR 3 v' (qs.length + 1) (flat (us ++ [.agg #[.bool b, .slice A m c, .slice D k d]])) := by
      rw [flat_snoc]; exact k1
    refine ⟨us ++ [.agg #[.bool b, .slice A m c, .slice D k d]], by simp [h1], by rw [List.length_append]; exact k1', fun j p hp => ?_, hap⟩
    by_cases hj : j < qs.length
    · rw [List.getElem?_append_left hj] at hp
      obtain ⟨u, hu, hR⟩ := h3 j p hp
      exact ⟨u, by rw [List.getElem?_append_left (by omega)]; exact hu, hR.grownR k2.out hr⟩
    · have hj2 : j = qs.length := by
        have := (List.getElem?_eq_some_iff.1 hp).1
        simp at this
        omega
      subst hj2
      rw [List.getElem?_append_right (Nat.le_refl _), Nat.sub_self] at hp
      cases hp
      refine ⟨_, by rw [List.getElem?_append_right (by omega), h1, Nat.sub_self]; rfl, hq.grownR k2.out hr⟩
  · exact (Below.refl B w).grown k2.out hbase (fun k e => (own_row h2 k e).1)
  · exact Nat.le_trans hbase k2.out.size
/-- A grid of the call's own: its rows were made one behind the other. -/
structure OG (w : World) (B : Nat) (v : Value) (qss : List (List Rat)) (us : List Value) (W : Nat → World) (Bs : Nat → Nat) : Prop where
  len : us.length = qss.length
  own : w.ownsRow B TRs 1 v qss.length us
  row : ∀ (j : Nat) qs, qss[j]? = some qs → ∃ u, us[j]? = some u ∧ OLst (W j) (Bs j) u qs ∧ Kp2 (W j) w ∧ (W j).heap.size ≤ w.heap.size
  base : ∀ j, j < qss.length → B ≤ Bs j
  mono : ∀ j, j + 1 < qss.length → (W j).heap.size ≤ Bs (j + 1)
theorem OG.nil (w : World) (B : Nat) (W : Nat → World) (Bs : Nat → Nat) : OG w B (.slice none 0 0) [] [] W Bs := ⟨rfl, World.ownsRow_nil _ _ _ _, fun j qs h => by simp at h, fun j h => by simp at h, fun j h => by simp at h⟩
theorem OG.below {w w' : World} {B : Nat} {v : Value} {qss : List (List Rat)} {us : List Value} {W : Nat → World} {Bs : Nat → Nat} (h : OG w B v qss us W Bs) (hb : Below w.heap.size w w') : OG w' B v qss us W Bs :=
  ⟨h.len, own_below h.own hb, fun j qs hq => by
    obtain ⟨u, h1, h2, h3, h4⟩ := h.row j qs hq
    exact ⟨u, h1, h2, h3.tr (Kp2.bel hb), Nat.le_trans h4 hb.size⟩, h.base, h.mono⟩
theorem OG.baseB {w : World} {B B' : Nat} {v : Value} {qss : List (List Rat)} {us : List Value} {W : Nat → World} {Bs : Nat → Nat} (h : OG w B v qss us W Bs) (hB : B' ≤ B) : OG w B' v qss us W Bs := ⟨h.len, own_monoT h.own hB, h.row, fun j hj => Nat.le_trans hB (h.base j hj), h.mono⟩
theorem OG.slice {w : World} {B : Nat} {v : Value} {qss : List (List Rat)} {us : List Value} {W : Nat → World} {Bs : Nat → Nat} (h : OG w B v qss us W Bs) : ∃ A c, v = .slice A qss.length c := own_slice h.own
theorem OG.gst {w : World} {B : Nat} {v : Value} {qss : List (List Rat)} {us : List Value} {W : Nat → World} {Bs : Nat → Nat} (h : OG w B v qss us W Bs) (hn : qss.length ≤ 1000000) (hN : ∀ qs ∈ qss, qs.length ≤ 1000000) : Gst RCan w v qss :=
  gst_of_own h.own rfl hn fun j qs hq => by
    obtain ⟨u, h1, h2, h3, _⟩ := h.row j qs hq
    obtain ⟨A, c, rfl⟩ := h2.slice
    exact ⟨A, c, h1, (h2.kp2 h3).lst (hN qs (List.mem_of_getElem? hq))⟩
theorem Kp2.grown {t : TypeId} {size : Nat} {w w' : World} {base n : Nat} {v : Value} {xs : List Value} (hr : w.ownsRow base t size v n xs) (hg : w.grownBy w' v.ownBlock) (h1 : T32 ≠ t) (h2 : TR ≠ t) : Kp2 w w' :=
  ⟨fun g cs hk => blk_grown hr hg hk h1, fun g cs hk => blk_grown hr hg hk h2⟩
/-- One more row. -/
theorem OG.snoc {w w1 w' : World} {B b : Nat} {v v' u : Value} {qss : List (List Rat)} {qs : List Rat} {us : List Value} {W : Nat → World} {Bs : Nat → Nat} (h : OG w B v qss us W Bs) (hu : OLst w b u qs) (hB : B ≤ b) (hb : ∀ j, j < qss.length → (W j).heap.size ≤ b) (h1 : Below w.heap.size w w1) (hg : w1.grownBy w' v.ownBlock) (ho : w'.ownsRow B TRs 1 v' (qss.length + 1) (us ++ [u])) :
    OG w' B v' (qss ++ [qs]) (us ++ [u]) (fun j => if j = qss.length then w else W j) (fun j => if j = qss.length then b else Bs j) := by
  have hk : Kp2 w w' := (Kp2.bel h1).tr (Kp2.grown (own_below h.own h1) hg (by decide) (by decide))
  have hz : w.heap.size ≤ w'.heap.size := Nat.le_trans h1.size hg.size
  refine ⟨by simp [h.len], by rw [List.length_append]; exact ho, fun j ps hp => ?_, fun j hj => ?_, fun j hj => ?_⟩
  · by_cases hj : j < qss.length
    · rw [List.getElem?_append_left hj] at hp
      obtain ⟨x, a1, a2, a3, a4⟩ := h.row j ps hp
      refine ⟨x, by rw [List.getElem?_append_left (by rw [h.len]; exact hj)]; exact a1, ?_⟩
      rw [if_neg (by omega), if_neg (by omega)]
      exact ⟨a2, a3.tr hk, Nat.le_trans a4 hz⟩
    · have hj2 : j = qss.length := by
        have := (List.getElem?_eq_some_iff.1 hp).1
        simp at this
        omega
      subst hj2
      rw [List.getElem?_append_right (Nat.le_refl _), Nat.sub_self] at hp
      cases hp
      refine ⟨u, by rw [List.getElem?_append_right (by rw [h.len]; exact Nat.le_refl _), h.len, Nat.sub_self]; rfl, ?_⟩
      rw [if_pos rfl, if_pos rfl]
      exact ⟨hu, hk, hz⟩
  · by_cases e : j = qss.length
    · rw [if_pos e]; exact hB
    · rw [if_neg e]
      rw [List.length_append, List.length_singleton] at hj
      exact h.base j (by omega)
  · rw [List.length_append, List.length_singleton] at hj
    by_cases e : j + 1 = qss.length
    · rw [if_pos e, if_neg (by omega)]
      exact hb j (by omega)
    · rw [if_neg e, if_neg (by omega)]
      exact h.mono j (by omega)
def turnQ (qss : List (List Rat)) (N : Nat) : List (List Rat) := (List.range N).map fun k => qss.map fun q => q.getD k 0
theorem turnQ_succ (qss : List (List Rat)) (k : Nat) : turnQ qss (k + 1) = turnQ qss k ++ [qss.map fun q => q.getD k 0] := by
  unfold turnQ
  rw [List.range_succ, List.map_append]
  rfl
theorem one_map (x : Rat) : ([x].map (· * 1)) = [x] := by simp [Rat.mul_one]
set_option maxHeartbeats 4000000 in
theorem turnG_ok {w : World} {A : Option Addr} {n c : Nat} {qss : List (List Rat)} {N s : Nat} (h : Gst RCan w (.slice A n c) qss) (G : GQ qss N s) (hs : s ≤ 100000000000) (hn : n ≤ 1000000) (hN : N ≤ 1000000) (hT : Tab w) :
    Calls Tryd.prog 12 #[.slice A n c] w fun e w' => ∃ u us W Bs, e = .returned (.tuple #[u, .int .i64 0]) ∧ Below w.heap.size w w' ∧ OG w' w.heap.size u (turnQ qss N) us W Bs := by
  refine opq fun R hR => ?_
  have L := hide h
  have T := hide hT
  have hl := hide h.len
  have GR := hide (h.rawQ G hs)
  have G' := hide G
  have ok0 := hide G.gok
  clear h hT G
  go_enter Tryd.func12, Tryd.ntmps12
  go_wp2_with fail
  refine (gridCheck_ok GR.out T.out true ok0.out).mono ?_
  rintro e' w1 ⟨_, rfl, d0, rfl⟩
  have b0 := hide d0
  clear d0 GR ok0
  go_wp2_with fail
  refine (columns_ok (L.out.can_below b0.out) N G'.out.cols).mono ?_
  rintro e' w2 ⟨_, rfl, d0, rfl⟩
  replace b0 := hide (below_tr b0.out d0)
  clear d0
  go_wp2
  go_loopw [2, 13] (fun tv iv wr => ∃ (k : Nat) (X : Option Addr) (d : Nat) (us : List Value) (W : Nat → World) (Bs : Nat → Nat), k ≤ N ∧ iv = .int .i64 (k : Nat) ∧ tv = .slice X k d ∧ Hid (OG wr w2.heap.size (.slice X k d) (turnQ qss k) us W Bs) ∧ Hid (Below w2.heap.size w2 wr)) (fun _ iv _ => N - (intOf iv).toNat)
  case atStart => exact ⟨0, _, _, [], fun _ => w2, fun _ => 0, by omega, rfl, rfl, OG.nil _ _ _ _, Below.refl _ _⟩
  case round =>
    obtain ⟨k, X0, d0, us, W, Bs, hk, rfl, rfl, og, hbel⟩ := hrel
    have tl : Hid ((turnQ qss k).length = k) := by
      show _ = _
      unfold turnQ
      simp
    by_cases hlt : k < N
    · obtain ⟨wk, rfl⟩ : ∃ wk, wk = wr := ⟨_, rfl⟩
      go_wp2
      go_loopw [5, 18] (fun tv iv wr => ∃ (i : Nat) (X : Option Addr) (d : Nat), i ≤ n ∧ iv = .int .i64 (i : Nat) ∧ tv = .slice X i d ∧ Hid (OLst wr wk.heap.size (.slice X i d) ((qss.take i).map fun q => q.getD k 0)) ∧ Hid (Below wk.heap.size wk wr)) (fun _ iv _ => n - (intOf iv).toNat)
      case atStart => exact ⟨0, _, _, by omega, rfl, rfl, OLst.nil _ _, Below.refl _ _⟩
      case round =>
        obtain ⟨i, X, d, hi, rfl, rfl, own, hb2⟩ := hrel
        by_cases hlt2 : i < n
        · obtain ⟨q, hq⟩ : ∃ q, qss[i]? = some q := ⟨_, List.getElem?_eq_getElem (by rw [hl.out]; exact hlt2)⟩
          have bw := hide (below_tr b0.out (below_tr hbel.out hb2.out))
          obtain ⟨ad, AR, cR, rfl, _, x0, XR⟩ := (L.out.can_below bw.out).at_ hq
          have hqm := List.mem_of_getElem? hq
          have hql := G'.out.rect q hqm
          obtain ⟨x, hx⟩ : ∃ x, q[k]? = some x := ⟨_, List.getElem?_eq_getElem (by omega)⟩
          have hT := hide (show qss.take (i + 1) = qss.take i ++ [q] by
            rw [List.take_add_one, hq]; rfl)
          have hgd := hide (getD_of hx)
          rw [hql] at x0 XR
          have hcR := XR.cap
          have LX : Hid (Lst RCan wr (.slice (if cR = k then AR else AR.map (·.add (k * 3))) (k + 1 - k) (cR - k)) [x]) := by
            have := XR.cut tri_can k (k + 1) (Nat.le_succ k) (by omega)
            rw [take1_drop hx] at this
            exact this
          have HX : Hid (Hs [x] 100000000000) := fun y hy => by
            rw [List.mem_singleton] at hy
            subst hy
            exact (G'.out.hs q hqm y (List.mem_of_getElem? hx)).up hs
          have hk63 : IntKind.i64.wrap ((k : Int) + 1) = (k : Int) + 1 := by
            rw [IntKind.wrap_i64]
            omega
          clear XR hq hx
          go_wp2
          refine wp_region_facts 8 (fun w' => Below wr.heap.size wr w') [(22, .eq (.slice X i d)), (23, .eq (.slice AR N cR)), (24, .eq (.int .i64 (k : Nat))), (25, .eq (.int .i64 (k : Nat))), (26, .eq (.int .i64 ((k + 1 : Nat) : Int))), (27, .eq (.slice (if cR = k then AR else AR.map (·.add (k * 3))) ((k + 1) - (k)) (cR - k))), (28, (.rat 1)), (29, (.olst ([x].map (· * 1)) wr.heap.size))] [false, false, false, false, false, false, false, false, false, false, false, false, false, false, false, false, false, false, false, false, false, false, true, true, true, true, true, true, true, true, false, false, false, false, false, false, false, false] mixed (by kernel_rfl) (by kernel_rfl) (by kernel_rfl) (fun _ _ h hb => h.trans (hb.mono h.size)) ((Below.refl _ _).drew) ⟨?_, ?_, ?_, ?_, ?_, ?_, ?_, ?_, trivial⟩ ?_
          · exact .moveC (.inl rfl) (.inl rfl) rfl (fun a w' hC hs => (hs 5 (by kernel_rfl)))
          · exact .moveC (.inl rfl) (.inl rfl) rfl (fun a w' hC hs => (hs 7 (by kernel_rfl)))
          · exact .moveC (.inl rfl) (.inl rfl) rfl (fun a w' hC hs => (hs 4 (by kernel_rfl)))
          · exact .moveC (.inl rfl) (.inl rfl) rfl (fun a w' hC hs => (hs 4 (by kernel_rfl)))
          · exact .value (.inl rfl) (by intro T e; cases e) rfl rfl (fun a w' hC hs hl => by
              have e0 : a.eval (.tmp 25) = (.int .i64 (k : Nat)) := (hl 25 (by kernel_rfl) (by kernel_rfl))
              simp only [execOp, e0]
              simp only [Act.eval]
              simp [go_sem, hk63])
          · exact .value (.inl rfl) (by intro T e; cases e) rfl rfl (fun a w' hC hs hl => by
              have e0 : a.eval (.tmp 23) = (.slice AR N cR) := (hl 23 (by kernel_rfl) (by kernel_rfl))
              have e1 : a.eval (.tmp 24) = (.int .i64 (k : Nat)) := (hl 24 (by kernel_rfl) (by kernel_rfl))
              have e2 : a.eval (.tmp 26) = (.int .i64 ((k + 1 : Nat) : Int)) := (hl 26 (by kernel_rfl) (by kernel_rfl))
              have hr := run_cut (w := w') (A := AR) (n := N) (c := cR) (l := k) (h := k + 1) (some _) (some _) (.inl rfl) (.inl rfl) (Nat.le_succ k) (by omega)
              try simp only [Int.natCast_add, Int.natCast_one] at hr
              simp [execOp, Option.map, e0, e1, e2, hr])
          · exact .call (.inl rfl) rfl rfl fwh_rats_Of (fun a w' hC hs hl => by
              show Calls _ _ #[Go.Value.int Go.IntKind.i64 1] _ _
              exact rOf1 _)
          · exact .call (.inl rfl) rfl rfl fwh_vecs_Scale (fun a w' hC hs hl => by
              show Calls _ _ #[a.eval (.tmp 27), a.eval (.tmp 28)] _ _
              rw [show a.eval (.tmp 27) = (.slice (if cR = k then AR else AR.map (·.add (k * 3))) ((k + 1) - (k)) (cR - k) : Value) from (hl 27 (by kernel_rfl) (by kernel_rfl))]
              exact vScale1 hC.size (LX.out.can_below hC) (hl 28 (by kernel_rfl) (by kernel_rfl)) HX.out (T.out.below (below_tr bw.out hC)) (by simp))
          · intro f wz hC hF _
            have f29 : OLst wz wr.heap.size (f 29) ([x].map (· * 1)) := hF 29 (by kernel_rfl)
            have f22 : f 22 = .slice X i d := hF 22 (by kernel_rfl)
            clear hF
            simp only [patch, List.drop]
            rw [f22]
            obtain ⟨X2, d2, e29⟩ := OLst.slN (N := 1) f29 (by simp)
            rw [e29]
            rw [e29, one_map] at f29
            replace f29 := hide f29
            clear x0 LX HX
            generalize f 23 = y23
            generalize f 24 = y24
            generalize f 25 = y25
            generalize f 26 = y26
            generalize f 27 = y27
            generalize f 28 = y28
            have hs0 := hide hb2.out.size
            have B2 := hide (below_tr hb2.out hC)
            have hC' := hide hC
            have hlen : Hid (((qss.take i).map fun q => q.getD k 0).length = i) := by
              show _ = _
              rw [List.length_map, List.length_take, hl.out]; omega
            clear hC hb2
            refine wpList_appL rfl _ _ rfl wk.heap.size _ ((qss.take i).map fun q => q.getD k 0) rfl own.out hC'.out hs0.out rfl f29.out (by rw [hlen.out]; omega) B2.out.size ?_
            intro v' w3 q1 q2 q3
            have q4 : Hid (OLst w3 wk.heap.size v' ((qss.take (i + 1)).map fun q => q.getD k 0)) := by
              show OLst _ _ _ _
              rw [hT.out, List.map_append]
              rw [show [q].map (fun q => q.getD k 0) = [x] by rw [List.map_singleton, hgd.out]]
              exact q1.out
            have hlen2 : Hid (((qss.take (i + 1)).map fun q => q.getD k 0).length = i + 1) := by
              show _ = _
              rw [List.length_map, List.length_take, hl.out]; omega
            obtain ⟨X3, d3, rfl⟩ := OLst.slN q4.out hlen2.out
            have B4 := hide (B2.out.trans q2.out)
            clear own q1 f29 hC'
            go_wp2
            go_roundw
            case rel => exact ⟨i + 1, X3, d3, by omega, by go_num, rfl, q4, B4⟩
            case measure => simp [intOf]; omega
        · obtain rfl : i = n := by omega
          rw [List.take_of_length_le (by rw [hl.out]; exact Nat.le_refl _)] at own
          have hu : ∀ (j : Nat) u, [Value.slice X i d][j]? = some u → (wr.alloc (.cells #[.slice X i d] TRs)).cell? ((⟨wr.heap.size, 0, none⟩ : Addr).add j) = some u := fun j u hj => by
            rw [add0]
            exact (Blk.new wr TRs #[.slice X i d]).at_ j (by simpa using hj)
          have HU := hide hu
          have b3 : Below wr.heap.size wr (wr.alloc (.cells #[.slice X i d] TRs)) := (Below.refl _ _).alloc (Nat.le_refl _) _
          have og2 := hide (og.out.below (below_tr hb2.out b3))
          have B2 := hide (below_tr hbel.out (below_tr hb2.out b3))
          have b3' := hide b3
          have og3 := hide (og.out.below hb2.out)
          have own2 := hide og2.out.own
          rw [tl.out] at own2
          clear hu b3
          have hk1 : k ≤ 1000000 := by omega
          go_wp2_with (at_builtin; refine wpList_appv (P := Tryd.prog) (t := 22) (e := TRs) (z := .slice none 0 0) (size := 1) (b := 24) (by kernel_rfl) infoRs rfl (by omega) _ rfl _ _ rfl w2.heap.size k _ us rfl own2.out ⟨wr.heap.size, 0, none⟩ 1 1 [.slice X i d] rfl rfl HU.out (by intro u hu; simp at hu; subst hu; rfl) (by omega) (by omega) B2.out.size ?_; intro v' w3 q1 q2)
          obtain ⟨X4, d4, rfl⟩ := own_slice q1.out
          have og4 : Hid (OG w3 w2.heap.size (.slice X4 (k + 1) d4) (turnQ qss (k + 1)) (us ++ [.slice X i d]) (fun j => if j = k then wr else W j) (fun j => if j = k then wk.heap.size else Bs j)) := by
            have := OG.snoc (u := .slice X i d) (qs := qss.map fun q => q.getD k 0) (b := wk.heap.size) og3.out own.out hbel.out.size (fun j hj => ?_) b3'.out q2.out (by rw [tl.out]; exact q1.out)
            · rw [tl.out] at this
              rw [turnQ_succ]
              exact this
            · obtain ⟨u, _, _, _, h4⟩ := og.out.row j _ (List.getElem?_eq_getElem hj)
              exact h4
          have B5 := hide (B2.out.grown q2.out B2.out.size (fun k e => (own_rowT own2.out k e).1))
          clear og og2 og3 own2 own q1 q2 HU b3' B2
          go_roundw
          case rel => exact ⟨k + 1, X4, d4, _, _, _, by omega, by go_num, rfl, og4, B5⟩
          case measure => simp [intOf]; omega
    · obtain rfl : k = N := by omega
      have B5 := hide (below_tr b0.out hbel.out)
      have O5 := hide (og.out.baseB b0.out.size)
      go_wp2
      exact opq_end hR ⟨_, us, W, Bs, rfl, B5, O5⟩
end Go.Proofs.YtfpnhggbfakdkaaDoor

/- grids: slices.Concat of a row and one number. -/
set_option linter.unusedVariables false
set_option linter.unusedSimpArgs false
set_option maxRecDepth 100000
namespace Go.Proofs.YtfpnhggbfakdkaaDoor
open Go.RowKit

set_option maxHeartbeats 1000000 in
theorem growR_ok (w : World) (n : Nat) (hn : n ≤ 2000000) (z : Int) (hz : z = (n : Nat)) :
    Calls Tryd.prog 59 #[.slice none 0 0, .int .i64 z] w fun e w' => ∃ A c, e = .returned (.slice A 0 c) ∧ Below w.heap.size w w' ∧ w'.ownsRow w.heap.size TR 3 (.slice A 0 c) 0 [] := by
  subst hz
  refine opq fun R hR => ?_
  by_cases h0 : n = 0
  · subst h0
    go_enter Tryd.func59, Tryd.ntmps59
    go_wp2
    exact opq_end hR ⟨none, 0, rfl, Below.refl _ _, World.ownsRow_nil _ _ _ _⟩
  · obtain ⟨i, hi, hz, hs, hb⟩ := info_parts infoR
    obtain ⟨G, hG⟩ : ∃ G, grownCap w n 0 TR = G := ⟨_, rfl⟩
    have hGn : n ≤ G := hG ▸ grownCap_ge w _ _ _
    have hG63 : G ≤ maxLen := hG ▸ grownCap_le_maxLen w n 0 TR (by unfold maxLen; omega)
    have hrz : ∀ ty, (Builtin.append_ #[30, 3] ty #[.slice none 0 0, .int .i64 (n : Int)]).run Tryd.prog w = .ok (.slice (some ⟨w.heap.size, 0, none⟩) n G) (w.drew.alloc (.cells (Builtin.zeroCells (Value.agg #[.bool false, .slice none 0 0, .slice none 0 0]).cells n ++ Builtin.zeroCells (Value.agg #[.bool false, .slice none 0 0, .slice none 0 0]).cells (G - n)) TR)) := fun ty => by
      have h := Lib.run_append_nil_zeros (P := Tryd.prog) w 30 3 ty TR i (.agg #[.bool false, .slice none 0 0, .slice none 0 0]) .i64 .i64 (by kernel_rfl) (by kernel_rfl) hi hz n (by omega) (by omega) (by omega) (by rw [hb]; omega)
      rw [hG] at h
      exact h
    obtain ⟨cs, hcs⟩ : ∃ cs, Builtin.zeroCells (Value.agg #[.bool false, .slice none 0 0, .slice none 0 0]).cells n ++ Builtin.zeroCells (Value.agg #[.bool false, .slice none 0 0, .slice none 0 0]).cells (G - n) = cs := ⟨_, rfl⟩
    have hcz : cs.size = G * 3 := by
      rw [← hcs, Array.size_append, size_zeroCells, size_zeroCells]
      show n * 3 + (G - n) * 3 = G * 3
      omega
    rw [hcs] at hrz
    have hn0 : ¬ ((n : Int) < 0) := by omega
    have hG63' : G ≤ 9223372036854775807 := by unfold maxLen at hG63; exact hG63
    have hnp : (n : Int) > 0 := by omega
    have K : Hid (Blk (w.drew.alloc (.cells cs TR)) w.heap.size TR cs) := Blk.new_at w.drew w.heap.size (by simp) TR cs
    have B : Hid (Below w.heap.size w (w.drew.alloc (.cells cs TR))) := ((Below.refl w.heap.size w).drew).alloc (by simp) _
    replace hcz := hide hcz
    clear hi hz hs hb hG hcs
    go_enter Tryd.func59, Tryd.ntmps59
    go_wp2_with (at_builtin; refine Lib.wpList_append_run _ rfl _ _ _ _ rfl _ _ rfl rfl _ _ (hrz _) ?_)
    exact opq_end hR ⟨_, G, rfl, B.out, ⟨rfl, .inr ⟨_, G, cs, rfl, Nat.le_refl _, K.out.eq, Nat.zero_le _, hG63, hcz.out, by simp⟩⟩⟩
/-- The cells of a list. -/
theorem Lst.cellsV {w : World} {A : Option Addr} {n c : Nat} {qs : List Rat} (h : Lst RCan w (.slice A n c) qs) :
    ∃ us : List Value, us.length = n ∧ (∀ u ∈ us, u.cells.size = 3) ∧ (∀ u ∈ flat us, u.oneCell' = true) ∧ (0 < n → ∃ ad, A = some ad ∧ ∀ (j : Nat) u, (flat us)[j]? = some u → w.cell? (ad.add j) = some u) ∧ ∀ (j : Nat) q, qs[j]? = some q → ∃ u, us[j]? = some u ∧ RCan w u q := by
  obtain ⟨A', n', c', us, e, h1, h2, h3, h4, h5, h6⟩ := h
  cases e
  have h33 := Lst.tri3 tri_can (by omega) h6
  refine ⟨us, h3, h33, fun u hu => ?_, fun h0 => ?_, h6⟩
  · unfold flat at hu
    rw [List.mem_flatMap] at hu
    obtain ⟨u', hu', hm'⟩ := hu
    obtain ⟨i, hi, rfl⟩ := List.getElem_of_mem hu'
    obtain ⟨u2, hu2, he2⟩ := h6 i (qs[i]'(by omega)) (List.getElem?_eq_getElem _)
    rw [List.getElem?_eq_getElem hi] at hu2
    cases hu2
    obtain ⟨b1, B1, m1, d1, B2, m2, d2, e⟩ := tri_can _ _ _ he2
    rw [e] at hm'
    simp [Value.cells] at hm'
    rcases hm' with rfl | rfl | rfl <;> rfl
  · obtain ⟨ad, e, _, hc⟩ := h5 h0
    exact ⟨ad, e, hc⟩
/-- A list behind a list of the call's own. -/
theorem wpList_catR {w : World} {ops : Array Oper} {rest : List Oper} {o : Oper} {a : Act} {Q : Exit → Act → World → Prop} (hgd : o.guard = none) (s x : Operand)
    (ho : o.op = .call { callee := .builtin .append, args := #[s, x], argTypes := #[30, 30] })
    (B n : Nat) (v : Value) (us : List Value) (hs : a.eval s = v) (hown : w.ownsRow B TR 3 v n (flat us)) {ad : Addr} {m c : Nat} (hx : a.eval x = .slice (some ad) m c) (vs : List Value) (hl : vs.length = m) (h3 : ∀ u ∈ vs, u.cells.size = 3) (h1 : ∀ u ∈ flat vs, u.oneCell' = true) (hc : ∀ (j : Nat) u, (flat vs)[j]? = some u → w.cell? (ad.add j) = some u)
    (hn : n + m ≤ 1000000) (hbase : B ≤ w.heap.size)
    (h : ∀ A' c' w', Hid (w'.ownsRow B TR 3 (.slice A' (n + m) c') (n + m) (flat (us ++ vs))) → Hid (Below B w w') → wpList Tryd.prog ops Q rest (a.put o.dst (.slice A' (n + m) c')) w') : wpList Tryd.prog ops Q (o :: rest) a w := by
  refine wpList_appv (P := Tryd.prog) (t := 30) (e := TR) (z := .agg #[.bool false, .slice none 0 0, .slice none 0 0]) (size := 3) (b := 56) (by kernel_rfl) infoR rfl (by omega) w hgd s x ho B n v (flat us) hs hown ad m c (flat vs) hx (by rw [flat_len h3, hl, Nat.mul_comm]) hc h1 (by omega) (by omega) hbase (fun v' w' k1 k2 => ?_)
  obtain ⟨A', c', rfl⟩ := own_slice k1
  refine h A' c' w' ?_ ((Below.refl B w).grown k2.out hbase (fun k e => (own_row hown k e).1))
  show World.ownsRow _ _ _ _ _ _ _
  unfold flat at k1 ⊢
  rw [List.flatMap_append]
  exact k1
set_option maxHeartbeats 2000000 in
theorem concatR_ok {w w0 : World} {A X : Option Addr} {N c d g : Nat} {ps : List Rat} {x : Rat} (hg : Blk w g TRs #[.slice A N c, .slice X 1 d]) (h : Lst RCan w0 (.slice A N c) ps) (h' : Lst RCan w0 (.slice X 1 d) [x]) (hb0 : Below w0.heap.size w0 w) (hN : N ≤ 100000) :
    Calls Tryd.prog 38 #[.slice (some ⟨g, 0, none⟩) 2 2] w fun e w' => ∃ A' c' us, e = .returned (.slice A' (N + 1) c') ∧ Below w.heap.size w w' ∧ us.length = N + 1 ∧ w'.ownsRow w.heap.size TR 3 (.slice A' (N + 1) c') (N + 1) (flat us) ∧ ∀ (j : Nat) q, (ps ++ [x])[j]? = some q → ∃ u, us[j]? = some u ∧ RCan w0 u q := by
  refine opq fun R hR => ?_
  obtain ⟨us1, a1, a2, a3, a4, a5⟩ := h.cellsV
  obtain ⟨us2, b1, b2, b3, b4, b5⟩ := h'.cellsV
  have hlp := h.len
  obtain ⟨ax, rfl, b4'⟩ := b4 (by decide)
  have K := hide hg
  have A2 := hide a2
  have A3 := hide a3
  have A4 : Hid (0 < N → ∃ ad, A = some ad ∧ ∀ (j : Nat) u, (flat us1)[j]? = some u → w.cell? (ad.add j) = some u) := fun h0 => by
    obtain ⟨ad, e, hc⟩ := a4 h0
    exact ⟨ad, e, fun j u hj => cell_below hb0 (hc j u hj)⟩
  have A1 := hide a1
  have B1 := hide b1
  have B2 := hide b2
  have B3 := hide b3
  have B4 : Hid (∀ (j : Nat) u, (flat us2)[j]? = some u → w.cell? (ax.add j) = some u) := fun j u hj => cell_below hb0 (b4' j u hj)
  have RES : Hid (∀ (j : Nat) q, (ps ++ [x])[j]? = some q → ∃ u, (us1 ++ us2)[j]? = some u ∧ RCan w0 u q) := fun j q hq => by
    by_cases hj : j < ps.length
    · rw [List.getElem?_append_left hj] at hq
      rw [List.getElem?_append_left (by omega)]
      exact a5 j q hq
    · rw [List.getElem?_append_right (by omega)] at hq
      rw [List.getElem?_append_right (by omega), show j - us1.length = j - ps.length by omega]
      exact b5 _ q hq
  clear hb0 hg h h' a1 a2 a3 a4 a5 b1 b2 b3 b4 b4' b5 hlp
  go_enter Tryd.func38, Tryd.ntmps38
  have k0 := K.out.at_ 0 rfl
  have k1 := K.out.at_ 1 rfl
  go_wp2
  go_loopw [3, 11] (fun sv iv wr => wr = w ∧ ((iv = .int .i64 ((0 : Nat) : Int) ∧ sv = .int .i64 ((0 : Nat) : Int)) ∨ (iv = .int .i64 ((1 : Nat) : Int) ∧ sv = .int .i64 (N : Nat)) ∨ (iv = .int .i64 ((2 : Nat) : Int) ∧ sv = .int .i64 ((N + 1 : Nat) : Int)))) (fun _ iv _ => 2 - (intOf iv).toNat)
  case atStart => exact ⟨rfl, .inl ⟨rfl, rfl⟩⟩
  case round =>
    obtain ⟨rfl, hr⟩ := hrel
    rcases hr with ⟨rfl, rfl⟩ | ⟨rfl, rfl⟩ | ⟨rfl, rfl⟩
    · go_wp2
      go_roundw
      case rel => exact ⟨trivial, .inr (.inl ⟨rfl, by go_num⟩)⟩
      case measure => simp [intOf]
    · go_wp2
      go_roundw
      case rel => exact ⟨trivial, .inr (.inr ⟨rfl, by go_num⟩)⟩
      case measure => simp [intOf]
    · go_wp2_with fail
      refine (growR_ok wr (N + 1) (by omega) _ (by omega)).mono ?_
      rintro e' w1 ⟨G, cG, rfl, d0, own⟩
      have own0 := hide own
      have b0 := hide d0
      clear own d0 k0 k1
      obtain ⟨wk, rfl⟩ : ∃ wk, wk = wr := ⟨_, rfl⟩
      go_wp2
      go_loopw [6, 27] (fun tv iv wr => Hid (Below wk.heap.size wk wr) ∧ ((iv = .int .i64 ((0 : Nat) : Int) ∧ ∃ A' c', tv = .slice A' 0 c' ∧ Hid (wr.ownsRow wk.heap.size TR 3 (.slice A' 0 c') 0 (flat []))) ∨ (iv = .int .i64 ((1 : Nat) : Int) ∧ ∃ A' c', tv = .slice A' N c' ∧ Hid (wr.ownsRow wk.heap.size TR 3 (.slice A' N c') N (flat us1))) ∨ (iv = .int .i64 ((2 : Nat) : Int) ∧ ∃ A' c', tv = .slice A' (N + 1) c' ∧ Hid (wr.ownsRow wk.heap.size TR 3 (.slice A' (N + 1) c') (N + 1) (flat (us1 ++ us2)))))) (fun _ iv _ => 2 - (intOf iv).toNat)
      case atStart => exact ⟨b0, .inl ⟨rfl, _, _, rfl, own0⟩⟩
      case round =>
        obtain ⟨hbel, hr⟩ := hrel
        have hsz := hbel.out.size
        have k0 := (K.out.below' hbel.out).at_ 0 rfl
        have k1 := (K.out.below' hbel.out).at_ 1 rfl
        rcases hr with ⟨rfl, A', c', rfl, own⟩ | ⟨rfl, A', c', rfl, own⟩ | ⟨rfl, A', c', rfl, own⟩
        · rcases A with _ | ad
          · have hN0 : N = 0 := by
              rcases Nat.eq_zero_or_pos N with h0 | h0
              · exact h0
              · obtain ⟨ad, h, _⟩ := A4.out h0; cases h
            have e1 : us1 = [] := List.eq_nil_of_length_eq_zero (by rw [A1.out, hN0])
            have hrz : ∀ ty, (Builtin.append_ #[30, 30] ty #[.slice A' 0 c', .slice none N c]).run Tryd.prog wr = .ok (.slice A' N c') wr := fun ty => by
              rw [hN0]
              rcases A' with _ | a' <;> simp [Builtin.append_, go_sem]
            have own2 : Hid (wr.ownsRow wk.heap.size TR 3 (.slice A' N c') N (flat us1)) := by
              have := own.out
              rw [e1, hN0]
              exact this
            clear A4 e1 own
            replace hN0 := hide hN0
            go_wp2_with (at_builtin; refine Lib.wpList_append_run _ rfl _ _ _ _ rfl _ _ rfl rfl _ _ (hrz _) ?_)
            clear k0 k1
            go_roundw
            case rel => exact ⟨hbel, .inr (.inl ⟨rfl, A', c', rfl, own2⟩)⟩
            case measure => simp [intOf]
          · have A5 : Hid (∀ (j : Nat) u, (flat us1)[j]? = some u → wr.cell? (ad.add j) = some u) := fun j u hj => by
              have h0 : 0 < N := by
                rcases Nat.eq_zero_or_pos N with h0 | h0
                · have : us1 = [] := List.eq_nil_of_length_eq_zero (by rw [A1.out, h0])
                  rw [this] at hj
                  simp [flat] at hj
                · exact h0
              obtain ⟨ad', e, hc⟩ := A4.out h0
              cases e
              exact cell_below hbel.out (hc j u hj)
            clear A4
            go_wp2_with (at_builtin; refine wpList_catR rfl _ _ rfl wk.heap.size 0 _ [] rfl own.out rfl us1 A1.out A2.out A3.out A5.out (by omega) hsz ?_; intro A9 c9 w9 q1 q2)
            rw [Nat.zero_add, List.nil_append] at q1
            have hb2 := hide (hbel.out.trans q2.out)
            clear k0 k1 q2
            go_roundw
            case rel => exact ⟨hb2, .inr (.inl ⟨rfl, A9, c9, rfl, q1⟩)⟩
            case measure => simp [intOf]
        · have A5 : Hid (∀ (j : Nat) u, (flat us2)[j]? = some u → wr.cell? (ax.add j) = some u) := fun j u hj => cell_below hbel.out (B4.out j u hj)
          clear A4
          go_wp2_with (at_builtin; refine wpList_catR rfl _ _ rfl wk.heap.size N _ us1 rfl own.out rfl us2 B1.out B2.out B3.out A5.out (by omega) hsz ?_; intro A9 c9 w9 q1 q2)
          have hb2 := hide (hbel.out.trans q2.out)
          clear k0 k1 q2
          go_roundw
          case rel => exact ⟨hb2, .inr (.inr ⟨rfl, A9, c9, rfl, q1⟩)⟩
          case measure => simp [intOf]
        · clear k0 k1 A4
          go_wp2
          exact opq_end hR ⟨A', c', us1 ++ us2, rfl, hbel.out, by rw [List.length_append, A1.out, B1.out], own.out, RES.out⟩
end Go.Proofs.YtfpnhggbfakdkaaDoor

/- grids: Solve. -/
set_option linter.unusedVariables false
set_option linter.unusedSimpArgs false
set_option maxRecDepth 100000
namespace Go.Proofs.YtfpnhggbfakdkaaDoor
open Go.RowKit

theorem fwj_rats_Div (args : Array Value) (w : World) : (callFunc 40 args).run Tryd.prog w = .ok (.enter 40 args) w := callFunc_enter Tryd.func40 (by kernel_rfl) rfl args w
/-- One more row of the work. -/
theorem WS.addrow {w0 w w' : World} {p : Nat} {G : Option Addr} {m c N : Nat} {R : Nat → List Rat} (h : WS w0 w p G m c none 0 N R []) {G' : Option Addr} {c' : Nat} {us : List Value} (hus : us.length = m) (hrow : ∀ j, j < m → ∃ A cx, us[j]? = some (.slice A N cx) ∧ RowG w0 w (.slice A N cx) (R j)) (ho0 : w.ownsRow w0.heap.size TRs 1 (.slice G m c) m us) {A : Option Addr} {cx : Nat} (hv : RowG w0 w (.slice A N cx) (R m)) (hl : (R m).length = N) (q1 : w'.ownsRow w0.heap.size TRs 1 (.slice G' (m + 1) c') (m + 1) (us ++ [.slice A N cx])) (q2 : w.grownBy w' (Value.slice G m c).ownBlock) (hm : m + 1 ≤ 1000000) :
    WS w0 (w'.setCell ⟨p, 0, none⟩ (.slice G' (m + 1) c')) p G' (m + 1) c' none 0 N R [] := by
  have far : ∀ t, t ≠ TRs → ∀ g cs, Blk w g t cs → Blk w' g t cs := fun t ht g cs hk => blk_grown ho0 q2 hk ht
  have hp := far _ (by decide) _ _ h.pc
  have far2 : ∀ t, t ≠ TRs → t ≠ 67 → ∀ g cs, Blk w g t cs → Blk (w'.setCell ⟨p, 0, none⟩ (.slice G' (m + 1) c')) g t cs := fun t ht ht2 g cs hk => (far t ht g cs hk).far (p := ⟨p, 0, none⟩) ((far t ht g cs hk).type_ne hp ht2) _
  have k2 : Kp2 w (w'.setCell ⟨p, 0, none⟩ (.slice G' (m + 1) c')) := ⟨far2 _ (by decide) (by decide), far2 _ (by decide) (by decide)⟩
  have b1 : Below w0.heap.size w w' := (Below.refl _ _).grown q2 h.b.size (fun k e => (own_rowT ho0 k e).1)
  refine ⟨(h.b.trans b1).setCell (p := ⟨p, 0, none⟩) h.pb _, h.pb, hp.set_ 0 (.slice G' (m + 1) c'), ⟨us ++ [.slice A N cx], by simp [hus], own_keepS q1 (fun r cs hk => hk.far (p := ⟨p, 0, none⟩) (hk.type_ne hp (by decide)) _), fun j hj => ?_⟩, World.ownsRow_nil _ _ _ _, fun j hj => ?_, hm, h.mx.2⟩
  · by_cases e : j < m
    · obtain ⟨A', cx', hu, hr⟩ := hrow j e
      exact ⟨A', cx', by rw [List.getElem?_append_left (by omega)]; exact hu, hr.kp2 k2⟩
    · obtain rfl : j = m := by omega
      exact ⟨A, cx, by rw [List.getElem?_append_right (by omega), hus, Nat.sub_self]; rfl, hv.kp2 k2⟩
  · by_cases e : j < m
    · exact h.ln j e
    · obtain rfl : j = m := by omega
      exact hl
theorem getD_snoc1 {q : List Rat} {x : Rat} {N b : Nat} (h : q.length = N) (hb : b < N + 1) : (q ++ [x]).getD b 0 = if b = N then x else q.getD b 0 := by
  rw [List.getD_eq_getElem?_getD]
  by_cases e : b = N
  · rw [if_pos e, List.getElem?_append_right (by omega), h, e, Nat.sub_self]
    rfl
  · rw [if_neg e, List.getElem?_append_left (by omega), ← List.getD_eq_getElem?_getD]
set_option maxHeartbeats 8000000 in
theorem solve_ok {w : World} {A X : Option Addr} {n c d : Nat} {qss : List (List Rat)} {bs : List Rat} {N s : Nat} (h : Gst RCan w (.slice A n c) qss) (h' : Lst RCan w (.slice X n d) bs) (G : GQ qss N s) (hb : Hs bs s) (hs1 : 1 ≤ s) (hs2 : szt s N ≤ 1000000000) (hn : n ≤ 1000) (hN : N ≤ 1000) (hT : Tab w) :
    Calls Tryd.prog 17 #[.slice A n c, .slice X n d] w fun e w' => ∃ u er xs, e = .returned (.tuple #[u, .int .i64 (er : Nat)]) ∧ Below w.heap.size w w' ∧ OLst w' w.heap.size u xs ∧ SolR n N (mat fun j => qss.getD j []) (fun i => bs.getD i 0) er xs ∧ Hs xs (2 * szt s N) := by
  refine opq fun R hR => ?_
  have L := hide h
  have LB := hide h'
  have T := hide hT
  have hl := hide h.len
  have hlb := hide h'.len
  have hsm : s ≤ 1000000000 := Nat.le_trans (szt_le s 0 N (Nat.zero_le _)) hs2
  have GR := hide (h.rawQ G (by omega))
  have LR := hide (lst_raw_of_can h' (hb.up (by omega)))
  have G' := hide G
  replace hb := hide hb
  have ok0 := hide G.gok
  have ok1 := hide (all_rk bs)
  have hcap := hide h'.cap
  clear h h' hT G
  go_enter Tryd.func17, Tryd.ntmps17
  go_wp2_with fail
  refine (gridCheck_ok GR.out T.out true ok0.out).mono ?_
  rintro e' w1 ⟨_, rfl, d0, rfl⟩
  have b0 := hide d0
  clear d0
  go_wp2_with fail
  refine (vCheck_L (LR.out.raw_below b0.out) (T.out.below b0.out) true ok1.out).mono ?_
  rintro e' w2 ⟨_, rfl, d0, rfl⟩
  replace b0 := hide (below_tr b0.out d0)
  clear d0 GR LR ok0 ok1
  go_wp2_with fail
  refine (columns_ok (L.out.can_below b0.out) N G'.out.cols).mono ?_
  rintro e' w3 ⟨_, rfl, d0, rfl⟩
  replace b0 := hide (below_tr b0.out d0)
  clear d0
  have K := hide (Blk.new w3 67 #[.slice none 0 0, .slice none 0 0])
  have yy : Below w3.heap.size w3 (w3.alloc (.cells #[.slice none 0 0, .slice none 0 0] 67)) := (Below.refl _ _).alloc (Nat.le_refl _) _
  obtain ⟨RB, hRB⟩ : ∃ RB : Nat → List Rat, RB = fun j => qss.getD j [] ++ [bs.getD j 0] := ⟨_, rfl⟩
  have WS0 : Hid (WS w (w3.alloc (.cells #[.slice none 0 0, .slice none 0 0] 67)) w3.heap.size none 0 0 none 0 (N + 1) RB []) :=
    ⟨below_tr b0.out yy, b0.out.size, K.out, ⟨[], rfl, World.ownsRow_nil _ _ _ _, fun j hj => absurd hj (Nat.not_lt_zero j)⟩, World.ownsRow_nil _ _ _ _, fun j hj => absurd hj (Nat.not_lt_zero j), by omega, by omega⟩
  obtain ⟨p, hp⟩ : ∃ p, w3.heap.size = p := ⟨_, rfl⟩
  rw [hp] at WS0
  have RL : Hid (∀ j, j < n → (RB j).length = N + 1 ∧ Hs (RB j) s) := fun j hj => by
    have h1 : qss[j]? = some (qss[j]'(by rw [hl.out]; exact hj)) := List.getElem?_eq_getElem _
    have hm := List.mem_of_getElem? h1
    rw [hRB]
    show ((qss.getD j []) ++ _).length = _ ∧ Hs ((qss.getD j []) ++ _) s
    rw [show qss.getD j [] = qss[j]'(by rw [hl.out]; exact hj) by rw [List.getD_eq_getElem?_getD, h1]; rfl]
    refine ⟨by rw [List.length_append, G'.out.rect _ hm]; rfl, fun q hq => ?_⟩
    rcases List.mem_append.1 hq with hq | hq
    · exact G'.out.hs _ hm q hq
    · rw [List.mem_singleton] at hq
      subst hq
      exact H_getD hb.out hs1 j
  clear K yy
  go_wp2
  try rw [hp]
  obtain ⟨wa, hwa⟩ : ∃ wa, w3.alloc (.cells #[.slice none 0 0, .slice none 0 0] 67) = wa := ⟨_, rfl⟩
  rw [hwa] at WS0 ⊢
  clear hwa hp
  go_loopw [34] (fun iv wr => ∃ (i : Nat) (G : Option Addr) (cg : Nat), i ≤ n ∧ iv = .int .i64 (i : Nat) ∧ Hid (WS w wr p G i cg none 0 (N + 1) RB [])) (fun iv _ => n - (intOf iv).toNat)
  case atStart => exact ⟨0, _, _, by omega, rfl, WS0⟩
  case round =>
    clear WS0
    obtain ⟨i, Gg, cg, hi, rfl, W1⟩ := hrel
    by_cases hlt : i < n
    · obtain ⟨q, hq⟩ : ∃ q, qss[i]? = some q := ⟨_, List.getElem?_eq_getElem (by rw [hl.out]; exact hlt)⟩
      obtain ⟨ad, AR, cR, rfl, _, x0, XR⟩ := (L.out.can_below W1.out.b).at_ hq
      have hql := G'.out.rect q (List.mem_of_getElem? hq)
      obtain ⟨x, hx⟩ : ∃ x, bs[i]? = some x := ⟨_, List.getElem?_eq_getElem (by rw [hlb.out]; exact hlt)⟩
      have hRi : Hid (RB i = q ++ [x]) := by
        show _ = _
        rw [hRB]
        show qss.getD i [] ++ [bs.getD i 0] = _
        rw [getD_of hx, List.getD_eq_getElem?_getD, hq]; rfl
      rw [hql] at x0
      clear XR
      obtain ⟨ad', AR', cR', eA, _, y0, XR⟩ := L.out.at_ hq
      cases eA
      rw [hql] at y0 XR
      have := cell_below W1.out.b y0
      rw [x0] at this
      cases this
      have LX := LB.out.cut tri_can i (i + 1) (Nat.le_succ i) (by omega)
      rw [take1_drop hx, show i + 1 - i = 1 by omega] at LX
      replace LX := hide LX
      replace XR := hide XR
      have p0 := W1.out.pc.at_ 0 rfl
      have hid0 : n ≤ d := hcap.out
      have hid1 : IntKind.i64.wrap ((i : Int) + 1) = (i : Int) + 1 := by
        rw [IntKind.wrap_i64]
        omega
      have hid2 : (0 : Int) ≤ (i : Int) + 1 := by omega
      have hid3 : (i : Int) + 1 ≤ (d : Int) := by omega
      obtain ⟨us, hus, own, hrows⟩ := W1.out.gr
      have OWN := hide own
      have HUS := hide hus
      have HR := hide hrows
      have K1 := hide ((Blk.new wr TRs #[.slice AR N cR, .slice (if d = i then X else X.map (·.add (i * 3))) 1 (d - i)]).drew)
      have b1 := hide (((Below.refl wr.heap.size wr).alloc (Nat.le_refl _) (.cells #[.slice AR N cR, .slice (if d = i then X else X.map (·.add (i * 3))) 1 (d - i)] TRs)).drew)
      have pa0 : (wr.alloc (.cells #[.slice AR N cR, .slice (if d = i then X else X.map (·.add (i * 3))) 1 (d - i)] TRs)).cell? ⟨p, 0, none⟩ = some (.slice Gg i cg) := (W1.out.pc.alloc _).at_ 0 rfl
      have RLi := hide (RL.out i hlt)
      clear hq hx own hus hrows y0
      go_wp2
      go_region_law (first
        | ((try go_simp); go_at_call 38; refine (concatR_ok (w0 := w) K1.out XR.out LX.out (below_tr W1.out.b b1.out) (by omega)).mono ?_; rintro e w5 ⟨A5, c5, us5, rfl, d5, l5, o5, r5⟩; have B5 := hide (below_tr b1.out d5); have O5 := hide o5; have R5 := hide r5; have L5 := hide l5; clear d5 o5 r5 l5 p0 pa0 x0 K1 hid1 hid2 hid3; have yy := hide ((Below.refl w5.heap.size w5).alloc (Nat.le_refl _) (.cells #[.slice A5 (N + 1) c5] TRs)); have B6 := hide (below_tr B5.out yy.out); have W6 := hide (W1.out.below B6.out); have OWN6 := hide (own_below OWN.out B6.out); have HN6 : Hid (∀ (j : Nat) u, [Value.slice A5 (N + 1) c5][j]? = some u → (w5.alloc (.cells #[.slice A5 (N + 1) c5] TRs)).cell? ((⟨w5.heap.size, 0, none⟩ : Addr).add j) = some u) := (fun j u hj => by rw [add0]; exact (Blk.new w5 TRs #[.slice A5 (N + 1) c5]).at_ j (by simpa using hj)); have hB6 := W6.out.b.size; have p0 := W6.out.pc.at_ 0 rfl; have p5 := (W1.out.pc.below' B5.out).at_ 0 rfl)
        | (refine step_appv (P := Tryd.prog) (t := 60) (e := TRs) (z := .slice none 0 0) (size := 1) (b := 24) (by kernel_rfl) infoRs rfl (by omega) _ rfl _ _ rfl w.heap.size i (.slice Gg i cg) us (by simp [Act.eval, Act.put]) OWN6.out ⟨w5.heap.size, 0, none⟩ 1 1 [.slice A5 (N + 1) c5] (by simp [Act.eval, Act.put]) rfl HN6.out (by intro u hu; simp at hu; subst hu; rfl) (by omega) (by omega) hB6 ?_; intro v' w7 q1 q2; obtain ⟨G7, c7, rfl⟩ := own_slice q1.out; have kp := hide (blk_grown OWN6.out q2.out W6.out.pc (by decide)); have e0 := kp.out.at_ 0 rfl; have f0 := kp.out.frozen 0))
      all_goals
        have S7 : Hid (WS w (w7.setCell ⟨p, 0, none⟩ (.slice G7 (i + 1) c7)) p G7 (i + 1) c7 none 0 (N + 1) RB []) := by
          have hv : RowG w (w5.alloc (.cells #[.slice A5 (N + 1) c5] TRs)) (.slice A5 (N + 1) c5) (RB i) := by
            refine .inr (.inr ⟨us5, by rw [RLi.out.1]; exact L5.out, ?_, ?_⟩)
            · rw [RLi.out.1]
              exact own_below (own_monoT O5.out (Nat.le_trans W1.out.b.size b1.out.size)) yy.out
            · rw [hRi.out]
              exact R5.out
          exact W6.out.addrow HUS.out (fun j hj => by
            obtain ⟨A', cx', hu, hr⟩ := HR.out j hj
            exact ⟨A', cx', hu, hr.kp2 (Kp2.bel B6.out)⟩) OWN6.out hv RLi.out.1 q1.out q2.out (by omega)
        clear W6 OWN6 HN6 hB6 p0 p5 q1 q2 OWN HUS HR R5 O5 L5 B5 B6 yy b1
        go_wp2
        go_roundw
        case rel => exact ⟨i + 1, G7, c7, by omega, by go_num, S7⟩
        case measure => simp [intOf]; omega
    · obtain rfl : i = n := by omega
      by_cases h0 : i = 0
      · subst h0
        obtain rfl := G'.out.n0 (List.eq_nil_of_length_eq_zero hl.out)
        have SR : Hid (SolR 0 0 (mat fun j => qss.getD j []) (fun i => bs.getD i 0) 0 []) := one_ech (m := 0) (n := 0) (R := mat RB) (hs := []) (fun x => ⟨fun _ i hi => absurd hi (Nat.not_lt_zero i), fun _ i hi => absurd hi (Nat.not_lt_zero i)⟩) (Ech.start _ _) (fun i _ hi => absurd hi (Nat.not_lt_zero i)) (by simp)
        clear L LB
        go_wp2_with fail
        refine (turn0_ok wr p).mono ?_
        rintro e' w5 ⟨rfl, d5⟩
        have W2 := hide (W1.out.below d5)
        have p1 := W2.out.pc.at_ 1 rfl
        go_wp2
        go_loopw [4, 82] (fun tv iv wr => tv = .slice none 0 0 ∧ iv = .int .i64 ((0 : Nat) : Int) ∧ Hid (Below w.heap.size w wr)) (fun _ _ _ => 0)
        case atStart => exact ⟨rfl, rfl, W2.out.b⟩
        case round =>
          obtain ⟨rfl, rfl, hbel⟩ := hrel
          go_wp2
          exact opq_end hR ⟨_, 0, [], rfl, hbel.out, OLst.nil _ _, SR.out, fun q hq => by cases hq⟩
      · have hm0 : 0 < i := by omega
        have hN1 : N ≤ N + 1 := Nat.le_succ N
        have HI : Hid (∀ k (M : Nat → List Rat) (hs : List Nat), k ≤ N → (∀ j, j < i → Hs (M j) (szt s k)) → ∀ j, j < i → Hs (M j) (szt s N)) := fun k M hs hk h j hj => (h j hj).up (szt_le s k N hk)
        go_wp2_with fail
        refine (turn_ok (S := szt s N) (Inv := fun k M hs => ∀ j, j < i → Hs (M j) (szt s k)) W1.out hm0 N hN1 T.out (Nat.le_trans hs1 (szt_le s 0 N (Nat.zero_le _))) hs2 (fun j hj => (RL.out j hj).2) (fun k M hs _ h _ j hj => (h j hj).up (szt_le s k (k + 1) (Nat.le_succ k))) (fun k M hs at_ _ h hE _ h1 h2 _ j hj => Hs_stp (Nat.lt_of_le_of_lt h1 h2) h2 h (Nat.le_trans hs1 (szt_le s 0 k (Nat.zero_le _))) _ j hj) HI.out).mono ?_
        rintro e' w5 ⟨rfl, Hd, hc, M, hs, W2, E2, N2, I2⟩
        have NU : Hid (∀ x, Nul i (N + 1) (augm N (mat fun j => qss.getD j []) (fun i => bs.getD i 0)) x ↔ Nul i (N + 1) (mat M) x) := fun x => by
          rw [← N2.out x]
          have key : ∀ a b, a < i → b < N + 1 → augm N (mat fun j => qss.getD j []) (fun i => bs.getD i 0) a b = mat RB a b := fun a b ha hb => by
            have h1 : qss[a]? = some (qss[a]'(by rw [hl.out]; exact ha)) := List.getElem?_eq_getElem _
            have h2 := G'.out.rect _ (List.mem_of_getElem? h1)
            have h3 : qss.getD a [] = qss[a]'(by rw [hl.out]; exact ha) := by rw [List.getD_eq_getElem?_getD, h1]; rfl
            unfold augm mat
            rw [hRB]
            show (if b = N then bs.getD a 0 else (qss.getD a []).getD b 0) = (qss.getD a [] ++ [bs.getD a 0]).getD b 0
            rw [getD_snoc1 (by rw [h3]; exact h2) hb]
          exact ⟨fun q => q.congr key, fun q => q.congr fun a b ha hb => (key a b ha hb).symm⟩
        have HB : Hid (∀ j, j < i → Hs (M j) 100000000000) := fun j hj => (I2.out j hj).up (by omega)
        have hE2 := E2.out.len
        have p1 := W2.out.pc.at_ 1 rfl
        clear N2 W1 L LB RL hRB
        replace p1 : w5.cell? ⟨p, 1, none⟩ = some (.slice Hd hs.length hc) := p1
        go_wp2_with fail
        refine (head_ok W2.out HB.out hs.length N hE2 hm0 (Nat.lt_succ_self N) (T.out.below W2.out.b)).mono ?_
        rintro e' w6 ⟨r, rfl, hr, d6⟩
        replace W2 := hide (W2.out.below d6.out)
        clear p1 d6
        have p1 := W2.out.pc.at_ 1 rfl
        replace p1 : w6.cell? ⟨p, 1, none⟩ = some (.slice Hd hs.length hc) := p1
        rcases hr with ⟨rfl, hr⟩ | ⟨at_, rfl, ha1, ha2, ha3⟩
        · by_cases hlh : hs.length < N
          · have SR : Hid (SolR i N (mat fun j => qss.getD j []) (fun i => bs.getD i 0) 8 []) := many_ech NU.out E2.out (fun a h1 h2 => hr a h1 h2) hlh
            clear hr
            go_wp2
            exact opq_end hR ⟨_, 8, [], rfl, W2.out.b, OLst.nil _ _, SR.out, fun q hq => by cases hq⟩
          · obtain ⟨hl1, hl2, hl3⟩ := ech_all E2.out hlh
            have SR : Hid (SolR i N (mat fun j => qss.getD j []) (fun i => bs.getD i 0) 0 ((List.range N).map fun k => mat M k N / mat M k k)) := one_ech NU.out E2.out (fun a h1 h2 => hr a h1 h2) hlh
            have PV : Hid (∀ k, k < N → (M k).getD k 0 ≠ 0) := fun k hk => E2.out.piv k k (hl3 k hk)
            have HM := hide I2.out
            clear hr hl3 E2 NU HI HB I2
            obtain ⟨g, A0, c0, eG, _⟩ := W2.out.row hm0
            cases eG
            have b6 := W2.out.b.size
            have hS1 := Nat.le_trans hs1 (szt_le s 0 N (Nat.zero_le _))
            go_wp2
            go_loopw [4, 82] (fun tv iv wr => ∃ (k : Nat) (Y : Option Addr) (dy : Nat), k ≤ N ∧ iv = .int .i64 (k : Nat) ∧ tv = .slice Y k dy ∧ Hid (OLst wr w6.heap.size (.slice Y k dy) ((List.range k).map fun k => mat M k N / mat M k k)) ∧ Hid (Below w6.heap.size w6 wr)) (fun _ iv _ => N - (intOf iv).toNat)
            case atStart => exact ⟨0, _, _, by omega, rfl, rfl, OLst.nil _ _, Below.refl _ _⟩
            case round =>
              clear p1
              obtain ⟨k, Y, dy, hk, rfl, rfl, own, hbel⟩ := hrel
              by_cases hlt : k < N
              · have hki : k < i := by omega
                have W3 := hide (W2.out.below hbel.out)
                obtain ⟨g', Ak, ck, eg, Qk, LK⟩ := W3.out.rowL hki
                cases eg
                obtain ⟨ad, b1, A1, n1, c1, D1, m1, k1, rfl, x0, x1, x2, XR⟩ := LK.canAt (show N < N + 1 by omega)
                obtain ⟨ad', b2, A2, n2, c2, D2, m2, k2, ea, y0, y1, y2, XH⟩ := LK.canAt (show k < N + 1 by omega)
                cases ea
                replace XR := hide XR
                replace XH := hide XH
                replace Qk := hide Qk
                have x0 := hide x0
                have x1 := hide x1
                have x2 := hide x2
                have y0 := hide y0
                have y1 := hide y1
                have y2 := hide y2
                have P0 : Hid (wr.cell? ⟨p, 0, none⟩ = some (.slice (some ⟨g, 0, none⟩) i cg)) := W3.out.pc.at_ 0 rfl
                have HR := hide ((H_getD (HM.out k hki) hS1 N).up (m := 100000000000) (by omega))
                have HQ := hide ((H_getD (HM.out k hki) hS1 k).up (m := 100000000000) (by omega))
                have HN := hide (PV.out k hlt)
                have hki2 : ¬ ((i : Int) ≤ (k : Int)) := by omega
                have hN2 : ¬ (((N : Int) + 1) ≤ (N : Int)) := by omega
                have hk2 : ¬ (((N : Int) + 1) ≤ (k : Int)) := by omega
                have TW := hide (T.out.below W3.out.b)
                clear LK
                go_wp2
                refine RR.wp_region_R 26 wr 11 107 [(86, .eq ((.pointer (some ⟨p, 0, none⟩) : Value))), (87, .eq ((.pointer (some ⟨p, 0, none⟩) : Value))), (88, .eq ((.pointer (some ⟨p, 0, none⟩) : Value))), (89, .eq (.slice (some ⟨g, 0, none⟩) i cg)), (90, .eq (.int .i64 (k : Nat))), (91, .eq ((.pointer (some ⟨g, k, none⟩) : Value))), (92, .eq (.slice (some ad) (N + 1) ck)), (93, .eq (.int .i64 (N : Nat))), (94, .eq ((.pointer (some (ad.add (N * 3))) : Value))), (95, .eq (.agg #[.bool b1, .slice A1 n1 c1, .slice D1 m1 k1])), (96, .eq ((.pointer (some ⟨p, 0, none⟩) : Value))), (97, .eq ((.pointer (some ⟨p, 0, none⟩) : Value))), (98, .eq ((.pointer (some ⟨p, 0, none⟩) : Value))), (99, .eq (.slice (some ⟨g, 0, none⟩) i cg)), (100, .eq (.int .i64 (k : Nat))), (101, .eq ((.pointer (some ⟨g, k, none⟩) : Value))), (102, .eq (.slice (some ad) (N + 1) ck)), (103, .eq (.int .i64 (k : Nat))), (104, .eq ((.pointer (some (ad.add (k * 3))) : Value))), (105, .eq (.agg #[.bool b2, .slice A2 n2 c2, .slice D2 m2 k2])), (106, (.tupE (.ratR (mat M k N / mat M k k) wr.heap.size) (.int .i64 0))), (85, (.tupE (.ratR (mat M k N / mat M k k) wr.heap.size) (.int .i64 0))), (107, (.ratR (mat M k N / mat M k k) wr.heap.size)), (108, .eq ((.int .i64 0))), (11, (.var TR 3))] [false, false, false, false, false, false, false, false, false, false, false, true, false, false, false, false, false, false, false, false, false, false, false, false, false, false, false, false, false, false, false, false, false, false, false, false, false, false, false, false, false, false, false, false, false, false, false, false, false, false, false, false, false, false, false, false, false, false, false, false, false, false, false, false, false, false, false, false, false, false, false, false, false, false, false, false, false, false, false, false, false, false, false, false, false, true, true, true, true, true, true, true, true, true, true, true, true, true, true, true, true, true, true, true, true, true, true, true, true, false, false, false, false, false, false] mixed (by kernel_rfl) (by kernel_rfl) (by kernel_rfl) (Below.refl _ _).drew (by kernel_rfl) (by kernel_rfl) (by kernel_rfl) ⟨?_, ?_, ?_, ?_, ?_, ?_, ?_, ?_, ?_, ?_, ?_, ?_, ?_, ?_, ?_, ?_, ?_, ?_, ?_, ?_, ?_, ?_, ?_, ?_, ?_, ?_, trivial⟩ ?_
                · exact (.inl ⟨rfl, .moveC (.inl rfl) (.inl rfl) rfl (fun a w' hC hs => (hs 7 (by kernel_rfl)))⟩)
                · exact (.inl ⟨rfl, .value (.inl rfl) (by intro T e; cases e) rfl rfl (fun a w' hC hs hl => by
                    have e0 : a.eval (.tmp 86) = ((.pointer (some ⟨p, 0, none⟩) : Value)) := (hl 86 (by kernel_rfl) (by kernel_rfl))
                    simp only [execOp, e0]
                    simp [go_sem])⟩)
                · exact (.inl ⟨rfl, .fieldAddr (.inl rfl) rfl rfl rfl (fun a w' hC hs hl => by rw [show a.eval (.tmp 87) = (.pointer (some ⟨p, 0, none⟩) : Value) from (hl 87 (by kernel_rfl) (by kernel_rfl))]; simp [go_sem])⟩)
                · exact (.inl ⟨rfl, .load (.slice (some ⟨g, 0, none⟩) i cg) (.inl rfl) rfl rfl (fun a w' hC hs hl => by rw [show a.eval (.tmp 88) = (.pointer (some ⟨p, 0, none⟩) : Value) from (hl 88 (by kernel_rfl) (by kernel_rfl))]; exact ⟨by simp [go_sem, cell_below hC P0.out], rfl⟩)⟩)
                · exact (.inl ⟨rfl, .moveC (.inl rfl) (.inl rfl) rfl (fun a w' hC hs => (hs 10 (by kernel_rfl)))⟩)
                · exact (.inl ⟨rfl, .value (.inl rfl) (by intro T e; cases e) rfl rfl (fun a w' hC hs hl => by
                    have e0 : a.eval (.tmp 89) = (.slice (some ⟨g, 0, none⟩) i cg) := (hl 89 (by kernel_rfl) (by kernel_rfl))
                    have e1 : a.eval (.tmp 90) = (.int .i64 (k : Nat)) := (hl 90 (by kernel_rfl) (by kernel_rfl))
                    simp only [execOp, e0, e1]
                    simp [go_sem, hki2])⟩)
                · exact (.inl ⟨rfl, .load (.slice (some ad) (N + 1) ck) (.inl rfl) rfl rfl (fun a w' hC hs hl => by rw [show a.eval (.tmp 91) = (.pointer (some ⟨g, k, none⟩) : Value) from (hl 91 (by kernel_rfl) (by kernel_rfl))]; exact ⟨by simp [go_sem, cell_below hC Qk.out], rfl⟩)⟩)
                · exact (.inl ⟨rfl, .moveC (.inl rfl) (.inl rfl) rfl (fun a w' hC hs => (hs 6 (by kernel_rfl)))⟩)
                · exact (.inl ⟨rfl, .value (.inl rfl) (by intro T e; cases e) rfl rfl (fun a w' hC hs hl => by
                    have e0 : a.eval (.tmp 92) = (.slice (some ad) (N + 1) ck) := (hl 92 (by kernel_rfl) (by kernel_rfl))
                    have e1 : a.eval (.tmp 93) = (.int .i64 (N : Nat)) := (hl 93 (by kernel_rfl) (by kernel_rfl))
                    simp only [execOp, e0, e1]
                    simp [go_sem, hN2])⟩)
                · exact (.inl ⟨rfl, .load (.agg #[.bool b1, .slice A1 n1 c1, .slice D1 m1 k1]) (.inl rfl) rfl rfl (fun a w' hC hs hl => by rw [show a.eval (.tmp 94) = (.pointer (some (ad.add (N * 3))) : Value) from (hl 94 (by kernel_rfl) (by kernel_rfl))]; exact ⟨ld_RatAt (cell_below hC x0.out) (cell_below hC x1.out) (cell_below hC x2.out), rfl⟩)⟩)
                · exact (.inl ⟨rfl, .moveC (.inl rfl) (.inl rfl) rfl (fun a w' hC hs => (hs 7 (by kernel_rfl)))⟩)
                · exact (.inl ⟨rfl, .value (.inl rfl) (by intro T e; cases e) rfl rfl (fun a w' hC hs hl => by
                    have e0 : a.eval (.tmp 96) = ((.pointer (some ⟨p, 0, none⟩) : Value)) := (hl 96 (by kernel_rfl) (by kernel_rfl))
                    simp only [execOp, e0]
                    simp [go_sem])⟩)
                · exact (.inl ⟨rfl, .fieldAddr (.inl rfl) rfl rfl rfl (fun a w' hC hs hl => by rw [show a.eval (.tmp 97) = (.pointer (some ⟨p, 0, none⟩) : Value) from (hl 97 (by kernel_rfl) (by kernel_rfl))]; simp [go_sem])⟩)
                · exact (.inl ⟨rfl, .load (.slice (some ⟨g, 0, none⟩) i cg) (.inl rfl) rfl rfl (fun a w' hC hs hl => by rw [show a.eval (.tmp 98) = (.pointer (some ⟨p, 0, none⟩) : Value) from (hl 98 (by kernel_rfl) (by kernel_rfl))]; exact ⟨by simp [go_sem, cell_below hC P0.out], rfl⟩)⟩)
                · exact (.inl ⟨rfl, .moveC (.inl rfl) (.inl rfl) rfl (fun a w' hC hs => (hs 10 (by kernel_rfl)))⟩)
                · exact (.inl ⟨rfl, .value (.inl rfl) (by intro T e; cases e) rfl rfl (fun a w' hC hs hl => by
                    have e0 : a.eval (.tmp 99) = (.slice (some ⟨g, 0, none⟩) i cg) := (hl 99 (by kernel_rfl) (by kernel_rfl))
                    have e1 : a.eval (.tmp 100) = (.int .i64 (k : Nat)) := (hl 100 (by kernel_rfl) (by kernel_rfl))
                    simp only [execOp, e0, e1]
                    simp [go_sem, hki2])⟩)
                · exact (.inl ⟨rfl, .load (.slice (some ad) (N + 1) ck) (.inl rfl) rfl rfl (fun a w' hC hs hl => by rw [show a.eval (.tmp 101) = (.pointer (some ⟨g, k, none⟩) : Value) from (hl 101 (by kernel_rfl) (by kernel_rfl))]; exact ⟨by simp [go_sem, cell_below hC Qk.out], rfl⟩)⟩)
                · exact (.inl ⟨rfl, .moveC (.inl rfl) (.inl rfl) rfl (fun a w' hC hs => (hs 10 (by kernel_rfl)))⟩)
                · exact (.inl ⟨rfl, .value (.inl rfl) (by intro T e; cases e) rfl rfl (fun a w' hC hs hl => by
                    have e0 : a.eval (.tmp 102) = (.slice (some ad) (N + 1) ck) := (hl 102 (by kernel_rfl) (by kernel_rfl))
                    have e1 : a.eval (.tmp 103) = (.int .i64 (k : Nat)) := (hl 103 (by kernel_rfl) (by kernel_rfl))
                    simp only [execOp, e0, e1]
                    simp [go_sem, hk2])⟩)
                · exact (.inl ⟨rfl, .load (.agg #[.bool b2, .slice A2 n2 c2, .slice D2 m2 k2]) (.inl rfl) rfl rfl (fun a w' hC hs hl => by rw [show a.eval (.tmp 104) = (.pointer (some (ad.add (k * 3))) : Value) from (hl 104 (by kernel_rfl) (by kernel_rfl))]; exact ⟨ld_RatAt (cell_below hC y0.out) (cell_below hC y1.out) (cell_below hC y2.out), rfl⟩)⟩)
                · exact (.inl ⟨rfl, .call (.inl rfl) rfl rfl fwj_rats_Div (fun a w' hC hs hl => by
                    show Calls _ _ #[a.eval (.tmp 95), a.eval (.tmp 105)] _ _
                    rw [show a.eval (.tmp 95) = (.agg #[.bool b1, .slice A1 n1 c1, .slice D1 m1 k1] : Value) from (hl 95 (by kernel_rfl) (by kernel_rfl)), show a.eval (.tmp 105) = (.agg #[.bool b2, .slice A2 n2 c2, .slice D2 m2 k2] : Value) from (hl 105 (by kernel_rfl) (by kernel_rfl))]
                    exact RR.rDiv_T wr.heap.size hC.size (XR.out.below hC) HR.out (XH.out.below hC) HQ.out (TW.out.below hC) HN.out)⟩)
                · exact (.inl ⟨rfl, .move (.inl rfl) (.inl rfl) rfl (by kernel_rfl) (by kernel_rfl) rfl⟩)
                · exact (.inl ⟨rfl, .make (.inl rfl) (by intro T e; cases e) rfl (fun a w' hC hs hl => by
                    obtain ⟨u, e, h⟩ := (hl 85 (by kernel_rfl) (by kernel_rfl))
                    have e' : a.tmps[85]?.getD undef = _ := (by simp [Act.eval] : _ = a.eval (.tmp 85)).trans e
                    exact ⟨u, by simp [execOp, go_sem, e'], h⟩)⟩)
                · exact (.inl ⟨rfl, .make (.inl rfl) (by intro T e; cases e) rfl (fun a w' hC hs hl => by
                    obtain ⟨u, e, h⟩ := (hl 85 (by kernel_rfl) (by kernel_rfl))
                    have e' : a.tmps[85]?.getD undef = _ := (by simp [Act.eval] : _ = a.eval (.tmp 85)).trans e
                    exact ⟨_, by simp [execOp, go_sem, e'], rfl⟩)⟩)
                · exact (.inl ⟨rfl, .alloc (.agg #[.bool false, .slice none 0 0, .slice none 0 0]) (.inl rfl) rfl rfl (fun a w' hC => ⟨run_alloc_Rat _ _ _ _ _ _ _, _, _, rfl, hC.size, Blk.new _ _ _, rfl⟩)⟩)
                · exact (.storeR (fun v w h => RatR.slice h) rfl rfl rfl (by kernel_rfl) (by kernel_rfl) (by kernel_rfl) (by kernel_rfl) rfl)
                intro f w8 hC hF _ hE
                obtain ⟨g9, b3, A3, n3, c3, D3, m3, k3, e11, lp, e107, K9⟩ := hE
                have BY : RatR (mat M k N / mat M k k) wr.heap.size w8 (f 107) := hF 107 (by kernel_rfl)
                have f108 : f 108 = .int .i64 0 := hF 108 (by kernel_rfl)
                clear hF lp
                simp only [patch, List.drop]
                rw [e107] at BY
                rw [e11, e107, f108]
                clear e11 e107 f108
                generalize f 86 = z86_
                generalize f 87 = z87_
                generalize f 88 = z88_
                generalize f 89 = z89_
                generalize f 90 = z90_
                generalize f 91 = z91_
                generalize f 92 = z92_
                generalize f 93 = z93_
                generalize f 94 = z94_
                generalize f 95 = z95_
                generalize f 96 = z96_
                generalize f 97 = z97_
                generalize f 98 = z98_
                generalize f 99 = z99_
                generalize f 100 = z100_
                generalize f 101 = z101_
                generalize f 102 = z102_
                generalize f 103 = z103_
                generalize f 104 = z104_
                generalize f 105 = z105_
                generalize f 106 = z106_
                generalize f 85 = z85_
                have v0 := K9.at_ 0 rfl
                have v1 := K9.at_ 1 rfl
                have v2 := K9.at_ 2 rfl
                have KS := hide (Blk.new w8 TR #[.bool b3, .slice A3 n3 c3, .slice D3 m3 k3])
                have yy := hide ((Below.refl w8.heap.size w8).alloc (Nat.le_refl _) (.cells #[.bool b3, .slice A3 n3 c3, .slice D3 m3 k3] TR))
                have O2 := hide (below_tr hC yy.out)
                have R2 := hide (BY.below yy.out)
                have B2 := hide (below_tr hbel.out O2.out)
                have hs0 := hide hbel.out.size
                have hlen : Hid (((List.range k).map fun k => mat M k N / mat M k k).length = k) := by
                  show _ = _
                  rw [List.length_map, List.length_range]
                clear K9 BY hC x0 x1 x2 y0 y1 y2 P0 Qk W3 XR XH HR HQ HN hki2 hN2 hk2 TW
                go_wp2_with (at_builtin; refine wpList_appO rfl _ _ rfl w6.heap.size _ ((List.range k).map fun k => mat M k N / mat M k k) rfl own.out O2.out hs0.out rfl KS.out R2.out (by rw [hlen.out]; omega) B2.out.size ?_; intro v' w9 q1 q2 q3)
                have q4 : Hid (OLst w9 w6.heap.size v' ((List.range (k + 1)).map fun k => mat M k N / mat M k k)) := by
                  show OLst _ _ _ _
                  rw [List.range_succ, List.map_append]
                  exact q1.out
                obtain ⟨Y2, dy2, rfl⟩ := OLst.slN (N := k + 1) q4.out (by rw [List.length_map, List.length_range])
                have B4 := hide (B2.out.trans q2.out)
                go_roundw
                case rel => exact ⟨k + 1, Y2, dy2, by omega, by go_num, rfl, q4, B4⟩
                case measure => simp [intOf]; omega
              · obtain rfl : k = N := by omega
                have B5 := hide (W2.out.b.trans (hbel.out.mono b6))
                have O5 := hide (own.out.mono b6)
                go_wp2
                exact opq_end hR ⟨_, 0, _, rfl, B5.out, O5.out, SR.out, fun q hq => by
                  obtain ⟨j, hj, rfl⟩ := List.mem_map.1 hq
                  have hj2 := List.mem_range.1 hj
                  exact H_div (H_getD (HM.out j (by omega)) hS1 _) (H_getD (HM.out j (by omega)) hS1 _) hS1 (by omega)⟩
        · have SR : Hid (SolR i N (mat fun j => qss.getD j []) (fun i => bs.getD i 0) 6 []) := none_ech NU.out E2.out ha1 ha2 ha3
          clear ha1 ha2 ha3
          go_wp2
          exact opq_end hR ⟨_, 6, [], rfl, W2.out.b, OLst.nil _ _, SR.out, fun q hq => by cases hq⟩
end Go.Proofs.YtfpnhggbfakdkaaDoor

/- grids: a law's own list of whole numbers; what is too great. -/
set_option linter.unusedVariables false
set_option linter.unusedSimpArgs false
set_option maxRecDepth 100000
namespace Go.Proofs.YtfpnhggbfakdkaaDoor
open Go.RowKit

set_option maxHeartbeats 1000000 in
theorem gof_ok (w : World) (g : Nat) (hg : g < w.heap.size) (zs : List Int) (m : Nat) (hm : zs.length = m) (hl : m ≤ 1000) (hz : ∀ z ∈ zs, -9223372036854775808 ≤ z ∧ z < 9223372036854775808) (hcell : NumsAt w g zs) :
    Calls Tryd.prog 27 #[.slice (some ⟨g, 0, none⟩) m m] w fun e w' => ∃ u, e = .returned u ∧ Hid (Below w.heap.size w w') ∧ Hid (OLst w' w.heap.size u (rats zs)) := by
  refine opq fun R hR => ?_
  have hZ := hide hz
  have hC := hide hcell
  have hL := hide hm
  clear hz hcell
  go_enter Tryd.func27, Tryd.ntmps27
  clear hm
  go_wp2
  go_loopw [3, 4] (fun tv iv wr => ∃ (i : Nat) (A : Option Addr) (c : Nat), i ≤ m ∧ iv = .int .i64 (i : Nat) ∧ tv = .slice A i c ∧ Hid (OLst wr w.heap.size (.slice A i c) (rats (zs.take i))) ∧ Hid (Below w.heap.size w wr)) (fun _ iv _ => m - (intOf iv).toNat)
  case atStart => exact ⟨0, _, _, by omega, rfl, rfl, OLst.nil _ _, Below.refl _ _⟩
  case round =>
    obtain ⟨i, A, c, hi, rfl, rfl, own, hbel⟩ := hrel
    by_cases hlt : i < m
    · obtain ⟨z, hz⟩ : ∃ z, zs[i]? = some z := ⟨_, List.getElem?_eq_getElem (by rw [hL.out]; exact hlt)⟩
      have hz2 := hide (hZ.out z (List.mem_of_getElem? hz))
      have hcl := cell_below hbel.out (hC.out i z hz)
      have hT := hide (show zs.take (i + 1) = zs.take i ++ [z] by
        rw [List.take_add_one, hz]; rfl)
      replace hz := hide hz
      go_wp2_with fail
      refine (rOf_P _ z hz2.out.1 hz2.out.2).mono ?_
      rintro e w1 ⟨u, rfl, d0, r⟩
      have r1 := hide r
      have hs0 := hide hbel.out.size
      replace hbel := hide (below_tr hbel.out d0)
      replace d0 := hide d0
      clear r hcl
      obtain ⟨b, A1, n1, c1, D1, m1, k1, rfl⟩ := r1.out.slice
      have K := hide (Blk.new w1 TR #[.bool b, .slice A1 n1 c1, .slice D1 m1 k1])
      have y : Below w1.heap.size w1 (w1.alloc (.cells #[.bool b, .slice A1 n1 c1, .slice D1 m1 k1] TR)) := (Below.refl _ _).alloc (Nat.le_refl _) _
      have O2 := hide (below_tr d0.out y)
      have R2 := hide (r1.out.below y)
      have B2 := hide (below_tr hbel.out y)
      have hlen : Hid ((rats (zs.take i)).length = i) := by
        show _ = _
        rw [rats, List.length_map, List.length_take, hL.out]; omega
      clear r1 hbel y d0
      go_wp2_with (at_builtin; refine wpList_appO rfl _ _ rfl w.heap.size _ (rats (zs.take i)) rfl own.out O2.out hs0.out rfl K.out R2.out (by rw [hlen.out]; omega) B2.out.size ?_; intro v' w3 q1 q2 q3)
      have q4 : Hid (OLst w3 w.heap.size v' (rats (zs.take (i + 1)))) := by
        show OLst _ _ _ _
        rw [hT.out, rats, List.map_append]
        exact q1.out
      obtain ⟨A', c', rfl⟩ := q4.out.slice
      have hlen2 : Hid ((rats (zs.take (i + 1))).length = i + 1) := by
        show _ = _
        rw [rats, List.length_map, List.length_take, hL.out]; omega
      rw [hlen2.out] at q4 ⊢
      have B4 := hide (B2.out.trans q2.out)
      go_roundw
      case rel => exact ⟨i + 1, A', c', by omega, by go_num, rfl, q4, B4⟩
      case measure => simp [intOf]; omega
    · obtain rfl : i = m := by omega
      rw [List.take_of_length_le (by rw [hL.out]; exact Nat.le_refl _)] at own
      go_wp2
      exact opq_end hR ⟨_, rfl, hbel, own⟩
theorem gof_L (w : World) (g m : Nat) (hg : g < w.heap.size) (zs : List Int) (hm : zs.length = m) (hl : m ≤ 1000) (hz : ∀ z ∈ zs, -9223372036854775808 ≤ z ∧ z < 9223372036854775808) (hcell : NumsAt w g zs) :
    Calls Tryd.prog 27 #[.slice (some ⟨g, 0, none⟩) m m] w fun e w' => ∃ u, e = .returned u ∧ Below w.heap.size w w' ∧ Lst RCan w' u (rats zs) :=
  (gof_ok w g hg zs m hm hl hz hcell).mono fun e w' ⟨u, h1, h2, h3⟩ => ⟨_, h1, h2.out, h3.out.lst (by rw [rats, List.length_map, hm]; omega)⟩
theorem fn_gof (args : Array Value) (w : World) : (callFunc 27 args).run Tryd.prog w = .ok (.enter 27 args) w := callFunc_enter Tryd.func27 (by kernel_rfl) rfl args w
theorem gof_F {w : World} {v : Value} {zs : List Int} {m : Nat} (h : (Fact.nums zs m).holds v w) (hm : zs.length = m) (hl : m ≤ 1000) (hz : ∀ z ∈ zs, -9223372036854775808 ≤ z ∧ z < 9223372036854775808) :
    Calls Tryd.prog 27 #[v] w fun e w' => ∃ u, e = .returned u ∧ Below w.heap.size w w' ∧ Lst RCan w' u (rats zs) := by
  obtain ⟨g, rfl, h2, h3⟩ := h
  exact gof_L w g m h2 zs hm hl hz h3
theorem gof_A {w : World} {g : Nat} (hg : w.heap.size = g) (zs : List Int) (cs : Array Value) (hcs : cs = (zs.map fun z => Value.int .i64 z).toArray) (t : TypeId) (m : Nat) (hm : zs.length = m) (hl : m ≤ 1000) (hz : ∀ z ∈ zs, -9223372036854775808 ≤ z ∧ z < 9223372036854775808) :
    Calls Tryd.prog 27 #[.slice (some ⟨g, 0, none⟩) m m] (w.alloc (.cells cs t)) fun e w' => ∃ u, e = .returned u ∧ Below (w.alloc (.cells cs t)).heap.size (w.alloc (.cells cs t)) w' ∧ Lst RCan w' u (rats zs) :=
  gof_L _ g m (by simp; omega) zs hm hl hz (nums_new w g hg zs cs hcs t)
set_option maxHeartbeats 1000000 in
theorem ggreat_ok (w : World) (A : Option Addr) (n c : Nat) (ess : List (List Raw)) (h : Gst RRw w (.slice A n c) ess) :
    Calls Tryd.prog 10 #[.slice A n c] w fun e w' => ∃ r : Bool, e = .returned (.bool r) ∧ Hid (r = false → n ≤ 8 ∧ gsz ess ≤ 300 ∧ ∀ es ∈ ess, es.length ≤ 8) ∧ Below w.heap.size w w' := by
  refine opq fun R hR => ?_
  have L := hide h
  have hl := hide h.len
  have hb : n ≤ 140737488355328 := by rw [← h.len]; exact h.le_
  clear h
  go_enter Tryd.func10, Tryd.ntmps10
  by_cases h8 : n ≤ 8
  · have h8' : ¬ ((n : Int) > 8) := by omega
    go_wp2_with fail
    refine (GridSize_ok w A n c ess L.out).mono ?_
    rintro e' w1 ⟨r, rfl, cn, _, d0⟩
    have b0 := hide d0
    have CN := hide cn
    clear d0 cn
    by_cases hr : r ≤ 300
    · have hr' : ¬ ((r : Int) > 300) := by omega
      have hg : Hid (gsz ess ≤ 300) := by
        rcases CN.out.2 with e | e
        · show _ ≤ _
          omega
        · omega
      clear CN
      go_wp2
      go_loopw [3] (fun iv wr => ∃ (i : Nat), i ≤ n ∧ iv = .int .i64 (i : Nat) ∧ Hid (∀ es ∈ ess.take i, es.length ≤ 8) ∧ Hid (Below w.heap.size w wr)) (fun iv _ => n - (intOf iv).toNat)
      case atStart => exact ⟨0, by omega, rfl, fun es hes => by simp at hes, b0⟩
      case round =>
        obtain ⟨i, hi, rfl, hall, hbel⟩ := hrel
        by_cases hlt : i < n
        · obtain ⟨es, hes⟩ : ∃ es, ess[i]? = some es := ⟨_, List.getElem?_eq_getElem (by rw [hl.out]; exact hlt)⟩
          obtain ⟨ad, A1, c1, rfl, _, x0, X⟩ := (L.out.rw_below hbel.out).at_ hes
          have hT := hide (show ess.take (i + 1) = ess.take i ++ [es] by
            rw [List.take_add_one, hes]; rfl)
          have hxb := X.le_
          clear X hes
          obtain ⟨k, hk⟩ : ∃ k, Hid (es.length = k) := ⟨_, rfl⟩
          rw [hk.out] at x0 hxb
          by_cases hk8 : k ≤ 8
          · have hk8' : ¬ ((k : Int) > 8) := by omega
            have h2 : Hid (∀ es ∈ ess.take (i + 1), es.length ≤ 8) := fun es' hes' => by
              rw [hT.out] at hes'
              rcases List.mem_append.1 hes' with h | h
              · exact hall.out es' h
              · rw [List.mem_singleton] at h
                subst h
                rw [hk.out]; exact hk8
            go_wp2
            go_roundw
            case rel => exact ⟨i + 1, by omega, by go_num, h2, hbel⟩
            case measure => simp [intOf]; omega
          · have hk8' : ((k : Int) > 8) := by omega
            go_wp2
            exact opq_end hR ⟨true, rfl, (fun e => by cases e), hbel.out⟩
        · obtain rfl : i = n := by omega
          rw [List.take_of_length_le (by rw [hl.out]; exact Nat.le_refl _)] at hall
          go_wp2
          exact opq_end hR ⟨false, rfl, (fun _ => ⟨h8, hg.out, hall.out⟩), hbel.out⟩
    · have hr' : ((r : Int) > 300) := by omega
      go_wp2
      exact opq_end hR ⟨true, rfl, (fun e => by cases e), b0.out⟩
  · have h8' : ((n : Int) > 8) := by omega
    go_wp2
    exact opq_end hR ⟨true, rfl, (fun e => by cases e), Below.refl _ _⟩
/-- A grid of lists that lie there. -/
theorem gst_lit {w : World} {g : Nat} {us : List Value} {qss : List (List Rat)} {n : Nat} (hg : Blk w g TRs us.toArray) (hn : us.length = n) (hq : qss.length = n) (hb : n ≤ 1000) (h : ∀ (j : Nat) qs, qss[j]? = some qs → ∃ u, us[j]? = some u ∧ Lst RCan w u qs) : Gst RCan w (.slice (some ⟨g, 0, none⟩) n n) qss :=
  ⟨_, n, n, us, rfl, Nat.le_refl _, hq.symm, hn, by omega, fun _ => ⟨_, rfl, hg.lt, fun j u hj => by rw [add0, hg.cell]; simpa using hj⟩, h⟩
theorem gq_lit {qss : List (List Rat)} {N s : Nat} (h1 : ∀ qs ∈ qss, qs.length = N) (h2 : ∀ qs ∈ qss, Hs qs s) (h3 : qss ≠ []) : GQ qss N s := ⟨h1, h2, fun e => absurd e h3⟩
/-- A grid that may not be is refused. -/
theorem turnG_bad {w : World} {v : Value} {ess : List (List Raw)} (h : Gst RRaw w v ess) (hT : Tab w) (hg : gok ess = false) :
    Calls Tryd.prog 12 #[v] w fun e w' => e = .returned (.tuple #[.slice none 0 0, .int .i64 1]) ∧ Below w.heap.size w w' := by
  refine opq fun R hR => ?_
  obtain ⟨A, c, rfl⟩ := h.sl
  have L := hide h
  have T := hide hT
  clear h hT
  generalize ess.length = n at *
  go_enter Tryd.func12, Tryd.ntmps12
  go_wp2_with fail
  refine (gridCheck_ok L.out T.out false hg).mono ?_
  rintro e' w1 ⟨_, rfl, d0, rfl⟩
  go_wp2
  exact opq_end hR ⟨rfl, d0⟩
theorem rank_ok {w : World} {A : Option Addr} {n c : Nat} {qss : List (List Rat)} {N s : Nat} (h : Gst RCan w (.slice A n c) qss) (G : GQ qss N s) (hs1 : 1 ≤ s) (hs2 : szt s N ≤ 1000000000) (hn : n ≤ 1000000) (hN : N ≤ 1000000) (hT : Tab w) :
    Calls Tryd.prog 13 #[.slice A n c] w fun e w' => e = .returned (.tuple #[.int .i64 (rnk n N (mat fun j => qss.getD j []) : Nat), .int .i64 0]) ∧ Below w.heap.size w w' := by
  have hl := h.len
  refine rank_any (S := szt s N) (Inv := fun k M hs => ∀ j, j < n → Hs (M j) (szt s k)) h G (Nat.le_trans (szt_le s 0 N (Nat.zero_le _)) (by omega)) hn hN hT (Nat.le_trans hs1 (szt_le s 0 N (Nat.zero_le _))) hs2 (fun j hj => ?_) (fun k M hs _ h _ j hj => (h j hj).up (szt_le s k (k + 1) (Nat.le_succ k))) (fun k M hs at_ _ h hE _ h1 h2 _ j hj => Hs_stp (Nat.lt_of_le_of_lt h1 h2) h2 h (Nat.le_trans hs1 (szt_le s 0 k (Nat.zero_le _))) _ j hj) (fun k M hs hk h j hj => (h j hj).up (szt_le s k N hk))
  have h1 : qss[j]? = some (qss[j]'(by omega)) := List.getElem?_eq_getElem _
  show Hs (qss.getD j []) s
  rw [show qss.getD j [] = qss[j]'(by omega) by rw [List.getD_eq_getElem?_getD, h1]; rfl]
  exact G.hs _ (List.mem_of_getElem? h1)
end Go.Proofs.YtfpnhggbfakdkaaDoor
