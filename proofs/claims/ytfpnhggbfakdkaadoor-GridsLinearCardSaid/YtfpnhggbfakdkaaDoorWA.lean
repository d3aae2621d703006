/- grids: Check, columns, the work: head, turn. -/
import Derived.Test.YtfpnhggbfakdkaaDoorGN
import Derived.Test.YtfpnhggbfakdkaaDoorLN
/- grids: Check, columns. -/
set_option linter.unusedVariables false
set_option linter.unusedSimpArgs false
set_option maxRecDepth 100000
namespace Go.Proofs.YtfpnhggbfakdkaaDoor
open Go.RowKit

theorem addr_zero (ad : Addr) : ad.add 0 = ad := by unfold Addr.add; simp
def cols (ess : List (List Raw)) : Nat := ((ess[0]?).map List.length).getD 0
/-- May a grid be? -/
def gok (ess : List (List Raw)) : Bool := ess.all (rowB (cols ess))
abbrev gkF (g : Nat) : Value := .func (.func 30) #[] #[.pointer (some ⟨g, 0, none⟩)]
theorem cols_of {ess : List (List Raw)} {e0 : List Raw} (h : ess[0]? = some e0) : cols ess = e0.length := by unfold cols; rw [h]; rfl
set_option maxHeartbeats 1000000 in
theorem gCheck1_ok (w : World) (A : Option Addr) (n c : Nat) (es : List Raw) (h : Lst RRaw w (.slice A n c) es) (g : Nat) (AL : Option Addr) (nL cL : Nat) (ess : List (List Raw)) (hg : w.cell? ⟨g, 0, none⟩ = some (.slice AL nL cL)) (hL : Gst RRaw w (.slice AL nL cL) ess) (h0 : 0 < nL) (hT : Tab w) :
    Calls Tryd.prog 30 #[.slice A n c, .pointer (some ⟨g, 0, none⟩)] w fun e' w' => e' = .returned (.bool (!(rowB (cols ess) es))) ∧ Below w.heap.size w w' := by
  refine opq fun R hR => ?_
  have hl := h.len
  have hb : n ≤ 140737488355328 := by rw [← hl]; exact h.le_
  obtain ⟨e0, he0⟩ : ∃ e0, ess[0]? = some e0 := ⟨_, List.getElem?_eq_getElem (by rw [hL.len]; exact h0)⟩
  obtain ⟨ad, A0, c0, rfl, _, x0, X⟩ := hL.at_ he0
  have hk := cols_of he0
  have hkb := X.le_
  rw [← hk] at x0 X hkb
  obtain ⟨k, hkk⟩ : ∃ k, cols ess = k := ⟨_, rfl⟩
  rw [hkk] at x0 hkb hR
  rw [addr_zero] at x0
  clear hk hkk X
  have L := hide h
  have T := hide hT
  clear h hT hL he0
  go_enter Tryd.func30, Tryd.ntmps30
  by_cases hk : n = k
  · have e1 : Hid (rowB k es = es.all rk) := by
      show _ = _
      unfold rowB
      rw [decide_eq_true (by rw [hl]; exact hk), Bool.true_and]
    subst hk
    replace hl := hide hl
    go_wp2_with fail
    refine (vCheck_L L.out T.out (es.all rk) rfl).mono ?_
    rintro e' w1 ⟨_, rfl, d0, rfl⟩
    replace d0 := hide d0
    clear hg x0
    go_wp2
    exact opq_end hR ⟨by rw [e1.out]; rfl, d0.out⟩
  · have e1 : Hid (rowB k es = false) := by
      show _ = _
      unfold rowB
      rw [decide_eq_false (by rw [hl]; exact hk), Bool.false_and]
    have hk2 : ¬ ((n : Int) = (k : Int)) := by omega
    replace hl := hide hl
    go_wp2
    exact opq_end hR ⟨by rw [e1.out]; simp, Below.refl _ _⟩
set_option maxHeartbeats 1000000 in
theorem gIndex_ok (w : World) (A : Option Addr) (n c : Nat) (ess : List (List Raw)) (h : Gst RRaw w (.slice A n c) ess) (g : Nat) (hg : w.cell? ⟨g, 0, none⟩ = some (.slice A n c)) (hT : Tab w) :
    Calls Tryd.prog 55 #[.slice A n c, gkF g] w fun e w' => ∃ r : Int, e = .returned (.int .i64 r) ∧ Hid (decide (0 ≤ r) = !(gok ess)) ∧ Hid (Below w.heap.size w w') := by
  refine opq fun R hR => ?_
  have L := hide h
  have T := hide hT
  have hq := hide h.len
  have hn : n ≤ 140737488355328 := by rw [← h.len]; exact h.le_
  replace hg := hide hg
  clear h hT
  go_enter Tryd.func55, Tryd.ntmps55
  go_wp2
  go_loopw [8] (fun iv wr => ∃ (i : Nat), i ≤ n ∧ iv = .int .i64 (i : Nat) ∧ Hid ((ess.take i).all (rowB (cols ess)) = true) ∧ Hid (Below w.heap.size w wr)) (fun iv _ => n - (intOf iv).toNat)
  case atStart => exact ⟨0, by omega, rfl, rfl, Below.refl _ _⟩
  case round =>
    obtain ⟨i, hi, rfl, hall, hbel⟩ := hrel
    by_cases hlt : i < n
    · obtain ⟨x, hx⟩ : ∃ x, ess[i]? = some x := ⟨_, List.getElem?_eq_getElem (by rw [hq.out]; exact hlt)⟩
      have L2 := hide (L.out.raw_below hbel.out)
      obtain ⟨ad, A1, c1, rfl, _, x0, X⟩ := L2.out.at_ hx
      have hT := hide (show ess.take (i + 1) = ess.take i ++ [x] by
        rw [List.take_add_one, hx]; rfl)
      have hm := hide (List.mem_of_getElem? hx)
      replace X := hide X
      replace hx := hide hx
      generalize x.length = m at *
      go_wp2_with fail
      refine (gCheck1_ok _ A1 m c1 x X.out g (some ad) n c ess (cell_below hbel.out hg.out) L2.out (by omega) (T.out.below hbel.out)).mono ?_
      rintro e w1 ⟨rfl, d0⟩
      replace hbel := hide (below_tr hbel.out d0)
      clear d0 x0 X L2
      by_cases hr : rowB (cols ess) x = true
      · rw [hr]
        have h2 : Hid ((ess.take (i + 1)).all (rowB (cols ess)) = true) := by
          show _ = _
          rw [hT.out, List.all_append, hall.out]
          simp [hr]
        go_wp2
        go_roundw
        case rel => exact ⟨i + 1, by omega, by go_num, h2, hbel⟩
        case measure => simp [intOf]; omega
      · have hr2 : rowB (cols ess) x = false := by simpa using hr
        rw [hr2]
        have h2 : Hid (decide (0 ≤ ((i : Nat) : Int)) = !(gok ess)) := by
          show _ = _
          have : gok ess = false := List.all_eq_false.2 ⟨x, hm.out, by simp [hr2]⟩
          rw [this]
          simp
        go_wp2
        exact opq_end hR ⟨_, rfl, h2, hbel⟩
    · obtain rfl : i = n := by omega
      rw [List.take_of_length_le (by rw [hq.out]; exact Nat.le_refl _)] at hall
      have h2 : Hid (decide (0 ≤ (-1 : Int)) = !(gok ess)) := by
        show _ = _
        rw [gok, hall.out]; rfl
      go_wp2
      exact opq_end hR ⟨_, rfl, h2, hbel⟩
theorem gContains_ok (w : World) (A : Option Addr) (n c : Nat) (ess : List (List Raw)) (h : Gst RRaw w (.slice A n c) ess) (g : Nat) (hg : w.cell? ⟨g, 0, none⟩ = some (.slice A n c)) (hT : Tab w) :
    Calls Tryd.prog 29 #[.slice A n c, gkF g] w fun e w' => e = .returned (.bool (!(gok ess))) ∧ Below w.heap.size w w' := by
  refine opq fun R hR => ?_
  go_enter Tryd.func29, Tryd.ntmps29
  have C := hide (gIndex_ok w A n c ess h g hg hT)
  clear h hT hg
  go_wp2_with fail
  refine C.out.mono ?_
  rintro e w1 ⟨r, rfl, hr, d0⟩
  go_wp2
  exact opq_end hR ⟨ret_bool hr.out, d0.out⟩
theorem gridCheck_ok {w : World} {v : Value} {ess : List (List Raw)} (h : Gst RRaw w v ess) (hT : Tab w) (r : Bool) (hr : gok ess = r) :
    Calls Tryd.prog 11 #[v] w fun e w' => ∃ u, e = .returned u ∧ Below w.heap.size w w' ∧ u = .bool r := by
  refine opq fun R hR => ?_
  obtain ⟨A, c, rfl⟩ := h.sl
  obtain ⟨n, hn⟩ : ∃ n, ess.length = n := ⟨_, rfl⟩
  rw [hn] at h ⊢
  clear hn
  have K := hide (Blk.new w 22 #[.slice A n c])
  have b0 := hide ((Below.refl w.heap.size w).alloc (Nat.le_refl _) (.cells #[.slice A n c] 22))
  have L := hide (h.raw_below b0.out)
  have T := hide (hT.below b0.out)
  clear h hT
  go_enter Tryd.func11, Tryd.ntmps11
  have c0 := K.out.at_ 0 rfl
  go_wp2_with fail
  refine (gContains_ok _ A n c ess L.out _ c0 T.out).mono ?_
  rintro e w1 ⟨rfl, d0⟩
  replace b0 := hide (below_tr b0.out d0)
  clear c0 d0
  rw [hr]
  go_wp2
  exact opq_end hR ⟨_, rfl, b0.out, by simp⟩
/-- The columns of a grid whose rows are told. -/
theorem columns_ok {α : Type} {E : World → Value → α → Prop} {w : World} {A : Option Addr} {n c : Nat} {qss : List (List α)} (h : Gst E w (.slice A n c) qss) (k : Nat) (hk : ((qss[0]?).map List.length).getD 0 = k) :
    Calls Tryd.prog 31 #[.slice A n c] w fun e w' => ∃ u, e = .returned u ∧ Below w.heap.size w w' ∧ u = .int .i64 (k : Nat) := by
  refine opq fun R hR => ?_
  have hl := h.len
  by_cases h0 : n = 0
  · subst h0
    have : qss[0]? = none := List.getElem?_eq_none (by omega)
    rw [this] at hk
    obtain rfl : k = 0 := hk.symm
    clear hl h this hk
    go_enter Tryd.func31, Tryd.ntmps31
    go_wp2
    exact opq_end hR ⟨_, rfl, Below.refl _ _, rfl⟩
  · obtain ⟨q, hq⟩ : ∃ q, qss[0]? = some q := ⟨_, List.getElem?_eq_getElem (by omega)⟩
    obtain ⟨ad, A1, c1, rfl, _, x0, X⟩ := h.at_ hq
    rw [hq] at hk
    have hk' : q.length = k := hk
    rw [hk', addr_zero] at x0
    have hn : ¬ ((n : Int) = 0) := by omega
    have hb := h.le_
    rw [hl] at hb
    clear hl h hk hq X
    go_enter Tryd.func31, Tryd.ntmps31
    go_wp2
    exact opq_end hR ⟨_, rfl, Below.refl _ _, rfl⟩
end Go.Proofs.YtfpnhggbfakdkaaDoor

/- grids: the work on rows; the first row that has a number in a column. -/
set_option linter.unusedVariables false
set_option linter.unusedSimpArgs false
set_option maxRecDepth 100000
namespace Go.Proofs.YtfpnhggbfakdkaaDoor
open Go.RowKit

/-- Numbers and lists of fractions stay. -/
def Kp2 (w w' : World) : Prop := (∀ g cs, Blk w g T32 cs → Blk w' g T32 cs) ∧ ∀ g cs, Blk w g TR cs → Blk w' g TR cs
theorem Kp2.bel {w w' : World} (h : Below w.heap.size w w') : Kp2 w w' := ⟨fun g cs hk => hk.below' h, fun g cs hk => hk.below' h⟩
theorem Kp2.tr {w w' w2 : World} (h : Kp2 w w') (k : Kp2 w' w2) : Kp2 w w2 := ⟨fun g cs hk => k.1 g cs (h.1 g cs hk), fun g cs hk => k.2 g cs (h.2 g cs hk)⟩
theorem Kp2.set {w : World} {g : Nat} {t : TypeId} {cs : Array Value} (h : Blk w g t cs) (h1 : T32 ≠ t) (h2 : TR ≠ t) (i : Nat) (u : Value) : Kp2 w (w.setCell ⟨g, i, none⟩ u) := ⟨fun g' cs' hk => hk.far (p := ⟨g, i, none⟩) (hk.type_ne h h1) u, fun g' cs' hk => hk.far (p := ⟨g, i, none⟩) (hk.type_ne h h2) u⟩
theorem NatR.k32 {N B : Nat} {w w' : World} {v : Value} (h : NatR N B w v) (k : ∀ g cs, Blk w g T32 cs → Blk w' g T32 cs) : NatR N B w' v := by
  obtain ⟨A, c, e, r, f, l⟩ := h
  rcases f with f | ⟨g', cs', e1, hB, hk, hc⟩
  · have h0 : (limbs N).length = 0 := by omega
    have hN : limbs N = [] := List.eq_nil_of_length_eq_zero h0
    exact ⟨A, c, e, by rw [hN]; exact Rdk.nil _ _ _, .inl f, l⟩
  · subst e1
    have hk' : Blk w' g' T32 cs' := k g' cs' hk
    refine ⟨_, c, e, ⟨r.1, r.2.1, fun hn => ?_⟩, .inr ⟨g', cs', rfl, hB, hk', hc⟩, l⟩
    obtain ⟨ad, e2, hl, hcl⟩ := r.2.2 hn
    cases e2
    refine ⟨_, rfl, hk'.lt, fun j hj => ?_⟩
    have := hcl j hj
    rw [add0, hk.cell] at this
    rw [add0, hk'.cell]
    exact this
theorem NatR.kp2 {N B : Nat} {w w' : World} {v : Value} (h : NatR N B w v) (k : Kp2 w w') : NatR N B w' v := h.k32 k.1
theorem RatR.k32 {q : Rat} {B : Nat} {w w' : World} {v : Value} (h : RatR q B w v) (k : ∀ g cs, Blk w g T32 cs → Blk w' g T32 cs) : RatR q B w' v := by
  obtain ⟨u, d, e, h1, h2, h3⟩ := h
  exact ⟨u, d, e, h1.k32 k, h2.k32 k, h3⟩
theorem RatR.kp2 {q : Rat} {B : Nat} {w w' : World} {v : Value} (h : RatR q B w v) (k : Kp2 w w') : RatR q B w' v := by
  obtain ⟨u, d, e, h1, h2, h3⟩ := h
  exact ⟨u, d, e, h1.kp2 k, h2.kp2 k, h3⟩
theorem OLst.kp2 {w w' : World} {B : Nat} {v : Value} {qs : List Rat} (h : OLst w B v qs) (k : Kp2 w w') : OLst w' B v qs := by
  obtain ⟨us, h1, h2, h3, h4⟩ := h
  exact ⟨us, h1, own_keepS h2 (fun r cs hk => k.2 r cs hk), fun j q hq => by
    obtain ⟨u, hu, hE⟩ := h3 j q hq
    exact ⟨u, hu, hE.kp2 k⟩, h4⟩
/-- A row that work is done on: one that came in, one of the work's own, or one whose cells are the work's own. -/
def RowG (w0 w : World) (v : Value) (qs : List Rat) : Prop :=
  Lst RCan w0 v qs ∨ OLst w w0.heap.size v qs ∨ ∃ us, us.length = qs.length ∧ w.ownsRow w0.heap.size TR 3 v qs.length (flat us) ∧ ∀ (j : Nat) q, qs[j]? = some q → ∃ u, us[j]? = some u ∧ RCan w0 u q
theorem RowG.kp2 {w0 w w' : World} {v : Value} {qs : List Rat} (h : RowG w0 w v qs) (k : Kp2 w w') : RowG w0 w' v qs := by
  rcases h with h | h | ⟨us, h1, h2, h3⟩
  · exact .inl h
  · exact .inr (.inl (h.kp2 k))
  · exact .inr (.inr ⟨us, h1, own_keepS h2 (fun r cs hk => k.2 r cs hk), h3⟩)
theorem lst_of_own {α : Type} {E : World → Value → α → Prop} {w : World} {B : Nat} {v : Value} {qs : List α} {us : List Value} (h1 : us.length = qs.length) (h2 : w.ownsRow B TR 3 v qs.length (flat us)) (h3 : ∀ (j : Nat) q, qs[j]? = some q → ∃ u, us[j]? = some u ∧ E w u q) (hn : qs.length ≤ 1000000) : Lst E w v qs := by
  rcases h2.2 with ⟨e, h0⟩ | ⟨g, cap, cur, e, hB, hh, hnc, hcm, hcs, htk⟩
  · obtain rfl : qs = [] := List.eq_nil_of_length_eq_zero h0
    rw [e]
    exact lst_nil E w
  · subst e
    refine ⟨_, _, cap, us, rfl, hnc, rfl, h1, by omega, fun h0 => ⟨_, rfl, (Array.getElem?_eq_some_iff.1 hh).1, fun j u hj => ?_⟩, h3⟩
    have k : Blk w g TR cur := ⟨hh⟩
    rw [add0, k.cell]
    exact take_get htk hj
theorem RowG.lst {w0 w : World} {v : Value} {qs : List Rat} (h : RowG w0 w v qs) (hb : Below w0.heap.size w0 w) (hn : qs.length ≤ 1000000) : Lst RCan w v qs := by
  rcases h with h | h | ⟨us, h1, h2, h3⟩
  · exact h.can_below hb
  · exact h.lst hn
  · exact lst_of_own h1 h2 (fun j q hq => by
      obtain ⟨u, hu, hE⟩ := h3 j q hq
      exact ⟨u, hu, hE.below hb⟩) hn
/-- The work: its rows, and the columns of the first ones. -/
structure WS (w0 w : World) (p : Nat) (G : Option Addr) (m c : Nat) (Hd : Option Addr) (hc : Nat) (N : Nat) (R : Nat → List Rat) (hs : List Nat) : Prop where
  b : Below w0.heap.size w0 w
  pb : w0.heap.size ≤ p
  pc : Blk w p 67 #[.slice G m c, .slice Hd hs.length hc]
  gr : ∃ us : List Value, us.length = m ∧ w.ownsRow w0.heap.size TRs 1 (.slice G m c) m us ∧ ∀ j, j < m → ∃ A cx, us[j]? = some (.slice A N cx) ∧ RowG w0 w (.slice A N cx) (R j)
  hr : w.ownsRow w0.heap.size 3 1 (.slice Hd hs.length hc) hs.length (hs.map fun k => Value.int .i64 (k : Nat))
  ln : ∀ j, j < m → (R j).length = N
  mx : m ≤ 1000000 ∧ N ≤ 1000000
section
variable {w0 w w' : World} {p : Nat} {G : Option Addr} {m c : Nat} {Hd : Option Addr} {hc : Nat} {N : Nat} {R : Nat → List Rat} {hs : List Nat}
theorem WS.below (h : WS w0 w p G m c Hd hc N R hs) (k : Below w.heap.size w w') : WS w0 w' p G m c Hd hc N R hs := by
  obtain ⟨us, h1, h2, h3⟩ := h.gr
  exact ⟨h.b.trans (k.mono h.b.size), h.pb, h.pc.below' k, ⟨us, h1, own_below h2 k, fun j hj => by
    obtain ⟨A, cx, hu, hr⟩ := h3 j hj
    exact ⟨A, cx, hu, hr.kp2 (Kp2.bel k)⟩⟩, own_below h.hr k, h.ln, h.mx⟩
/-- A row. -/
theorem WS.row (h : WS w0 w p G m c Hd hc N R hs) {j : Nat} (hj : j < m) : ∃ g A cx, G = some ⟨g, 0, none⟩ ∧ w.cell? ⟨g, j, none⟩ = some (.slice A N cx) ∧ RowG w0 w (.slice A N cx) (R j) := by
  obtain ⟨us, h1, h2, h3⟩ := h.gr
  obtain ⟨g, cap, cur, e, hB, hn, hm, hk, hs, ht⟩ := own_some h2 (by omega)
  cases e
  obtain ⟨A, cx, hu, hr⟩ := h3 j hj
  exact ⟨g, A, cx, rfl, (hk.cell j).trans (take_get ht hu), hr⟩
theorem WS.rowL (h : WS w0 w p G m c Hd hc N R hs) {j : Nat} (hj : j < m) : ∃ g A cx, G = some ⟨g, 0, none⟩ ∧ w.cell? ⟨g, j, none⟩ = some (.slice A N cx) ∧ Lst RCan w (.slice A N cx) (R j) := by
  obtain ⟨g, A, cx, e, h1, h2⟩ := h.row hj
  exact ⟨g, A, cx, e, h1, h2.lst h.b (by rw [h.ln j hj]; exact h.mx.2)⟩
theorem WS.gblk {g : Nat} (h : WS w0 w p (some ⟨g, 0, none⟩) m c Hd hc N R hs) (hm : 0 < m) : ∃ cur, Hid (Blk w g TRs cur) := by
  obtain ⟨us, h1, h2, h3⟩ := h.gr
  obtain ⟨g', cap, cur, e, hB, hn, hm, hk, hs, ht⟩ := own_some h2 hm
  cases e
  exact ⟨cur, hk⟩
/-- The rows from one on. -/
theorem WS.gst (h : WS w0 w p G m c Hd hc N R hs) {n : Nat} (hn : n ≤ m) (hm0 : 0 < m) : ∃ g, G = some ⟨g, 0, none⟩ ∧ m ≤ c ∧ Gst RCan w (.slice (some ⟨g, n, none⟩) (m - n) (c - n)) ((List.range (m - n)).map fun i => R (n + i)) := by
  obtain ⟨us, h1, h2, h3⟩ := h.gr
  obtain ⟨g, cap, cur, e, hB, hnc, hm, hk, hs, ht⟩ := own_some h2 (by omega)
  cases e
  have hmx := h.mx.1
  refine ⟨g, rfl, hnc, _, _, _, us.drop n, rfl, by omega, by simp, by rw [List.length_drop]; omega, by omega, fun h0 => ⟨_, rfl, hk.lt, fun j u hj => ?_⟩, fun j qs hq => ?_⟩
  · rw [List.getElem?_drop] at hj
    have := (hk.cell (n + j)).trans (take_get ht hj)
    rw [← this]
    unfold Addr.add
    split
    · next q => subst q; rfl
    · rfl
  · have hj : j < m - n := by
      have := (List.getElem?_eq_some_iff.1 hq).1
      simpa using this
    rw [List.getElem?_map, List.getElem?_range hj] at hq
    cases hq
    obtain ⟨A, cx, hu, hr⟩ := h3 (n + j) (by omega)
    exact ⟨_, by rw [List.getElem?_drop]; exact hu, hr.lst h.b (by rw [h.ln _ (by omega)]; exact h.mx.2)⟩
/-- Another row stands at a place. -/
theorem own_set1 {t : TypeId} {w : World} {B g m c : Nat} {us : List Value} (h : w.ownsRow B t 1 (.slice (some ⟨g, 0, none⟩) m c) m us) {i : Nat} (hi : i < m) (u : Value) : (w.setCell ⟨g, i, none⟩ u).ownsRow B t 1 (.slice (some ⟨g, 0, none⟩) m c) m (us.set i u) := by
  refine ⟨by rw [List.length_set]; exact h.1, ?_⟩
  rcases h.2 with ⟨e, h0⟩ | ⟨g', cap, cur, e, hB, hh, hnc, hcm, hcs, htk⟩
  · cases e
  · cases e
    have k : Blk w g t cur := ⟨hh⟩
    refine .inr ⟨g, c, cur.setIfInBounds i u, rfl, hB, (k.set_ i u).eq, hnc, hcm, by simpa using hcs, ?_⟩
    rw [Array.toList_setIfInBounds, ← htk, List.take_set]
theorem WS.set {g : Nat} (h : WS w0 w p (some ⟨g, 0, none⟩) m c Hd hc N R hs) {i : Nat} (hi : i < m) {A : Option Addr} {cx : Nat} {qs : List Rat} (hq : RowG w0 w (.slice A N cx) qs) (hl : qs.length = N) : WS w0 (w.setCell ⟨g, i, none⟩ (.slice A N cx)) p (some ⟨g, 0, none⟩) m c Hd hc N (fun j => if j = i then qs else R j) hs := by
  obtain ⟨us, h1, h2, h3⟩ := h.gr
  obtain ⟨g', cap, cur, e, hB, hn, hm, hk, hs', ht⟩ := own_some h2 (by omega)
  cases e
  have k2 : Kp2 w (w.setCell ⟨g, i, none⟩ (.slice A N cx)) := Kp2.set hk (by decide) (by decide) i _
  refine ⟨h.b.setCell (p := ⟨g, i, none⟩) hB _, h.pb, h.pc.far (p := ⟨g, i, none⟩) (h.pc.type_ne hk (by decide)) _, ⟨us.set i (.slice A N cx), by simpa using h1, own_set1 h2 hi _, fun j hj => ?_⟩, own_keepS h.hr (fun r cs hk' => hk'.far (p := ⟨g, i, none⟩) (hk'.type_ne hk (by decide)) _), fun j hj => ?_, h.mx⟩
  · by_cases e : j = i
    · subst e
      refine ⟨A, cx, ?_, ?_⟩
      · rw [List.getElem?_set_self (by omega)]
      · rw [if_pos rfl]; exact hq.kp2 k2
    · obtain ⟨A', cx', hu, hr⟩ := h3 j hj
      refine ⟨A', cx', ?_, ?_⟩
      · rw [List.getElem?_set_ne (by omega)]; exact hu
      · rw [if_neg e]; exact hr.kp2 k2
  · by_cases e : j = i
    · rw [if_pos e]; exact hl
    · rw [if_neg e]; exact h.ln j hj
end
theorem WS.more {w0 w w' : World} {p : Nat} {G : Option Addr} {m c : Nat} {Hd : Option Addr} {hc N : Nat} {R : Nat → List Rat} {hs : List Nat} (h : WS w0 w p G m c Hd hc N R hs) {H' : Option Addr} {hc' k : Nat} (q1 : w'.ownsRow w0.heap.size 3 1 (.slice H' (hs.length + 1) hc') (hs.length + 1) ((hs.map fun k => Value.int .i64 (k : Nat)) ++ [.int .i64 (k : Nat)])) (q2 : w.grownBy w' (Value.slice Hd hs.length hc).ownBlock) : WS w0 (w'.setCell ⟨p, 1, none⟩ (.slice H' (hs.length + 1) hc')) p G m c H' hc' N R (hs ++ [k]) := by
  have far : ∀ t, t ≠ 3 → ∀ g cs, Blk w g t cs → Blk w' g t cs := fun t ht g cs hk => blk_grown h.hr q2 hk ht
  have hp := far _ (by decide) _ _ h.pc
  have far2 : ∀ t, t ≠ 3 → t ≠ 67 → ∀ g cs, Blk w g t cs → Blk (w'.setCell ⟨p, 1, none⟩ (.slice H' (hs.length + 1) hc')) g t cs := fun t ht ht2 g cs hk => (far t ht g cs hk).far (p := ⟨p, 1, none⟩) ((far t ht g cs hk).type_ne hp ht2) _
  obtain ⟨us, h1, h2, h3⟩ := h.gr
  have b1 : Below w0.heap.size w w' := (Below.refl _ _).grown q2 h.b.size (fun k e => (own_rowT h.hr k e).1)
  refine ⟨(h.b.trans b1).setCell (p := ⟨p, 1, none⟩) h.pb _, h.pb, ?_, ⟨us, h1, own_keepS h2 (far2 _ (by decide) (by decide)), fun j hj => ?_⟩, ?_, h.ln, h.mx⟩
  · have := hp.set_ 1 (.slice H' (hs.length + 1) hc')
    rw [List.length_append]
    exact this
  · obtain ⟨A, cx, hu, hr⟩ := h3 j hj
    exact ⟨A, cx, hu, hr.kp2 ⟨far2 _ (by decide) (by decide), far2 _ (by decide) (by decide)⟩⟩
  · rw [List.length_append, List.map_append]
    exact own_keepS q1 (fun r cs hk => hk.far (p := ⟨p, 1, none⟩) (hk.type_ne hp (by decide)) _)
/-- Has a row a number there? -/
def nz (k : Nat) (qs : List Rat) : Bool := decide (qs.getD k 0 ≠ 0)
abbrev hdF (g : Nat) : Value := .func (.func 61) #[] #[.pointer (some ⟨g, 0, none⟩)]
theorem getD_of {qs : List Rat} {k : Nat} {q : Rat} (h : qs[k]? = some q) : qs.getD k 0 = q := by rw [List.getD_eq_getElem?_getD, h]; rfl
theorem cmp0 (q : Rat) : (cmpQ q 0 = 0) ↔ q = 0 := by
  unfold cmpQ
  by_cases h : q < 0
  · rw [if_pos h]
    constructor
    · intro e; cases e
    · intro e; subst e; exact absurd h Rat.lt_irrefl
  · rw [if_neg h]
    by_cases h2 : q = 0
    · rw [if_pos h2]; simp [h2]
    · rw [if_neg h2]; simp [h2]
set_option maxHeartbeats 1000000 in
theorem head1_ok (w : World) (A : Option Addr) (n c : Nat) (qs : List Rat) (h : Lst RCan w (.slice A n c) qs) (hH : Hs qs 100000000000) (g k : Nat) (hg : w.cell? ⟨g, 0, none⟩ = some (.int .i64 (k : Nat))) (hk : k < n) (hT : Tab w) :
    Calls Tryd.prog 61 #[.slice A n c, .pointer (some ⟨g, 0, none⟩)] w fun e' w' => e' = .returned (.bool (nz k qs)) ∧ Below w.heap.size w w' := by
  refine opq fun R hR => ?_
  have hl := h.len
  obtain ⟨q, hq⟩ : ∃ q, qs[k]? = some q := ⟨_, List.getElem?_eq_getElem (by omega)⟩
  have hz : Hid (nz k qs = decide (q ≠ 0)) := by
    show _ = _
    unfold nz
    rw [getD_of hq]
  have hb : n ≤ 140737488355328 := by rw [← hl]; exact h.le_
  obtain ⟨ad, b, A2, n2, c2, D2, m2, k2, rfl, _, x0, x1, x2, X⟩ := h.at_ tri_can hq
  have X := hide (X.arg (hH q (List.mem_of_getElem? hq)))
  have T := hide hT
  clear hT h hq hl hH
  go_enter Tryd.func61, Tryd.ntmps61
  go_wp2_with fail
  refine (rSign_eq X.out T.out _ rfl).mono ?_
  rintro e' w1 ⟨_, rfl, d0, rfl⟩
  replace d0 := hide d0
  clear hg x0 x1 x2 X
  by_cases e : q = 0
  · have e1 : cmpQ q 0 = 0 := (cmp0 q).2 e
    rw [e1]
    go_wp2
    exact opq_end hR ⟨by rw [hz.out, decide_eq_false (by simpa using e)]; rfl, d0.out⟩
  · have e1 : ¬ (cmpQ q 0 = 0) := fun q' => e ((cmp0 q).1 q')
    generalize cmpQ q 0 = z at *
    go_wp2
    exact opq_end hR ⟨by rw [hz.out, decide_eq_true e]; simp [e1], d0.out⟩
set_option maxHeartbeats 1000000 in
theorem hIndex_ok (w : World) (A : Option Addr) (n c : Nat) (qss : List (List Rat)) (h : Gst RCan w (.slice A n c) qss) (k N : Nat) (hN : ∀ qs ∈ qss, qs.length = N ∧ Hs qs 100000000000) (g : Nat) (hg : w.cell? ⟨g, 0, none⟩ = some (.int .i64 (k : Nat))) (hk : k < N) (hT : Tab w) :
    Calls Tryd.prog 60 #[.slice A n c, hdF g] w fun e w' => ∃ r : Int, e = .returned (.int .i64 r) ∧ Hid ((r = -1 ∧ ∀ qs ∈ qss, nz k qs = false) ∨ ∃ i : Nat, r = (i : Int) ∧ ∃ qs, qss[i]? = some qs ∧ nz k qs = true) ∧ Hid (Below w.heap.size w w') := by
  refine opq fun R hR => ?_
  have L := hide h
  have T := hide hT
  have hq := hide h.len
  have hn : n ≤ 140737488355328 := by rw [← h.len]; exact h.le_
  replace hg := hide hg
  replace hN := hide hN
  replace hk := hide hk
  clear h hT
  go_enter Tryd.func60, Tryd.ntmps60
  go_wp2
  go_loopw [8] (fun iv wr => ∃ (i : Nat), i ≤ n ∧ iv = .int .i64 (i : Nat) ∧ Hid (∀ qs ∈ qss.take i, nz k qs = false) ∧ Hid (Below w.heap.size w wr)) (fun iv _ => n - (intOf iv).toNat)
  case atStart => exact ⟨0, by omega, rfl, fun qs hq => (by simp at hq), Below.refl _ _⟩
  case round =>
    obtain ⟨i, hi, rfl, hall, hbel⟩ := hrel
    by_cases hlt : i < n
    · obtain ⟨x, hx⟩ : ∃ x, qss[i]? = some x := ⟨_, List.getElem?_eq_getElem (by rw [hq.out]; exact hlt)⟩
      obtain ⟨ad, A1, c1, rfl, _, x0, X⟩ := (L.out.can_below hbel.out).at_ hx
      have hT := hide (show qss.take (i + 1) = qss.take i ++ [x] by
        rw [List.take_add_one, hx]; rfl)
      have hx2 := hide (hN.out x (List.mem_of_getElem? hx))
      rw [hx2.out.1] at x0 X
      replace X := hide X
      replace hx := hide hx
      go_wp2_with fail
      refine (head1_ok _ A1 N c1 x X.out hx2.out.2 g k (cell_below hbel.out hg.out) hk.out (T.out.below hbel.out)).mono ?_
      rintro e w1 ⟨rfl, d0⟩
      replace hbel := hide (below_tr hbel.out d0)
      clear d0 x0 X
      by_cases hr : nz k x = true
      · rw [hr]
        have h2 : Hid ((((i : Nat) : Int) = -1 ∧ ∀ qs ∈ qss, nz k qs = false) ∨ ∃ i' : Nat, ((i : Nat) : Int) = (i' : Int) ∧ ∃ qs, qss[i']? = some qs ∧ nz k qs = true) := .inr ⟨i, rfl, x, hx.out, hr⟩
        go_wp2
        exact opq_end hR ⟨_, rfl, h2, hbel⟩
      · have hr2 : nz k x = false := by simpa using hr
        rw [hr2]
        have h2 : Hid (∀ qs ∈ qss.take (i + 1), nz k qs = false) := fun qs hqs => by
          rw [hT.out] at hqs
          rcases List.mem_append.1 hqs with hqs | hqs
          · exact hall.out qs hqs
          · simp at hqs; subst hqs; exact hr2
        go_wp2
        go_roundw
        case rel => exact ⟨i + 1, by omega, by go_num, h2, hbel⟩
        case measure => simp [intOf]; omega
    · obtain rfl : i = n := by omega
      rw [List.take_of_length_le (by rw [hq.out]; exact Nat.le_refl _)] at hall
      go_wp2
      exact opq_end hR ⟨-1, rfl, .inl ⟨rfl, hall.out⟩, hbel⟩
set_option maxHeartbeats 2000000 in
/-- The first row from a place on that has a number in a column. -/
theorem head_ok {w0 w : World} {p : Nat} {G : Option Addr} {m c : Nat} {Hd : Option Addr} {hc N : Nat} {M : Nat → List Rat} {hs : List Nat} (h : WS w0 w p G m c Hd hc N M hs) (hH : ∀ j, j < m → Hs (M j) 100000000000) (n k : Nat) (hn : n ≤ m) (hm0 : 0 < m) (hk : k < N) (hT : Tab w) :
    Calls Tryd.prog 39 #[.pointer (some ⟨p, 0, none⟩), .int .i64 (n : Nat), .int .i64 (k : Nat)] w fun e w' => ∃ r : Int, e = .returned (.int .i64 r) ∧ Hid ((r = -1 ∧ ∀ i, n ≤ i → i < m → (M i).getD k 0 = 0) ∨ ∃ i : Nat, r = (i : Int) ∧ n ≤ i ∧ i < m ∧ (M i).getD k 0 ≠ 0) ∧ Hid (Below w.heap.size w w') := by
  refine opq fun R hR => ?_
  obtain ⟨g, rfl, hmc, L⟩ := h.gst hn hm0
  have hmx := h.mx
  have K := hide (Blk.new w 3 #[.int .i64 (k : Nat)])
  have b0 := hide ((Below.refl w.heap.size w).alloc (Nat.le_refl _) (.cells #[.int .i64 (k : Nat)] 3))
  have L2 := hide (L.can_below b0.out)
  have P := hide (h.pc.alloc (.cells #[.int .i64 (k : Nat)] 3))
  have hl := hide h.ln
  have T := hide (hT.below b0.out)
  replace hH := hide hH
  clear h L hT
  go_enter Tryd.func39, Tryd.ntmps39
  have p0 := P.out.at_ 0 rfl
  have x0 := K.out.at_ 0 rfl
  by_cases hcn : c = n
  · obtain rfl : n = m := by omega
    subst hcn
    go_wp2_with fail
    have L3 : Gst RCan (w.alloc (.cells #[.int .i64 (k : Nat)] 3)) (.slice (some ⟨g, 0, none⟩) 0 0) [] := ⟨_, 0, 0, [], rfl, Nat.le_refl _, rfl, rfl, (by decide), fun h => absurd h (by decide), fun j q h => (by simp at h)⟩
    refine (hIndex_ok _ _ 0 0 _ L3 k N (fun qs hq => (by cases hq)) _ x0 hk T.out).mono ?_
    rintro e w1 ⟨r, rfl, hr, d0⟩
    replace b0 := hide (below_tr b0.out d0.out)
    clear p0 x0 d0
    have hr' := hide hr.out
    clear hr
    rcases hr'.out with ⟨rfl, h1⟩ | ⟨i, rfl, qs, h1, h2⟩
    · clear h1 hr'
      go_wp2
      exact opq_end hR ⟨-1, rfl, .inl ⟨rfl, fun i h3 h4 => by omega⟩, b0⟩
    · simp at h1
  · go_wp2_with fail
    refine (hIndex_ok _ _ (m - n) (c - n) _ L2.out k N ?_ _ x0 hk T.out).mono ?_
    · intro qs hq
      obtain ⟨i, hi, rfl⟩ := List.mem_map.1 hq
      have := List.mem_range.1 hi
      exact ⟨hl.out (n + i) (by omega), hH.out (n + i) (by omega)⟩
    rintro e w1 ⟨r, rfl, hr, d0⟩
    replace b0 := hide (below_tr b0.out d0.out)
    clear p0 x0 d0
    have hr' := hide hr.out
    clear hr
    rcases hr'.out with ⟨rfl, h1⟩ | ⟨i, rfl, qs, h1, h2⟩
    · have h3 : Hid (∀ i, n ≤ i → i < m → (M i).getD k 0 = 0) := fun i h3 h4 => by
        have := h1 (M i) (List.mem_map.2 ⟨i - n, List.mem_range.2 (by omega), by rw [show n + (i - n) = i by omega]⟩)
        unfold nz at this
        simpa using this
      clear h1 hr'
      go_wp2
      exact opq_end hR ⟨-1, rfl, .inl ⟨rfl, h3.out⟩, b0⟩
    · have hi : i < m - n := by
        have := (List.getElem?_eq_some_iff.1 h1).1
        simpa using this
      have h3 : Hid ((M (n + i)).getD k 0 ≠ 0) := by
        rw [List.getElem?_map, List.getElem?_range hi] at h1
        cases h1
        unfold nz at h2
        show _ ≠ _
        simpa using h2
      clear h1 h2 hr'
      have hi2 : ¬ ((i : Int) < 0) := by omega
      go_wp2
      exact opq_end hR ⟨((n + i : Nat) : Int), by go_num, .inr ⟨n + i, rfl, by omega, by omega, h3.out⟩, b0⟩
end Go.Proofs.YtfpnhggbfakdkaaDoor

/- A region that draws its order and writes once, by facts; how memory may change meanwhile is told. -/
set_option linter.unusedVariables false
set_option linter.unusedSimpArgs false
set_option maxRecDepth 100000
namespace Go.Proofs.YtfpnhggbfakdkaaDoor.RK
open Go.RowKit

/-- How memory may change: it goes on, may grow, and keeps numbers and lists of fractions. -/
structure Mem where
  K : World → World → Prop
  tr : ∀ {a b c}, K a b → K b c → K a c
  bel : ∀ {a b : World}, Below a.heap.size a b → K a b
  size : ∀ {a b : World}, K a b → a.heap.size ≤ b.heap.size
  nums : ∀ {a b : World}, K a b → ∀ g cs, Blk a g T32 cs → Blk b g T32 cs
  rats : ∀ {a b : World}, K a b → ∀ g cs, Blk a g TR cs → Blk b g TR cs
/-- A fact on a value that stays. -/
structure Fact (X : Mem) where
  holds : Value → World → Prop
  stable : ∀ v w w', holds v w → X.K w w' → holds v w'
section
variable {X : Mem}
def Fact.eq (c : Value) : Fact X := ⟨fun v _ => v = c, fun _ _ _ h _ => h⟩
def Fact.any : Fact X := ⟨fun _ _ => True, fun _ _ _ h _ => h⟩
def Fact.rat (q : Rat) (B' : Nat) : Fact X := ⟨fun v w => RatR q B' w v, fun _ _ _ h k => h.k32 (X.nums k)⟩
def Fact.ratR (q : Rat) (B' : Nat) : Fact X := ⟨fun v w => RatR q B' w v, fun _ _ _ h k => h.k32 (X.nums k)⟩
def Fact.olst (qs : List Rat) (B' : Nat) : Fact X := ⟨fun v w => OLst w B' v qs, fun _ _ _ h k => h.kp2 ⟨X.nums k, X.rats k⟩⟩
def Fact.tupE (f : Fact X) (c : Value) : Fact X := ⟨fun v w => ∃ u, v = .tuple #[u, c] ∧ f.holds u w, fun _ w w' ⟨u, h1, h2⟩ hb => ⟨u, h1, f.stable _ w w' h2 hb⟩⟩
def lookF : List (Tmp × Fact X) → Tmp → Fact X
  | [], _ => .any
  | x :: r, t => cond (Nat.beq x.1 t) x.2 (lookF r t)
end
section
variable {P : Program} {ops : Array Oper} {k : Nat} {X : Mem} {V : World} {G : Tmp → Value → World → Prop} {E : (Tmp → Value) → World → Prop} {a0 : Act} {Q : Exit → Act → World → Prop}
/-- What is asked of an operation that yields a value. -/
def StepS (P : Program) (ops : Array Oper) (k : Nat) (X : Mem) (V : World) (G : Tmp → Value → World → Prop) (a0 : Act) (o : Oper) : Prop :=
  ∀ a w, X.K V w → (∀ t, t ∉ dstsOf (preOf ops k) → slot a t = slot a0 t) → (∀ t ∈ o.looksAt ops, t ∈ dstsOf (preOf ops k) → G t (slot a t) w) →
    if Region.wanted o (yielded ops a.tmps) then Does P o a w (fun v w' => Below w.heap.size w w' ∧ (∀ t, o.dst = some t → G t v w') ∧ NewB o v w w')
    else ∀ t, o.dst = some t → G t undef w
/-- .. of the one that writes. -/
def StepN (P : Program) (ops : Array Oper) (k : Nat) (X : Mem) (V : World) (G : Tmp → Value → World → Prop) (E : (Tmp → Value) → World → Prop) (a0 : Act) (o : Oper) : Prop :=
  o.guard = none ∧ (∀ T, o.op ≠ .alloc T) ∧ ∀ a w, X.K V w → (∀ t, t ∉ dstsOf (preOf ops k) → slot a t = slot a0 t) → (∀ t ∈ o.looksAt ops, t ∈ dstsOf (preOf ops k) → G t (slot a t) w) →
    Does P o a w (fun v w' => X.K w w' ∧ E (slot a) w')
def StepOk (P : Program) (ops : Array Oper) (k : Nat) (X : Mem) (V : World) (G : Tmp → Value → World → Prop) (E : (Tmp → Value) → World → Prop) (a0 : Act) (o : Oper) : Prop :=
  (o.dst.isSome = true ∧ StepS P ops k X V G a0 o) ∨ (o.dst = none ∧ StepN P ops k X V G E a0 o)
/-- What holds on the way: of the operations that have come up each one's fact; all else is as it was. -/
structure FreeInv (X : Mem) (ops : Array Oper) (k : Nat) (V : World) (G : Tmp → Value → World → Prop) (E : (Tmp → Value) → World → Prop) (a0 : Act) (listed : Array Bool) (a : Act) (w : World) : Prop where
  cls : X.K V w
  same : ∀ t, t ∉ dstsOf (preOf ops k) → slot a t = slot a0 t
  size : a.tmps.size = a0.tmps.size
  defs : a.defers = a0.defers
  done : ∀ (j : Nat) o t, j < k → ops[j]? = some o → listed.getD j false = true → o.dst = some t → G t (slot a t) w
  len : listed.size = ops.size
  closed : ∀ (j : Nat) o, ops[j]? = some o → listed.getD j false = true → ∀ e ∈ o.after, Region.binds .any e = true → listed.getD e.on false = true
  late : ∀ j, k ≤ j → listed.getD j false = false
  old : ∀ (j : Nat) o t T, j < k → ops[j]? = some o → listed.getD j false = true → o.dst = some t → o.op = .alloc T → o.guard = none → ∃ g, slot a t = .pointer (some ⟨g, 0, none⟩) ∧ g < w.heap.size
  new : ∀ (j j' : Nat) o o' t t' T T', j < k → j' < k → j ≠ j' → ops[j]? = some o → ops[j']? = some o' → listed.getD j false = true → listed.getD j' false = true → o.dst = some t → o'.dst = some t' → o.op = .alloc T → o'.op = .alloc T' → o.guard = none → o'.guard = none → slot a t ≠ slot a t'
  did : ∀ (j : Nat) o, j < k → ops[j]? = some o → listed.getD j false = true → o.dst = none → E (slot a) w
theorem wpAny_free (hB : freeB ops k = true) (hin : ∀ t ∈ dstsOf (preOf ops k), t < a0.tmps.size) (hG : ∀ t ∈ dstsOf (preOf ops k), ∀ v w w', G t v w → X.K w w' → G t v w')
    (hstep : ∀ (i : Nat) o, i < k → ops[i]? = some o → StepOk P ops k X V G E a0 o)
    (hone : ∀ (j j' : Nat) o o', j < k → j' < k → ops[j]? = some o → ops[j']? = some o' → o.dst = none → o'.dst = none → j = j')
    (hE : ∀ (j : Nat) o, j < k → ops[j]? = some o → o.dst = none → ∀ s s' w w', E s w → (∀ t, t ∈ o.looksAt ops → t ∈ dstsOf (preOf ops k) → s t = s' t) → Below w.heap.size w w' → E s' w')
    (hQ : ∀ a w, X.K V w → (∀ t, t ∉ dstsOf (preOf ops k) → slot a t = slot a0 t) → a.tmps.size = a0.tmps.size → a.defers = a0.defers → (∀ t ∈ dstsOf (preOf ops k), G t (slot a t) w) → NewA ops k (slot a) → (∀ (j : Nat) o, j < k → ops[j]? = some o → o.dst = none → E (slot a) w) → wpList P ops Q (ops.toList.drop k) a w) :
    ∀ (fuel : Nat) (listed : Array Bool) (a : Act) (w : World), listed.count false ≤ fuel → FreeInv X ops k V G E a0 listed a w → wpAny P .any ops Q fuel listed a w := by
  have hks := (freeB_parts hB).1
  have fin : ∀ (fuel : Nat) (listed : Array Bool) (a : Act) (w : World), listed.count false ≤ fuel → (∀ j, j < k → listed.getD j false = true) → FreeInv X ops k V G E a0 listed a w → wpAny P .any ops Q fuel listed a w := by
    intro fuel listed a w hc hall I
    refine wpAny_tail hB fuel k listed a w (Nat.le_refl _) ?_ I.len (fun j h1 _ => hall j h1) I.late (hQ a w I.cls I.same I.size I.defs (fun t ht => ?_) (fun j j' o o' t t' T T' h1 h2 h3 h4 h5 => I.new j j' o o' t t' T T' h1 h2 h3 h4 h5 (hall j h1) (hall j' h2)) (fun j o h1 h2 h3 => I.did j o h1 h2 (hall j h1) h3))
    · have hcount : ops.size - k ≤ listed.count false := by
        have : (listed.toList.drop k).count false ≤ listed.toList.count false := List.Sublist.count_le _ (List.drop_sublist _ _)
        have e1 : listed.toList.count false = listed.count false := Array.count_toList ..
        rw [e1] at this
        refine Nat.le_trans ?_ this
        have hall2 : ∀ b ∈ listed.toList.drop k, false = b := by
          intro b hb
          obtain ⟨j, hj⟩ := List.mem_iff_getElem?.1 hb
          rw [List.getElem?_drop, Array.getElem?_toList] at hj
          have := I.late (k + j) (by omega)
          rw [Array.getD_eq_getD_getElem?, hj] at this
          simpa using this.symm
        rw [List.count_eq_length.2 hall2, List.length_drop, Array.length_toList, I.len]
        exact Nat.le_refl _
      omega
    · obtain ⟨j, o, h0, h1, h2⟩ := mem_pre.1 ht
      exact I.done j o t h0 h1 (hall j h0) h2
  intro fuel
  induction fuel with
  | zero =>
    intro listed a w hc I
    refine fin 0 listed a w hc (fun j hj => ?_) I
    have h0 : listed.count false = 0 := by omega
    rw [Array.count_eq_zero] at h0
    have h1 : j < listed.size := by have := I.len; omega
    have : listed[j] ≠ false := fun e => h0 (by rw [← e]; exact Array.getElem_mem h1)
    simp only [Array.getD_eq_getD_getElem?, Array.getElem?_eq_getElem h1, Option.getD_some]
    simpa using this
  | succ fuel ih =>
    intro listed a w hc I
    by_cases hpre : ∀ j ∈ Region.ready .any ops listed, k ≤ j
    · exact fin (fuel + 1) listed a w hc (pre_listed hB I.len hpre) I
    -- something of the first part may come up still: then nothing of the rest may
    have hall : ∀ i ∈ Region.ready .any ops listed, i < k := by
      intro i hi
      refine Decidable.byContradiction fun hik => hpre fun j hj => ?_
      refine Decidable.byContradiction fun hjk => ?_
      obtain ⟨_, o, ho, h3⟩ := mem_ready.1 hi
      obtain ⟨h1, o', ho', _⟩ := mem_ready.1 hj
      have hjl := (Array.getElem?_eq_some_iff.1 ho').1
      have := listed_before listed I.closed i o ho h3 (freeB_tail hB (by omega) ho (by omega : j < i))
      have h4 : j < listed.size := by have := I.len; omega
      simp only [Array.getD_eq_getD_getElem?, Array.getElem?_eq_getElem h4, Option.getD_some] at h1 this
      rw [h1] at this
      cases this
    refine ⟨fun hr => absurd (fun j hj => by rw [hr] at hj; cases hj) hpre, fun i hi => ?_⟩
    have hik := hall i hi
    obtain ⟨hun, o, ho, hdeps⟩ := mem_ready.1 hi
    have hil : i < listed.size := by have := (Array.getElem?_eq_some_iff.1 ho).1; have := I.len; omega
    have hcount : (listed.setIfInBounds i true).count false ≤ fuel := by
      have hv : listed[i] = false := by
        simp only [Array.getD_eq_getD_getElem?, Array.getElem?_eq_getElem hil, Option.getD_some] at hun
        exact hun
      rw [Array.setIfInBounds, dif_pos hil, Array.count_set hil, hv]
      have : 0 < listed.count false := Array.count_pos_iff.2 (by rw [← hv]; exact Array.getElem_mem hil)
      simp
      omega
    have hlooks : ∀ t ∈ o.looksAt ops, t ∈ dstsOf (preOf ops k) → G t (slot a t) w := fun t ht hd => by
      obtain ⟨j, o', hj0, hj, hd'⟩ := mem_pre.1 hd
      exact I.done j o' t hj0 hj (listed_before listed I.closed i o ho hdeps (freeB_waits hB hik hj0 ho hj ht hd')) hd'
    have hs := hstep i o hik ho
    have next : ∀ v w', X.K w w' → (o.dst.isSome = true → Below w.heap.size w w') → (o.dst = none → E (slot a) w') → (∀ t, o.dst = some t → G t v w') → (o.guard = none → NewB o v w w') → FreeInv X ops k V G E a0 (listed.setIfInBounds i true) (a.put o.dst v) w' := fun v w' hb hbl hEn hg hnew => by
      refine ⟨X.tr I.cls hb, fun t ht => ?_, ?_, ?_, fun j o' t hj0 hj hlj hd => ?_, by rw [Array.size_setIfInBounds]; exact I.len, fun j o' hj hlj e he hbd => ?_, fun j hj => by rw [getD_set_ne false (by omega)]; exact I.late j hj, fun j o' t T hj0 hj hlj hd hop hgn => ?_, fun j j' o1 o2 t t' T T' h1 h2 h3 h4 h5 h6 h7 h8 h9 h10 h11 h12 h13 => ?_, fun j o' h1 h2 h3 h4 => ?_⟩
      · rw [slot_put]
        · exact I.same t ht
        · intro e; exact ht (mem_pre.2 ⟨i, o, hik, ho, e⟩)
      · rw [← I.size]; unfold Act.put; split <;> simp
      · rw [← I.defs]; unfold Act.put; split <;> rfl
      · by_cases hij : j = i
        · subst hij
          rw [ho] at hj
          cases hj
          rw [hd, slot_put_same a v t (by rw [I.size]; exact hin t (mem_pre.2 ⟨j, o, hik, ho, hd⟩))]
          exact hg t hd
        · rw [slot_put _ _ _ _ (fun e => hij (freeB_nodup hB hj0 hik hj ho hd e))]
          refine hG t (mem_pre.2 ⟨j, o', hj0, hj, hd⟩) _ _ _ (I.done j o' t hj0 hj ?_ hd) hb
          rwa [getD_set_ne false (Ne.symm hij)] at hlj
      · by_cases hij : j = i
        · subst hij
          rw [ho] at hj
          cases hj
          exact getD_set_true (hdeps e he hbd)
        · rw [getD_set_ne false (Ne.symm hij)] at hlj
          exact getD_set_true (I.closed j o' hj hlj e he hbd)
      · by_cases hij : j = i
        · subst hij
          rw [ho] at hj
          cases hj
          obtain ⟨e1, e2⟩ := hnew hgn T hop
          refine ⟨_, ?_, e2⟩
          rw [hd, slot_put_same a v t (by rw [I.size]; exact hin t (mem_pre.2 ⟨j, o, hik, ho, hd⟩)), e1]
        · rw [slot_put _ _ _ _ (fun e => hij (freeB_nodup hB hj0 hik hj ho hd e))]
          rw [getD_set_ne false (Ne.symm hij)] at hlj
          obtain ⟨g, e1, e2⟩ := I.old j o' t T hj0 hj hlj hd hop hgn
          exact ⟨g, e1, Nat.lt_of_lt_of_le e2 (X.size hb)⟩
      · have key : ∀ (j j' : Nat) o1 o2 t t' T T', j < k → j' < k → j = i → j' ≠ i → ops[j]? = some o1 → ops[j']? = some o2 → (listed.setIfInBounds i true).getD j' false = true → o1.dst = some t → o2.dst = some t' → o1.op = .alloc T → o2.op = .alloc T' → o1.guard = none → o2.guard = none → slot (a.put o.dst v) t ≠ slot (a.put o.dst v) t' := by
          intro j j' o1 o2 t t' T T' h1 h2 h3 h3' h4 h5 h7 h8 h9 h10 h11 h12 h13
          subst h3
          rw [ho] at h4
          cases h4
          obtain ⟨e1, _⟩ := hnew h12 T h10
          rw [getD_set_ne false (Ne.symm h3')] at h7
          obtain ⟨g, e3, e4⟩ := I.old j' o2 t' T' h2 h5 h7 h9 h11 h13
          rw [slot_put _ _ _ t' (fun e => h3' (freeB_nodup hB h2 hik h5 ho h9 e)), e3, h8, slot_put_same a v t (by rw [I.size]; exact hin t (mem_pre.2 ⟨j, o, hik, ho, h8⟩)), e1]
          intro q
          cases q
          exact Nat.lt_irrefl _ e4
        by_cases hji : j = i
        · exact key j j' o1 o2 t t' T T' h1 h2 hji (fun e => h3 (hji.trans e.symm)) h4 h5 h7 h8 h9 h10 h11 h12 h13
        · by_cases hji' : j' = i
          · exact (key j' j o2 o1 t' t T' T h2 h1 hji' hji h5 h4 h6 h9 h8 h11 h10 h13 h12).symm
          · rw [slot_put _ _ _ t (fun e => hji (freeB_nodup hB h1 hik h4 ho h8 e)), slot_put _ _ _ t' (fun e => hji' (freeB_nodup hB h2 hik h5 ho h9 e))]
            rw [getD_set_ne false (Ne.symm hji)] at h6
            rw [getD_set_ne false (Ne.symm hji')] at h7
            exact I.new j j' o1 o2 t t' T T' h1 h2 h3 h4 h5 h6 h7 h8 h9 h10 h11 h12 h13
      · by_cases hij : j = i
        · subst hij
          rw [ho] at h2
          cases h2
          have e : ∀ t, slot (a.put o.dst v) t = slot a t := fun t => slot_put _ _ _ _ (by rw [h4]; intro q; cases q)
          have : slot (a.put o.dst v) = slot a := funext e
          rw [this]
          exact hEn h4
        · rw [getD_set_ne false (Ne.symm hij)] at h3
          have hs : o.dst.isSome = true := by
            cases hd : o.dst with
            | none => exact absurd (hone j i o' o h1 hik h2 ho h4 hd) hij
            | some t => rfl
          refine hE j o' h1 h2 h4 _ _ _ _ (I.did j o' h1 h2 h3 h4) (fun t ht hdt => ?_) (hbl hs)
          rw [slot_put]
          intro e
          have hbf := freeB_waits hB h1 hik h2 ho ht e
          have hcl := I.closed j o' h2 h3
          have := listed_before listed I.closed j o' h2 hcl hbf
          simp only [Array.getD_eq_getD_getElem?, Array.getElem?_eq_getElem hil, Option.getD_some] at hun this
          rw [this] at hun
          cases hun
    unfold wpOp
    simp only [ho]
    rcases hs with ⟨hsome, hs⟩ | ⟨hnone, hgn, hna, hs⟩
    · have hs := hs a w I.cls I.same hlooks
      have hno : o.dst = none → False := fun e => by rw [e] at hsome; cases hsome
      split at hs
      · next hw =>
        rw [if_pos hw]
        exact .inl (wp_of_does hs fun v w' ⟨hb, hg, hn⟩ => ih _ _ _ hcount (next v w' (X.bel hb) (fun _ => hb) (fun e => (hno e).elim) hg (fun _ => hn)))
      · next hw =>
        rw [if_neg hw]
        exact ih _ _ _ hcount (next undef w (X.bel (Below.refl _ _)) (fun _ => Below.refl _ _) (fun e => (hno e).elim) hs (fun q => by unfold Region.wanted at hw; rw [q] at hw; exact absurd rfl hw))
    · have hs := hs a w I.cls I.same hlooks
      have hw : Region.wanted o (yielded ops a.tmps) = true := by unfold Region.wanted; rw [hgn]
      rw [if_pos hw]
      exact .inl (wp_of_does hs fun v w' ⟨hb, he⟩ => ih _ _ _ hcount (next v w' hb (fun e => by rw [hnone] at e; cases e) (fun _ => he) (fun t e => by rw [hnone] at e; cases e) (fun _ => .no hna)))

/-- **A fact for each slot serves every order.** -/
theorem wp_region_free {id : Nat} {w : World} (hm : P.follows .mixedOrders = true) (hB : freeB ops k = true) (hin : ∀ t ∈ dstsOf (preOf ops k), t < a0.tmps.size)
    (hG : ∀ t ∈ dstsOf (preOf ops k), ∀ v w w', G t v w → X.K w w' → G t v w') (h0 : X.K V w.drew)
    (hstep : ∀ (i : Nat) o, i < k → ops[i]? = some o → StepOk P ops k X V G E a0 o)
    (hone : ∀ (j j' : Nat) o o', j < k → j' < k → ops[j]? = some o → ops[j']? = some o' → o.dst = none → o'.dst = none → j = j')
    (hE : ∀ (j : Nat) o, j < k → ops[j]? = some o → o.dst = none → ∀ s s' w w', E s w → (∀ t, t ∈ o.looksAt ops → t ∈ dstsOf (preOf ops k) → s t = s' t) → Below w.heap.size w w' → E s' w')
    (hQ : ∀ a w, X.K V w → (∀ t, t ∉ dstsOf (preOf ops k) → slot a t = slot a0 t) → a.tmps.size = a0.tmps.size → a.defers = a0.defers → (∀ t ∈ dstsOf (preOf ops k), G t (slot a t) w) → NewA ops k (slot a) → (∀ (j : Nat) o, j < k → ops[j]? = some o → o.dst = none → E (slot a) w) → wpList P ops Q (ops.toList.drop k) a w) :
    (Code.region id ops true).wp P Q a0 w := by
  have hf : ∀ j, (Array.replicate ops.size false).getD j false = false := fun j => by
    simp only [Array.getD_eq_getD_getElem?, Array.getElem?_replicate]
    split <;> rfl
  refine wp_region_any hm (wpAny_free hB hin hG hstep hone hE hQ ops.size _ a0 _ ?_ ⟨h0, fun _ _ => rfl, rfl, rfl, fun j o t _ hj hl _ => ?_, by simp, fun j o hj hl => ?_, fun j _ => hf j, fun j o t T _ _ hl => ?_, fun j j' o o' t t' T T' _ _ _ _ _ hl => ?_, fun j o _ _ hl _ => ?_⟩)
  · refine Nat.le_trans Array.count_le_size (by simp)
  · rw [hf] at hl; cases hl
  · rw [hf] at hl; cases hl
  · rw [hf] at hl; cases hl
  · rw [hf] at hl; cases hl
  · rw [hf] at hl; cases hl
end
section
variable {P : Program} {ops : Array Oper} {k : Nat} {X : Mem} {V : World} {l : List (Tmp × Fact X)} {E : (Tmp → Value) → World → Prop} {a0 : Act} {Q : Exit → Act → World → Prop} {o : Oper}
def StepsOk (P : Program) (ops : Array Oper) (k : Nat) (X : Mem) (V : World) (l : List (Tmp × Fact X)) (E : (Tmp → Value) → World → Prop) (a0 : Act) : List Oper → Prop
  | [] => True
  | o :: r => StepOk P ops k X V (fun t => (lookF l t).holds) E a0 o ∧ StepsOk P ops k X V l E a0 r
theorem StepsOk.get {os : List Oper} (h : StepsOk P ops k X V l E a0 os) : ∀ o ∈ os, StepOk P ops k X V (fun t => (lookF l t).holds) E a0 o := by
  induction os with
  | nil => intro o hm; cases hm
  | cons x r ih =>
    intro o hm
    have h1 : StepOk P ops k X V (fun t => (lookF l t).holds) E a0 x ∧ StepsOk P ops k X V l E a0 r := h
    rcases List.mem_cons.1 hm with e | hm
    · rw [e]; exact h1.1
    · exact ih h1.2 o hm

/-- **The region by a list of facts.** -/
theorem wp_region_facts {id : Nat} {w : World} {l0 : List Value} {d0 : List Deferred} (k : Nat) (X : Mem) (V : World) (l : List (Tmp × Fact X)) (E : (Tmp → Value) → World → Prop) (ms : List Bool) (hm : P.follows .mixedOrders = true) (hB : freeB ops k = true) (hms : maskOf ops k l0.length = ms)
    (hin : (dstsOf (preOf ops k)).all (fun t => Nat.blt t l0.length) = true)
    (h0 : X.K V w.drew)
    (hone : ∀ (j j' : Nat) o o', j < k → j' < k → ops[j]? = some o → ops[j']? = some o' → o.dst = none → o'.dst = none → j = j')
    (hE : ∀ (j : Nat) o, j < k → ops[j]? = some o → o.dst = none → ∀ s s' w w', E s w → (∀ t, t ∈ o.looksAt ops → t ∈ dstsOf (preOf ops k) → s t = s' t) → Below w.heap.size w w' → E s' w')
    (hstep : StepsOk P ops k X V l E ⟨l0.toArray, d0⟩ (ops.toList.take k))
    (hQ : ∀ (f : Tmp → Value) w, X.K V w → (∀ t, (dstsOf (preOf ops k)).elem t = true → (lookF l t).holds (f t) w) → NewA ops k f → (∀ (j : Nat) o, j < k → ops[j]? = some o → o.dst = none → E f w) → wpList P ops Q (ops.toList.drop k) ⟨(patch ms f 0 l0).toArray, d0⟩ w) :
    (Code.region id ops true).wp P Q ⟨l0.toArray, d0⟩ w := by
  refine wp_region_free (X := X) (V := V) (E := E) (G := fun t => (lookF l t).holds) hm hB (fun t ht => ?_) (fun t _ v w w' h hb => (lookF l t).stable v w w' h hb) h0
    (fun i o hik hi => hstep.get o (List.mem_iff_getElem?.2 ⟨i, by rw [List.getElem?_take, if_pos hik, Array.getElem?_toList]; exact hi⟩)) hone hE fun a w hc hs hz hd hf hnew hdid => ?_
  · have := List.all_eq_true.1 hin t ht
    simpa [Nat.blt_eq] using this
  · have e : a = ⟨(patch ms (slot a) 0 l0).toArray, d0⟩ := by
      obtain ⟨tm, df⟩ := a
      simp only at hd hz
      subst hd
      have hlen : ms.length = l0.length := by rw [← hms, maskOf, List.length_map, List.length_range]
      congr 1
      apply Array.ext'
      apply List.ext_getElem?
      intro j
      show _ = (patch ms (slot ⟨tm, _⟩) 0 l0)[j]?
      rw [patch_get ms _ 0 l0 hlen j, Nat.zero_add, Array.getElem?_toList]
      have hsz : tm.size = l0.length := by simpa using hz
      by_cases hj : j < l0.length
      · have hmj : ms[j]? = some ((dstsOf (preOf ops k)).elem j) := by
          rw [← hms, maskOf, List.getElem?_map, List.getElem?_range hj]; rfl
        rw [hmj]
        have hjt : j < tm.size := by omega
        cases hdj : (dstsOf (preOf ops k)).elem j
        · rw [if_neg (by simp)]
          have := hs j (fun q => by rw [List.elem_eq_mem] at hdj; simp at hdj; exact hdj q)
          simp only [slot, Array.getD_eq_getD_getElem?, Array.getElem?_eq_getElem hjt, Option.getD_some, List.getElem?_toArray, List.getElem?_eq_getElem hj] at this
          rw [Array.getElem?_eq_getElem hjt, List.getElem?_eq_getElem hj, this]
        · rw [if_pos rfl]
          simp [slot, hjt]
      · have hmj : ms[j]? = none := List.getElem?_eq_none (by omega)
        rw [hmj, if_neg (by simp), Array.getElem?_eq_none (by omega), List.getElem?_eq_none (by omega)]
    rw [e]
    exact hQ (slot a) w hc (fun t ht => hf t (by rw [List.elem_eq_mem] at ht; simpa using ht)) hnew hdid

/-- The operation is carried out: it has no guard, or its guard's slot holds what it asks. -/
def Want (ops : Array Oper) (k : Nat) {X : Mem} (l : List (Tmp × Fact X)) (o : Oper) : Prop := o.guard = none ∨ ∃ g b t, g < k ∧ o.guard = some (g, b) ∧ ((ops[g]?).bind (·.dst)) = some t ∧ lookF l t = .eq (.bool b)
/-- It is passed over. -/
def Skip (ops : Array Oper) (k : Nat) {X : Mem} (l : List (Tmp × Fact X)) (o : Oper) : Prop := ∃ g b t, g < k ∧ o.guard = some (g, !b) ∧ ((ops[g]?).bind (·.dst)) = some t ∧ lookF l t = .eq (.bool b)
theorem StepS.want (hw : Want ops k l o) (h : ∀ a w, X.K V w → (∀ t, (dstsOf (preOf ops k)).elem t = false → slot a t = slot a0 t) → (∀ t, (o.looksAt ops).elem t = true → (dstsOf (preOf ops k)).elem t = true → (lookF l t).holds (slot a t) w) →
    Does P o a w (fun v w' => Below w.heap.size w w' ∧ (∀ t, o.dst = some t → (lookF l t).holds v w') ∧ NewB o v w w')) : StepS P ops k X V (fun t => (lookF l t).holds) a0 o := by
  intro a w hc hs hl
  have hwant : Region.wanted o (yielded ops a.tmps) = true := by
    unfold Region.wanted
    rcases hw with hg | ⟨g, b, t, hgk, hg, hd, hf⟩
    · rw [hg]
    · obtain ⟨m1, m2⟩ := looks_guard hgk hg hd
      have hv := hl t m1 m2
      simp only [hf] at hv
      simp only [hg]
      rw [yielded_of hd hv]
      simp
  rw [if_pos hwant]
  exact h a w hc (fun t ht => hs t (fun q => by rw [List.elem_eq_mem] at ht; simp at ht; exact ht q)) (fun t h1 h2 => hl t (by rw [List.elem_eq_mem] at h1; simpa using h1) (by rw [List.elem_eq_mem] at h2; simpa using h2))
theorem StepS.skip (hw : Skip ops k l o) (h : ∀ t, o.dst = some t → lookF l t = .eq undef ∨ lookF l t = .any) : StepS P ops k X V (fun t => (lookF l t).holds) a0 o := by
  intro a w hc hs hl
  obtain ⟨g, b, t, hgk, hg, hd, hf⟩ := hw
  have hwant : Region.wanted o (yielded ops a.tmps) = false := by
    unfold Region.wanted
    obtain ⟨m1, m2⟩ := looks_guard hgk hg hd
    have hv := hl t m1 m2
    simp only [hf] at hv
    simp only [hg]
    rw [yielded_of hd hv]
    cases b <;> rfl
  rw [if_neg (by rw [hwant]; decide)]
  intro t ht
  rcases h t ht with e | e <;> simp only [e]
  · rfl
  · trivial

/-! ### the operations -/
theorem StepS.call {t : Tmp} {f : FuncId} {xs : List Operand} {ts : Array TypeId} (hw : Want ops k l o) (ho : o.op = .call { callee := .value (.func f), args := xs.toArray, argTypes := ts }) (hd : o.dst = some t)
    (hf : ∀ args w, (callFunc f args).run P w = .ok (.enter f args) w)
    (h : ∀ a w, X.K V w → (∀ t, (dstsOf (preOf ops k)).elem t = false → slot a t = slot a0 t) → (∀ t, (o.looksAt ops).elem t = true → (dstsOf (preOf ops k)).elem t = true → (lookF l t).holds (slot a t) w) →
      Calls P f (xs.map a.eval).toArray w (fun e w' => ∃ v, e = .returned v ∧ Below w.heap.size w w' ∧ (lookF l t).holds v w')) : StepS P ops k X V (fun t => (lookF l t).holds) a0 o :=
  StepS.want hw fun a w hc hs hl => does_call ho hf ((h a w hc hs hl).mono fun e w' ⟨v, he, hb, hr⟩ => ⟨v, he, hb, fun t' ht => by rw [hd] at ht; cases ht; exact hr, .no fun T e => by rw [ho] at e; cases e⟩)
theorem StepS.load {t : Tmp} {T : TypeId} {x : Operand} (v : Value) (hw : Want ops k l o) (ho : o.op = .load T x) (hd : o.dst = some t)
    (h : ∀ a w, X.K V w → (∀ t, (dstsOf (preOf ops k)).elem t = false → slot a t = slot a0 t) → (∀ t, (o.looksAt ops).elem t = true → (dstsOf (preOf ops k)).elem t = true → (lookF l t).holds (slot a t) w) →
      (Instr.loadAt T (a.eval x)).run P w = .ok v w ∧ (lookF l t).holds v w) : StepS P ops k X V (fun t => (lookF l t).holds) a0 o :=
  StepS.want hw fun a w hc hs hl => does_load ho (h a w hc hs hl).1 ⟨Below.refl _ _, fun t' ht => by rw [hd] at ht; cases ht; exact (h a w hc hs hl).2, .no fun T e => by rw [ho] at e; cases e⟩
theorem StepS.move {t s : Tmp} (hw : Want ops k l o) (ho : o.op = .move (.tmp s) ∨ o.op = .assign (.tmp s)) (hd : o.dst = some t) (h1 : (o.looksAt ops).elem s = true) (h2 : (dstsOf (preOf ops k)).elem s = true) (hf : lookF l t = lookF l s) : StepS P ops k X V (fun t => (lookF l t).holds) a0 o :=
  StepS.want hw fun a w hc hs hl => by
    have : (fun (v : Value) w' => Below w.heap.size w w' ∧ (∀ t, o.dst = some t → (lookF l t).holds v w') ∧ NewB o v w w') (slot a s) w := ⟨Below.refl _ _, fun t' ht => by rw [hd] at ht; cases ht; rw [hf]; exact hl s h1 h2, .no fun T e => by rcases ho with ho | ho <;> (rw [ho] at e; cases e)⟩
    rcases ho with ho | ho
    · exact does_move ho this
    · exact does_assign ho this
/-- .. of a constant, or of a slot that the region does not write. -/
theorem StepS.moveC {t : Tmp} {x : Operand} (hw : Want ops k l o) (ho : o.op = .move x ∨ o.op = .assign x) (hd : o.dst = some t)
    (h : ∀ a w, X.K V w → (∀ t, (dstsOf (preOf ops k)).elem t = false → slot a t = slot a0 t) → (lookF l t).holds (a.eval x) w) : StepS P ops k X V (fun t => (lookF l t).holds) a0 o :=
  StepS.want hw fun a w hc hs hl => by
    have : (fun (v : Value) w' => Below w.heap.size w w' ∧ (∀ t, o.dst = some t → (lookF l t).holds v w') ∧ NewB o v w w') (a.eval x) w := ⟨Below.refl _ _, fun t' ht => by rw [hd] at ht; cases ht; exact h a w hc hs, .no fun T e => by rcases ho with ho | ho <;> (rw [ho] at e; cases e)⟩
    rcases ho with ho | ho
    · exact does_move ho this
    · exact does_assign ho this
theorem StepS.pick {t : Tmp} {c x y : Operand} {b : Bool} (hw : Want ops k l o) (ho : o.op = .pick c x y) (hd : o.dst = some t)
    (h : ∀ a w, X.K V w → (∀ t, (dstsOf (preOf ops k)).elem t = false → slot a t = slot a0 t) → (∀ t, (o.looksAt ops).elem t = true → (dstsOf (preOf ops k)).elem t = true → (lookF l t).holds (slot a t) w) →
      a.eval c = .bool b ∧ (lookF l t).holds (if b then a.eval x else a.eval y) w) : StepS P ops k X V (fun t => (lookF l t).holds) a0 o :=
  StepS.want hw fun a w hc hs hl => does_pick ho (h a w hc hs hl).1 ⟨Below.refl _ _, fun t' ht => by rw [hd] at ht; cases ht; exact (h a w hc hs hl).2, .no fun T e => by rw [ho] at e; cases e⟩
theorem StepS.alloc {t : Tmp} {T : TypeId} (z : Value) (hw : Want ops k l o) (ho : o.op = .alloc T) (hd : o.dst = some t)
    (h : ∀ (a : Act) w, X.K V w → (execOp a.eval o).run P w = .ok (.value (.pointer (some ⟨w.heap.size, 0, none⟩))) (w.alloc (.cells z.cells T)) ∧ (lookF l t).holds (.pointer (some ⟨w.heap.size, 0, none⟩)) (w.alloc (.cells z.cells T))) : StepS P ops k X V (fun t => (lookF l t).holds) a0 o :=
  StepS.want hw fun a w hc hs hl => by
    unfold Does
    rw [(h a w hc).1]
    exact ⟨(Below.refl _ _).alloc (Nat.le_refl _) _, fun t' ht => by rw [hd] at ht; cases ht; exact (h a w hc).2, fun _ _ => ⟨rfl, by simp⟩⟩
theorem StepS.fieldAddr {t : Tmp} {T : TypeId} {x : Operand} {i : Nat} {v : Value} (hw : Want ops k l o) (ho : o.op = .fieldAddr T x i) (hd : o.dst = some t) (hf : lookF l t = .eq v)
    (h : ∀ a w, X.K V w → (∀ t, (dstsOf (preOf ops k)).elem t = false → slot a t = slot a0 t) → (∀ t, (o.looksAt ops).elem t = true → (dstsOf (preOf ops k)).elem t = true → (lookF l t).holds (slot a t) w) →
      (Instr.fieldAt T (a.eval x) i).run P w = .ok v w) : StepS P ops k X V (fun t => (lookF l t).holds) a0 o :=
  StepS.want hw fun a w hc hs hl => does_value (v := v) (by simp [execOp, ho, h a w hc hs hl]) ⟨Below.refl _ _, fun t' ht => by rw [hd] at ht; cases ht; rw [hf]; exact rfl, .no fun T e => by rw [ho] at e; cases e⟩
/-- An operation that reckons a value. -/
theorem StepS.value {t : Tmp} {v : Value} (hw : Want ops k l o) (hna : ∀ T, o.op ≠ .alloc T) (hd : o.dst = some t) (hf : lookF l t = .eq v)
    (h : ∀ a w, X.K V w → (∀ t, (dstsOf (preOf ops k)).elem t = false → slot a t = slot a0 t) → (∀ t, (o.looksAt ops).elem t = true → (dstsOf (preOf ops k)).elem t = true → (lookF l t).holds (slot a t) w) →
      (execOp a.eval o).run P w = .ok (.value v) w) : StepS P ops k X V (fun t => (lookF l t).holds) a0 o :=
  StepS.want hw fun a w hc hs hl => does_value (h a w hc hs hl) ⟨Below.refl _ _, fun t' ht => by rw [hd] at ht; cases ht; rw [hf]; exact rfl, .no hna⟩
theorem StepS.make {t : Tmp} (hw : Want ops k l o) (hna : ∀ T, o.op ≠ .alloc T) (hd : o.dst = some t)
    (h : ∀ a w, X.K V w → (∀ t, (dstsOf (preOf ops k)).elem t = false → slot a t = slot a0 t) → (∀ t, (o.looksAt ops).elem t = true → (dstsOf (preOf ops k)).elem t = true → (lookF l t).holds (slot a t) w) →
      ∃ v, (execOp a.eval o).run P w = .ok (.value v) w ∧ (lookF l t).holds v w) : StepS P ops k X V (fun t => (lookF l t).holds) a0 o :=
  StepS.want hw fun a w hc hs hl => by
    obtain ⟨v, h1, h2⟩ := h a w hc hs hl
    exact does_value h1 ⟨Below.refl _ _, fun t' ht => by rw [hd] at ht; cases ht; exact h2, .no hna⟩
/-- .. and makes memory. -/
theorem StepS.makeW {t : Tmp} (hw : Want ops k l o) (hna : ∀ T, o.op ≠ .alloc T) (hd : o.dst = some t)
    (h : ∀ a w, X.K V w → (∀ t, (dstsOf (preOf ops k)).elem t = false → slot a t = slot a0 t) → (∀ t, (o.looksAt ops).elem t = true → (dstsOf (preOf ops k)).elem t = true → (lookF l t).holds (slot a t) w) →
      ∃ v w', (execOp a.eval o).run P w = .ok (.value v) w' ∧ Below w.heap.size w w' ∧ (lookF l t).holds v w') : StepS P ops k X V (fun t => (lookF l t).holds) a0 o :=
  StepS.want hw fun a w hc hs hl => by
    obtain ⟨v, w', h1, hb, h2⟩ := h a w hc hs hl
    unfold Does
    rw [h1]
    exact ⟨hb, fun t' ht => by rw [hd] at ht; cases ht; exact h2, .no hna⟩
end
end Go.Proofs.YtfpnhggbfakdkaaDoor.RK

/- grids: rows are turned until each that counts has a column of its own. -/
set_option linter.unusedVariables false
set_option linter.unusedSimpArgs false
set_option maxRecDepth 100000
namespace Go.Proofs.YtfpnhggbfakdkaaDoor
open Go.RowKit

def mat (M : Nat → List Rat) : Nat → Nat → Rat := fun i j => (M i).getD j 0
/-- A row loses its number in a column by another one. -/
def tr1 (h : List Rat) (k : Nat) (row : List Rat) : List Rat := if row.getD k 0 = 0 then row else axpy row h (0 - row.getD k 0 / h.getD k 0)
def trd (h : List Rat) (k : Nat) (row : List Rat) : Rat := if row.getD k 0 = 0 then 0 else 0 - row.getD k 0 / h.getD k 0
theorem axpy_getD {ps qs : List Rat} (t : Rat) (h : ps.length = qs.length) (j : Nat) (hj : j < ps.length) : (axpy ps qs t).getD j 0 = ps.getD j 0 + qs.getD j 0 * t := by
  have h1 : ps[j]? = some (ps[j]'hj) := List.getElem?_eq_getElem _
  have h2 : qs[j]? = some (qs[j]'(by omega)) := List.getElem?_eq_getElem _
  have h3 : (axpy ps qs t)[j]? = some (ps[j]'hj + qs[j]'(by omega) * t) := by
    unfold axpy
    have h4 : (ps.zip qs)[j]? = some (ps[j]'hj, qs[j]'(by omega)) := List.getElem?_zip_eq_some.2 ⟨h1, h2⟩
    rw [List.getElem?_map, h4]
    rfl
  rw [getD_of h1, getD_of h2, getD_of h3]
theorem tr1_getD {h row : List Rat} {k : Nat} (e : row.length = h.length) {j : Nat} (hj : j < row.length) : (tr1 h k row).getD j 0 = row.getD j 0 + trd h k row * h.getD j 0 := by
  unfold tr1 trd
  split
  · grind
  · rw [axpy_getD _ e j hj]; grind
theorem tr1_zero {h row : List Rat} {k : Nat} (e : row.length = h.length) (hk : k < row.length) (h0 : h.getD k 0 ≠ 0) : (tr1 h k row).getD k 0 = 0 := by
  rw [tr1_getD e hk]
  unfold trd
  split
  · next q => rw [q]; grind
  · have : row.getD k 0 / h.getD k 0 * h.getD k 0 = row.getD k 0 := Rat.div_mul_cancel h0
    grind
theorem H_getD {qs : List Rat} {s : Nat} (h : Hs qs s) (hs : 1 ≤ s) (k : Nat) : H (qs.getD k 0) s := by
  by_cases hk : k < qs.length
  · have h1 : qs[k]? = some (qs[k]'hk) := List.getElem?_eq_getElem _
    rw [getD_of h1]
    exact h _ (List.getElem_mem _)
  · rw [List.getD_eq_getElem?_getD, List.getElem?_eq_none (by omega)]
    exact H_zero hs
theorem H_trd {h row : List Rat} {s : Nat} (h1 : Hs h s) (h2 : Hs row s) (hs : 1 ≤ s) (k : Nat) : H (0 - row.getD k 0 / h.getD k 0) (2 * s + 2) :=
  H_sub (H_zero (Nat.le_refl 1)) (H_div (H_getD h2 hs k) (H_getD h1 hs k) hs (Nat.le_refl _)) (by omega)
theorem Hs_tr1 {h row : List Rat} {s : Nat} (h1 : Hs h s) (h2 : Hs row s) (hs : 1 ≤ s) (k : Nat) : Hs (tr1 h k row) (4 * s + 3) := by
  unfold tr1
  split
  · exact h2.up (by omega)
  · exact Hs_axpy h2 h1 (H_trd h1 h2 hs k) _ (by omega)
/-- How long numbers come to be. -/
def szt (s : Nat) : Nat → Nat
  | 0 => s
  | k + 1 => 4 * szt s k + 3
theorem szt_bd (s k : Nat) : szt s k + 1 = 4 ^ k * (s + 1) := by
  induction k with
  | zero => simp [szt]
  | succ k ih => rw [szt, Nat.pow_succ]; grind
theorem szt_le (s k n : Nat) (h : k ≤ n) : szt s k ≤ szt s n := by
  have h1 := szt_bd s k
  have h2 := szt_bd s n
  have := Nat.mul_le_mul_right (s + 1) (Nat.pow_le_pow_right (show 0 < 4 by decide) h)
  omega
/-- Two rows change places. -/
def swp (M : Nat → List Rat) (n at_ : Nat) : Nat → List Rat := fun j => if j = at_ then M n else if j = n then M at_ else M j
/-- The rows ahead of i are turned by row n. -/
def stp (M : Nat → List Rat) (n k i : Nat) : Nat → List Rat := fun j => if j < i ∧ j ≠ n then tr1 (M n) k (M j) else M j
theorem stp_zero (M : Nat → List Rat) (n k : Nat) : stp M n k 0 = M := by
  funext j
  unfold stp
  rw [if_neg (by omega)]
theorem stp_skip (M : Nat → List Rat) (n k i : Nat) (h : i = n ∨ (M i).getD k 0 = 0) : stp M n k (i + 1) = stp M n k i := by
  funext j
  unfold stp
  by_cases hj : j < i ∧ j ≠ n
  · rw [if_pos hj, if_pos ⟨by omega, hj.2⟩]
  · rw [if_neg hj]
    by_cases hj2 : j < i + 1 ∧ j ≠ n
    · rw [if_pos hj2]
      obtain rfl : j = i := by omega
      rcases h with h | h
      · omega
      · unfold tr1; rw [if_pos h]
    · rw [if_neg hj2]
theorem stp_step (M : Nat → List Rat) (n k i : Nat) (h : i ≠ n) : stp M n k (i + 1) = fun j => if j = i then tr1 (M n) k (M i) else stp M n k i j := by
  funext j
  unfold stp
  by_cases e : j = i
  · subst e
    rw [if_pos ⟨by omega, h⟩, if_pos rfl]
  · rw [if_neg e]
    by_cases hj : j < i ∧ j ≠ n
    · rw [if_pos hj, if_pos ⟨by omega, hj.2⟩]
    · rw [if_neg hj, if_neg (by omega)]
theorem stp_own (M : Nat → List Rat) (n k i : Nat) : stp M n k i n = M n := by
  unfold stp
  rw [if_neg (by omega)]
theorem stp_later (M : Nat → List Rat) (n k i : Nat) : stp M n k i i = M i := by
  unfold stp
  rw [if_neg (by omega)]
/-- A column that counts more: the rows stand in steps for one more column. -/
theorem Ech.more {m N k at_ : Nat} {M : Nat → List Rat} {hs : List Nat} (h : Ech m k (mat M) hs) (hat : hs.length ≤ at_) (hm : at_ < m) (hkN : k < N) (hl : ∀ j, j < m → (M j).length = N) (h0 : (M at_).getD k 0 ≠ 0) :
    Ech m (k + 1) (mat (stp (swp M hs.length at_) hs.length k m)) (hs ++ [k]) ∧ ∀ x, Nul m N (mat M) x ↔ Nul m N (mat (stp (swp M hs.length at_) hs.length k m)) x := by
  have hn : hs.length < m := by omega
  have hR : swp M hs.length at_ hs.length = M at_ := by
    unfold swp
    by_cases e : hs.length = at_
    · rw [if_pos e, e]
    · rw [if_neg e, if_pos rfl]
  have hO : ∀ i, i ≠ hs.length → swp M hs.length at_ i = M (if i = at_ then hs.length else i) := fun i hi => by
    unfold swp
    by_cases e : i = at_
    · rw [if_pos e, if_pos e]
    · rw [if_neg e, if_neg hi, if_neg e]
  have e1 : ∀ j, mat (stp (swp M hs.length at_) hs.length k m) hs.length j = mat M at_ j := fun j => by
    unfold mat
    rw [stp_own, hR]
  have hln : ∀ i, i < m → (M (if i = at_ then hs.length else i)).length = N := fun i hi => by
    split
    · exact hl _ hn
    · exact hl _ hi
  have e2 : ∀ i, i < m → i ≠ hs.length → stp (swp M hs.length at_) hs.length k m i = tr1 (M at_) k (M (if i = at_ then hs.length else i)) := fun i hi hne => by
    unfold stp
    rw [if_pos ⟨hi, hne⟩, hR, hO i hne]
  have e3 : ∀ i j, i < m → i ≠ hs.length → j < N → mat (stp (swp M hs.length at_) hs.length k m) i j = mat M (if i = at_ then hs.length else i) j + trd (M at_) k (M (if i = at_ then hs.length else i)) * mat (stp (swp M hs.length at_) hs.length k m) hs.length j := fun i j hi hne hj => by
    rw [e1]
    unfold mat
    rw [e2 i hi hne, tr1_getD (by rw [hln i hi, hl at_ hm]) (by rw [hln i hi]; exact hj)]
  refine ⟨?_, fun x => nul_turn (c := 1) (d := fun i => trd (M at_) k (M (if i = at_ then hs.length else i))) hat hm (by decide) (fun j _ => by rw [e1, Rat.one_mul]) (fun i j hi hne hj => e3 i j hi hne hj) x⟩
  have key : Ech m (k + 1) (fun i j => if j < N then mat (stp (swp M hs.length at_) hs.length k m) i j else if i = hs.length then mat M at_ j else mat M (if i = at_ then hs.length else i) j + trd (M at_) k (M (if i = at_ then hs.length else i)) * mat M at_ j) (hs ++ [k]) := by
    refine Ech.turn (c := 1) (d := fun i => trd (M at_) k (M (if i = at_ then hs.length else i))) h hat hm (by decide) h0 (fun j => ?_) (fun i j hi hne => ?_) (fun i hi hne => ?_)
    · rw [Rat.one_mul]
      by_cases hj : j < N
      · rw [if_pos hj, e1]
      · rw [if_neg hj, if_pos rfl]
    · by_cases hj : j < N
      · rw [if_pos hj, if_pos hj, e3 i j hi hne hj]
      · rw [if_neg hj, if_neg hj, if_neg hne, if_pos rfl]
    · rw [if_pos hkN]
      unfold mat
      rw [e2 i hi hne]
      exact tr1_zero (by rw [hln i hi, hl at_ hm]) (by rw [hln i hi]; exact hkN) h0
  exact key.congr (n := N) (by omega) fun i j hi hj => by rw [if_pos hj]
theorem Hs_stp {m k at_ n s : Nat} {M : Nat → List Rat} (hn : n < m) (hat : at_ < m) (hH : ∀ j, j < m → Hs (M j) s) (hs : 1 ≤ s) : ∀ i j, j < m → Hs (stp (swp M n at_) n k i j) (4 * s + 3) := fun i j hj => by
  have hsw : ∀ j, j < m → Hs (swp M n at_ j) s := fun j hj => by
    unfold swp
    split
    · exact hH n hn
    · split
      · exact hH at_ hat
      · exact hH j hj
  unfold stp
  split
  · exact Hs_tr1 (hsw n hn) (hsw j hj) hs k
  · exact (hsw j hj).up (by omega)
theorem Hs_swp {m at_ n s : Nat} {M : Nat → List Rat} (hn : n < m) (hat : at_ < m) (hH : ∀ j, j < m → Hs (M j) s) : ∀ j, j < m → Hs (swp M n at_ j) s := fun j hj => by
  unfold swp
  split
  · exact hH n hn
  · split
    · exact hH at_ hat
    · exact hH j hj
theorem swp_len {m N n at_ : Nat} {M : Nat → List Rat} (hn : n < m) (hat : at_ < m) (hl : ∀ j, j < m → (M j).length = N) : ∀ j, j < m → (swp M n at_ j).length = N := fun j hj => by
  unfold swp
  split
  · exact hl n hn
  · split
    · exact hl at_ hat
    · exact hl j hj
end Go.Proofs.YtfpnhggbfakdkaaDoor

/- grids: the walk of turn. -/
set_option linter.unusedVariables false
set_option linter.unusedSimpArgs false
set_option maxRecDepth 100000
namespace Go.Proofs.YtfpnhggbfakdkaaDoor
open Go.RowKit

def Fact.olst (qs : List Rat) (B : Nat) : Fact := ⟨fun v w => OLst w B v qs, fun _ _ _ h hb => h.below hb⟩
theorem OLst.slN {w : World} {B N : Nat} {v : Value} {qs : List Rat} (h : OLst w B v qs) (hl : qs.length = N) : ∃ A c, v = .slice A N c := by
  subst hl
  exact h.slice
theorem vAdd_OL {w : World} {v v' u0 : Value} {ps qs : List Rat} {t : Rat} {k B : Nat} (hB : B ≤ w.heap.size) (h : Lst RCan w v ps) (h' : Lst RCan w v' qs) (h0 : RCan w u0 t) (hl : ps.length = qs.length) (hp : Hs ps k) (hq : Hs qs k) (ht : H t k) (hk : 2 * k ≤ 100000000000) (hn : ps.length ≤ 1000000) (hT : Tab w) :
    Calls Tryd.prog 21 #[v, v', u0] w fun e w' => ∃ u, e = .returned u ∧ Below w.heap.size w w' ∧ ∃ u', u = .tuple #[u', .int .i64 0] ∧ OLst w' B u' (axpy ps qs t) := by
  obtain ⟨A, c, rfl⟩ := h.sl
  obtain ⟨A', c', rfl⟩ := h'.sl
  obtain ⟨b0, A0, n0, c0, D0, m0, k0, rfl⟩ := h0.slice
  rw [← hl] at h' ⊢
  exact (vAdd_ok w A A' _ c c' ps qs b0 A0 n0 c0 D0 m0 k0 t k h h' hp hq h0 ht hn hk hT).mono fun e w' ⟨u, h1, h2, h3⟩ => ⟨_, h1, h2, u, rfl, h3.mono hB⟩
theorem Lst.canAt {w : World} {A : Option Addr} {n c : Nat} {qs : List Rat} (h : Lst RCan w (.slice A n c) qs) {k : Nat} (hk : k < n) :
    ∃ ad b A2 n2 c2 D2 m2 k2, A = some ad ∧ w.cell? (ad.add (k * 3)) = some (.bool b) ∧ w.cell? ⟨(ad.add (k * 3)).block, (ad.add (k * 3)).off + 1, none⟩ = some (.slice A2 n2 c2) ∧ w.cell? ⟨(ad.add (k * 3)).block, (ad.add (k * 3)).off + 2, none⟩ = some (.slice D2 m2 k2) ∧ RCan w (.agg #[.bool b, .slice A2 n2 c2, .slice D2 m2 k2]) (qs.getD k 0) := by
  have hl := h.len
  obtain ⟨q, hq⟩ : ∃ q, qs[k]? = some q := ⟨_, List.getElem?_eq_getElem (by omega)⟩
  obtain ⟨ad, b, A2, n2, c2, D2, m2, k2, e, _, x0, x1, x2, X⟩ := h.at_ tri_can hq
  rw [getD_of hq]
  exact ⟨ad, b, A2, n2, c2, D2, m2, k2, e, x0, x1, x2, X⟩
theorem fwd_rats_Div (args : Array Value) (w : World) : (callFunc 40 args).run Tryd.prog w = .ok (.enter 40 args) w := callFunc_enter Tryd.func40 (by kernel_rfl) rfl args w
theorem fwd_rats_Of (args : Array Value) (w : World) : (callFunc 26 args).run Tryd.prog w = .ok (.enter 26 args) w := callFunc_enter Tryd.func26 (by kernel_rfl) rfl args w
theorem fwd_rats_Sub (args : Array Value) (w : World) : (callFunc 57 args).run Tryd.prog w = .ok (.enter 57 args) w := callFunc_enter Tryd.func57 (by kernel_rfl) rfl args w
theorem fwd_vecs_Add (args : Array Value) (w : World) : (callFunc 21 args).run Tryd.prog w = .ok (.enter 21 args) w := callFunc_enter Tryd.func21 (by kernel_rfl) rfl args w
/-- Memory while a row of the work is written: the grid's other rows stay, and all of other kinds. -/
def memK (w0 : World) (i : Nat) : RK.Mem where
  K w w' := (w0.heap.size ≤ w.heap.size → Below w0.heap.size w w') ∧ w.heap.size ≤ w'.heap.size ∧ (∀ t, t ≠ TRs → ∀ b cs, Blk w b t cs → Blk w' b t cs) ∧ ∀ b cs, Blk w b TRs cs → ∃ cs', Blk w' b TRs cs' ∧ cs'.size = cs.size ∧ ∀ j, j ≠ i → cs'[j]? = cs[j]?
  tr h k := ⟨fun q => (h.1 q).trans (k.1 (Nat.le_trans q h.2.1)), Nat.le_trans h.2.1 k.2.1, fun t ht b cs hk => k.2.2.1 t ht b cs (h.2.2.1 t ht b cs hk), fun b cs hk => by
    obtain ⟨c1, a1, a2, a3⟩ := h.2.2.2 b cs hk
    obtain ⟨c2, b1, b2, b3⟩ := k.2.2.2 b c1 a1
    exact ⟨c2, b1, b2.trans a2, fun j hj => (b3 j hj).trans (a3 j hj)⟩⟩
  bel h := ⟨fun q => h.mono q, h.size, fun t _ b cs hk => hk.below' h, fun b cs hk => ⟨cs, hk.below' h, rfl, fun _ _ => rfl⟩⟩
  size h := h.2.1
  nums h g cs hk := h.2.2.1 _ (by decide) _ _ hk
  rats h g cs hk := h.2.2.1 _ (by decide) _ _ hk
theorem Mem_bel (X : RK.Mem) {a b : World} (h : Below a.heap.size a b) : X.K a b := X.bel h
theorem memK_kp2 {w0 w w' : World} {i : Nat} (h : (memK w0 i).K w w') : Kp2 w w' := ⟨fun g cs hk => (memK w0 i).nums h g cs hk, fun g cs hk => (memK w0 i).rats h g cs hk⟩
theorem memK_cell {w0 w w' : World} {i j g : Nat} {cs : Array Value} {u : Value} (hk : Blk w g TRs cs) (h : (memK w0 i).K w w') (hj : j ≠ i) (hc : w.cell? ⟨g, j, none⟩ = some u) : w'.cell? ⟨g, j, none⟩ = some u := by
  obtain ⟨cs', k1, _, k3⟩ := h.2.2.2 g cs hk
  rw [k1.cell, k3 j hj, ← hk.cell]
  exact hc
theorem memK_set {w0 w : World} {i g : Nat} {cs : Array Value} (hk : Blk w g TRs cs) (hg : w0.heap.size ≤ g) (u : Value) : (memK w0 i).K w (w.setCell ⟨g, i, none⟩ u) := by
  refine ⟨fun _ => (Below.refl _ _).setCell (p := ⟨g, i, none⟩) hg u, ((Below.refl w0.heap.size w).setCell (p := ⟨g, i, none⟩) hg u).size, fun t ht b cs' hk' => hk'.far (p := ⟨g, i, none⟩) (hk'.type_ne hk ht) u, fun b cs' hk' => ?_⟩
  by_cases e : b = g
  · subst e
    have := hk.eq.symm.trans hk'.eq
    cases this
    exact ⟨_, hk.set_ i u, by simp, fun j hj => by rw [Array.getElem?_setIfInBounds_ne (fun q => hj q.symm)]⟩
  · exact ⟨cs', hk'.far (p := ⟨g, i, none⟩) e u, rfl, fun _ _ => rfl⟩
theorem Does_store {P : Program} {o : Oper} {a : Act} {w w' : World} {R : Value → World → Prop} (e : (execOp a.eval o).run P w = .ok .skip w') (h : R undef w') : Does P o a w R := by
  unfold Does
  rw [e]
  exact h
theorem WS.storeK {w0 w w' : World} {p g m c : Nat} {Hd : Option Addr} {hc N i : Nat} {R : Nat → List Rat} {hs : List Nat} (h : WS w0 w p (some ⟨g, 0, none⟩) m c Hd hc N R hs) (hC : (memK w0 i).K w w') (hi : i < m) {A : Option Addr} {cx : Nat} {qs : List Rat} (hq : RowG w0 w' (.slice A N cx) qs) (hl : qs.length = N) :
    (∃ u, w'.cell? ⟨g, i, none⟩ = some u) ∧ w'.frozen? ⟨g, i, none⟩ = false ∧ (memK w0 i).K w' (w'.setCell ⟨g, i, none⟩ (.slice A N cx)) ∧ WS w0 (w'.setCell ⟨g, i, none⟩ (.slice A N cx)) p (some ⟨g, 0, none⟩) m c Hd hc N (fun j => if j = i then qs else R j) hs := by
  obtain ⟨us, h1, h2, h3⟩ := h.gr
  obtain ⟨g', cap, cur, e, hB, hn, hm, hk, hs', ht⟩ := own_some h2 (by omega)
  cases e
  obtain ⟨cur', k1, k2, k3⟩ := hC.2.2.2 g cur hk
  have far : ∀ t, t ≠ TRs → ∀ b cs, Blk w b t cs → Blk (w'.setCell ⟨g, i, none⟩ (.slice A N cx)) b t cs := fun t ht b cs hkb => (hC.2.2.1 t ht b cs hkb).far (p := ⟨g, i, none⟩) ((hC.2.2.1 t ht b cs hkb).type_ne k1 ht) _
  have hz : cur.size = c := by simpa using hs'
  have ci : i < cur'.size := by omega
  refine ⟨⟨cur'[i], by rw [k1.cell]; exact Array.getElem?_eq_getElem ci⟩, k1.frozen i, memK_set k1 hB _, (h.b.trans (hC.1 h.b.size)).setCell (p := ⟨g, i, none⟩) hB _, h.pb, far _ (by decide) _ _ h.pc, ⟨us.set i (.slice A N cx), by simpa using h1, ?_, fun j hj => ?_⟩, own_keepS h.hr (fun r cs hk' => far _ (by decide) r cs hk'), fun j hj => ?_, h.mx⟩
  · refine ⟨by rw [List.length_set]; exact h2.1, .inr ⟨g, c, cur'.setIfInBounds i (.slice A N cx), rfl, hB, (k1.set_ i _).eq, hn, hm, by rw [Array.size_setIfInBounds]; omega, ?_⟩⟩
    apply List.ext_getElem?
    intro j
    rw [Nat.mul_one, Array.toList_setIfInBounds] at *
    by_cases hj : j < m
    · rw [List.getElem?_take_of_lt hj, List.getElem?_set, List.getElem?_set]
      by_cases e : i = j
      · subst e
        rw [if_pos rfl, if_pos rfl, if_pos (by simpa using ci), if_pos (by omega)]
      · rw [if_neg e, if_neg e, Array.getElem?_toList, k3 j (fun q => e q.symm), ← Array.getElem?_toList, ← ht, List.getElem?_take_of_lt hj]
    · rw [List.getElem?_take_eq_none (by omega), List.getElem?_eq_none (by rw [List.length_set]; omega)]
  · by_cases e : j = i
    · subst e
      refine ⟨A, cx, ?_, ?_⟩
      · rw [List.getElem?_set_self (by omega)]
      · rw [if_pos rfl]
        exact hq.kp2 (memK_kp2 (memK_set (w0 := w0) k1 hB _))
    · obtain ⟨A', cx', hu, hr⟩ := h3 j hj
      refine ⟨A', cx', ?_, ?_⟩
      · rw [List.getElem?_set_ne (by omega)]; exact hu
      · rw [if_neg e]; exact hr.kp2 ((memK_kp2 hC).tr (memK_kp2 (memK_set (w0 := w0) (i := i) k1 hB _)))
  · by_cases e : j = i
    · rw [if_pos e]; exact hl
    · rw [if_neg e]; exact h.ln j hj
theorem rOf0R (B : Nat) {w : World} (hB : B ≤ w.heap.size) : Calls Tryd.prog 26 #[.int .i64 0] w fun e w' => ∃ u, e = .returned u ∧ Below w.heap.size w w' ∧ RatR 0 B w' u := (rOf_P w 0 (by decide) (by decide)).mono fun e w' ⟨u, h1, h2, h3⟩ => ⟨u, h1, h2, (by simpa using h3 : RatR 0 w.heap.size w' u).mono hB⟩
theorem infoInt : (Tryd.prog.info? 3).map (fun i => (i.zero, i.size, i.bytes)) = some (some (.int .i64 0), 1, 8) := by kernel_rfl
set_option maxHeartbeats 8000000 in
theorem turn_ok {w0 w : World} {p m c N : Nat} {G : Option Addr} {M0 : Nat → List Rat} {S : Nat} {Inv : Nat → (Nat → List Rat) → List Nat → Prop} (h : WS w0 w p G m c none 0 N M0 []) (h0 : 0 < m) (many : Nat) (hmy : many ≤ N) (hT : Tab w0)
    (hS1 : 1 ≤ S) (hS2 : S ≤ 1000000000) (hI0 : Inv 0 M0 []) (hIs : ∀ k M hs, k < many → Inv k M hs → (∀ i, hs.length ≤ i → i < m → (M i).getD k 0 = 0) → Inv (k + 1) M hs)
    (hIt : ∀ k M hs at_, k < many → Inv k M hs → Ech m k (mat M) hs → (∀ j, j < m → (M j).length = N) → hs.length ≤ at_ → at_ < m → (M at_).getD k 0 ≠ 0 → Inv (k + 1) (stp (swp M hs.length at_) hs.length k m) (hs ++ [k]))
    (hIz : ∀ k M hs, k ≤ many → Inv k M hs → ∀ j, j < m → Hs (M j) S) :
    Calls Tryd.prog 34 #[.pointer (some ⟨p, 0, none⟩), .int .i64 (many : Nat)] w fun e w' => e = .returned (.tuple #[]) ∧ ∃ Hd hc M hs, Hid (WS w0 w' p G m c Hd hc N M hs) ∧ Hid (Ech m many (mat M) hs) ∧ Hid (∀ x, Nul m N (mat M0) x ↔ Nul m N (mat M) x) ∧ Hid (Inv many M hs) := by
  refine opq fun R hR => ?_
  obtain ⟨g, Ag, cg, rfl, _⟩ := h.row h0
  have W0 := hide h
  have T0 := hide hT
  have H0 := hide hI0
  replace hIs := hide hIs
  replace hIt := hide hIt
  replace hIz := hide hIz
  replace hS1 := hide hS1
  clear h hT hI0
  go_enter Tryd.func34, Tryd.ntmps34
  go_wp2
  go_step3
  go_wp2
  go_step3
  go_wp2
  go_loopw [12] (fun iv wr => ∃ (k : Nat) (Hd : Option Addr) (hc : Nat) (M : Nat → List Rat) (hs : List Nat), k ≤ many ∧ iv = .int .i64 (k : Nat) ∧ Hid (WS w0 wr p (some ⟨g, 0, none⟩) m c Hd hc N M hs) ∧ Hid (Ech m k (mat M) hs) ∧ Hid (∀ x, Nul m N (mat M0) x ↔ Nul m N (mat M) x) ∧ Hid (Inv k M hs)) (fun iv _ => many - (intOf iv).toNat)
  case atStart => exact ⟨0, _, _, M0, [], by omega, rfl, W0, Ech.start m _, fun x => Iff.rfl, H0⟩
  case round =>
    clear W0 H0
    obtain ⟨k, Hd, hc, M, hs, hk, rfl, WSh, EC, NU, HH⟩ := hrel
    have T := hide (T0.out.below WSh.out.b)
    by_cases hlt : k < many
    · obtain ⟨n, hn⟩ : ∃ n, Hid (hs.length = n) := ⟨_, rfl⟩
      have P1 := WSh.out.pc.at_ 1 rfl
      rw [show (#[.slice (some ⟨g, 0, none⟩) m c, .slice Hd hs.length hc] : Array Value)[1] = .slice Hd n hc by rw [hn.out]; rfl] at P1
      have hlen : n ≤ m := by rw [← hn.out]; exact EC.out.len
      have hmx := WSh.out.mx
      have HB := hide (show ∀ j, j < m → Hs (M j) 100000000000 from fun j hj => (hIz.out k M hs hk HH.out j hj).up (by omega))
      go_wp2_with fail
      refine (head_ok WSh.out HB.out n k hlen h0 (by omega) T.out).mono ?_
      rintro e w1 ⟨r, rfl, hr, d0⟩
      replace WSh := hide (WSh.out.below d0.out)
      clear P1 d0 T
      rcases hr with ⟨rfl, hr⟩ | ⟨at_, rfl, ha1, ha2, ha3⟩
      · have EC2 := hide (EC.out.skip (fun i h1 h2 => hr i (by rw [← hn.out]; exact h1) h2))
        have HH2 := hide (hIs.out k M hs hlt HH.out (fun i h1 h2 => hr i (by rw [← hn.out]; exact h1) h2))
        clear hr
        go_wp2
        go_roundw
        case rel => exact ⟨k + 1, Hd, hc, M, hs, by omega, by go_num, WSh, EC2, NU, HH2⟩
        case measure => simp [intOf]; omega
      · replace ha3 := hide ha3
        have hnm : n < m := by omega
        have MLN := hide WSh.out.ln
        obtain ⟨g', Aa, ca, eg, Qa, RA⟩ := WSh.out.row ha2
        cases eg
        obtain ⟨g', An, cn, eg, Qn, RN⟩ := WSh.out.row hnm
        cases eg
        replace Qa := hide Qa
        replace Qn := hide Qn
        replace RA := hide RA
        replace RN := hide RN
        have P0 : Hid (w1.cell? ⟨p, 0, none⟩ = some (.slice (some ⟨g, 0, none⟩) m c)) := WSh.out.pc.at_ 0 rfl
        obtain ⟨cur, KG⟩ := WSh.out.gblk h0
        have hata : ¬ ((m : Int) ≤ (at_ : Int)) := by omega
        have hnn : ¬ ((m : Int) ≤ (n : Int)) := by omega
        have hna : ¬ ((at_ : Int) < 0) := by omega
        have q1 := Qa.out
        have q2 := Qn.out
        have q0 := P0.out
        have p1 := KG.out.frozen n
        have p2 := KG.out.frozen at_
        have S1 := hide (WSh.out.set hnm RA.out (WSh.out.ln at_ ha2))
        obtain ⟨g', A3, c3, eg, q3, _⟩ := S1.out.row ha2
        cases eg
        have S2 := hide (S1.out.set ha2 (RN.out.kp2 (Kp2.set KG.out (by decide) (by decide) n _)) (WSh.out.ln n hnm))
        clear Qa Qn P0 RA RN KG
        go_wp2
        go_region
        have S3 : Hid (WS w0 (((w1.setCell ⟨g, n, none⟩ (.slice Aa N ca)).setCell ⟨g, at_, none⟩ (.slice An N cn)).drew) p (some ⟨g, 0, none⟩) m c Hd hc N (swp M n at_) hs) := S2.out.below ((Below.refl _ _).drew)
        clear q0 q1 q2 p1 p2 q3 S1 S2 WSh
        obtain ⟨w2, hw2⟩ : ∃ w2, ((w1.setCell ⟨g, n, none⟩ (.slice Aa N ca)).setCell ⟨g, at_, none⟩ (.slice An N cn)).drew = w2 := ⟨_, rfl⟩
        rw [hw2] at S3 ⊢
        clear hw2
        have HM := hide (hIz.out k M hs hk HH.out)
        have HH2 : Hid (Inv (k + 1) (stp (swp M n at_) n k m) (hs ++ [k])) := by
          have := hIt.out k M hs at_ hlt HH.out EC.out MLN.out (by rw [hn.out]; exact ha1) ha2 ha3.out
          rw [hn.out] at this
          exact this
        have LM := hide (swp_len hnm ha2 MLN.out)
        have EC2 : Hid (Ech m (k + 1) (mat (stp (swp M n at_) n k m)) (hs ++ [k]) ∧ ∀ x, Nul m N (mat M) x ↔ Nul m N (mat (stp (swp M n at_) n k m)) x) := by
          show _ ∧ _
          rw [← hn.out]
          exact EC.out.more (by rw [hn.out]; exact ha1) ha2 (by omega) MLN.out ha3.out
        have SZ1 : Hid (1 ≤ S) := hS1.out
        have SZ3 : Hid (2 * (2 * S + 2) ≤ 100000000000) := by
          show _ ≤ _
          omega
        have SZ2 : Hid (S ≤ 100000000000) := by
          show _ ≤ _
          omega
        have HN : Hid ((swp M n at_ n).getD k 0 ≠ 0) := by
          show _ ≠ _
          unfold swp
          split
          · next q => rw [q]; exact ha3.out
          · rw [if_pos rfl]; exact ha3.out
        have S3' : Hid (WS w0 w2 p (some ⟨g, 0, none⟩) m c Hd hc N (stp (swp M n at_) n k 0) hs) := by
          show WS _ _ _ _ _ _ _ _ _ _ _
          rw [stp_zero]
          exact S3.out
        have P0 := S3.out.pc.at_ 0 rfl
        clear S3
        go_wp2
        go_loopw [57] (fun iv wr => ∃ (i : Nat), i ≤ m ∧ iv = .int .i64 (i : Nat) ∧ Hid (WS w0 wr p (some ⟨g, 0, none⟩) m c Hd hc N (stp (swp M n at_) n k i) hs)) (fun iv _ => m - (intOf iv).toNat)
        case atStart => exact ⟨0, by omega, rfl, S3'⟩
        case round =>
          clear P0 S3'
          obtain ⟨i, hi, rfl, S4⟩ := hrel
          by_cases hlt2 : i < m
          · obtain ⟨g', Ai, ci, eg, qi, RI⟩ := S4.out.row hlt2
            cases eg
            have LI := hide (RI.lst S4.out.b (by rw [stp_later, LM.out i hlt2]; exact hmx.2))
            rw [stp_later] at LI
            rw [stp_later] at RI
            replace RI := hide RI
            have hii : ¬ ((m : Int) ≤ (i : Int)) := by omega
            by_cases hin : i = n
            · subst hin
              have S5 : Hid (WS w0 wr p (some ⟨g, 0, none⟩) m c Hd hc N (stp (swp M i at_) i k (i + 1)) hs) := by
                show WS _ _ _ _ _ _ _ _ _ _ _
                rw [stp_skip _ _ _ _ (.inl rfl)]
                exact S4.out
              go_wp2
              go_roundw
              case rel => exact ⟨i + 1, by omega, by go_num, S5⟩
              case measure => simp [intOf]; omega
            · have hin2 : ¬ ((i : Int) = (n : Int)) := by omega
              obtain ⟨adr, b1, A1, n1, c1, D1, m1, k1, rfl, x0, x1, x2, XR⟩ := LI.out.canAt (show k < N by omega)
              have HsI := hide (show Hs (swp M n at_ i) S from Hs_swp hnm ha2 HM.out i hlt2)
              have HR := hide ((H_getD HsI.out SZ1.out k).up SZ2.out)
              replace XR := hide XR
              go_wp2_with fail
              refine (rSign_eq (XR.out.arg HR.out) (T0.out.below S4.out.b) _ rfl).mono ?_
              rintro e w3 ⟨_, rfl, d0, rfl⟩
              replace S4 := hide (S4.out.below d0)
              replace XR := hide (XR.out.below d0)
              replace LI := hide (LI.out.can_below d0)
              have x0 := hide (cell_below d0 x0)
              have x1 := hide (cell_below d0 x1)
              have x2 := hide (cell_below d0 x2)
              replace RI := hide (RI.out.kp2 (Kp2.bel d0))
              clear qi d0
              by_cases hz : (swp M n at_ i).getD k 0 = 0
              · have S5 : Hid (WS w0 w3 p (some ⟨g, 0, none⟩) m c Hd hc N (stp (swp M n at_) n k (i + 1)) hs) := by
                  show WS _ _ _ _ _ _ _ _ _ _ _
                  rw [stp_skip _ _ _ _ (.inr hz)]
                  exact S4.out
                rw [(cmp0 _).2 hz]
                clear x0 x1 x2
                go_wp2
                go_roundw
                case rel => exact ⟨i + 1, by omega, by go_num, S5⟩
                case measure => simp [intOf]; omega
              · have hz2 : ¬ (cmpQ ((swp M n at_ i).getD k 0) 0 = 0) := fun q => hz ((cmp0 _).1 q)
                generalize cmpQ ((swp M n at_ i).getD k 0) 0 = zz at *
                have hz3 : (zz == 0) = false := by simpa using hz2
                replace hz := hide hz
                obtain ⟨g', An2, cn2, eg, Qn, RH⟩ := S4.out.row hnm
                cases eg
                have LH := hide (RH.lst S4.out.b (by rw [stp_own, LM.out n hnm]; exact hmx.2))
                rw [stp_own] at LH
                obtain ⟨adh, b2, A2, n2, c2, D2, m2, k2, rfl, y0, y1, y2, XH⟩ := LH.out.canAt (show k < N by omega)
                have HsN := hide (show Hs (swp M n at_ n) S from Hs_swp hnm ha2 HM.out n hnm)
                have HQ := hide ((H_getD HsN.out SZ1.out k).up SZ2.out)
                replace XH := hide XH
                replace Qn := hide Qn
                have y0 := hide y0
                have y1 := hide y1
                have y2 := hide y2
                have P0 : Hid (w3.cell? ⟨p, 0, none⟩ = some (.slice (some ⟨g, 0, none⟩) m c)) := S4.out.pc.at_ 0 rfl
                have hkN : ¬ ((N : Int) ≤ (k : Int)) := by omega
                rw [stp_own] at RH
                replace RH := hide RH
                go_wp2
                refine RR.wp_region_R 20 w3 9 89 [(74, .eq (.slice (some adr) N ci)), (75, .eq (.int .i64 (k : Nat))), (76, .eq ((.pointer (some (adr.add (k * 3))) : Value))), (77, .eq (.agg #[.bool b1, .slice A1 n1 c1, .slice D1 m1 k1])), (78, .eq ((.pointer (some ⟨p, 0, none⟩) : Value))), (79, .eq ((.pointer (some ⟨p, 0, none⟩) : Value))), (80, .eq ((.pointer (some ⟨p, 0, none⟩) : Value))), (81, .eq (.slice (some ⟨g, 0, none⟩) m c)), (82, .eq (.int .i64 (n : Nat))), (83, .eq ((.pointer (some ⟨g, n, none⟩) : Value))), (84, .eq (.slice (some adh) N cn2)), (85, .eq (.int .i64 (k : Nat))), (86, .eq ((.pointer (some (adh.add (k * 3))) : Value))), (87, .eq (.agg #[.bool b2, .slice A2 n2 c2, .slice D2 m2 k2])), (88, (.tupE (.ratR ((swp M n at_ i).getD k 0 / (swp M n at_ n).getD k 0) w0.heap.size) (.int .i64 0))), (73, (.tupE (.ratR ((swp M n at_ i).getD k 0 / (swp M n at_ n).getD k 0) w0.heap.size) (.int .i64 0))), (89, (.ratR ((swp M n at_ i).getD k 0 / (swp M n at_ n).getD k 0) w0.heap.size)), (90, .eq ((.int .i64 0))), (9, (.var TR 3))] [false, false, false, false, false, false, false, false, false, true, false, false, false, false, false, false, false, false, false, false, false, false, false, false, false, false, false, false, false, false, false, false, false, false, false, false, false, false, false, false, false, false, false, false, false, false, false, false, false, false, false, false, false, false, false, false, false, false, false, false, false, false, false, false, false, false, false, false, false, false, false, false, false, true, true, true, true, true, true, true, true, true, true, true, true, true, true, true, true, true, true, false, false, false, false, false, false, false, false, false, false, false, false, false, false, false, false, false, false, false, false, false, false, false, false, false, false, false, false, false, false, false, false, false] mixed (by kernel_rfl) (by kernel_rfl) (by kernel_rfl) (Below.refl _ _).drew (by kernel_rfl) (by kernel_rfl) (by kernel_rfl) ⟨?_, ?_, ?_, ?_, ?_, ?_, ?_, ?_, ?_, ?_, ?_, ?_, ?_, ?_, ?_, ?_, ?_, ?_, ?_, ?_, trivial⟩ ?_
                · exact (.inl ⟨rfl, .moveC (.inl rfl) (.inl rfl) rfl (fun a w' hC hs => (hs 8 (by kernel_rfl)))⟩)
                · exact (.inl ⟨rfl, .moveC (.inl rfl) (.inl rfl) rfl (fun a w' hC hs => (hs 4 (by kernel_rfl)))⟩)
                · exact (.inl ⟨rfl, .value (.inl rfl) (by intro T e; cases e) rfl rfl (fun a w' hC hs hl => by
                    have e0 : a.eval (.tmp 74) = (.slice (some adr) N ci) := (hl 74 (by kernel_rfl) (by kernel_rfl))
                    have e1 : a.eval (.tmp 75) = (.int .i64 (k : Nat)) := (hl 75 (by kernel_rfl) (by kernel_rfl))
                    simp only [execOp, e0, e1]
                    simp [go_sem, hkN])⟩)
                · exact (.inl ⟨rfl, .load (.agg #[.bool b1, .slice A1 n1 c1, .slice D1 m1 k1]) (.inl rfl) rfl rfl (fun a w' hC hs hl => by rw [show a.eval (.tmp 76) = (.pointer (some (adr.add (k * 3))) : Value) from (hl 76 (by kernel_rfl) (by kernel_rfl))]; exact ⟨ld_RatAt (cell_below hC x0.out) (cell_below hC x1.out) (cell_below hC x2.out), rfl⟩)⟩)
                · exact (.inl ⟨rfl, .moveC (.inl rfl) (.inl rfl) rfl (fun a w' hC hs => (hs 0 (by kernel_rfl)))⟩)
                · exact (.inl ⟨rfl, .value (.inl rfl) (by intro T e; cases e) rfl rfl (fun a w' hC hs hl => by
                    have e0 : a.eval (.tmp 78) = ((.pointer (some ⟨p, 0, none⟩) : Value)) := (hl 78 (by kernel_rfl) (by kernel_rfl))
                    simp only [execOp, e0]
                    simp [go_sem])⟩)
                · exact (.inl ⟨rfl, .fieldAddr (.inl rfl) rfl rfl rfl (fun a w' hC hs hl => by rw [show a.eval (.tmp 79) = (.pointer (some ⟨p, 0, none⟩) : Value) from (hl 79 (by kernel_rfl) (by kernel_rfl))]; simp [go_sem])⟩)
                · exact (.inl ⟨rfl, .load (.slice (some ⟨g, 0, none⟩) m c) (.inl rfl) rfl rfl (fun a w' hC hs hl => by rw [show a.eval (.tmp 80) = (.pointer (some ⟨p, 0, none⟩) : Value) from (hl 80 (by kernel_rfl) (by kernel_rfl))]; exact ⟨by simp [go_sem, cell_below hC P0.out], rfl⟩)⟩)
                · exact (.inl ⟨rfl, .moveC (.inl rfl) (.inl rfl) rfl (fun a w' hC hs => (hs 5 (by kernel_rfl)))⟩)
                · exact (.inl ⟨rfl, .value (.inl rfl) (by intro T e; cases e) rfl rfl (fun a w' hC hs hl => by
                    have e0 : a.eval (.tmp 81) = (.slice (some ⟨g, 0, none⟩) m c) := (hl 81 (by kernel_rfl) (by kernel_rfl))
                    have e1 : a.eval (.tmp 82) = (.int .i64 (n : Nat)) := (hl 82 (by kernel_rfl) (by kernel_rfl))
                    simp only [execOp, e0, e1]
                    simp [go_sem, hnn])⟩)
                · exact (.inl ⟨rfl, .load (.slice (some adh) N cn2) (.inl rfl) rfl rfl (fun a w' hC hs hl => by rw [show a.eval (.tmp 83) = (.pointer (some ⟨g, n, none⟩) : Value) from (hl 83 (by kernel_rfl) (by kernel_rfl))]; exact ⟨by simp [go_sem, cell_below hC Qn.out], rfl⟩)⟩)
                · exact (.inl ⟨rfl, .moveC (.inl rfl) (.inl rfl) rfl (fun a w' hC hs => (hs 4 (by kernel_rfl)))⟩)
                · exact (.inl ⟨rfl, .value (.inl rfl) (by intro T e; cases e) rfl rfl (fun a w' hC hs hl => by
                    have e0 : a.eval (.tmp 84) = (.slice (some adh) N cn2) := (hl 84 (by kernel_rfl) (by kernel_rfl))
                    have e1 : a.eval (.tmp 85) = (.int .i64 (k : Nat)) := (hl 85 (by kernel_rfl) (by kernel_rfl))
                    simp only [execOp, e0, e1]
                    simp [go_sem, hkN])⟩)
                · exact (.inl ⟨rfl, .load (.agg #[.bool b2, .slice A2 n2 c2, .slice D2 m2 k2]) (.inl rfl) rfl rfl (fun a w' hC hs hl => by rw [show a.eval (.tmp 86) = (.pointer (some (adh.add (k * 3))) : Value) from (hl 86 (by kernel_rfl) (by kernel_rfl))]; exact ⟨ld_RatAt (cell_below hC y0.out) (cell_below hC y1.out) (cell_below hC y2.out), rfl⟩)⟩)
                · exact (.inl ⟨rfl, .call (.inl rfl) rfl rfl fwd_rats_Div (fun a w' hC hs hl => by
                    show Calls _ _ #[a.eval (.tmp 77), a.eval (.tmp 87)] _ _
                    rw [show a.eval (.tmp 77) = (.agg #[.bool b1, .slice A1 n1 c1, .slice D1 m1 k1] : Value) from (hl 77 (by kernel_rfl) (by kernel_rfl)), show a.eval (.tmp 87) = (.agg #[.bool b2, .slice A2 n2 c2, .slice D2 m2 k2] : Value) from (hl 87 (by kernel_rfl) (by kernel_rfl))]
                    exact RR.rDiv_T w0.heap.size (S4.out.b.trans (hC.mono S4.out.b.size)).size (XR.out.below hC) HR.out (XH.out.below hC) HQ.out (T0.out.below (S4.out.b.trans (hC.mono S4.out.b.size))) HN.out)⟩)
                · exact (.inl ⟨rfl, .move (.inl rfl) (.inl rfl) rfl (by kernel_rfl) (by kernel_rfl) rfl⟩)
                · exact (.inl ⟨rfl, .make (.inl rfl) (by intro T e; cases e) rfl (fun a w' hC hs hl => by
                    obtain ⟨u, e, h⟩ := (hl 73 (by kernel_rfl) (by kernel_rfl))
                    have e' : a.tmps[73]?.getD undef = _ := (by simp [Act.eval] : _ = a.eval (.tmp 73)).trans e
                    exact ⟨u, by simp [execOp, go_sem, e'], h⟩)⟩)
                · exact (.inl ⟨rfl, .make (.inl rfl) (by intro T e; cases e) rfl (fun a w' hC hs hl => by
                    obtain ⟨u, e, h⟩ := (hl 73 (by kernel_rfl) (by kernel_rfl))
                    have e' : a.tmps[73]?.getD undef = _ := (by simp [Act.eval] : _ = a.eval (.tmp 73)).trans e
                    exact ⟨_, by simp [execOp, go_sem, e'], rfl⟩)⟩)
                · exact (.inl ⟨rfl, .alloc (.agg #[.bool false, .slice none 0 0, .slice none 0 0]) (.inl rfl) rfl rfl (fun a w' hC => ⟨run_alloc_Rat _ _ _ _ _ _ _, _, _, rfl, hC.size, Blk.new _ _ _, rfl⟩)⟩)
                · exact (.storeR (fun v w h => RatR.slice h) rfl rfl rfl (by kernel_rfl) (by kernel_rfl) (by kernel_rfl) (by kernel_rfl) rfl)
                intro f w5 hC hF _ hE
                obtain ⟨g9, b3, A3_, n3, c3_, D3, m3, k3, e9, lp, e89, K9'⟩ := hE
                have BY : RatR ((swp M n at_ i).getD k 0 / (swp M n at_ n).getD k 0) w0.heap.size w5 (f 89) := hF 89 (by kernel_rfl)
                have f90 : f 90 = .int .i64 0 := hF 90 (by kernel_rfl)
                clear hF lp
                simp only [patch, List.drop]
                rw [e89] at BY
                rw [e9, e89, f90]
                clear e9 e89 f90
                generalize f 74 = y74_
                generalize f 75 = y75_
                generalize f 76 = y76_
                generalize f 77 = y77_
                generalize f 78 = y78_
                generalize f 79 = y79_
                generalize f 80 = y80_
                generalize f 81 = y81_
                generalize f 82 = y82_
                generalize f 83 = y83_
                generalize f 84 = y84_
                generalize f 85 = y85_
                generalize f 86 = y86_
                generalize f 87 = y87_
                generalize f 88 = y88_
                generalize f 73 = y73_
                have bb := hide hC
                replace BY := hide BY
                replace K9' := hide K9'
                clear hC
                go_wp2
                have V0 : Hid (∀ w', (memK w0 i).K w5 w' → w'.cell? ⟨g9, 0, none⟩ = some (.bool b3)) := fun w' q => (q.2.2.1 _ (by decide) _ _ K9'.out).at_ 0 rfl
                have V1 : Hid (∀ w', (memK w0 i).K w5 w' → w'.cell? ⟨g9, 1, none⟩ = some (.slice A3_ n3 c3_)) := fun w' q => (q.2.2.1 _ (by decide) _ _ K9'.out).at_ 1 rfl
                have V2 : Hid (∀ w', (memK w0 i).K w5 w' → w'.cell? ⟨g9, 2, none⟩ = some (.slice D3 m3 k3)) := fun w' q => (q.2.2.1 _ (by decide) _ _ K9'.out).at_ 2 rfl
                have S5 := hide (S4.out.below bb.out)
                replace P0 : Hid (∀ w', (memK w0 i).K w5 w' → w'.cell? ⟨p, 0, none⟩ = some (.slice (some ⟨g, 0, none⟩) m c)) := fun w' q => (q.2.2.1 _ (by decide) _ _ S5.out.pc).at_ 0 rfl
                replace RI := hide (RI.out.kp2 (Kp2.bel bb.out))
                obtain ⟨cur5, KG⟩ := S5.out.gblk h0
                replace Qn : Hid (∀ w', (memK w0 i).K w5 w' → w'.cell? ⟨g, n, none⟩ = some (.slice (some adh) N cn2)) := fun w' q => memK_cell KG.out q (fun e => hin e.symm) (cell_below bb.out Qn.out)
                replace RH := hide (RH.out.kp2 (Kp2.bel bb.out))
                have HDQ : Hid (H ((swp M n at_ i).getD k 0 / (swp M n at_ n).getD k 0) 100000000000) := (H_div (H_getD HsI.out SZ1.out k) (H_getD HsN.out SZ1.out k) SZ1.out (Nat.le_refl _)).up (by have := SZ3.out; omega)
                have EL : Hid ((axpy (swp M n at_ i) (swp M n at_ n) (0 - (swp M n at_ i).getD k 0 / (swp M n at_ n).getD k 0)).length = N) := by
                  show _ = _
                  rw [axpy_length _ _ _ (by rw [LM.out i hlt2, LM.out n hnm])]
                  exact LM.out i hlt2
                clear KG S4 bb x0 x1 x2 y0 y1 y2 K9' XR XH LI LH
                refine RK.wp_region_facts 22 (memK w0 i) w5 [(92, .eq ((.pointer (some ⟨p, 0, none⟩) : Value))), (93, .eq ((.pointer (some ⟨p, 0, none⟩) : Value))), (94, .eq ((.pointer (some ⟨p, 0, none⟩) : Value))), (95, .eq (.slice (some ⟨g, 0, none⟩) m c)), (96, .eq (.int .i64 (i : Nat))), (97, .eq (.slice (some adr) N ci)), (98, .eq ((.pointer (some ⟨p, 0, none⟩) : Value))), (99, .eq ((.pointer (some ⟨p, 0, none⟩) : Value))), (100, .eq ((.pointer (some ⟨p, 0, none⟩) : Value))), (101, .eq (.slice (some ⟨g, 0, none⟩) m c)), (102, .eq (.int .i64 (n : Nat))), (103, .eq ((.pointer (some ⟨g, n, none⟩) : Value))), (104, .eq (.slice (some adh) N cn2)), (105, (.rat 0 w0.heap.size)), (106, .eq (.agg #[.bool b3, .slice A3_ n3 c3_, .slice D3 m3 k3])), (107, (.rat (0 - (swp M n at_ i).getD k 0 / (swp M n at_ n).getD k 0) w0.heap.size)), (108, (.tupE (.olst (axpy (swp M n at_ i) (swp M n at_ n) (0 - (swp M n at_ i).getD k 0 / (swp M n at_ n).getD k 0)) w0.heap.size) (.int .i64 0))), (91, (.tupE (.olst (axpy (swp M n at_ i) (swp M n at_ n) (0 - (swp M n at_ i).getD k 0 / (swp M n at_ n).getD k 0)) w0.heap.size) (.int .i64 0))), (109, (.olst (axpy (swp M n at_ i) (swp M n at_ n) (0 - (swp M n at_ i).getD k 0 / (swp M n at_ n).getD k 0)) w0.heap.size)), (110, .eq ((.int .i64 0))), (111, .eq ((.pointer (some ⟨g, i, none⟩) : Value)))] (fun _ w' => WS w0 w' p (some ⟨g, 0, none⟩) m c Hd hc N (stp (swp M n at_) n k (i + 1)) hs) [false, false, false, false, false, false, false, false, false, false, false, false, false, false, false, false, false, false, false, false, false, false, false, false, false, false, false, false, false, false, false, false, false, false, false, false, false, false, false, false, false, false, false, false, false, false, false, false, false, false, false, false, false, false, false, false, false, false, false, false, false, false, false, false, false, false, false, false, false, false, false, false, false, false, false, false, false, false, false, false, false, false, false, false, false, false, false, false, false, false, false, true, true, true, true, true, true, true, true, true, true, true, true, true, true, true, true, true, true, true, true, true, false, false, false, false, false, false, false, false, false, false, false, false] mixed (by kernel_rfl) (by kernel_rfl) (by kernel_rfl) (Mem_bel _ (Below.refl _ _).drew) (RR.oneB_spec (by kernel_rfl)) (fun _ _ _ _ _ _ _ _ _ h _ hb => h.below hb) ⟨?_, ?_, ?_, ?_, ?_, ?_, ?_, ?_, ?_, ?_, ?_, ?_, ?_, ?_, ?_, ?_, ?_, ?_, ?_, ?_, ?_, ?_, trivial⟩ ?_
                · exact (.inl ⟨rfl, .moveC (.inl rfl) (.inl rfl) rfl (fun a w' hC hs => (hs 0 (by kernel_rfl)))⟩)
                · exact (.inl ⟨rfl, .value (.inl rfl) (by intro T e; cases e) rfl rfl (fun a w' hC hs hl => by
                    have e0 : a.eval (.tmp 92) = ((.pointer (some ⟨p, 0, none⟩) : Value)) := (hl 92 (by kernel_rfl) (by kernel_rfl))
                    simp only [execOp, e0]
                    simp [go_sem])⟩)
                · exact (.inl ⟨rfl, .fieldAddr (.inl rfl) rfl rfl rfl (fun a w' hC hs hl => by rw [show a.eval (.tmp 93) = (.pointer (some ⟨p, 0, none⟩) : Value) from (hl 93 (by kernel_rfl) (by kernel_rfl))]; simp [go_sem])⟩)
                · exact (.inl ⟨rfl, .load (.slice (some ⟨g, 0, none⟩) m c) (.inl rfl) rfl rfl (fun a w' hC hs hl => by rw [show a.eval (.tmp 94) = (.pointer (some ⟨p, 0, none⟩) : Value) from (hl 94 (by kernel_rfl) (by kernel_rfl))]; exact ⟨by simp [go_sem, P0.out _ hC], rfl⟩)⟩)
                · exact (.inl ⟨rfl, .moveC (.inl rfl) (.inl rfl) rfl (fun a w' hC hs => (hs 7 (by kernel_rfl)))⟩)
                · exact (.inl ⟨rfl, .moveC (.inl rfl) (.inl rfl) rfl (fun a w' hC hs => (hs 8 (by kernel_rfl)))⟩)
                · exact (.inl ⟨rfl, .moveC (.inl rfl) (.inl rfl) rfl (fun a w' hC hs => (hs 0 (by kernel_rfl)))⟩)
                · exact (.inl ⟨rfl, .value (.inl rfl) (by intro T e; cases e) rfl rfl (fun a w' hC hs hl => by
                    have e0 : a.eval (.tmp 98) = ((.pointer (some ⟨p, 0, none⟩) : Value)) := (hl 98 (by kernel_rfl) (by kernel_rfl))
                    simp only [execOp, e0]
                    simp [go_sem])⟩)
                · exact (.inl ⟨rfl, .fieldAddr (.inl rfl) rfl rfl rfl (fun a w' hC hs hl => by rw [show a.eval (.tmp 99) = (.pointer (some ⟨p, 0, none⟩) : Value) from (hl 99 (by kernel_rfl) (by kernel_rfl))]; simp [go_sem])⟩)
                · exact (.inl ⟨rfl, .load (.slice (some ⟨g, 0, none⟩) m c) (.inl rfl) rfl rfl (fun a w' hC hs hl => by rw [show a.eval (.tmp 100) = (.pointer (some ⟨p, 0, none⟩) : Value) from (hl 100 (by kernel_rfl) (by kernel_rfl))]; exact ⟨by simp [go_sem, P0.out _ hC], rfl⟩)⟩)
                · exact (.inl ⟨rfl, .moveC (.inl rfl) (.inl rfl) rfl (fun a w' hC hs => (hs 5 (by kernel_rfl)))⟩)
                · exact (.inl ⟨rfl, .value (.inl rfl) (by intro T e; cases e) rfl rfl (fun a w' hC hs hl => by
                    have e0 : a.eval (.tmp 101) = (.slice (some ⟨g, 0, none⟩) m c) := (hl 101 (by kernel_rfl) (by kernel_rfl))
                    have e1 : a.eval (.tmp 102) = (.int .i64 (n : Nat)) := (hl 102 (by kernel_rfl) (by kernel_rfl))
                    simp only [execOp, e0, e1]
                    simp [go_sem, hnn])⟩)
                · exact (.inl ⟨rfl, .load (.slice (some adh) N cn2) (.inl rfl) rfl rfl (fun a w' hC hs hl => by rw [show a.eval (.tmp 103) = (.pointer (some ⟨g, n, none⟩) : Value) from (hl 103 (by kernel_rfl) (by kernel_rfl))]; exact ⟨by simp [go_sem, Qn.out _ hC], rfl⟩)⟩)
                · exact (.inl ⟨rfl, .call (.inl rfl) rfl rfl fwd_rats_Of (fun a w' hC hs hl => by
                    show Calls _ _ #[Go.Value.int Go.IntKind.i64 0] _ _
                    exact rOf0R w0.heap.size (S5.out.b.trans (hC.1 S5.out.b.size)).size)⟩)
                · exact (.inl ⟨rfl, .load (.agg #[.bool b3, .slice A3_ n3 c3_, .slice D3 m3 k3]) (.inl rfl) rfl rfl (fun a w' hC hs hl => by rw [show a.eval (.tmp 9) = (.pointer (some ⟨g9, 0, none⟩) : Value) from (hs 9 (by kernel_rfl))]; exact ⟨by simp [go_sem, V0.out _ hC, V1.out _ hC, V2.out _ hC], rfl⟩)⟩)
                · exact (.inl ⟨rfl, .call (.inl rfl) rfl rfl fwd_rats_Sub (fun a w' hC hs hl => by
                    show Calls _ _ #[a.eval (.tmp 105), a.eval (.tmp 106)] _ _
                    rw [show a.eval (.tmp 106) = (.agg #[.bool b3, .slice A3_ n3 c3_, .slice D3 m3 k3] : Value) from (hl 106 (by kernel_rfl) (by kernel_rfl))]
                    exact RR.rSub_R w0.heap.size (S5.out.b.trans (hC.1 S5.out.b.size)).size (RCan.arg (hl 105 (by kernel_rfl) (by kernel_rfl)).can (H_zero (by decide))) ((BY.out.k32 ((memK w0 i).nums hC)).can.arg HDQ.out) (T0.out.below (S5.out.b.trans (hC.1 S5.out.b.size))))⟩)
                · exact (.inl ⟨rfl, .call (.inl rfl) rfl rfl fwd_vecs_Add (fun a w' hC hs hl => by
                    show Calls _ _ #[a.eval (.tmp 97), a.eval (.tmp 104), a.eval (.tmp 107)] _ _
                    rw [show a.eval (.tmp 97) = (.slice (some adr) N ci : Value) from (hl 97 (by kernel_rfl) (by kernel_rfl)), show a.eval (.tmp 104) = (.slice (some adh) N cn2 : Value) from (hl 104 (by kernel_rfl) (by kernel_rfl))]
                    exact vAdd_OL (k := 2 * S + 2) (S5.out.b.trans (hC.1 S5.out.b.size)).size ((RI.out.kp2 (memK_kp2 hC)).lst (S5.out.b.trans (hC.1 S5.out.b.size)) (by rw [LM.out i hlt2]; exact hmx.2)) ((RH.out.kp2 (memK_kp2 hC)).lst (S5.out.b.trans (hC.1 S5.out.b.size)) (by rw [LM.out n hnm]; exact hmx.2)) (hl 107 (by kernel_rfl) (by kernel_rfl)).can (by rw [LM.out i hlt2, LM.out n hnm]) (HsI.out.up (by omega)) (HsN.out.up (by omega)) (H_trd HsN.out HsI.out SZ1.out k) SZ3.out (by rw [LM.out i hlt2]; exact hmx.2) (T0.out.below (S5.out.b.trans (hC.1 S5.out.b.size))))⟩)
                · exact (.inl ⟨rfl, .move (.inl rfl) (.inl rfl) rfl (by kernel_rfl) (by kernel_rfl) rfl⟩)
                · exact (.inl ⟨rfl, .make (.inl rfl) (by intro T e; cases e) rfl (fun a w' hC hs hl => by
                    obtain ⟨u, e, h⟩ := (hl 91 (by kernel_rfl) (by kernel_rfl))
                    have e' : a.tmps[91]?.getD undef = _ := (by simp [Act.eval] : _ = a.eval (.tmp 91)).trans e
                    exact ⟨u, by simp [execOp, go_sem, e'], h⟩)⟩)
                · exact (.inl ⟨rfl, .make (.inl rfl) (by intro T e; cases e) rfl (fun a w' hC hs hl => by
                    obtain ⟨u, e, h⟩ := (hl 91 (by kernel_rfl) (by kernel_rfl))
                    have e' : a.tmps[91]?.getD undef = _ := (by simp [Act.eval] : _ = a.eval (.tmp 91)).trans e
                    exact ⟨_, by simp [execOp, go_sem, e'], rfl⟩)⟩)
                · exact (.inl ⟨rfl, .value (.inl rfl) (by intro T e; cases e) rfl rfl (fun a w' hC hs hl => by
                    have e0 : a.eval (.tmp 95) = (.slice (some ⟨g, 0, none⟩) m c) := (hl 95 (by kernel_rfl) (by kernel_rfl))
                    have e1 : a.eval (.tmp 96) = (.int .i64 (i : Nat)) := (hl 96 (by kernel_rfl) (by kernel_rfl))
                    simp only [execOp, e0, e1]
                    simp [go_sem, hii])⟩)
                · refine .inr ⟨rfl, rfl, (fun T e => by cases e), fun a w' hC hs hl => ?_⟩
                  have e1 : a.eval (.tmp 111) = .pointer (some ⟨g, i, none⟩) := hl 111 (RR.elem_mem (by kernel_rfl)) (RR.elem_mem (by kernel_rfl))
                  have e2 : OLst w' w0.heap.size (a.eval (.tmp 109)) (axpy (swp M n at_ i) (swp M n at_ n) (0 - (swp M n at_ i).getD k 0 / (swp M n at_ n).getD k 0)) := hl 109 (RR.elem_mem (by kernel_rfl)) (RR.elem_mem (by kernel_rfl))
                  obtain ⟨A7, c7, e3⟩ := OLst.slN e2 EL.out
                  rw [e3] at e2
                  obtain ⟨⟨q0, hq⟩, hf, hM, hS⟩ := S5.out.storeK hC hlt2 (.inr (.inl e2)) EL.out
                  refine Does_store (w' := w'.setCell ⟨g, i, none⟩ (.slice A7 N c7)) (by simp only [execOp, e1, e3]; simp [go_sem, hq, hf]) ⟨hM, ?_⟩
                  rw [stp_step _ _ _ _ hin]
                  unfold tr1
                  rw [if_neg hz.out]
                  exact hS
                · intro f wz hC hF _ hE
                  have S6 := hide (hE 21 _ (by decide) rfl rfl)
                  clear hE hF hC
                  simp only [patch, List.drop]
                  generalize f 92 = z92_
                  generalize f 93 = z93_
                  generalize f 94 = z94_
                  generalize f 95 = z95_
                  generalize f 96 = z96_
                  generalize f 97 = z97_
                  generalize f 98 = z98_
                  generalize f 99 = z99_
                  generalize f 100 = z100_
                  generalize f 101 = z101_
                  generalize f 102 = z102_
                  generalize f 103 = z103_
                  generalize f 104 = z104_
                  generalize f 105 = z105_
                  generalize f 106 = z106_
                  generalize f 107 = z107_
                  generalize f 108 = z108_
                  generalize f 91 = z91_
                  generalize f 109 = z109_
                  generalize f 110 = z110_
                  generalize f 111 = z111_
                  clear S5 EL HDQ P0 Qn RI RH V0 V1 V2 BY
                  go_wp2
                  go_roundw
                  case rel => exact ⟨i + 1, by omega, by go_num, S6⟩
                  case measure => simp [intOf]; omega
          · obtain rfl : i = m := by omega
            have P1 : Hid (wr.cell? ⟨p, 1, none⟩ = some (.slice Hd n hc)) := by
              have := S4.out.pc.at_ 1 rfl
              show _ = _
              rw [this, ← hn.out]
              rfl
            have P1' := P1.out
            have own : Hid (wr.ownsRow w0.heap.size 3 1 (.slice Hd n hc) n (hs.map fun x => Value.int .i64 (x : Nat))) := by
              have := S4.out.hr
              rw [hn.out] at this
              exact this
            have O2 := hide (own.out.alloc (.cells #[.int .i64 (k : Nat)] 3))
            have K0 := Blk.new wr 3 (cellsOf .i64 [k])
            have R0 := hide (K0.rd 1 (by simp) (by omega))
            have S5 := hide (S4.out.below ((Below.refl _ _).alloc (Nat.le_refl _) (.cells #[.int .i64 (k : Nat)] 3)))
            have hB := S4.out.b.size
            have hnN : n ≤ 1000000 := by omega
            have NU2 : Hid (∀ x, Nul i N (mat M0) x ↔ Nul i N (mat (stp (swp M n at_) n k i)) x) := fun x => (NU.out x).trans (EC2.out.2 x)
            have EC3 := hide EC2.out.1
            clear K0 own S4 P1 EC2 NU
            go_wp2_with (at_builtin; refine wpList_app (k := .i64) (b := 8) (t := 65) (e := 3) (by kernel_rfl) infoInt _ rfl _ _ rfl w0.heap.size n _ hs rfl O2.out (some ⟨wr.heap.size, 0, none⟩) 1 1 [k] rfl R0.out (by omega) (by omega) (by simp; omega) ?_; intro A3 c4 w3 q1 q2 q3 q4 q5; have PB := blk_grown O2.out q5.out S5.out.pc (by decide); have u1 := PB.frozen 1; have u2 := PB.at_ 1 rfl)
            have S6 : Hid (WS w0 (w3.setCell ⟨p, 1, none⟩ (.slice A3 (n + 1) c4)) p (some ⟨g, 0, none⟩) i c A3 c4 N (stp (swp M n at_) n k i) (hs ++ [k])) := by
              have e := hn.out
              subst e
              have q4' := q4.out
              rw [List.map_append] at q4'
              exact S5.out.more q4' q5.out
            clear PB u1 u2 S5 O2 q2 q3 q4 q5 R0
            go_roundw
            case rel => exact ⟨k + 1, A3, c4, _, hs ++ [k], by omega, by go_num, S6, EC3, NU2, HH2⟩
            case measure => simp [intOf]; omega
    · obtain rfl : k = many := by omega
      go_wp2
      go_end0
      exact opq_end hR ⟨rfl, Hd, hc, M, hs, WSh, EC, NU, HH⟩
end Go.Proofs.YtfpnhggbfakdkaaDoor
