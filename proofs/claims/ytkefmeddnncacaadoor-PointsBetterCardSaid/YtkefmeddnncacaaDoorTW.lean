/- Laws with a Book of fractions: twins of lists; what a call answers, whatever it is told. -/
import Derived.Test.YtkefmeddnncacaaDoorBY
import Derived.Test.YtkefmeddnncacaaDoorBn
import Derived.Test.YtkefmeddnncacaaDoorRV
/- the laws' Book: a list of fractions' twin, and what is left of it. -/
set_option linter.unusedVariables false
set_option linter.unusedSimpArgs false
set_option maxRecDepth 100000
namespace Go.Proofs.YtkefmeddnncacaaDoor
open Go.RowKit

theorem mkR_room (c : Int) (m : Nat) (hc : c = m) (hm : m ≤ 1000000) (w : World) :
    (Instr.makeSlice 22 (.int .i64 0) (.int .i64 c)).run Tryd.prog w = .ok (.slice (some ⟨w.heap.size, 0, none⟩) 0 m) (w.alloc (.cells (madeCells #[.bool false, .slice none 0 0, .slice none 0 0] (m * 3)) TR)) := by
  subst hc
  obtain ⟨i0, hi, hz0, hz1, hz2⟩ := info_parts infoR
  have hb' : (i0.bytes : Int) * (m : Int) ≤ 281474976710656 := by
    rw [hz2]
    omega
  have hr := run_make (P := Tryd.prog) w 22 TR i0 (.agg #[.bool false, .slice none 0 0, .slice none 0 0]) (by kernel_rfl) hi hz0 .i64 .i64 0 (m : Int) (by omega) (by omega) hb' (by omega)
  rw [hr, hz1]
  simp only [Int.toNat_natCast]
  rfl
theorem RRow.made {w : World} (m : Nat) : RRow w.heap.size (w.alloc (.cells (madeCells #[.bool false, .slice none 0 0, .slice none 0 0] (m * 3)) TR)) (some ⟨w.heap.size, 0, none⟩) 0 m (flat []) :=
  ⟨rfl, Nat.zero_le _, .inr ⟨_, _, rfl, Nat.le_refl _, Blk.new w TR _, by rw [size_madeCells]; exact Nat.le_refl _, by simp [flat]⟩⟩
/-- The elements that far. -/
structure TwP (B : Nat) (w : World) (i : Nat) (us : List Value) (es : List Raw) : Prop where
  lu : us.length = i
  els : ∀ (j : Nat) u, us[j]? = some u → ∃ e, es[j]? = some e ∧ TwE B w u e
  ap : UAp us
theorem TwP.keepB {B : Nat} {w w' : World} {i : Nat} {us : List Value} {es : List Raw} (h : TwP B w i us es) (k : ∀ g cs, Blk w g T32 cs → Blk w' g T32 cs) : TwP B w' i us es :=
  ⟨h.lu, fun j u hu => by
    obtain ⟨e, he, hE⟩ := h.els j u hu
    exact ⟨e, he, hE.keepB k⟩, h.ap⟩
theorem TwP.snoc {B : Nat} {w w' : World} {i : Nat} {us : List Value} {es : List Raw} {u : Value} {e : Raw} (h : TwP B w i us es) (k : ∀ g cs, Blk w g T32 cs → Blk w' g T32 cs) (hE : TwE w.heap.size w' u e) (he : es[i]? = some e) (hB : B ≤ w.heap.size) : TwP B w' (i + 1) (us ++ [u]) es := by
  refine ⟨by simp [h.lu], fun j v hj => ?_, h.ap.snoc fun v hv g hg hg' => ?_⟩
  · by_cases hl : j < us.length
    · rw [List.getElem?_append_left hl] at hj
      obtain ⟨e', he', hE'⟩ := h.els j v hj
      exact ⟨e', he', hE'.keepB k⟩
    · rw [List.getElem?_append_right (by omega)] at hj
      have := (List.getElem?_eq_some_iff.1 hj).1
      simp at this
      obtain rfl : j = us.length := by omega
      simp at hj
      subst hj
      exact ⟨e, by rw [h.lu]; exact he, hE.mono hB⟩
  · obtain ⟨j, hj, rfl⟩ := List.getElem_of_mem hv
    obtain ⟨e', he', hE'⟩ := h.els j _ (List.getElem?_eq_getElem hj)
    have := (hE'.own_blk hg).2
    have := (hE.own_blk hg').1
    omega
theorem TwE.shp {B : Nat} {w : World} {u : Value} {e : Raw} (h : TwE B w u e) : Shp u := by
  obtain ⟨X, nx, cx, Y, ny, cy, e1, _⟩ := h
  exact ⟨_, X, nx, cx, Y, ny, cy, e1⟩
/-- How long an element's parts are. -/
def SmE (e : Raw) : Prop := e.2.1.length ≤ 100000 ∧ e.2.2.length ≤ 100000
set_option maxHeartbeats 2000000 in
theorem twinRats_ok {w : World} {v : Value} {es : List Raw} (h : Lst RRaw w v es) (hl : es.length ≤ 100000) (hs : ∀ e ∈ es, SmE e) :
    Calls Tryd.prog 81 #[v] w fun e w' => ∃ X c us, e = .returned (.slice X es.length c) ∧ Below w.heap.size w w' ∧ TwL w.heap.size w' X es.length c us es := by
  refine opq fun R hR => ?_
  obtain ⟨A, c, rfl⟩ := h.sl
  obtain ⟨n, hn⟩ : ∃ n, Hid (es.length = n) := ⟨_, rfl⟩
  rw [hn.out] at h hl hR ⊢
  have L := hide h
  replace hs := hide hs
  clear h
  have hmk := mkR_room ((n : Int) + 1) (n + 1) (by omega) (by omega)
  go_enter Tryd.func81, Tryd.ntmps81
  go_wp2
  clear hmk
  have r0 : Hid (RRow w.heap.size (w.alloc (.cells (madeCells #[.bool false, .slice none 0 0, .slice none 0 0] ((n + 1) * 3)) TR)) (some ⟨w.heap.size, 0, none⟩) 0 (n + 1) (flat [])) := RRow.made (n + 1)
  have b0 := hide ((Below.refl w.heap.size w).alloc (Nat.le_refl _) (.cells (madeCells #[.bool false, .slice none 0 0, .slice none 0 0] ((n + 1) * 3)) TR))
  go_loopw [3, 4] (fun tv iv wr => ∃ (i : Nat) (T : Option Addr) (cT : Nat) (us : List Value), i ≤ n ∧ iv = .int .i64 (i : Nat) ∧ tv = .slice T i cT ∧ Hid (Below w.heap.size w wr) ∧ Hid (RRow w.heap.size wr T i cT (flat us)) ∧ Hid (TwP w.heap.size wr i us es)) (fun _ iv _ => n - (intOf iv).toNat)
  case atStart => exact ⟨0, _, _, [], by omega, rfl, rfl, b0, r0, ⟨rfl, fun j u h => by simp at h, .nil⟩⟩
  case round =>
    clear b0 r0
    obtain ⟨i, T, cT, us, hi, rfl, rfl, b0, row, tw⟩ := hrel
    have hz := hide b0.out.size
    by_cases hlt : i < n
    · obtain ⟨x, hx⟩ : ∃ x, es[i]? = some x := ⟨_, List.getElem?_eq_getElem (by rw [hn.out]; exact hlt)⟩
      obtain ⟨ad, b2, A2, n2, c2, D2, m2, k2, rfl, _, x0, x1, x2, X⟩ := (L.out.raw_below b0.out).at_ tri_raw hx
      obtain ⟨u', d', e', P1, P2⟩ := X
      cases e'
      have hsx := hs.out x (List.mem_of_getElem? hx)
      have l1 : n2 ≤ 100000 := by
        obtain ⟨A', n', c', e', h1⟩ := P1.slice
        cases e'
        rw [← h1]; exact hsx.1
      have l2 : m2 ≤ 100000 := by
        obtain ⟨A', n', c', e', h1⟩ := P2.slice
        cases e'
        rw [← h1]; exact hsx.2
      replace P1 := hide P1
      replace P2 := hide P2
      replace hx := hide hx
      clear hsx
      go_wp2_with fail
      refine (rp_twin P1.out P2.out l1 l2).mono ?_
      rintro e w1 ⟨X, cx, Y, cy, rfl, d1, t1, t2, sp⟩
      have K := hide (Blk.new w1 TR #[.bool x.1, .slice X n2 cx, .slice Y m2 cy])
      have yy : Below w1.heap.size w1 (w1.alloc (.cells #[.bool x.1, .slice X n2 cx, .slice Y m2 cy] TR)) := (Below.refl _ _).alloc (Nat.le_refl _) _
      have D := hide (below_tr d1.out yy)
      have TE : Hid (TwE wr.heap.size (w1.alloc (.cells #[.bool x.1, .slice X n2 cx, .slice Y m2 cy] TR)) (.agg #[.bool x.1, .slice X n2 cx, .slice Y m2 cy]) x) := ⟨X, n2, cx, Y, m2, cy, rfl, t1.below yy, t2.below yy, sp⟩
      have S6 := hide (row.out.below D.out)
      have S7 := hide (below_tr b0.out D.out)
      have S8 : Hid (w.heap.size ≤ (w1.alloc (.cells #[.bool x.1, .slice X n2 cx, .slice Y m2 cy] TR)).heap.size) := S7.out.size
      clear x0 x1 x2 d1 t1 t2 sp yy row P1 P2
      go_wp2_with (at_builtin; refine wpList_app1R (P := Tryd.prog) (t := 22) (by kernel_rfl) infoR rfl _ _ rfl S6.out rfl S8.out (by omega) _ _ _ (one3 _ _ _ _ _ _ _) _ 1 rfl (blk_news K.out) ?_; intro T2 cT2 w2 r1 r2 r3 r4)
      go_roundw
      case rel =>
        have far : ∀ g cs, Blk (w1.alloc (.cells #[.bool x.1, .slice X n2 cx, .slice Y m2 cy] TR)) g T32 cs → Blk w2 g T32 cs := fun g cs hk => S6.out.other r2.out (by decide) hk
        refine ⟨i + 1, T2, cT2, us ++ [.agg #[.bool x.1, .slice X n2 cx, .slice Y m2 cy]], by omega, by go_num, rfl, S7.out.trans (S6.out.base r2.out S8.out), ?_, tw.out.snoc (fun g cs hk => far g cs (hk.below' D.out)) (TE.out.keepB far) hx.out hz.out⟩
        rw [flat_snoc]
        exact r1.out
      case measure => simp [intOf]; omega
    · obtain rfl : i = n := by omega
      have yy : Below wr.heap.size wr ((wr.alloc (.cells #[.int .u32 77] T32)).alloc (.cells #[.bool false, .slice none 0 0, .slice (some ⟨wr.heap.size, 0, none⟩) 1 1] TR)) := ((Below.refl _ _).alloc (Nat.le_refl _) _).alloc (by simp) _
      have KQ := hide ((Blk.new wr T32 #[.int .u32 77]).alloc (.cells #[.bool false, .slice none 0 0, .slice (some ⟨wr.heap.size, 0, none⟩) 1 1] TR))
      have K := hide (Blk.new_at (wr.alloc (.cells #[.int .u32 77] T32)) (wr.heap.size + 1) (by simp) TR #[.bool false, .slice none 0 0, .slice (some ⟨wr.heap.size, 0, none⟩) 1 1])
      have S6 := hide (row.out.below yy)
      have S7 := hide (below_tr b0.out yy)
      have S8 : Hid (w.heap.size ≤ ((wr.alloc (.cells #[.int .u32 77] T32)).alloc (.cells #[.bool false, .slice none 0 0, .slice (some ⟨wr.heap.size, 0, none⟩) 1 1] TR)).heap.size) := S7.out.size
      have TW := hide (tw.out.keepB fun g cs hk => hk.below' yy)
      clear yy row tw b0
      go_wp2_with (at_builtin; refine wpList_app1R (P := Tryd.prog) (t := 22) (by kernel_rfl) infoR rfl _ _ rfl S6.out rfl S8.out (by omega) _ _ _ (one3 _ _ _ _ _ _ _) _ 1 rfl (blk_news K.out) ?_; intro T2 cT2 w2 r1 r2 r3 r4; have hc2 : i < cT2 := r1.out.le)
      have far : ∀ t, t ≠ TR → ∀ g cs, Blk ((wr.alloc (.cells #[.int .u32 77] T32)).alloc (.cells #[.bool false, .slice none 0 0, .slice (some ⟨wr.heap.size, 0, none⟩) 1 1] TR)) g t cs → Blk w2 g t cs := fun t ht g cs hk => S6.out.other r2.out ht hk
      have TW2 := TW.out.keepB (far _ (by decide))
      have TL : Hid (TwL w.heap.size w2 T2 i cT2 us es) := ⟨TW2.lu, hn.out, hc2, by omega, ⟨_, _, _, r1.out, far _ (by decide) _ _ KQ.out, rfl⟩, fun j e he => by
        have hj := (List.getElem?_eq_some_iff.1 he).1
        rw [hn.out] at hj
        obtain ⟨e', he', hE⟩ := TW2.els j (us[j]'(by rw [TW2.lu]; exact hj)) (List.getElem?_eq_getElem _)
        rw [he] at he'
        cases he'
        exact ⟨_, List.getElem?_eq_getElem _, hE⟩, TW2.ap⟩
      have b2 := hide (S7.out.trans (S6.out.base r2.out S8.out))
      clear TW2 far TW
      go_wp2
      exact opq_end hR ⟨T2, cT2, us, rfl, b2.out, TL.out⟩
theorem TwL.el2 {B : Nat} {w : World} {A : Option Addr} {n c : Nat} {us : List Value} {es : List Raw} (h : TwL B w A n c us es) {i : Nat} {e : Raw} (he : es[i]? = some e) :
    ∃ g X nx cx Y ny cy, A = some ⟨g, 0, none⟩ ∧ w.cell? ⟨g, i * 3, none⟩ = some (.bool e.1) ∧ w.cell? ⟨g, i * 3 + 1, none⟩ = some (.slice X nx cx) ∧ w.cell? ⟨g, i * 3 + 2, none⟩ = some (.slice Y ny cy) ∧ Tw B w X nx cx e.2.1 ∧ Tw B w Y ny cy e.2.2 := by
  have hi : i < n := by rw [← h.le]; exact (List.getElem?_eq_some_iff.1 he).1
  obtain ⟨u, hu, X, nx, cx, Y, ny, cy, rfl, h1, h2, h3⟩ := h.els i e he
  obtain ⟨g, b, A1, n1, c1, D1, m1, k1, e0, hu2, x0, x1, x2⟩ := h.rrow.el h.lu (fun v hv => (h.elB v hv).shp) hi
  rw [hu] at hu2
  cases hu2
  exact ⟨g, X, nx, cx, Y, ny, cy, e0, x0, x1, x2, h1, h2⟩
theorem TwL.last {B : Nat} {w : World} {A : Option Addr} {n c : Nat} {us : List Value} {es : List Raw} (h : TwL B w A n c us es) :
    ∃ g q d, A = some ⟨g, 0, none⟩ ∧ w.cell? ⟨g, n * 3, none⟩ = some (.bool false) ∧ w.cell? ⟨g, n * 3 + 1, none⟩ = some (.slice none 0 0) ∧ w.cell? ⟨g, n * 3 + 2, none⟩ = some (.slice (some ⟨q, 0, none⟩) 1 d) ∧ w.cell? ⟨q, 0, none⟩ = some (.int .u32 77) := by
  obtain ⟨q, d, cs, h1, h2, h3⟩ := h.row
  have hf := h.flen
  obtain ⟨g, e, _, _, _, c0, _⟩ := h1.at_ (i := n * 3) (by omega)
  obtain ⟨g1, e1, _, _, _, c1, _⟩ := h1.at_ (i := n * 3 + 1) (by omega)
  obtain ⟨g2, e2, _, _, _, c2, _⟩ := h1.at_ (i := n * 3 + 2) (by omega)
  rw [e] at e1 e2
  cases e1
  cases e2
  refine ⟨g, q, d, e, ?_, ?_, ?_, h2.at_ 0 h3⟩
  · rw [c0, List.getElem?_append_right (by omega), hf, Nat.sub_self]; rfl
  · rw [c1, List.getElem?_append_right (by omega), hf, show n * 3 + 1 - n * 3 = 1 by omega]; rfl
  · rw [c2, List.getElem?_append_right (by omega), hf, show n * 3 + 2 - n * 3 = 2 by omega]; rfl
theorem fbt_assayerlaw01_LeftRat (args : Array Value) (w : World) : (callFunc 22 args).run Tryd.prog w = .ok (.enter 22 args) w := callFunc_enter Tryd.func22 (by kernel_rfl) rfl args w
set_option maxHeartbeats 2000000 in
theorem leftRats_ok {B : Nat} {w : World} {X0 : Option Addr} {n c : Nat} {us : List Value} {v : Value} {es : List Raw} (h : TwL B w X0 n c us es) (h' : Lst RRaw w v es) :
    Calls Tryd.prog 88 #[.slice X0 n c, v] w fun e w' => ∃ u, e = .returned u ∧ Below w.heap.size w w' ∧ u = .bool true := by
  refine opq fun R hR => ?_
  obtain ⟨A', c', rfl⟩ := h'.sl
  have hle := h.le
  have hlc := h.lt
  have hbd := h.bd
  rw [hle] at h' ⊢
  obtain ⟨ga, q, d, rfl, m0, m1, m2, m3⟩ := h.last
  replace m0 := hide m0
  replace m1 := hide m1
  replace m2 := hide m2
  replace m3 := hide m3
  replace hle := hide hle
  have TL := hide h
  have M := hide h'
  clear h h'
  have hc1 : ¬ ((c : Int) ≤ (n : Int)) := by omega
  go_enter Tryd.func88, Tryd.ntmps88
  go_wp2
  go_loopw [5] (fun iv wr => ∃ (i : Nat), i ≤ n ∧ iv = .int .i64 (i : Nat) ∧ Hid (Below w.heap.size w wr)) (fun iv _ => n - (intOf iv).toNat)
  case atStart => exact ⟨0, by omega, rfl, Below.refl _ _⟩
  case round =>
    obtain ⟨i, hi, rfl, b0⟩ := hrel
    by_cases hlt : i < n
    · obtain ⟨e, he⟩ : ∃ e, es[i]? = some e := ⟨_, List.getElem?_eq_getElem (by rw [hle.out]; exact hlt)⟩
      obtain ⟨ga', X, nx, cx, Y, ny, cy, eg, x0, x1, x2, H1, H2⟩ := (TL.out.below b0.out).el2 he
      cases eg
      obtain ⟨ad2, b3, A3, n3, c3, D3, m3_, k3, rfl, _, y0, y1, y2, E⟩ := (M.out.raw_below b0.out).at_ tri_raw he
      obtain ⟨u', d', e', H3, H4⟩ := E
      cases e'
      replace H1 := hide H1
      replace H2 := hide H2
      replace H3 := hide H3
      replace H4 := hide H4
      have P0 := hide x0
      have P1 := hide x1
      have P2 := hide x2
      have Q0 := hide y0
      have Q1 := hide y1
      have Q2 := hide y2
      obtain ⟨rfl, rfl⟩ : nx = n3 ∧ ny = m3_ := by
        have q1 := H1.out.rd.1
        have q2 := H2.out.rd.1
        obtain ⟨_, _, _, f1, g1⟩ := H3.out.slice
        obtain ⟨_, _, _, f2, g2⟩ := H4.out.slice
        cases f1
        cases f2
        simp at q1 q2
        omega
      clear x0 x1 x2 y0 y1 y2 he
      have hlt2 : ¬ ((n : Int) ≤ (i : Int)) := by omega
      go_wp2
      refine wp_region_facts 10 (fun w' => Below wr.heap.size wr w') [(25, .eq (.slice (some ⟨ga, 0, none⟩) n c)), (26, .eq (.int .i64 (i : Nat))), (27, .eq ((.pointer (some ⟨ga, i * 3, none⟩) : Value))), (28, .eq (.agg #[.bool e.1, .slice X nx cx, .slice Y ny cy])), (29, .eq (.slice (some ad2) n c')), (30, .eq (.int .i64 (i : Nat))), (31, .eq ((.pointer (some (ad2.add (i * 3))) : Value))), (32, .eq (.agg #[.bool e.1, .slice A3 nx c3, .slice D3 ny k3])), (33, .eq (.bool true)), (34, .eq (.bool false))] [false, false, false, false, false, false, false, false, false, false, false, false, false, false, false, false, false, false, false, false, false, false, false, false, false, true, true, true, true, true, true, true, true, true, true, false, false, false, false, false, false, false, false, false, false, false, false, false, false, false, false, false, false, false, false] mixed (by kernel_rfl) (by kernel_rfl) (by kernel_rfl) (fun _ _ h hb => h.trans (hb.mono h.size)) ((Below.refl _ _).drew) ⟨?_, ?_, ?_, ?_, ?_, ?_, ?_, ?_, ?_, ?_, trivial⟩ ?_
      · exact .moveC (.inl rfl) (.inl rfl) rfl (fun a w' hC hs => (hs 0 (by kernel_rfl)))
      · exact .moveC (.inl rfl) (.inl rfl) rfl (fun a w' hC hs => (hs 5 (by kernel_rfl)))
      · exact .value (.inl rfl) (by intro T e; cases e) rfl rfl (fun a w' hC hs hl => by
          have e0 : a.eval (.tmp 25) = (.slice (some ⟨ga, 0, none⟩) n c) := (hl 25 (by kernel_rfl) (by kernel_rfl))
          have e1 : a.eval (.tmp 26) = (.int .i64 (i : Nat)) := (hl 26 (by kernel_rfl) (by kernel_rfl))
          simp only [execOp, e0, e1]
          simp [go_sem, hlt2])
      · exact .load (.agg #[.bool e.1, .slice X nx cx, .slice Y ny cy]) (.inl rfl) rfl rfl (fun a w' hC hs hl => by rw [show a.eval (.tmp 27) = (.pointer (some ⟨ga, i * 3, none⟩) : Value) from (hl 27 (by kernel_rfl) (by kernel_rfl))]; exact ⟨by simp [go_sem, cell_below hC P0.out, cell_below hC P1.out, cell_below hC P2.out], rfl⟩)
      · exact .moveC (.inl rfl) (.inl rfl) rfl (fun a w' hC hs => (hs 1 (by kernel_rfl)))
      · exact .moveC (.inl rfl) (.inl rfl) rfl (fun a w' hC hs => (hs 5 (by kernel_rfl)))
      · exact .value (.inl rfl) (by intro T e; cases e) rfl rfl (fun a w' hC hs hl => by
          have e0 : a.eval (.tmp 29) = (.slice (some ad2) n c') := (hl 29 (by kernel_rfl) (by kernel_rfl))
          have e1 : a.eval (.tmp 30) = (.int .i64 (i : Nat)) := (hl 30 (by kernel_rfl) (by kernel_rfl))
          simp only [execOp, e0, e1]
          simp [go_sem, hlt2])
      · exact .load (.agg #[.bool e.1, .slice A3 nx c3, .slice D3 ny k3]) (.inl rfl) rfl rfl (fun a w' hC hs hl => by rw [show a.eval (.tmp 31) = (.pointer (some (ad2.add (i * 3))) : Value) from (hl 31 (by kernel_rfl) (by kernel_rfl))]; exact ⟨ld_RatAt (cell_below hC Q0.out) (cell_below hC Q1.out) (cell_below hC Q2.out), rfl⟩)
      · exact .call (.inl rfl) rfl rfl fbt_assayerlaw01_LeftRat (fun a w' hC hs hl => by
          show Calls _ _ #[a.eval (.tmp 28), a.eval (.tmp 32)] _ _
          rw [show a.eval (.tmp 28) = (.agg #[.bool e.1, .slice X nx cx, .slice Y ny cy] : Value) from (hl 28 (by kernel_rfl) (by kernel_rfl)), show a.eval (.tmp 32) = (.agg #[.bool e.1, .slice A3 nx c3, .slice D3 ny k3] : Value) from (hl 32 (by kernel_rfl) (by kernel_rfl))]
          exact rp_left (H1.out.below hC) (H2.out.below hC) (H3.out.below hC) (H4.out.below hC))
      · exact .value (.inl rfl) (by intro T e; cases e) rfl rfl (fun a w' hC hs hl => by
          have e0 : a.eval (.tmp 33) = (.bool true) := (hl 33 (by kernel_rfl) (by kernel_rfl))
          simp only [execOp, e0]
          skip
          simp [go_sem] <;> rfl)
      · intro f wz hC hF _
        have fz : f 34 = .bool false := hF 34 (by kernel_rfl)
        clear hF
        simp only [patch, List.drop]
        rw [fz]
        clear fz
        try change wpList _ _ _ [] _ _
        generalize f 25 = y25_
        generalize f 26 = y26_
        generalize f 27 = y27_
        generalize f 28 = y28_
        generalize f 29 = y29_
        generalize f 30 = y30_
        generalize f 31 = y31_
        generalize f 32 = y32_
        generalize f 33 = y33_
        have b0' := hide (below_tr b0.out hC)
        clear hC P0 P1 P2 Q0 Q1 Q2 hlt2 H1 H2 H3 H4
        go_wp2
        go_roundw
        case rel => exact ⟨i + 1, by omega, by go_num, b0'⟩
        case measure => simp [intOf]; omega
    · obtain rfl : i = n := by omega
      have M0 := cell_below b0.out m0.out
      have M1 := cell_below b0.out m1.out
      have M2 := cell_below b0.out m2.out
      have M3 := cell_below ((Below.refl wr.heap.size wr).alloc (Nat.le_refl _) (.cells #[.bool false, .slice none 0 0, .slice (some ⟨q, 0, none⟩) 1 d] TR)) (cell_below b0.out m3.out)
      have KB := Blk.new wr TR #[.bool false, .slice none 0 0, .slice (some ⟨q, 0, none⟩) 1 d]
      have N2 := KB.at_ 2 rfl
      have b2 := hide (b0.out.alloc b0.out.size (.cells #[.bool false, .slice none 0 0, .slice (some ⟨q, 0, none⟩) 1 d] TR))
      clear KB
      go_wp2
      exact opq_end hR ⟨_, rfl, b2.out, rfl⟩
end Go.Proofs.YtkefmeddnncacaaDoor

/- laws of vecs that compare: what a call answers, whatever it is told. -/
set_option linter.unusedVariables false
set_option linter.unusedSimpArgs false
set_option maxRecDepth 100000
namespace Go.Proofs.YtkefmeddnncacaaDoor
open Go.RowKit

theorem Lst.argW {w : World} {v : Value} {es : List Raw} (h : Lst RRw w v es) (k : Nat) (hl : tsz es ≤ k) (hk : k ≤ 1000000) : Lst RArg w v (es.map rvE) :=
  h.imp rvE fun u e he hu => hu.arg (Nat.le_trans (tsz_mem he) (Nat.le_trans hl hk))
theorem Tw.xs {B : Nat} {w : World} {A : Option Addr} {n c : Nat} {xs : List Nat} (h : Tw B w A n c xs) : xs.length = n := by
  have := h.rd.1
  simp at this
  omega
theorem TwE.arg {B : Nat} {w : World} {u : Value} {e : Raw} (h : TwE B w u e) : RArg w u (rvE e) := by
  obtain ⟨X, nx, cx, Y, ny, cy, e1, h1, h2, h3⟩ := h
  have l1 := h1.len
  have l2 := h2.len
  have x1 := h1.xs
  have x2 := h2.xs
  exact ⟨e.1, e.2.1, e.2.2, ⟨_, _, e1, h1.prt, h2.prt⟩, by omega, by omega, rfl⟩
theorem TwL.argl {B : Nat} {w : World} {A : Option Addr} {n c : Nat} {us : List Value} {es : List Raw} (h : TwL B w A n c us es) : Lst RArg w (.slice A n c) (es.map rvE) :=
  h.rrow.lst h.lu (by rw [List.length_map]; exact h.le) (by have := h.bd; omega) fun j q hq => by
    rw [List.getElem?_map] at hq
    obtain ⟨e, he, rfl⟩ := Option.map_eq_some_iff.1 hq
    obtain ⟨u, hu, hE⟩ := h.els j e he
    exact ⟨u, hu, hE.arg⟩
theorem twinRats_n {w : World} {v : Value} {es : List Raw} {n : Nat} (hn : es.length = n) (h : Lst RRaw w v es) (hl : n ≤ 100000) (hs : ∀ e ∈ es, SmE e) :
    Calls Tryd.prog 81 #[v] w fun e w' => ∃ X c us, e = .returned (.slice X n c) ∧ Below w.heap.size w w' ∧ TwL w.heap.size w' X n c us es := by
  subst hn
  exact twinRats_ok h hl hs
section
variable (es fs : List Raw) (e0 : Raw)
def dotK : Int := if fits es fs = true then 0 else 1
def dotZ : Int := if fits es fs = true then (dot (es.map rvE) (fs.map rvE)).num else 0
def dotN : Nat := if fits es fs = true then (dot (es.map rvE) (fs.map rvE)).den else 0
def addK : Int := if (fits es fs && rk e0) = true then 0 else 1
def addL : List Rat := if (fits es fs && rk e0) = true then axpy (es.map rvE) (fs.map rvE) (rvE e0) else []
def sameB : Bool := fits es fs && decide (es.map rvE = fs.map rvE)
end
section
variable {w : World} {v v' u0 : Value} {es fs : List Raw} {e0 : Raw} {k : Nat}
end
end Go.Proofs.YtkefmeddnncacaaDoor
