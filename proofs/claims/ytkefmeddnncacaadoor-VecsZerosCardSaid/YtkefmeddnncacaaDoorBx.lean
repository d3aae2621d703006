/- the laws' Book where lists of fractions are held too: Apart. -/
import Derived.Test.YtkefmeddnncacaaDoorBw
set_option linter.unusedVariables false
set_option linter.unusedSimpArgs false
set_option maxRecDepth 100000
namespace Go.Proofs.YtkefmeddnncacaaDoor
open Go.RowKit

/-- Lists of fractions that are held, each in a block of its own, of number at most hi. -/
def HBR (B hi : Nat) (w : World) (fs : List Ent) : Prop :=
  ∃ X Y, HeldR B w fs X Y ∧ (∀ (i : Nat) (e : Ent) g, fs[i]? = some e → e.has g → g < hi) ∧ ∀ e ∈ fs, e.k ≤ 100000 ∧ e.n ≤ 500000 ∧ e.d = 0
theorem HBR.nil (B hi : Nat) (w : World) : HBR B hi w [] :=
  ⟨fun _ => [], fun _ => [], ⟨fun i e h => by simp at h, fun i e h => by simp at h, fun i j e e' _ h => by simp at h, fun i e h => by simp at h⟩, fun i e g h => by simp at h, fun e h => by simp at h⟩
theorem HBR.keep {B hi : Nat} {w w' : World} {fs : List Ent} (h : HBR B hi w fs) (k : ∀ g cs, Blk w g TR cs → Blk w' g TR cs) : HBR B hi w' fs := by
  obtain ⟨X, Y, h1, h2, h3⟩ := h
  exact ⟨X, Y, h1.keep fun g cs _ hk => k g cs hk, h2, h3⟩
theorem HBR.kp {B hi : Nat} {w w' : World} {fs : List Ent} (h : HBR B hi w fs) (k : KpF B w w') : HBR B hi w' fs := h.keep fun g cs hk => k.nums g _ cs (by decide) (by decide) (by decide) hk
theorem HBR.bel {B hi : Nat} {w w' : World} {fs : List Ent} (h : HBR B hi w fs) (k : Below w.heap.size w w') : HBR B hi w' fs := h.keep fun g cs hk => hk.below' k
theorem HBR.up {B hi hi' : Nat} {w : World} {fs : List Ent} (h : HBR B hi w fs) (hh : hi ≤ hi') : HBR B hi' w fs := by
  obtain ⟨X, Y, h1, h2, h3⟩ := h
  exact ⟨X, Y, h1, fun i e g he hg => Nat.lt_of_lt_of_le (h2 i e g he hg) hh, h3⟩
theorem HBR.snoc {B hi hi' : Nat} {w : World} {es : List Ent} (h : HBR B hi w es) {A : Option Addr} {n c : Nat} {xs : List Value} (l : RRow hi w A n c xs) (hh : hi' = w.heap.size) (hB : B ≤ hi) (hw : hi ≤ w.heap.size) (hn : n ≤ 500000) {k : Nat} (hk : k ≤ 100000) : HBR B hi' w (es ++ [⟨A, n, c, none, 0, 0, k⟩]) := by
  subst hh
  obtain ⟨X, Y, h1, h2, h3⟩ := h
  have hl : ∀ g, blkOf A c = some g → hi ≤ g ∧ g < w.heap.size := fun g hg => by
    obtain ⟨cs, _, e1, e2, _⟩ := l.blk hg
    exact ⟨e1, e2.lt⟩
  have hcase : ∀ (i : Nat) (e : Ent), (es ++ [⟨A, n, c, none, 0, 0, k⟩])[i]? = some e → (es[i]? = some e ∧ i < es.length) ∨ (i = es.length ∧ e = ⟨A, n, c, none, 0, 0, k⟩) := fun i e he => by
    by_cases hi : i < es.length
    · rw [List.getElem?_append_left hi] at he
      exact .inl ⟨he, hi⟩
    · rw [List.getElem?_append_right (by omega)] at he
      have := (List.getElem?_eq_some_iff.1 he).1
      simp at this
      obtain rfl : i = es.length := by omega
      simp at he
      exact .inr ⟨rfl, he.symm⟩
  have hnew : ∀ g, Ent.has ⟨A, n, c, none, 0, 0, k⟩ g → blkOf A c = some g := fun g hg => by
    rcases hg with x | x
    · exact x
    · simp [blkOf] at x
  refine ⟨upd X es.length xs, upd Y es.length [], ⟨fun i e he => ?_, fun i e he => ?_, fun i j e e' hne he he' g hg hg' => ?_, fun i e he => ?_⟩, fun i e g he hg => ?_, fun e he => ?_⟩
  · rcases hcase i e he with ⟨x, y⟩ | ⟨rfl, rfl⟩
    · rw [upd_ne _ _ (by omega)]; exact h1.a _ _ x
    · rw [upd_same]
      refine ⟨l.len, l.le, ?_⟩
      rcases l.own with z | ⟨g, cs, z1, z2, z3⟩
      · exact .inl z
      · exact .inr ⟨g, cs, z1, Nat.le_trans hB z2, z3⟩
  · rcases hcase i e he with ⟨x, y⟩ | ⟨rfl, rfl⟩
    · rw [upd_ne _ _ (by omega)]; exact h1.l _ _ x
    · rw [upd_same]; exact ⟨rfl, Nat.le_refl _, .inl rfl⟩
  · rcases hcase i e he with ⟨x, y⟩ | ⟨rfl, rfl⟩ <;> rcases hcase j e' he' with ⟨x', y'⟩ | ⟨rfl, rfl⟩
    · exact h1.apart _ _ _ _ hne x x' g hg hg'
    · have := h2 _ _ _ x hg
      have := hl g (hnew g hg')
      omega
    · have := h2 _ _ _ x' hg'
      have := hl g (hnew g hg)
      omega
    · exact hne rfl
  · rcases hcase i e he with ⟨x, y⟩ | ⟨rfl, rfl⟩
    · exact h1.two _ _ x
    · exact .inr fun g hg => by simp [blkOf] at hg
  · rcases hcase i e he with ⟨x, y⟩ | ⟨rfl, rfl⟩
    · have := h2 _ _ _ x hg
      omega
    · exact (hl g (hnew g hg)).2
  · rcases List.mem_append.1 he with x | x
    · exact h3 e x
    · simp at x
      subst x
      exact ⟨hk, hn, rfl⟩
theorem HB.kpF {B hi : Nat} {w w' : World} {es : List Ent} (h : HB B hi w es) (k : KpF B w w') : HB B hi w' es := by
  obtain ⟨X, Y, h1, h2, h3⟩ := h
  exact ⟨X, Y, h1.keep fun g cs _ hk => k.nums g _ cs (by decide) (by decide) (by decide) hk, h2, h3⟩
theorem BookV.by {v : Value} {B : Nat} {w w' : World} {g num : Nat} {u : Value} {fs : List Ent} (h : BookV v B w g num u fs) (hb : Blk w' g TBK (bkF num v u)) (k : ∀ r cs, Blk w r THR cs → Blk w' r THR cs) : BookV v B w' g num u fs := ⟨hb, h.own, own_keepT h.row k⟩
theorem BookU.by {v : Value} {B : Nat} {w w' : World} {g num : Nat} {u : Value} {es : List Ent} (h : BookU u B w g num v es) (hb : Blk w' g TBK (bkF num v u)) (k : ∀ r cs, Blk w r TH cs → Blk w' r TH cs) : BookU u B w' g num v es := ⟨hb, h.own, own_keepT h.row k⟩

set_option maxHeartbeats 4000000 in
theorem Apart_F (w : World) (B g num hi hj : Nat) (v u : Value) (es fs : List Ent) (hB : B ≤ w.heap.size) (hb : BookF B w g num v u es fs) (hh : HB B hi w es) (hr : HBR B hj w fs) (hes : es.length ≤ 100000) (hfs : fs.length ≤ 100000) :
    Calls Tryd.prog 15 #[.pointer (some ⟨g, 0, none⟩)] w fun e w' => e = .returned (.bool true) ∧ Below B w w' := by
  refine opq fun R hR => ?_
  obtain ⟨rc, rcl, rfl⟩ := hb.U.len
  obtain ⟨rr, rrl, rfl⟩ := hb.V.len
  have K := hide hb.U.blk
  have gB := hide hb.U.own
  obtain ⟨X0, Y0, t1, t2, t3⟩ := hh
  obtain ⟨P0, Q0, p1, p2, p3⟩ := hr
  replace t3 := hide t3
  replace p3 := hide p3
  obtain ⟨w0, hw0⟩ : ∃ w0, w0 = w := ⟨_, rfl⟩
  rw [← hw0] at hR
  have S0 : Hid (B ≤ w.heap.size ∧ BookU (.slice rr fs.length rrl) B w g num (.slice rc es.length rcl) es ∧ BookV (.slice rc es.length rcl) B w g num (.slice rr fs.length rrl) fs ∧ Held B w es X0 Y0 ∧ HeldR B w fs P0 Q0 ∧ Below B w0 w) := ⟨hB, hb.U, hb.V, t1, p1, by rw [hw0]; exact Below.refl B w⟩
  replace hw0 := hide hw0
  clear hb t1 t2 p1 p2 hB hw0
  go_enter Tryd.func15, Tryd.ntmps15

  go_wp2_with fail
  refine (fillByte_nil _ g (K.out.at_ 1 rfl)).mono ?_
  rintro e w' ⟨⟨_, rfl⟩, rfl⟩
  go_wp2_with fail
  refine (fillInt32_U _ B g num _ _ es X0 Y0 S0.out.1 S0.out.2.1 S0.out.2.2.2.1 hes (fun e he => ⟨(t3.out e he).1, by have := (t3.out e he).2.1; omega, (t3.out e he).2.2⟩)).mono ?_
  rintro e w1 ⟨⟨_, rfl⟩, z1, z2, X1, z3, z4⟩
  have S1 : Hid (B ≤ w1.heap.size ∧ BookU (.slice rr fs.length rrl) B w1 g num (.slice rc es.length rcl) es ∧ BookV (.slice rc es.length rcl) B w1 g num (.slice rr fs.length rrl) fs ∧ Held B w1 es X1 Y0 ∧ HeldR B w1 fs P0 Q0 ∧ Below B w0 w1) :=
    ⟨Nat.le_trans S0.out.1 z1.size, z2, S0.out.2.2.1.keep fun b t cs n1 _ hk => z1.keep b t cs n1 hk, z3, S0.out.2.2.2.2.1.keep fun b cs _ hk => z1.keep b _ cs (by decide) hk, S0.out.2.2.2.2.2.trans z1.base⟩
  replace z4 := hide z4
  obtain ⟨lo, hlo⟩ : ∃ lo, Hid (lo = w1.heap.size) := ⟨_, rfl⟩
  clear S0 K z1 z3
  have K := hide z2.blk
  clear z2
  go_wp2_with fail
  refine (fillNum_nil _ g (K.out.at_ 3 rfl)).mono ?_
  rintro e w' ⟨⟨_, rfl⟩, rfl⟩
  go_wp2_with fail
  refine (fillBool_nil _ g (K.out.at_ 4 rfl)).mono ?_
  rintro e w' ⟨⟨_, rfl⟩, rfl⟩
  go_wp2_with fail
  refine (fillText_nil _ g (K.out.at_ 5 rfl)).mono ?_
  rintro e w' ⟨⟨_, rfl⟩, rfl⟩
  go_wp2_with fail
  refine (fillToken_nil _ g (K.out.at_ 6 rfl)).mono ?_
  rintro e w' ⟨⟨_, rfl⟩, rfl⟩
  go_wp2_with fail
  refine (fillTenant_nil _ g (K.out.at_ 7 rfl)).mono ?_
  rintro e w' ⟨⟨_, rfl⟩, rfl⟩
  go_wp2_with fail
  refine (fillRat_V _ B g num _ _ fs P0 Q0 S1.out.1 S1.out.2.2.1 S1.out.2.2.2.2.1 hfs (fun e he => ⟨(p3.out e he).1, by have := (p3.out e he).2.1; omega, (p3.out e he).2.2⟩)).mono ?_
  rintro e w2 ⟨⟨_, rfl⟩, z1, z2, P1, z3, y4⟩
  have S2 : Hid (B ≤ w2.heap.size ∧ BookU (.slice rr fs.length rrl) B w2 g num (.slice rc es.length rcl) es ∧ BookV (.slice rc es.length rcl) B w2 g num (.slice rr fs.length rrl) fs ∧ Held B w2 es X1 Y0 ∧ HeldR B w2 fs P1 Q0 ∧ Below B w0 w2) :=
    ⟨Nat.le_trans S1.out.1 z1.size, S1.out.2.1.keep fun b t cs _ n1 hk => z1.keep b t cs n1 hk, z2, S1.out.2.2.2.1.keep fun b cs _ hk => z1.keep b _ cs (by decide) hk, z3, S1.out.2.2.2.2.2.trans z1.base⟩
  have O2 : Hid (Old lo w2.heap.size es) := fun i e g he hg => .inl (by rw [hlo.out]; exact S1.out.2.2.2.1.lt he hg)
  have L2 : Hid (lo ≤ w2.heap.size) := by rw [hlo.out]; exact z1.size
  rw [← hlo.out] at y4
  replace y4 := hide y4
  clear S1 K z1 z3 hlo
  have K := hide z2.blk
  clear z2
  go_wp2_with fail
  refine (fillVar_nil _ g (K.out.at_ 9 rfl)).mono ?_
  rintro e w' ⟨⟨_, rfl⟩, rfl⟩
  go_wp2_with fail
  refine (fillRow_nil _ g (K.out.at_ 10 rfl)).mono ?_
  rintro e w' ⟨⟨_, rfl⟩, rfl⟩
  go_wp2_with fail
  refine (fillNode_nil _ g (K.out.at_ 11 rfl)).mono ?_
  rintro e w' ⟨⟨_, rfl⟩, rfl⟩
  go_wp2_with fail
  refine (fillJob_nil _ g (K.out.at_ 12 rfl)).mono ?_
  rintro e w' ⟨⟨_, rfl⟩, rfl⟩
  go_wp2_with fail
  refine (growByte_nil _ g (K.out.at_ 1 rfl)).mono ?_
  rintro e w' ⟨⟨_, rfl⟩, rfl⟩
  go_wp2_with fail
  refine (growInt32_U _ B g num _ _ es X1 Y0 S2.out.1 S2.out.2.1 S2.out.2.2.2.1 hes (fun e he => ⟨(t3.out e he).1, (t3.out e he).2.1⟩) z4.out lo O2.out).mono ?_
  rintro e w3 ⟨⟨_, rfl⟩, z1, es', Y1, z2, z3, z5⟩
  have hes2 : Hid (es'.length = es.length) := z5.len
  have S3 : Hid (B ≤ w3.heap.size ∧ BookU (.slice rr fs.length rrl) B w3 g num (.slice rc es.length rcl) es' ∧ BookV (.slice rc es.length rcl) B w3 g num (.slice rr fs.length rrl) fs ∧ Held B w3 es' X1 Y1 ∧ HeldR B w3 fs P1 Q0 ∧ Below B w0 w3) :=
    ⟨Nat.le_trans S2.out.1 z1.size, z2, S2.out.2.2.1.by z2.blk fun r cs hk => z1.keep r _ cs (by decide) (fun e => absurd e (by decide)) hk, z3, S2.out.2.2.2.2.1.keep fun b cs _ hk => z1.keep b _ cs (by decide) (fun e => absurd e (by decide)) hk, S2.out.2.2.2.2.2.trans z1.base⟩
  have G3 : Hid (∀ (i : Nat) (e : Ent), es'[i]? = some e → e.k ≤ 100000 ∧ e.n ≤ 500000 ∧ e.m = e.n + 40 ∧ X1 i = List.replicate e.n (mk32 e.k) ∧ Y1 i = List.replicate e.m (mk32 e.k)) := fun i e he => by
    obtain ⟨e0, y0, y1, y2, y3, y4⟩ := z5.same i e he
    have hi' := (List.getElem?_eq_some_iff.1 he).1
    rw [hes2.out] at hi'
    obtain ⟨y5, y6⟩ := z5.done i e hi' he
    have y7 := t3.out e0 (List.mem_of_getElem? y0)
    refine ⟨by rw [y4]; exact y7.1, by rw [y2]; exact y7.2.1, y5, ?_, by rw [y5]; exact y6⟩
    rw [z4.out i e0 y0, y2, y4]
  have L3 : Hid (lo ≤ w3.heap.size) := Nat.le_trans L2.out z1.size
  replace y4 : Hid (∀ (i : Nat) (e : Ent), fs[i]? = some e → Mks w3 lo e.k e.n (P1 i)) := fun i e he => (y4.out i e he).keep fun q cs hq hk => z1.keep q _ cs (by decide) (fun _ => hq) hk
  clear S2 K z1 z3 z5 z4 t3 O2 L2
  have K := hide z2.blk
  clear z2
  go_wp2_with fail
  refine (growNum_nil _ g (K.out.at_ 3 rfl)).mono ?_
  rintro e w' ⟨⟨_, rfl⟩, rfl⟩
  go_wp2_with fail
  refine (growBool_nil _ g (K.out.at_ 4 rfl)).mono ?_
  rintro e w' ⟨⟨_, rfl⟩, rfl⟩
  go_wp2_with fail
  refine (growText_nil _ g (K.out.at_ 5 rfl)).mono ?_
  rintro e w' ⟨⟨_, rfl⟩, rfl⟩
  go_wp2_with fail
  refine (growToken_nil _ g (K.out.at_ 6 rfl)).mono ?_
  rintro e w' ⟨⟨_, rfl⟩, rfl⟩
  go_wp2_with fail
  refine (growTenant_nil _ g (K.out.at_ 7 rfl)).mono ?_
  rintro e w' ⟨⟨_, rfl⟩, rfl⟩
  go_wp2_with fail
  refine (growRat_V _ B g num _ _ fs P1 Q0 S3.out.1 S3.out.2.2.1 S3.out.2.2.2.2.1 hfs (fun e he => ⟨(p3.out e he).1, (p3.out e he).2.1⟩) lo L3.out y4.out).mono ?_
  rintro e w4 ⟨⟨_, rfl⟩, z1, fs', Q1, z2, z3, z5⟩
  have hfs2 : Hid (fs'.length = fs.length) := z5.len
  have S4 : Hid (B ≤ w4.heap.size ∧ BookU (.slice rr fs.length rrl) B w4 g num (.slice rc es.length rcl) es' ∧ BookV (.slice rc es.length rcl) B w4 g num (.slice rr fs.length rrl) fs' ∧ Held B w4 es' X1 Y1 ∧ HeldR B w4 fs' P1 Q1 ∧ Below B w0 w4) :=
    ⟨Nat.le_trans S3.out.1 z1.size, S3.out.2.1.by z2.blk fun r cs hk => z1.keep r _ cs (by decide) (by decide) hk, z2, S3.out.2.2.2.1.keep fun b cs _ hk => z1.keep b _ cs (by decide) (by decide) hk, z3, S3.out.2.2.2.2.2.trans z1.base⟩
  have G4 : Hid (∀ (i : Nat) (e : Ent), fs'[i]? = some e → e.k ≤ 100000 ∧ e.n ≤ 500000 ∧ e.m = e.n + 40 ∧ Mks w4 lo e.k e.n (P1 i) ∧ Mks w4 lo e.k e.m (Q1 i)) := fun i e he => by
    obtain ⟨e0, y0, y1, y2, y3, y5⟩ := z5.same i e he
    have hi' := (List.getElem?_eq_some_iff.1 he).1
    rw [hfs2.out] at hi'
    obtain ⟨y6, y7⟩ := z5.done i e hi' he
    have y8 := p3.out e0 (List.mem_of_getElem? y0)
    refine ⟨by rw [y5]; exact y8.1, by rw [y2]; exact y8.2.1, y6, ?_, by rw [y6]; exact y7⟩
    rw [y2, y5]
    exact (y4.out i e0 y0).keep fun q cs hq hk => z1.keep q _ cs (by decide) (by decide) hk
  clear S3 K z1 z3 z5 y4 p3 L3
  have K := hide z2.blk
  clear z2
  go_wp2_with fail
  refine (growVar_nil _ g (K.out.at_ 9 rfl)).mono ?_
  rintro e w' ⟨⟨_, rfl⟩, rfl⟩
  go_wp2_with fail
  refine (growRow_nil _ g (K.out.at_ 10 rfl)).mono ?_
  rintro e w' ⟨⟨_, rfl⟩, rfl⟩
  go_wp2_with fail
  refine (growNode_nil _ g (K.out.at_ 11 rfl)).mono ?_
  rintro e w' ⟨⟨_, rfl⟩, rfl⟩
  go_wp2_with fail
  refine (growJob_nil _ g (K.out.at_ 12 rfl)).mono ?_
  rintro e w' ⟨⟨_, rfl⟩, rfl⟩
  go_wp2_with fail
  refine (lookByte_nil _ g (K.out.at_ 1 rfl)).mono ?_
  rintro e w' ⟨rfl, rfl⟩
  go_wp2_with fail
  refine (lookInt32_U _ B g num _ _ es' X1 Y1 S4.out.1 S4.out.2.1 S4.out.2.2.2.1 (by rw [hes2.out]; exact hes) G3.out).mono ?_
  rintro e w5 ⟨rfl, z1, z2⟩
  have S5 : Hid (B ≤ w5.heap.size ∧ BookV (.slice rc es.length rcl) B w5 g num (.slice rr fs.length rrl) fs' ∧ HeldR B w5 fs' P1 Q1 ∧ Below B w0 w5) := ⟨Nat.le_trans S4.out.1 z1.size, S4.out.2.2.1.keep fun b t cs _ _ hk => z1.keep b t cs hk, S4.out.2.2.2.2.1.keep fun b cs _ hk => z1.keep b _ cs hk, S4.out.2.2.2.2.2.trans z1.base⟩
  replace G4 : Hid (∀ (i : Nat) (e : Ent), fs'[i]? = some e → e.k ≤ 100000 ∧ e.n ≤ 500000 ∧ e.m = e.n + 40 ∧ Mks w5 lo e.k e.n (P1 i) ∧ Mks w5 lo e.k e.m (Q1 i)) := fun i e he => by
    obtain ⟨a1, a2, a3, a4, a5⟩ := G4.out i e he
    exact ⟨a1, a2, a3, a4.keep fun q cs _ hk => z1.keep q _ cs hk, a5.keep fun q cs _ hk => z1.keep q _ cs hk⟩
  clear S4 G3 K z1 hes2
  have K := hide z2.blk
  clear z2
  go_wp2_with fail
  refine (lookNum_nil _ g (K.out.at_ 3 rfl)).mono ?_
  rintro e w' ⟨rfl, rfl⟩
  go_wp2_with fail
  refine (lookBool_nil _ g (K.out.at_ 4 rfl)).mono ?_
  rintro e w' ⟨rfl, rfl⟩
  go_wp2_with fail
  refine (lookText_nil _ g (K.out.at_ 5 rfl)).mono ?_
  rintro e w' ⟨rfl, rfl⟩
  go_wp2_with fail
  refine (lookToken_nil _ g (K.out.at_ 6 rfl)).mono ?_
  rintro e w' ⟨rfl, rfl⟩
  go_wp2_with fail
  refine (lookTenant_nil _ g (K.out.at_ 7 rfl)).mono ?_
  rintro e w' ⟨rfl, rfl⟩
  go_wp2_with fail
  refine (lookRat_V _ B g num _ _ fs' P1 Q1 S5.out.1 S5.out.2.1 S5.out.2.2.1 (by rw [hfs2.out]; exact hfs) lo G4.out).mono ?_
  rintro e w6 ⟨rfl, z1, z2⟩
  have S6 : Hid (Below B w0 w6) := S5.out.2.2.2.trans z1.base
  clear S5 G4 K z1
  have K := hide z2.blk
  clear z2
  go_wp2_with fail
  refine (lookVar_nil _ g (K.out.at_ 9 rfl)).mono ?_
  rintro e w' ⟨rfl, rfl⟩
  go_wp2_with fail
  refine (lookRow_nil _ g (K.out.at_ 10 rfl)).mono ?_
  rintro e w' ⟨rfl, rfl⟩
  go_wp2_with fail
  refine (lookNode_nil _ g (K.out.at_ 11 rfl)).mono ?_
  rintro e w' ⟨rfl, rfl⟩
  go_wp2_with fail
  refine (lookJob_nil _ g (K.out.at_ 12 rfl)).mono ?_
  rintro e w' ⟨rfl, rfl⟩
  go_wp2
  exact opq_end hR ⟨rfl, S6.out⟩
end Go.Proofs.YtkefmeddnncacaaDoor
