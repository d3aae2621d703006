/- the laws' Book: each list of fractions is filled with its mark, grown, looked at. -/
import Derived.Test.YtkefmeddnncacaaDoorBu
set_option linter.unusedVariables false
set_option linter.unusedSimpArgs false
set_option maxRecDepth 100000
namespace Go.Proofs.YtkefmeddnncacaaDoor
open Go.RowKit

theorem upd_upd (X : Nat → List Value) (i : Nat) (xs ys : List Value) : upd (upd X i xs) i ys = upd X i ys := by
  funext j
  unfold upd
  split <;> rfl
set_option maxHeartbeats 1000000 in
theorem markRat_ok (w : World) (k : Nat) (hk : k ≤ 100000) :
    Calls Tryd.prog 128 #[.int .i64 (k : Nat)] w fun e w' => ∃ q, e = .returned (.agg #[.bool false, .slice none 0 0, .slice (some ⟨q, 0, none⟩) 1 1]) ∧ Below w.heap.size w w' ∧ w.heap.size ≤ q ∧ Blk w' q T32 #[mk32 k] := by
  refine opq fun R hR => ?_
  go_enter Tryd.func128, Tryd.ntmps128
  have h := wrap_u32_mark k hk
  go_wp2
  refine bodyPost_ret (v := .agg #[.bool false, .slice none 0 0, .slice (some ⟨w.heap.size + 1, 0, none⟩) 1 1]) (by simp [results, Tryd.results128, go_sem]) rfl ?_
  refine opq_end hR ⟨_, rfl, ((Below.refl _ _).alloc (Nat.le_refl _) _).alloc (by simp) _, Nat.le_succ _, ?_⟩
  exact Blk.new_at _ (w.heap.size + 1) (by simp) T32 #[.int .u32 (1000 + (k : Int))]
theorem isRat_ok (w : World) (k : Nat) (hk : k ≤ 100000) (q d : Nat) (cs : Array Value) (hb : Blk w q T32 cs) (hc : cs[0]? = some (mk32 k)) :
    Calls Tryd.prog 140 #[.agg #[.bool false, .slice none 0 0, .slice (some ⟨q, 0, none⟩) 1 d], .int .i64 (k : Nat)] w fun e w' => e = .returned (.bool true) ∧ Below w.heap.size w w' := by
  refine opq fun R hR => ?_
  have h := wrap_u32_mark k hk
  have y : Below w.heap.size w (w.alloc (.cells #[.bool false, .slice none 0 0, .slice (some ⟨q, 0, none⟩) 1 d] TR)) := (Below.refl _ _).alloc (Nat.le_refl _) _
  have z : (w.alloc (.cells #[.bool false, .slice none 0 0, .slice (some ⟨q, 0, none⟩) 1 d] TR)).cell? ⟨q, 0, none⟩ = some (.int .u32 (1000 + (k : Int))) := (hb.below' y).at_ 0 hc
  have K := Blk.new w TR #[.bool false, .slice none 0 0, .slice (some ⟨q, 0, none⟩) 1 d]
  have z2 := K.at_ 2 rfl
  replace y := hide y
  clear hb hc K
  go_enter Tryd.func140, Tryd.ntmps140
  go_wp2
  exact opq_end hR ⟨by simp, y.out⟩
set_option maxHeartbeats 2000000 in
theorem fillRat_V (w : World) (B g num : Nat) (v u : Value) (es : List Ent) (X Y : Nat → List Value) (hB : B ≤ w.heap.size) (hb : BookV u B w g num v es) (hh : HeldR B w es X Y) (hes : es.length ≤ 100000) (hk : ∀ e ∈ es, e.k ≤ 100000 ∧ e.n ≤ 1000000 ∧ e.d = 0) :
    Calls Tryd.prog 50 #[.pointer (some ⟨g, 0, none⟩)] w fun e w' => (∃ r, e = .returned r) ∧ BelT TR B w w' ∧ BookV u B w' g num v es ∧ ∃ X', HeldR B w' es X' Y ∧ ∀ i e, es[i]? = some e → Mks w' w.heap.size e.k e.n (X' i) := by
  refine opq fun R hR => ?_
  obtain ⟨RR, cR, rfl⟩ := hb.len
  have bk0 := hide hb
  have hd0 := hide hh
  have hk0 := hide hk
  have bB := hide hB
  clear hb hh hk hB
  go_enter Tryd.func50, Tryd.ntmps50
  go_wp2
  go_loopw [2] (fun iv wr => ∃ (i : Nat), i ≤ es.length ∧ iv = .int .i64 (i : Nat) ∧ Hid (BelT TR B w wr) ∧ Hid (BookV u B wr g num (.slice RR es.length cR) es) ∧ Hid (∃ X', HeldR B wr es X' Y ∧ ∀ i' e, i' < i → es[i']? = some e → Mks wr w.heap.size e.k e.n (X' i'))) (fun iv _ => es.length - (intOf iv).toNat)
  case atStart => exact ⟨0, by omega, rfl, BelT.refl _ _ _, bk0, X, hd0.out, fun i' e h => by omega⟩
  case round =>
    obtain ⟨i, hi, rfl, hbel, bk1, hX⟩ := hrel
    have c2 := bk1.out.blk.at_ 8 rfl
    by_cases hlt : i < es.length
    · obtain ⟨e, he0⟩ : ∃ e, es[i]? = some e := ⟨_, List.getElem?_eq_getElem hlt⟩
      have he := hide he0
      obtain ⟨r, c', cur, e1, hr, hkr, _, x0, x1, x2⟩ := bk1.out.ent he0
      clear he0
      cases e1
      have hkr := hide hkr
      obtain ⟨A, n, c, L, m, d, k⟩ := e
      obtain ⟨q1, q2, q3⟩ := hk0.out _ (List.mem_of_getElem? he.out)
      dsimp only at x0 x1 x2 q1 q2 q3
      subst q3
      go_wp2
      obtain ⟨p0, hp0⟩ : ∃ p0, wr.heap.size = p0 := ⟨_, rfl⟩
      obtain ⟨V, hV⟩ : ∃ V, wr.alloc (.cells #[.slice A n c, .slice L m 0, .int .i64 (k : Nat)] THR) = V := ⟨_, rfl⟩
      have bx : Hid (Blk V p0 THR #[.slice A n c, .slice L m 0, .int .i64 (k : Nat)]) := by
        rw [← hV, ← hp0]; exact Blk.new _ _ _
      have b1 : Hid (BelT TR B w V) := by
        rw [← hV]; exact hbel.out.alloc (Nat.le_trans bB.out hbel.out.size) _
      have k1 : Hid (BookV u B V g num (.slice (some ⟨r, 0, none⟩) es.length cR) es) := by
        rw [← hV]; exact bk1.out.keep fun g t cs _ _ hk => hk.alloc _
      have X1 : Hid (∃ X', HeldR B V es X' Y ∧ (∀ (i' : Nat) (e : Ent), i' < i → es[i']? = some e → Mks V w.heap.size e.k e.n (X' i'))) := by
        obtain ⟨X', h1, h2⟩ := hX.out
        exact ⟨X', by rw [← hV]; exact h1.keep fun g cs _ hk => hk.alloc _, fun i' e hi' he' => (h2 i' e hi' he').keep fun q cs _ hk => by rw [← hV]; exact hk.alloc _⟩
      rw [hp0, hV]
      clear hV hp0 hbel bk1 hX x0 x1 x2 c2 hkr
      go_loopw [4] (fun jv wj => ∃ (j : Nat), j ≤ n ∧ jv = .int .i64 (j : Nat) ∧ Hid (Blk wj p0 THR #[.slice A n c, .slice L m 0, .int .i64 (k : Nat)]) ∧ Hid (BelT TR B w wj) ∧ Hid (BookV u B wj g num (.slice (some ⟨r, 0, none⟩) es.length cR) es) ∧ Hid (∃ X', HeldR B wj es X' Y ∧ (∀ (i' : Nat) (e : Ent), i' < i → es[i']? = some e → Mks wj w.heap.size e.k e.n (X' i')) ∧ Mks wj w.heap.size k j (X' i))) (fun jv _ => n - (intOf jv).toNat)
      case atStart =>
        obtain ⟨X', h1, h2⟩ := X1.out
        exact ⟨0, by omega, rfl, bx, b1, k1, X', h1, h2, fun j' h => by omega⟩
      case round =>
        clear bx b1 k1 X1
        obtain ⟨j, hj, rfl, bx, b1, k1, X1⟩ := hrel
        have y0 := bx.out.at_ 0 rfl
        have y2 := bx.out.at_ 2 rfl
        by_cases hlj : j < n
        · obtain ⟨ga, cs, rfl, hga, hka, gA⟩ : ∃ ga cs, A = some ⟨ga, 0, none⟩ ∧ B ≤ ga ∧ Hid (Blk wr ga TR cs ∧ j * 3 + 2 < cs.size) ∧ Hid (blkOf A c = some ga) := by
            obtain ⟨X', h1, _⟩ := X1.out
            obtain ⟨ga, e1, e2, _⟩ := (h1.a i _ he.out).at_ (i := j * 3) (by dsimp only; omega)
            obtain ⟨cs, _, e3, e4, e5, e6⟩ := (h1.a i _ he.out).blk e2
            have := (h1.a i _ he.out).le
            dsimp only at e1 e2 this e5
            exact ⟨ga, cs, e1, e3, ⟨e4, by omega⟩, e2⟩
          go_wp2
          go_region_with (go_at_call 128; refine (markRat_ok _ k q1).mono ?_; rintro e w1 ⟨q, rfl, d1, hq, hbq⟩; have D := hide (below_tr ((Below.refl _ _).drew : Below wr.heap.size wr wr.drew) d1); clear d1; have hkb := hide (hka.out.1.below' D.out); have hbq := hide hbq; have z0 := hkb.out.at_ (j * 3) (Array.getElem?_eq_getElem (by have := hka.out.2; omega)); have z1 := hkb.out.at_ (j * 3 + 1) (Array.getElem?_eq_getElem (by have := hka.out.2; omega)); have z2 := hkb.out.at_ (j * 3 + 2) (Array.getElem?_eq_getElem hka.out.2); have f0 := hkb.out.frozen (j * 3); have f1 := hkb.out.frozen (j * 3 + 1); have f2 := hkb.out.frozen (j * 3 + 2); have bx' := hide (bx.out.below' D.out); clear y0 y2; have y0 := bx'.out.at_ 0 rfl; have y2 := bx'.out.at_ 2 rfl)
          all_goals
            obtain ⟨X', h1, h2, h3⟩ := X1.out
            have eW : wr.drew.heap.size = wr.heap.size := by simp
            rw [eW] at hq
            have hBw := b1.out.size
            have hB1 := Nat.le_trans bB.out hBw
            have M1 : BelT TR B w w1 := ⟨b1.out.base.trans (D.out.mono hB1), fun b t cs ht hk => (b1.out.keep b t cs ht hk).below' D.out⟩
            have M2 := ((M1.setCell (j := j * 3) hkb.out hga (.bool false)).setCell (j := j * 3 + 1) (hkb.out.set_ _ _) hga (.slice none 0 0)).setCell (j := j * 3 + 2) ((hkb.out.set_ _ _).set_ _ _) hga (.slice (some ⟨q, 0, none⟩) 1 1)
            have hlr := (h1.a _ _ he.out).len
            have hlc := (h1.a _ _ he.out).le
            dsimp only at hlr hlc
            have h1' : HeldR B w1 es X' Y := h1.keep fun g cs _ hk => hk.below' D.out
            have hz : ∀ (i : Nat) (e : Ent), es[i]? = some e → e.d = 0 := fun i e h => (hk0.out e (List.mem_of_getElem? h)).2.2
            have N1 := h1'.set_ hz he.out (j := j * 3) (by dsimp only; omega) gA.out (.bool false)
            have N2 := N1.set_ hz he.out (j := j * 3 + 1) (by dsimp only; omega) gA.out (.slice none 0 0)
            have N3 := N2.set_ hz he.out (j := j * 3 + 2) (by dsimp only; omega) gA.out (.slice (some ⟨q, 0, none⟩) 1 1)
            rw [upd_same, upd_upd, upd_same, upd_upd] at N3
            have far : ∀ q' cs', Blk wr q' T32 cs' → Blk ((((w1).setCell ⟨ga, j * 3, none⟩ (.bool false)).setCell ⟨ga, j * 3 + 1, none⟩ (.slice none 0 0)).setCell ⟨ga, j * 3 + 2, none⟩ (.slice (some ⟨q, 0, none⟩) 1 1)) q' T32 cs' := fun q' cs' hk => (((hk.below' D.out).far (p := ⟨ga, j * 3, none⟩) ((hk.below' D.out).type_ne hkb.out (by decide)) _).far (p := ⟨ga, j * 3 + 1, none⟩) ((hk.below' D.out).type_ne hkb.out (by decide)) _).far (p := ⟨ga, j * 3 + 2, none⟩) ((hk.below' D.out).type_ne hkb.out (by decide)) _
            have hbq' : Blk ((((w1).setCell ⟨ga, j * 3, none⟩ (.bool false)).setCell ⟨ga, j * 3 + 1, none⟩ (.slice none 0 0)).setCell ⟨ga, j * 3 + 2, none⟩ (.slice (some ⟨q, 0, none⟩) 1 1)) q T32 #[mk32 k] := ((hbq.out.far (p := ⟨ga, j * 3, none⟩) (hbq.out.type_ne hkb.out (by decide)) _).far (p := ⟨ga, j * 3 + 1, none⟩) (hbq.out.type_ne hkb.out (by decide)) _).far (p := ⟨ga, j * 3 + 2, none⟩) (hbq.out.type_ne hkb.out (by decide)) _
            have S1 : Hid (Blk ((((w1).setCell ⟨ga, j * 3, none⟩ (.bool false)).setCell ⟨ga, j * 3 + 1, none⟩ (.slice none 0 0)).setCell ⟨ga, j * 3 + 2, none⟩ (.slice (some ⟨q, 0, none⟩) 1 1)) p0 THR #[.slice (some ⟨ga, 0, none⟩) n c, .slice L m 0, .int .i64 (k : Nat)]) := ((bx'.out.far (p := ⟨ga, j * 3, none⟩) (bx'.out.type_ne hkb.out (by decide)) _).far (p := ⟨ga, j * 3 + 1, none⟩) (bx'.out.type_ne hkb.out (by decide)) _).far (p := ⟨ga, j * 3 + 2, none⟩) (bx'.out.type_ne hkb.out (by decide)) _
            have S2 := hide M2
            have S3 : Hid (BookV u B ((((w1).setCell ⟨ga, j * 3, none⟩ (.bool false)).setCell ⟨ga, j * 3 + 1, none⟩ (.slice none 0 0)).setCell ⟨ga, j * 3 + 2, none⟩ (.slice (some ⟨q, 0, none⟩) 1 1)) g num (.slice (some ⟨r, 0, none⟩) es.length cR) es) := k1.out.keep fun g' t cs' _ ht hk => (((hk.below' D.out).far (p := ⟨ga, j * 3, none⟩) ((hk.below' D.out).type_ne hkb.out ht) _).far (p := ⟨ga, j * 3 + 1, none⟩) ((hk.below' D.out).type_ne hkb.out ht) _).far (p := ⟨ga, j * 3 + 2, none⟩) ((hk.below' D.out).type_ne hkb.out ht) _
            have S4 : Hid (∃ X', HeldR B ((((w1).setCell ⟨ga, j * 3, none⟩ (.bool false)).setCell ⟨ga, j * 3 + 1, none⟩ (.slice none 0 0)).setCell ⟨ga, j * 3 + 2, none⟩ (.slice (some ⟨q, 0, none⟩) 1 1)) es X' Y ∧ (∀ (i' : Nat) (e : Ent), i' < i → es[i']? = some e → Mks ((((w1).setCell ⟨ga, j * 3, none⟩ (.bool false)).setCell ⟨ga, j * 3 + 1, none⟩ (.slice none 0 0)).setCell ⟨ga, j * 3 + 2, none⟩ (.slice (some ⟨q, 0, none⟩) 1 1)) w.heap.size e.k e.n (X' i')) ∧ Mks ((((w1).setCell ⟨ga, j * 3, none⟩ (.bool false)).setCell ⟨ga, j * 3 + 1, none⟩ (.slice none 0 0)).setCell ⟨ga, j * 3 + 2, none⟩ (.slice (some ⟨q, 0, none⟩) 1 1)) w.heap.size k (j + 1) (X' i)) := by
              refine ⟨_, N3, fun i' e hi' hee => ?_, ?_⟩
              · rw [upd_ne _ _ (by omega)]
                exact (h2 i' e hi' hee).keep fun q cs _ hk => far q cs hk
              · rw [upd_same]
                exact (h3.keep fun q cs _ hk => far q cs hk).put (by omega) (Nat.le_trans hBw hq) hbq' rfl
            clear bx b1 k1 X1 hbq' far N1 N2 N3 M1 M2 h1 h2 h3 h1' hz z0 z1 z2 f0 f1 f2 y0 y2 bx' hbq hkb hka D hq hlr hlc eW
            go_wp2
            go_roundw
            case rel => exact ⟨j + 1, by omega, by go_num, S1, S2, S3, S4⟩
            case measure => simp [intOf]; omega
        · obtain rfl : j = n := by omega
          go_wp2
          go_roundw
          case rel =>
            refine ⟨i + 1, by omega, by go_num, b1, k1, ?_⟩
            obtain ⟨X', h1, h2, h3⟩ := X1.out
            refine ⟨X', h1, fun i' e hi' hee => ?_⟩
            by_cases hii : i' = i
            · subst hii
              rw [he.out] at hee
              cases hee
              exact h3
            · exact h2 i' e (by omega) hee
          case measure => simp [intOf]; omega
    · obtain rfl : i = es.length := by omega
      go_wp2
      go_end0
      obtain ⟨X', h1, h2⟩ := hX.out
      exact opq_end hR ⟨⟨_, rfl⟩, hbel.out, bk1.out, X', h1, fun i e he => h2 i e (List.getElem?_eq_some_iff.1 he).1 he⟩
/-- Memory below B stays, and all blocks but of fractions and of the row of them that is held. -/
structure BelR (B : Nat) (w w' : World) : Prop where
  base : Below B w w'
  keep : ∀ b t cs, t ≠ TR → t ≠ THR → Blk w b t cs → Blk w' b t cs
theorem BelR.refl (B : Nat) (w : World) : BelR B w w := ⟨Below.refl _ _, fun _ _ _ _ _ h => h⟩
theorem BelR.size {B : Nat} {w w' : World} (h : BelR B w w') : w.heap.size ≤ w'.heap.size := h.base.size
theorem BelR.below {B : Nat} {w w1 w2 : World} (h : BelR B w w1) (k : Below w1.heap.size w1 w2) (hB : B ≤ w1.heap.size) : BelR B w w2 := ⟨h.base.trans (k.mono hB), fun b t cs h1 h2 hk => (h.keep b t cs h1 h2 hk).below' k⟩
theorem BelR.setCell {B g j : Nat} {w w' : World} {cs : Array Value} (h : BelR B w w') (hk : Blk w' g THR cs) (hg : B ≤ g) (u : Value) : BelR B w (w'.setCell ⟨g, j, none⟩ u) :=
  ⟨h.base.setCell (p := ⟨g, j, none⟩) hg u, fun b t cs' h1 h2 hk' => (h.keep b t cs' h1 h2 hk').far (p := ⟨g, j, none⟩) ((h.keep b t cs' h1 h2 hk').type_ne hk h2) u⟩
theorem BelR.push {B : Nat} {w w1 w2 : World} {A : Option Addr} {n c : Nat} {xs : List Value} (h : BelR B w w1) (hl : RRow B w1 A n c xs) (hg : w1.grownBy w2 (blkOf A c)) (hB : B ≤ w1.heap.size) : BelR B w w2 :=
  ⟨h.base.trans (hl.base hg hB), fun b t cs h1 h2 hk => hl.other hg h1 (h.keep b t cs h1 h2 hk)⟩
/-- The first i entries are grown. -/
structure GrownR (w : World) (lo : Nat) (es : List Ent) (i : Nat) (es' : List Ent) (Y : Nat → List Value) : Prop where
  len : es'.length = es.length
  same : ∀ (j : Nat) (e' : Ent), es'[j]? = some e' → ∃ e, es[j]? = some e ∧ e'.A = e.A ∧ e'.n = e.n ∧ e'.c = e.c ∧ e'.k = e.k
  done : ∀ (j : Nat) (e' : Ent), j < i → es'[j]? = some e' → e'.m = e'.n + 40 ∧ Mks w lo e'.k (e'.n + 40) (Y j)
theorem GrownR.keep {w w' : World} {lo i : Nat} {es es' : List Ent} {Y : Nat → List Value} (h : GrownR w lo es i es' Y) (k : ∀ g cs, Blk w g T32 cs → Blk w' g T32 cs) : GrownR w' lo es i es' Y :=
  ⟨h.len, h.same, fun j e' hj he => ⟨(h.done j e' hj he).1, (h.done j e' hj he).2.keep fun g cs _ hk => k g cs hk⟩⟩
set_option maxHeartbeats 2000000 in
theorem growRat_V (w : World) (B g num : Nat) (v u : Value) (es : List Ent) (X Y : Nat → List Value) (hB : B ≤ w.heap.size) (hb : BookV u B w g num v es) (hh : HeldR B w es X Y) (hes : es.length ≤ 100000) (hk : ∀ e ∈ es, e.k ≤ 100000 ∧ e.n ≤ 500000) (lo : Nat) (hlo : lo ≤ w.heap.size) (hX : ∀ i e, es[i]? = some e → Mks w lo e.k e.n (X i)) :
    Calls Tryd.prog 62 #[.pointer (some ⟨g, 0, none⟩)] w fun e w' => (∃ r, e = .returned r) ∧ BelR B w w' ∧ ∃ es' Y', BookV u B w' g num v es' ∧ HeldR B w' es' X Y' ∧ GrownR w' lo es es.length es' Y' := by
  refine opq fun R hR => ?_
  obtain ⟨RR, cR, rfl⟩ := hb.len
  have bk0 := hide hb
  have hd0 := hide hh
  have hk0 := hide hk
  have hX0 := hide hX
  replace hlo := hide hlo
  have bB := hide hB
  clear hb hh hk hB hX
  go_enter Tryd.func62, Tryd.ntmps62
  go_wp2
  go_loopw [2] (fun iv wr => ∃ (i : Nat), i ≤ es.length ∧ iv = .int .i64 (i : Nat) ∧ Hid (BelR B w wr) ∧ Hid (∃ es' Y', BookV u B wr g num (.slice RR es.length cR) es' ∧ HeldR B wr es' X Y' ∧ GrownR wr lo es i es' Y')) (fun iv _ => es.length - (intOf iv).toNat)
  case atStart => exact ⟨0, by omega, rfl, BelR.refl _ _, es, Y, bk0.out, hd0.out, rfl, fun j e' h => ⟨e', h, rfl, rfl, rfl, rfl⟩, fun j e' h => by omega⟩
  case round =>
    obtain ⟨i, hi, rfl, hbel, hX⟩ := hrel
    obtain ⟨es', Y', bk1, hd1, gr1⟩ := hX.out
    have bk1 := hide bk1
    have hd1 := hide hd1
    have gr1 := hide gr1
    clear hX
    have c2 := bk1.out.blk.at_ 8 rfl
    by_cases hlt : i < es.length
    · obtain ⟨e, he0⟩ : ∃ e, es'[i]? = some e := ⟨_, List.getElem?_eq_getElem (by rw [gr1.out.len]; exact hlt)⟩
      have he := hide he0
      obtain ⟨r, c', cur, e1, hr, hkr, _, x0, x1, x2⟩ := bk1.out.ent he0
      clear he0
      obtain ⟨rfl, e2, e3⟩ := Value.slice.inj e1
      clear e1 e2 e3
      have hkr := hide hkr
      obtain ⟨e0, f0, f1, f2, f3, f4⟩ := gr1.out.same _ _ he.out
      obtain ⟨q1, q2⟩ := hk0.out _ (List.mem_of_getElem? f0)
      have hXi := hide (hX0.out _ _ f0)
      rw [← f2, ← f4] at hXi
      rw [← f4] at q1
      rw [← f2] at q2
      clear f0 f1 f2 f3 f4 e0
      obtain ⟨A, n, c, L, m, d, k⟩ := e
      dsimp only at x0 x1 x2 q1 q2 hXi
      go_wp2
      obtain ⟨p0, hp0⟩ : ∃ p0, wr.heap.size = p0 := ⟨_, rfl⟩
      obtain ⟨V, hV⟩ : ∃ V, wr.alloc (.cells #[.slice A n c, .slice L m d, .int .i64 (k : Nat)] THR) = V := ⟨_, rfl⟩
      have bx : Hid (Blk V p0 THR #[.slice A n c, .slice L m d, .int .i64 (k : Nat)]) := by
        rw [← hV, ← hp0]; exact Blk.new _ _ _
      have b1 : Hid (BelR B w V) := by
        rw [← hV]; exact hbel.out.below ((Below.refl _ _).alloc (Nat.le_refl _) _) (Nat.le_trans bB.out hbel.out.size)
      have k1 : Hid (BookV u B V g num (.slice (some ⟨r, 0, none⟩) es.length cR) es') := by
        rw [← hV]; exact bk1.out.keep fun g t cs _ _ hk => hk.alloc _
      have X1 : Hid (∃ ys, HeldR B V (es'.set i ⟨A, n, c, A, n + 0, c, k⟩) X (upd Y' i ys) ∧ Mks V lo k (n + 0) ys) := by
        have h1 : HeldR B V es' X Y' := by rw [← hV]; exact hd1.out.keep fun g cs _ hk => hk.alloc _
        refine ⟨X i, h1.start he.out, hXi.out.keep fun q cs _ hk => b1.out.keep q _ cs (by decide) (by decide) hk⟩
      have gr2 : Hid (GrownR V lo es i es' Y') := gr1.out.keep fun g cs hk => by rw [← hV]; exact hk.alloc _
      rw [hp0, hV]
      clear hV hp0 hbel bk1 hd1 x0 x1 x2 c2 hkr
      clear gr1
      go_loopw [4, 5] (fun tv jv wj => ∃ (j : Nat) (A' : Option Addr) (c' : Nat), j ≤ 40 ∧ jv = .int .i64 (j : Nat) ∧ tv = .slice A' (n + j) c' ∧ Hid (Blk wj p0 THR #[.slice A n c, .slice L m d, .int .i64 (k : Nat)]) ∧ Hid (BelR B w wj) ∧ Hid (BookV u B wj g num (.slice (some ⟨r, 0, none⟩) es.length cR) es') ∧ Hid (∃ ys, HeldR B wj (es'.set i ⟨A, n, c, A', n + j, c', k⟩) X (upd Y' i ys) ∧ Mks wj lo k (n + j) ys) ∧ Hid (GrownR wj lo es i es' Y')) (fun _ jv _ => 40 - (intOf jv).toNat)
      case atStart => exact ⟨0, A, c, by omega, rfl, rfl, bx, b1, k1, X1, gr2⟩
      case round =>
        clear bx b1 k1 X1 gr2
        obtain ⟨j, A', c', hj, rfl, rfl, bx, b1, k1, X1, gr1⟩ := hrel
        have y2 := bx.out.at_ 2 rfl
        by_cases hlj : j < 40
        · have S0 := hide (Nat.le_trans bB.out b1.out.size)
          go_wp2_with fail
          refine (markRat_ok _ k q1).mono ?_
          rintro e w1 ⟨q, rfl, d1, hq, hbq⟩
          have y1 := hide ((Below.refl w1.heap.size w1).alloc (Nat.le_refl _) (.cells #[.bool false, .slice none 0 0, .slice (some ⟨q, 0, none⟩) 1 1] TR))
          have D := hide (below_tr d1 y1.out)
          have KA := hide (Blk.new w1 TR #[.bool false, .slice none 0 0, .slice (some ⟨q, 0, none⟩) 1 1])
          have S1 : Hid (Blk (w1.alloc (.cells #[.bool false, .slice none 0 0, .slice (some ⟨q, 0, none⟩) 1 1] TR)) p0 THR #[.slice A n c, .slice L m d, .int .i64 (k : Nat)]) := bx.out.below' D.out
          have S2 : Hid (BelR B w (w1.alloc (.cells #[.bool false, .slice none 0 0, .slice (some ⟨q, 0, none⟩) 1 1] TR))) := b1.out.below D.out S0.out
          have S3 : Hid (BookV u B (w1.alloc (.cells #[.bool false, .slice none 0 0, .slice (some ⟨q, 0, none⟩) 1 1] TR)) g num (.slice (some ⟨r, 0, none⟩) es.length cR) es') := k1.out.keep fun g t cs' _ _ hk => hk.below' D.out
          obtain ⟨ys, X2, M2⟩ := X1.out
          have S4 : Hid (HeldR B (w1.alloc (.cells #[.bool false, .slice none 0 0, .slice (some ⟨q, 0, none⟩) 1 1] TR)) (es'.set i ⟨A, n, c, A', n + j, c', k⟩) X (upd Y' i ys)) := X2.keep fun g cs _ hk => hk.below' D.out
          have S5 : Hid ((es'.set i ⟨A, n, c, A', n + j, c', k⟩)[i]? = some ⟨A, n, c, A', n + j, c', k⟩) := by
            show _ = _
            rw [List.getElem?_set_self (List.getElem?_eq_some_iff.1 he.out).1]
          have S6 : Hid (RRow B (w1.alloc (.cells #[.bool false, .slice none 0 0, .slice (some ⟨q, 0, none⟩) 1 1] TR)) A' (n + j) c' ys) := by
            have := S4.out.l _ _ S5.out
            rw [upd_same] at this
            exact this
          have S8 : Hid (B ≤ (w1.alloc (.cells #[.bool false, .slice none 0 0, .slice (some ⟨q, 0, none⟩) 1 1] TR)).heap.size) := Nat.le_trans bB.out S2.out.size
          have S9 : Hid (Mks (w1.alloc (.cells #[.bool false, .slice none 0 0, .slice (some ⟨q, 0, none⟩) 1 1] TR)) lo k (n + j) ys) := M2.keep fun q cs _ hk => hk.below' D.out
          have SG : Hid (GrownR (w1.alloc (.cells #[.bool false, .slice none 0 0, .slice (some ⟨q, 0, none⟩) 1 1] TR)) lo es i es' Y') := gr1.out.keep fun g cs hk => hk.below' D.out
          have hbq' : Hid (Blk (w1.alloc (.cells #[.bool false, .slice none 0 0, .slice (some ⟨q, 0, none⟩) 1 1] TR)) q T32 #[mk32 k]) := hbq.below' y1.out
          have hql : Hid (lo ≤ q) := Nat.le_trans hlo.out (Nat.le_trans b1.out.size hq)
          clear bx b1 k1 X1 gr1 X2 M2 d1 hq hbq y1 D y2
          go_wp2_with (at_builtin; refine wpList_app1R (P := Tryd.prog) (t := 22) (by kernel_rfl) infoR rfl _ _ rfl S6.out rfl S8.out (by omega) _ _ _ (one3 _ _ _ _ _ _ _) _ 1 rfl (blk_news KA.out) ?_; intro A2 c2 w2 r1 r2 r3 r4)
          go_roundw
          case rel =>
            have P1 := S4.out.push S5.out (A' := A2) (c' := c2) (x := [.bool false, .slice none 0 0, .slice (some ⟨q, 0, none⟩) 1 1]) (by rw [upd_same]; exact r1.out) r2.out r3.out r4.out
            rw [upd_same, List.set_set, upd_upd] at P1
            exact ⟨j + 1, A2, c2, by omega, by go_num, rfl, S6.out.other r2.out (by decide) S1.out, S2.out.push S6.out r2.out S8.out,
              ⟨S6.out.other r2.out (by decide) S3.out.blk, S3.out.own, own_keepT S3.out.row fun r cs hk => S6.out.other r2.out (by decide) hk⟩,
              ⟨_, P1, (S9.out.keep fun q cs _ hk => S6.out.other r2.out (by decide) hk).snoc S6.out.len hql.out (S6.out.other r2.out (by decide) hbq'.out) rfl⟩, SG.out.keep fun g cs hk => S6.out.other r2.out (by decide) hk⟩
          case measure => simp [intOf]; omega
        · obtain rfl : j = 40 := by omega
          obtain ⟨cu, hcu⟩ : ∃ cu, Hid (Blk wr r THR cu ∧ i * 3 + 1 < cu.size) := by
            obtain ⟨r', c', cur', e1, _, hkr, _, _, x1, _⟩ := k1.out.ent he.out
            obtain ⟨e2, _, _⟩ := Value.slice.inj e1
            cases e2
            rw [hkr.cell] at x1
            exact ⟨cur', hkr, (Array.getElem?_eq_some_iff.1 x1).1⟩
          have x1 := hcu.out.1.at_ (i * 3 + 1) (Array.getElem?_eq_getElem hcu.out.2)
          have xf := hcu.out.1.frozen (i * 3 + 1)
          have c2 := k1.out.blk.at_ 8 rfl
          go_wp2
          go_roundw
          case rel =>
            have U1 := k1.out.setL he.out A' (n + 40) c'
            have hbr : B ≤ r := hr
            obtain ⟨ys, X2, M2⟩ := X1.out
            have far : ∀ t, t ≠ THR → ∀ g cs, Blk wr g t cs → Blk (wr.setCell ⟨r, i * 3 + 1, none⟩ (.slice A' (n + 40) c')) g t cs := fun t ht g cs hk => hk.far (p := ⟨r, i * 3 + 1, none⟩) (hk.type_ne hcu.out.1 ht) _
            refine ⟨i + 1, by omega, by go_num, b1.out.setCell hcu.out.1 hbr _, _, _, U1, X2.keep fun g cs _ hk => far _ (by decide) g cs hk, ?_, ?_, ?_⟩
            · rw [List.length_set]; exact gr1.out.len
            · intro j e' h
              rcases get_set_cases h with ⟨rfl, rfl⟩ | ⟨_, h1⟩
              · obtain ⟨e0, s1, s2⟩ := gr1.out.same _ _ he.out
                exact ⟨e0, s1, s2⟩
              · exact gr1.out.same _ _ h1
            · intro j e' hj h
              rcases get_set_cases h with ⟨rfl, rfl⟩ | ⟨hne, h1⟩
              · exact ⟨rfl, by rw [upd_same]; exact M2.keep fun q cs _ hk => far _ (by decide) q cs hk⟩
              · rw [upd_ne _ _ hne]
                have := gr1.out.done _ _ (by omega) h1
                exact ⟨this.1, this.2.keep fun q cs _ hk => far _ (by decide) q cs hk⟩
          case measure => simp [intOf]; omega
    · obtain rfl : i = es.length := by omega
      go_wp2
      go_end0
      exact opq_end hR ⟨⟨_, rfl⟩, hbel.out, es', Y', bk1.out, hd1.out, gr1.out⟩
end Go.Proofs.YtkefmeddnncacaaDoor
