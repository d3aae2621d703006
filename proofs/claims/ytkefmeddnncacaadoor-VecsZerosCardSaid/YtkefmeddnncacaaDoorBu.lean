/- the laws' Book where lists of fractions are held too: each list of parts is filled, grown, looked at. -/
import Derived.Test.YtkefmeddnncacaaDoorBt
set_option linter.unusedVariables false
set_option linter.unusedSimpArgs false
set_option maxRecDepth 100000
namespace Go.Proofs.YtkefmeddnncacaaDoor
open Go.RowKit

/-- Memory below B stays, and all blocks of another type than T. -/
structure BelT (T : TypeId) (B : Nat) (w w' : World) : Prop where
  base : Below B w w'
  keep : ∀ b t cs, t ≠ T → Blk w b t cs → Blk w' b t cs
theorem BelT.refl (T : TypeId) (B : Nat) (w : World) : BelT T B w w := ⟨Below.refl _ _, fun _ _ _ _ h => h⟩
theorem BelT.size {T : TypeId} {B : Nat} {w w' : World} (h : BelT T B w w') : w.heap.size ≤ w'.heap.size := h.base.size
theorem BelT.alloc {T : TypeId} {B : Nat} {w w' : World} (h : BelT T B w w') (hB : B ≤ w'.heap.size) (o : Obj) : BelT T B w (w'.alloc o) := ⟨h.base.alloc hB o, fun b t cs ht hk => (h.keep b t cs ht hk).alloc o⟩
theorem BelT.drew {T : TypeId} {B : Nat} {w w' : World} (h : BelT T B w w') : BelT T B w w'.drew := ⟨h.base.drew, fun b t cs ht hk => (h.keep b t cs ht hk).drew⟩
theorem BelT.setCell {T : TypeId} {B g j : Nat} {w w' : World} {cs : Array Value} (h : BelT T B w w') (hk : Blk w' g T cs) (hg : B ≤ g) (u : Value) : BelT T B w (w'.setCell ⟨g, j, none⟩ u) :=
  ⟨h.base.setCell (p := ⟨g, j, none⟩) hg u, fun b t cs' ht hk' => (h.keep b t cs' ht hk').far (p := ⟨g, j, none⟩) ((h.keep b t cs' ht hk').type_ne hk ht) u⟩
/-- .. all blocks but of type TH, those of parts from lo on. -/
structure BelG (lo B : Nat) (w w' : World) : Prop where
  base : Below B w w'
  keep : ∀ b t cs, t ≠ TH → (t = T32 → lo ≤ b) → Blk w b t cs → Blk w' b t cs
theorem BelG.refl (lo B : Nat) (w : World) : BelG lo B w w := ⟨Below.refl _ _, fun _ _ _ _ _ h => h⟩
theorem BelG.size {lo B : Nat} {w w' : World} (h : BelG lo B w w') : w.heap.size ≤ w'.heap.size := h.base.size
theorem BelG.alloc {lo B : Nat} {w w' : World} (h : BelG lo B w w') (hB : B ≤ w'.heap.size) (o : Obj) : BelG lo B w (w'.alloc o) := ⟨h.base.alloc hB o, fun b t cs ht hl hk => (h.keep b t cs ht hl hk).alloc o⟩
theorem BelG.setCell {lo B g j : Nat} {w w' : World} {cs : Array Value} (h : BelG lo B w w') (hk : Blk w' g TH cs) (hg : B ≤ g) (u : Value) : BelG lo B w (w'.setCell ⟨g, j, none⟩ u) :=
  ⟨h.base.setCell (p := ⟨g, j, none⟩) hg u, fun b t cs' ht hl hk' => (h.keep b t cs' ht hl hk').far (p := ⟨g, j, none⟩) ((h.keep b t cs' ht hl hk').type_ne hk ht) u⟩
/-- A list that grows is older than lo, or new. -/
def Old (lo top : Nat) (es : List Ent) : Prop := ∀ (i : Nat) (e : Ent) g, es[i]? = some e → e.has g → g < lo ∨ top ≤ g
theorem BelG.push {lo B : Nat} {w w1 w2 : World} {A : Option Addr} {n c : Nat} {xs : List Value} (h : BelG lo B w w1) (hl : LRow B w1 A n c xs) (hg : w1.grownBy w2 (blkOf A c)) (hB : B ≤ w1.heap.size) (ho : ∀ g, blkOf A c = some g → g < lo ∨ w.heap.size ≤ g) : BelG lo B w w2 := by
  refine ⟨h.base.trans (hl.base hg hB), fun b t cs ht hlo hk => ?_⟩
  have h1 := h.keep b t cs ht hlo hk
  by_cases h32 : t = T32
  · refine h1.keep (hg.block b h1.lt fun e => ?_)
    have := ho b e.symm
    have := hlo h32
    have := hk.lt
    omega
  · exact hl.other hg h32 h1
theorem Old.set_ {lo top i : Nat} {es : List Ent} {e1 : Ent} (h : Old lo top es) (he : ∀ g, e1.has g → g < lo ∨ top ≤ g) : Old lo top (es.set i e1) := by
  intro j e' g hj hg
  rcases get_set_cases hj with ⟨rfl, rfl⟩ | ⟨_, h1⟩
  · exact he g hg
  · exact h _ _ _ h1 hg
theorem BookU.len {B : Nat} {w : World} {g num : Nat} {v u : Value} {es : List Ent} (h : BookU u B w g num v es) : ∃ R c, v = .slice R es.length c := own_slice h.row
/-- The cells of an entry. -/
theorem BookU.ent {B : Nat} {w : World} {g num : Nat} {v u : Value} {es : List Ent} (h : BookU u B w g num v es) {i : Nat} {e : Ent} (he : es[i]? = some e) :
    ∃ r c cur, v = .slice (some ⟨r, 0, none⟩) es.length c ∧ B ≤ r ∧ Blk w r TH cur ∧ i < es.length ∧ w.cell? ⟨r, i * 3, none⟩ = some (.slice e.A e.n e.c) ∧ w.cell? ⟨r, i * 3 + 1, none⟩ = some (.slice e.L e.m e.d) ∧ w.cell? ⟨r, i * 3 + 2, none⟩ = some (.int .i64 (e.k : Nat)) := by
  have hi : i < es.length := (List.getElem?_eq_some_iff.1 he).1
  obtain ⟨r, c, cur, rfl, hB, hn, hm, hk, hs, ht⟩ := own_some h.row (by omega)
  refine ⟨r, c, cur, rfl, hB, hk, hi, ?_, ?_, ?_⟩
  · rw [hk.cell]; exact take_get ht (by rw [← Nat.add_zero (i * 3), flatE_get he 0 (by omega)]; rfl)
  · rw [hk.cell]; exact take_get ht (by rw [flatE_get he 1 (by omega)]; rfl)
  · rw [hk.cell]; exact take_get ht (by rw [flatE_get he 2 (by omega)]; rfl)
theorem BookV.len {B : Nat} {w : World} {g num : Nat} {v u : Value} {es : List Ent} (h : BookV u B w g num v es) : ∃ R c, v = .slice R es.length c := own_slice h.row
/-- The cells of an entry. -/
theorem BookV.ent {B : Nat} {w : World} {g num : Nat} {v u : Value} {es : List Ent} (h : BookV u B w g num v es) {i : Nat} {e : Ent} (he : es[i]? = some e) :
    ∃ r c cur, v = .slice (some ⟨r, 0, none⟩) es.length c ∧ B ≤ r ∧ Blk w r THR cur ∧ i < es.length ∧ w.cell? ⟨r, i * 3, none⟩ = some (.slice e.A e.n e.c) ∧ w.cell? ⟨r, i * 3 + 1, none⟩ = some (.slice e.L e.m e.d) ∧ w.cell? ⟨r, i * 3 + 2, none⟩ = some (.int .i64 (e.k : Nat)) := by
  have hi : i < es.length := (List.getElem?_eq_some_iff.1 he).1
  obtain ⟨r, c, cur, rfl, hB, hn, hm, hk, hs, ht⟩ := own_some h.row (by omega)
  refine ⟨r, c, cur, rfl, hB, hk, hi, ?_, ?_, ?_⟩
  · rw [hk.cell]; exact take_get ht (by rw [← Nat.add_zero (i * 3), flatE_get he 0 (by omega)]; rfl)
  · rw [hk.cell]; exact take_get ht (by rw [flatE_get he 1 (by omega)]; rfl)
  · rw [hk.cell]; exact take_get ht (by rw [flatE_get he 2 (by omega)]; rfl)
set_option maxHeartbeats 2000000 in
theorem fillInt32_U (w : World) (B g num : Nat) (v u : Value) (es : List Ent) (X Y : Nat → List Value) (hB : B ≤ w.heap.size) (hb : BookU u B w g num v es) (hh : Held B w es X Y) (hes : es.length ≤ 100000) (hk : ∀ e ∈ es, e.k ≤ 100000 ∧ e.n ≤ 1000000 ∧ e.d = 0) :
    Calls Tryd.prog 44 #[.pointer (some ⟨g, 0, none⟩)] w fun e w' => (∃ r, e = .returned r) ∧ BelT T32 B w w' ∧ BookU u B w' g num v es ∧ ∃ X', Held B w' es X' Y ∧ ∀ i e, es[i]? = some e → X' i = List.replicate e.n (mk32 e.k) := by
  refine opq fun R hR => ?_
  obtain ⟨RR, cR, rfl⟩ := hb.len
  have bk0 := hide hb
  have hd0 := hide hh
  have hk0 := hide hk
  have bB := hide hB
  clear hb hh hk hB
  go_enter Tryd.func44, Tryd.ntmps44
  go_wp2
  go_loopw [2] (fun iv wr => ∃ (i : Nat), i ≤ es.length ∧ iv = .int .i64 (i : Nat) ∧ Hid (BelT T32 B w wr) ∧ Hid (BookU u B wr g num (.slice RR es.length cR) es) ∧ Hid (∃ X', Held B wr es X' Y ∧ ∀ i' e, i' < i → es[i']? = some e → X' i' = List.replicate e.n (mk32 e.k))) (fun iv _ => es.length - (intOf iv).toNat)
  case atStart => exact ⟨0, by omega, rfl, BelT.refl _ _ _, bk0, X, hd0.out, fun i' e h => by omega⟩
  case round =>
    obtain ⟨i, hi, rfl, hbel, bk1, hX⟩ := hrel
    have c2 := bk1.out.blk.at_ 2 rfl
    by_cases hlt : i < es.length
    · obtain ⟨e, he0⟩ : ∃ e, es[i]? = some e := ⟨_, List.getElem?_eq_getElem hlt⟩
      have he := hide he0
      obtain ⟨r, c', cur, e1, hr, hkr, _, x0, x1, x2⟩ := bk1.out.ent he0
      clear he0
      cases e1
      have hkr := hide hkr
      obtain ⟨A, n, c, L, m, d, k⟩ := e
      obtain ⟨q1, q2, q3⟩ := hk0.out _ (List.mem_of_getElem? he.out)
      dsimp only at x0 x1 x2 q1 q2 q3
      subst q3
      go_wp2
      obtain ⟨p0, hp0⟩ : ∃ p0, wr.heap.size = p0 := ⟨_, rfl⟩
      obtain ⟨V, hV⟩ : ∃ V, wr.alloc (.cells #[.slice A n c, .slice L m 0, .int .i64 (k : Nat)] TH) = V := ⟨_, rfl⟩
      have bx : Hid (Blk V p0 TH #[.slice A n c, .slice L m 0, .int .i64 (k : Nat)]) := by
        rw [← hV, ← hp0]; exact Blk.new _ _ _
      have b1 : Hid (BelT T32 B w V) := by
        rw [← hV]; exact hbel.out.alloc (Nat.le_trans bB.out hbel.out.size) _
      have k1 : Hid (BookU u B V g num (.slice (some ⟨r, 0, none⟩) es.length cR) es) := by
        rw [← hV]; exact bk1.out.keep fun g t cs _ _ hk => hk.alloc _
      have X1 : Hid (∃ X', Held B V es X' Y ∧ (∀ (i' : Nat) (e : Ent), i' < i → es[i']? = some e → X' i' = List.replicate e.n (mk32 e.k))) := by
        obtain ⟨X', h1, h2⟩ := hX.out
        exact ⟨X', by rw [← hV]; exact h1.keep fun g cs _ hk => hk.alloc _, h2⟩
      rw [hp0, hV]
      clear hV hp0 hbel bk1 hX x0 x1 x2 c2 hkr
      go_loopw [4] (fun jv wj => ∃ (j : Nat), j ≤ n ∧ jv = .int .i64 (j : Nat) ∧ Hid (Blk wj p0 TH #[.slice A n c, .slice L m 0, .int .i64 (k : Nat)]) ∧ Hid (BelT T32 B w wj) ∧ Hid (BookU u B wj g num (.slice (some ⟨r, 0, none⟩) es.length cR) es) ∧ Hid (∃ X', Held B wj es X' Y ∧ (∀ (i' : Nat) (e : Ent), i' < i → es[i']? = some e → X' i' = List.replicate e.n (mk32 e.k)) ∧ ∀ j', j' < j → (X' i)[j']? = some (mk32 k))) (fun jv _ => n - (intOf jv).toNat)
      case atStart =>
        obtain ⟨X', h1, h2⟩ := X1.out
        exact ⟨0, by omega, rfl, bx, b1, k1, X', h1, h2, fun j' h => by omega⟩
      case round =>
        clear bx b1 k1 X1
        obtain ⟨j, hj, rfl, bx, b1, k1, X1⟩ := hrel
        have y0 := bx.out.at_ 0 rfl
        have y2 := bx.out.at_ 2 rfl
        by_cases hlj : j < n
        · obtain ⟨ga, cs, rfl, hga, hka, gA⟩ : ∃ ga cs, A = some ⟨ga, 0, none⟩ ∧ B ≤ ga ∧ Hid (Blk wr ga T32 cs ∧ j < cs.size) ∧ Hid (blkOf A c = some ga) := by
            obtain ⟨X', h1, _⟩ := X1.out
            obtain ⟨ga, e1, e2, _⟩ := (h1.a i _ he.out).at_ hlj
            obtain ⟨cs, _, e3, e4, e5, e6⟩ := (h1.a i _ he.out).blk e2
            have := (h1.a i _ he.out).le
            dsimp only at e1 e2 this e5
            exact ⟨ga, cs, e1, e3, ⟨e4, by omega⟩, e2⟩
          have z0 := hka.out.1.at_ j (Array.getElem?_eq_getElem hka.out.2)
          have zf := hka.out.1.frozen j
          have S1 : Hid (Blk ((wr.setCell ⟨ga, j, none⟩ (.int .u32 (1000 + (k : Int)))).drew) p0 TH #[.slice (some ⟨ga, 0, none⟩) n c, .slice L m 0, .int .i64 (k : Nat)]) := (bx.out.far (p := ⟨ga, j, none⟩) (bx.out.type_ne hka.out.1 (by decide)) _).drew
          have S2 : Hid (BelT T32 B w ((wr.setCell ⟨ga, j, none⟩ (.int .u32 (1000 + (k : Int)))).drew)) := (b1.out.setCell hka.out.1 hga _).drew
          have S3 : Hid (BookU u B ((wr.setCell ⟨ga, j, none⟩ (.int .u32 (1000 + (k : Int)))).drew) g num (.slice (some ⟨r, 0, none⟩) es.length cR) es) := k1.out.keep fun g t cs' ht _ hk => (hk.far (p := ⟨ga, j, none⟩) (hk.type_ne hka.out.1 ht) _).drew
          have S4 : Hid (∃ X', Held B ((wr.setCell ⟨ga, j, none⟩ (.int .u32 (1000 + (k : Int)))).drew) es X' Y ∧ (∀ (i' : Nat) (e : Ent), i' < i → es[i']? = some e → X' i' = List.replicate e.n (mk32 e.k)) ∧ ∀ j', j' < j + 1 → (X' i)[j']? = some (mk32 k)) := by
            obtain ⟨X', h1, h2, h3⟩ := X1.out
            refine ⟨_, (h1.set_ (fun i e h => (hk0.out e (List.mem_of_getElem? h)).2.2) he.out hlj gA.out (mk32 k)).keep fun g cs _ hk => hk.drew, fun i' e hi' hee => ?_, fun j' hj' => ?_⟩
            · rw [upd_ne _ _ (by omega)]
              exact h2 i' e hi' hee
            · rw [upd_same]
              have hl := (h1.a _ _ he.out).len
              dsimp only at hl
              by_cases hjj : j' = j
              · subst hjj
                rw [List.getElem?_set_self (by omega)]
              · rw [List.getElem?_set_ne (fun e => hjj e.symm)]
                exact h3 j' (by omega)
          clear bx b1 k1 X1
          go_wp2
          go_region_with (go_at_call 122; refine (mark_ok _ k q1).mono ?_; rintro e w' ⟨rfl, rfl⟩)
          all_goals
            go_wp2
            go_roundw
            case rel => exact ⟨j + 1, by omega, by go_num, S1, S2, S3, S4⟩
            case measure => simp [intOf]; omega
        · obtain rfl : j = n := by omega
          go_wp2
          go_roundw
          case rel =>
            refine ⟨i + 1, by omega, by go_num, b1, k1, ?_⟩
            obtain ⟨X', h1, h2, h3⟩ := X1.out
            refine ⟨X', h1, fun i' e hi' hee => ?_⟩
            by_cases hii : i' = i
            · subst hii
              rw [he.out] at hee
              cases hee
              have hl := (h1.a _ _ he.out).len
              dsimp only at hl ⊢
              refine List.ext_getElem? fun q => ?_
              by_cases hq : q < j
              · rw [h3 q hq, List.getElem?_replicate, if_pos hq]
              · rw [List.getElem?_eq_none (by omega), List.getElem?_eq_none (by rw [List.length_replicate]; omega)]
            · exact h2 i' e (by omega) hee
          case measure => simp [intOf]; omega
    · obtain rfl : i = es.length := by omega
      go_wp2
      go_end0
      obtain ⟨X', h1, h2⟩ := hX.out
      exact opq_end hR ⟨⟨_, rfl⟩, hbel.out, bk1.out, X', h1, fun i e he => h2 i e (List.getElem?_eq_some_iff.1 he).1 he⟩
theorem BookU.setL {u : Value} {B : Nat} {w : World} {g num r c n : Nat} {es : List Ent} (h : BookU u B w g num (.slice (some ⟨r, 0, none⟩) n c) es) {i : Nat} {e : Ent} (he : es[i]? = some e) (L : Option Addr) (m d : Nat) :
    BookU u B (w.setCell ⟨r, i * 3 + 1, none⟩ (.slice L m d)) g num (.slice (some ⟨r, 0, none⟩) n c) (es.set i ⟨e.A, e.n, e.c, L, m, d, e.k⟩) := by
  have hi : i < es.length := (List.getElem?_eq_some_iff.1 he).1
  obtain ⟨r', c', cur, e1, hB, hn, hm, hk, hs, ht⟩ := own_some h.row (by omega)
  cases e1
  refine ⟨h.blk.far (p := ⟨r, i * 3 + 1, none⟩) (h.blk.type_ne hk (by decide)) _, h.own, by rw [flatE_len]; simp; omega, .inr ⟨r, c, _, by simp, hB, (hk.set_ (i * 3 + 1) (.slice L m d)).eq, by simpa using hn, by simpa [maxLen] using hm, by simpa using hs, ?_⟩⟩
  rw [flatE_set he, Array.toList_setIfInBounds, List.length_set, List.take_set, ht]
theorem BookV.setL {u : Value} {B : Nat} {w : World} {g num r c n : Nat} {es : List Ent} (h : BookV u B w g num (.slice (some ⟨r, 0, none⟩) n c) es) {i : Nat} {e : Ent} (he : es[i]? = some e) (L : Option Addr) (m d : Nat) :
    BookV u B (w.setCell ⟨r, i * 3 + 1, none⟩ (.slice L m d)) g num (.slice (some ⟨r, 0, none⟩) n c) (es.set i ⟨e.A, e.n, e.c, L, m, d, e.k⟩) := by
  have hi : i < es.length := (List.getElem?_eq_some_iff.1 he).1
  obtain ⟨r', c', cur, e1, hB, hn, hm, hk, hs, ht⟩ := own_some h.row (by omega)
  cases e1
  refine ⟨h.blk.far (p := ⟨r, i * 3 + 1, none⟩) (h.blk.type_ne hk (by decide)) _, h.own, by rw [flatE_len]; simp; omega, .inr ⟨r, c, _, by simp, hB, (hk.set_ (i * 3 + 1) (.slice L m d)).eq, by simpa using hn, by simpa [maxLen] using hm, by simpa using hs, ?_⟩⟩
  rw [flatE_set he, Array.toList_setIfInBounds, List.length_set, List.take_set, ht]
set_option maxHeartbeats 2000000 in
theorem growInt32_U (w : World) (B g num : Nat) (v u : Value) (es : List Ent) (X Y : Nat → List Value) (hB : B ≤ w.heap.size) (hb : BookU u B w g num v es) (hh : Held B w es X Y) (hes : es.length ≤ 100000) (hk : ∀ e ∈ es, e.k ≤ 100000 ∧ e.n ≤ 500000) (hX : ∀ i e, es[i]? = some e → X i = List.replicate e.n (mk32 e.k)) (lo : Nat) (hlo : Old lo w.heap.size es) :
    Calls Tryd.prog 56 #[.pointer (some ⟨g, 0, none⟩)] w fun e w' => (∃ r, e = .returned r) ∧ BelG lo B w w' ∧ ∃ es' Y', BookU u B w' g num v es' ∧ Held B w' es' X Y' ∧ Grown es es.length es' Y' := by
  refine opq fun R hR => ?_
  obtain ⟨RR, cR, rfl⟩ := hb.len
  have bk0 := hide hb
  have hd0 := hide hh
  have hk0 := hide hk
  have hX0 := hide hX
  replace hlo := hide hlo
  have bB := hide hB
  clear hb hh hk hB hX
  go_enter Tryd.func56, Tryd.ntmps56
  go_wp2
  go_loopw [2] (fun iv wr => ∃ (i : Nat), i ≤ es.length ∧ iv = .int .i64 (i : Nat) ∧ Hid (BelG lo B w wr) ∧ Hid (∃ es' Y', Old lo w.heap.size es' ∧ BookU u B wr g num (.slice RR es.length cR) es' ∧ Held B wr es' X Y' ∧ Grown es i es' Y')) (fun iv _ => es.length - (intOf iv).toNat)
  case atStart => exact ⟨0, by omega, rfl, BelG.refl _ _ _, es, Y, hlo.out, bk0.out, hd0.out, rfl, fun j e' h => ⟨e', h, rfl, rfl, rfl, rfl⟩, fun j e' h => by omega⟩
  case round =>
    obtain ⟨i, hi, rfl, hbel, hX⟩ := hrel
    obtain ⟨es', Y', od1, bk1, hd1, gr1⟩ := hX.out
    have od1 := hide od1
    have bk1 := hide bk1
    have hd1 := hide hd1
    have gr1 := hide gr1
    clear hX
    have c2 := bk1.out.blk.at_ 2 rfl
    by_cases hlt : i < es.length
    · obtain ⟨e, he0⟩ : ∃ e, es'[i]? = some e := ⟨_, List.getElem?_eq_getElem (by rw [gr1.out.len]; exact hlt)⟩
      have he := hide he0
      obtain ⟨r, c', cur, e1, hr, hkr, _, x0, x1, x2⟩ := bk1.out.ent he0
      clear he0
      obtain ⟨rfl, e2, e3⟩ := Value.slice.inj e1
      clear e1 e2 e3
      have hkr := hide hkr
      obtain ⟨e0, f0, f1, f2, f3, f4⟩ := gr1.out.same _ _ he.out
      obtain ⟨q1, q2⟩ := hk0.out _ (List.mem_of_getElem? f0)
      have hXi := hide (hX0.out _ _ f0)
      rw [← f2, ← f4] at hXi
      rw [← f4] at q1
      rw [← f2] at q2
      clear f0 f1 f2 f3 f4 e0
      obtain ⟨A, n, c, L, m, d, k⟩ := e
      dsimp only at x0 x1 x2 q1 q2 hXi
      go_wp2
      obtain ⟨p0, hp0⟩ : ∃ p0, wr.heap.size = p0 := ⟨_, rfl⟩
      obtain ⟨V, hV⟩ : ∃ V, wr.alloc (.cells #[.slice A n c, .slice L m d, .int .i64 (k : Nat)] TH) = V := ⟨_, rfl⟩
      have bx : Hid (Blk V p0 TH #[.slice A n c, .slice L m d, .int .i64 (k : Nat)]) := by
        rw [← hV, ← hp0]; exact Blk.new _ _ _
      have b1 : Hid (BelG lo B w V) := by
        rw [← hV]; exact hbel.out.alloc (Nat.le_trans bB.out hbel.out.size) _
      have k1 : Hid (BookU u B V g num (.slice (some ⟨r, 0, none⟩) es.length cR) es') := by
        rw [← hV]; exact bk1.out.keep fun g t cs _ _ hk => hk.alloc _
      have X1 : Hid (Held B V (es'.set i ⟨A, n, c, A, n + 0, c, k⟩) X (upd Y' i (List.replicate (n + 0) (mk32 k)))) := by
        have h1 : Held B V es' X Y' := by rw [← hV]; exact hd1.out.keep fun g cs _ hk => hk.alloc _
        have := h1.start he.out
        rw [hXi.out] at this
        exact this
      rw [hp0, hV]
      clear hV hp0 hbel bk1 hd1 x0 x1 x2 c2 hkr
      go_loopw [4, 5] (fun tv jv wj => ∃ (j : Nat) (A' : Option Addr) (c' : Nat), j ≤ 40 ∧ jv = .int .i64 (j : Nat) ∧ tv = .slice A' (n + j) c' ∧ Hid (Blk wj p0 TH #[.slice A n c, .slice L m d, .int .i64 (k : Nat)]) ∧ Hid (BelG lo B w wj) ∧ Hid (∀ g, blkOf A' c' = some g → g < lo ∨ w.heap.size ≤ g) ∧ Hid (BookU u B wj g num (.slice (some ⟨r, 0, none⟩) es.length cR) es') ∧ Hid (Held B wj (es'.set i ⟨A, n, c, A', n + j, c', k⟩) X (upd Y' i (List.replicate (n + j) (mk32 k))))) (fun _ jv _ => 40 - (intOf jv).toNat)
      case atStart => exact ⟨0, A, c, by omega, rfl, rfl, bx, b1, fun g hg => od1.out _ _ _ he.out (.inl hg), k1, X1⟩
      case round =>
        clear bx b1 k1 X1
        obtain ⟨j, A', c', hj, rfl, rfl, bx, b1, oA, k1, X1⟩ := hrel
        have y2 := bx.out.at_ 2 rfl
        by_cases hlj : j < 40
        · have S1 : Hid (Blk (wr.alloc (.cells #[.int .u32 (1000 + (k : Int))] T32)) p0 TH #[.slice A n c, .slice L m d, .int .i64 (k : Nat)]) := bx.out.alloc _
          have S0 := hide (Nat.le_trans bB.out b1.out.size)
          have S2 : Hid (BelG lo B w (wr.alloc (.cells #[.int .u32 (1000 + (k : Int))] T32))) := b1.out.alloc S0.out _
          have S3 : Hid (BookU u B (wr.alloc (.cells #[.int .u32 (1000 + (k : Int))] T32)) g num (.slice (some ⟨r, 0, none⟩) es.length cR) es') := k1.out.keep fun g t cs' ht _ hk => hk.alloc _
          have S4 : Hid (Held B (wr.alloc (.cells #[.int .u32 (1000 + (k : Int))] T32)) (es'.set i ⟨A, n, c, A', n + j, c', k⟩) X (upd Y' i (List.replicate (n + j) (mk32 k)))) := X1.out.keep fun g cs _ hk => hk.alloc _
          have S5 : Hid ((es'.set i ⟨A, n, c, A', n + j, c', k⟩)[i]? = some ⟨A, n, c, A', n + j, c', k⟩) := by
            show _ = _
            rw [List.getElem?_set_self (List.getElem?_eq_some_iff.1 he.out).1]
          have S6 : Hid (LRow B (wr.alloc (.cells #[.int .u32 (1000 + (k : Int))] T32)) A' (n + j) c' (List.replicate (n + j) (mk32 k))) := by
            have := S4.out.l _ _ S5.out
            rw [upd_same] at this
            exact this
          have S7 : Hid ((wr.alloc (.cells #[.int .u32 (1000 + (k : Int))] T32)).cell? ⟨wr.heap.size, 0, none⟩ = some (.int .u32 (1000 + (k : Int)))) := (Blk.new wr T32 #[.int .u32 (1000 + (k : Int))]).at_ 0 rfl
          have S8 : Hid (B ≤ (wr.alloc (.cells #[.int .u32 (1000 + (k : Int))] T32)).heap.size) := Nat.le_trans bB.out S2.out.size
          clear bx b1 k1 X1
          go_wp2_with fail
          refine (mark_ok _ k q1).mono ?_
          rintro e w' ⟨rfl, rfl⟩
          go_wp2_with (at_builtin; refine wpList_app1 (P := Tryd.prog) (t := 46) (by kernel_rfl) info32 rfl _ _ rfl S6.out rfl S8.out (by omega) _ rfl _ 1 rfl S7.out ?_; intro A2 c2 w2 r1 r2 r3 r4)
          go_roundw
          case rel =>
            have P1 := S4.out.push S5.out (A' := A2) (c' := c2) (x := .int .u32 (1000 + (k : Int))) (by rw [upd_same]; exact r1.out) r2.out r3.out r4.out
            refine ⟨j + 1, A2, c2, by omega, by go_num, rfl, S6.out.other r2.out (by decide) S1.out, S2.out.push S6.out r2.out S8.out oA.out, ?_, S3.out.keep fun g t cs ht _ hk => S6.out.other r2.out ht hk, ?_⟩
            · intro g hg
              rcases r4.out with ⟨rfl, rfl⟩ | ⟨rfl, _⟩
              · exact oA.out g hg
              · have hs := S2.out.size
                rw [blkOf_some (blkOf_pos hg)] at hg
                cases hg
                exact .inr hs
            rw [upd_same, List.set_set] at P1
            have e1 : upd (upd Y' i (List.replicate (n + j) (mk32 k))) i (List.replicate (n + j) (mk32 k) ++ [.int .u32 (1000 + (k : Int))]) = upd Y' i (List.replicate (n + (j + 1)) (mk32 k)) := by
              funext q
              unfold upd
              by_cases hq : q = i
              · rw [if_pos hq, if_pos hq, ← Nat.add_assoc, List.replicate_succ']
                rfl
              · rw [if_neg hq, if_neg hq, if_neg hq]
            rw [e1] at P1
            exact P1
          case measure => simp [intOf]; omega
        · obtain rfl : j = 40 := by omega
          obtain ⟨cu, hcu⟩ : ∃ cu, Hid (Blk wr r TH cu ∧ i * 3 + 1 < cu.size) := by
            obtain ⟨r', c', cur', e1, _, hkr, _, _, x1, _⟩ := k1.out.ent he.out
            obtain ⟨e2, _, _⟩ := Value.slice.inj e1
            cases e2
            rw [hkr.cell] at x1
            exact ⟨cur', hkr, (Array.getElem?_eq_some_iff.1 x1).1⟩
          have x1 := hcu.out.1.at_ (i * 3 + 1) (Array.getElem?_eq_getElem hcu.out.2)
          have xf := hcu.out.1.frozen (i * 3 + 1)
          have c2 := k1.out.blk.at_ 2 rfl
          go_wp2
          go_roundw
          case rel =>
            have U1 := k1.out.setL he.out A' (n + 40) c'
            have hbr : B ≤ r := hr
            refine ⟨i + 1, by omega, by go_num, b1.out.setCell hcu.out.1 hbr _, _, _, ?_, U1, X1.out.keep fun g cs _ hk => hk.far (p := ⟨r, i * 3 + 1, none⟩) (hk.type_ne hcu.out.1 (by decide)) _, ?_, ?_, ?_⟩
            · exact od1.out.set_ fun g hg => by
                rcases hg with x | x
                · exact od1.out _ _ _ he.out (.inl x)
                · exact oA.out g x
            · rw [List.length_set]; exact gr1.out.len
            · intro j e' h
              rcases get_set_cases h with ⟨rfl, rfl⟩ | ⟨_, h1⟩
              · obtain ⟨e0, s1, s2⟩ := gr1.out.same _ _ he.out
                exact ⟨e0, s1, s2⟩
              · exact gr1.out.same _ _ h1
            · intro j e' hj h
              rcases get_set_cases h with ⟨rfl, rfl⟩ | ⟨hne, h1⟩
              · exact ⟨rfl, upd_same _ _ _⟩
              · rw [upd_ne _ _ hne]
                exact gr1.out.done _ _ (by omega) h1
          case measure => simp [intOf]; omega
    · obtain rfl : i = es.length := by omega
      go_wp2
      go_end0
      exact opq_end hR ⟨⟨_, rfl⟩, hbel.out, es', Y', bk1.out, hd1.out, gr1.out⟩
/-- All blocks stay, and memory below B. -/
structure BelA (B : Nat) (w w' : World) : Prop where
  base : Below B w w'
  keep : ∀ b t cs, Blk w b t cs → Blk w' b t cs
theorem BelA.refl (B : Nat) (w : World) : BelA B w w := ⟨Below.refl _ _, fun _ _ _ h => h⟩
theorem BelA.size {B : Nat} {w w' : World} (h : BelA B w w') : w.heap.size ≤ w'.heap.size := h.base.size
theorem BelA.alloc {B : Nat} {w w' : World} (h : BelA B w w') (hB : B ≤ w'.heap.size) (o : Obj) : BelA B w (w'.alloc o) := ⟨h.base.alloc hB o, fun b t cs hk => (h.keep b t cs hk).alloc o⟩
theorem BelA.drewN {B : Nat} {w w' : World} (h : BelA B w w') (q : Nat) : BelA B w (w'.drewN q) := ⟨below_drewN h.base q, fun b t cs hk => (h.keep b t cs hk).drewN q⟩
theorem BelA.below {B : Nat} {w w1 w2 : World} (h : BelA B w w1) (k : Below w1.heap.size w1 w2) (hB : B ≤ w1.heap.size) : BelA B w w2 := ⟨h.base.trans (k.mono hB), fun b t cs hk => (h.keep b t cs hk).below' k⟩
set_option maxHeartbeats 2000000 in
theorem lookInt32_U (w : World) (B g num : Nat) (v u : Value) (es : List Ent) (X Y : Nat → List Value) (hB : B ≤ w.heap.size) (hb : BookU u B w g num v es) (hh : Held B w es X Y) (hes : es.length ≤ 100000)
    (hk : ∀ (i : Nat) (e : Ent), es[i]? = some e → e.k ≤ 100000 ∧ e.n ≤ 500000 ∧ e.m = e.n + 40 ∧ X i = List.replicate e.n (mk32 e.k) ∧ Y i = List.replicate e.m (mk32 e.k)) :
    Calls Tryd.prog 68 #[.pointer (some ⟨g, 0, none⟩)] w fun e w' => e = .returned (.bool true) ∧ BelA B w w' ∧ BookU u B w' g num v es := by
  refine opq fun R hR => ?_
  obtain ⟨RR, cR, rfl⟩ := hb.len
  have bk0 := hide hb
  have hd0 := hide hh
  have hk0 := hide hk
  have bB := hide hB
  clear hb hh hk hB
  go_enter Tryd.func68, Tryd.ntmps68
  go_wp2
  go_loopw [3] (fun iv wr => ∃ (i : Nat), i ≤ es.length ∧ iv = .int .i64 (i : Nat) ∧ Hid (BelA B w wr) ∧ Hid (BookU u B wr g num (.slice RR es.length cR) es) ∧ Hid (Held B wr es X Y)) (fun iv _ => es.length - (intOf iv).toNat)
  case atStart => exact ⟨0, by omega, rfl, BelA.refl _ _, bk0, hd0⟩
  case round =>
    obtain ⟨i, hi, rfl, hbel, bk1, hd1⟩ := hrel
    have c2 := bk1.out.blk.at_ 2 rfl
    by_cases hlt : i < es.length
    · obtain ⟨e, he0⟩ : ∃ e, es[i]? = some e := ⟨_, List.getElem?_eq_getElem hlt⟩
      have he := hide he0
      obtain ⟨r, c', cur, e1, hr, hkr, _, x0, x1, x2⟩ := bk1.out.ent he0
      obtain ⟨q1, q2, q3, q4, q5⟩ := hk0.out _ _ he0
      clear he0
      obtain ⟨rfl, e2, e3⟩ := Value.slice.inj e1
      clear e1 e2 e3
      have hkr := hide hkr
      obtain ⟨A, n, c, L, m, d, k⟩ := e
      dsimp only at x0 x1 x2 q1 q2 q3 q4 q5
      subst q3
      replace q4 := hide q4
      replace q5 := hide q5
      go_wp2
      obtain ⟨p0, hp0⟩ : ∃ p0, wr.heap.size = p0 := ⟨_, rfl⟩
      obtain ⟨V, hV⟩ : ∃ V, wr.alloc (.cells #[.slice A n c, .slice L (n + 40) d, .int .i64 (k : Nat)] TH) = V := ⟨_, rfl⟩
      have bx : Hid (Blk V p0 TH #[.slice A n c, .slice L (n + 40) d, .int .i64 (k : Nat)]) := by
        rw [← hV, ← hp0]; exact Blk.new _ _ _
      have b1 : Hid (BelA B w V) := by
        rw [← hV]; exact hbel.out.alloc (Nat.le_trans bB.out hbel.out.size) _
      have k1 : Hid (BookU u B V g num (.slice (some ⟨r, 0, none⟩) es.length cR) es) := by
        rw [← hV]; exact bk1.out.keep fun g t cs _ _ hk => hk.alloc _
      have X1 : Hid (Held B V es X Y) := by
        rw [← hV]; exact hd1.out.keep fun g cs _ hk => hk.alloc _
      rw [hp0, hV]
      clear hV hp0 hbel bk1 hd1 x0 x1 x2 c2 hkr
      go_loopw [5] (fun jv wj => ∃ (j : Nat), j ≤ n + 40 ∧ jv = .int .i64 (j : Nat) ∧ Hid (Blk wj p0 TH #[.slice A n c, .slice L (n + 40) d, .int .i64 (k : Nat)]) ∧ Hid (BelA B w wj) ∧ Hid (BookU u B wj g num (.slice (some ⟨r, 0, none⟩) es.length cR) es) ∧ Hid (Held B wj es X Y)) (fun jv _ => n + 40 - (intOf jv).toNat)
      case atStart => exact ⟨0, by omega, rfl, bx, b1, k1, X1⟩
      case round =>
        clear bx b1 k1 X1
        obtain ⟨j, hj, rfl, bx, b1, k1, X1⟩ := hrel
        have y0 := bx.out.at_ 0 rfl
        have y1 := bx.out.at_ 1 rfl
        have y2 := bx.out.at_ 2 rfl
        have S : Hid (∀ q, Hid (Blk (wr.drewN q) p0 TH #[.slice A n c, .slice L (n + 40) d, .int .i64 (k : Nat)]) ∧ Hid (BelA B w (wr.drewN q)) ∧ Hid (BookU u B (wr.drewN q) g num (.slice (some ⟨r, 0, none⟩) es.length cR) es) ∧ Hid (Held B (wr.drewN q) es X Y)) := fun q => ⟨bx.out.drewN q, b1.out.drewN q, k1.out.keep fun g t cs _ _ hk => hk.drewN q, X1.out.keep fun g cs _ hk => hk.drewN q⟩
        by_cases hlj : j < n + 40
        · obtain ⟨gl, rfl, z1⟩ : ∃ gl, L = some ⟨gl, 0, none⟩ ∧ wr.cell? ⟨gl, j, none⟩ = some (.int .u32 (1000 + (k : Int))) := by
            have h1 := X1.out.l _ _ he.out
            rw [q5.out] at h1
            exact h1.marks hlj
          by_cases hln : j < n
          · obtain ⟨ga, rfl, z0⟩ : ∃ ga, A = some ⟨ga, 0, none⟩ ∧ wr.cell? ⟨ga, j, none⟩ = some (.int .u32 (1000 + (k : Int))) := by
              have h1 := X1.out.a _ _ he.out
              rw [q4.out] at h1
              exact h1.marks hln
            have hdl : decide ((j : Int) < (n : Int)) = true := by simpa using hln
            clear b1 k1 X1 bx
            go_wp2
            go_quiet (first | (go_at_call 134; refine Calls.quiet_of_same (isInt32_ok _ k q1)))
            go_wp2
            go_roundw
            case rel => exact ⟨j + 1, by omega, by go_num, S.out _⟩
            case measure => simp [intOf]; omega
          · have hdl : decide ((j : Int) < (n : Int)) = false := by simpa using hln
            clear b1 k1 X1 bx
            go_wp2
            go_quiet (first | (go_at_call 134; refine Calls.quiet_of_same (isInt32_ok _ k q1)))
            go_wp2
            go_roundw
            case rel => exact ⟨j + 1, by omega, by go_num, S.out _⟩
            case measure => simp [intOf]; omega
        · obtain rfl : j = n + 40 := by omega
          go_wp2
          go_roundw
          case rel => exact ⟨i + 1, by omega, by go_num, b1, k1, X1⟩
          case measure => simp [intOf]; omega
    · obtain rfl : i = es.length := by omega
      go_wp2
      exact opq_end hR ⟨rfl, hbel.out, bk1.out⟩
end Go.Proofs.YtkefmeddnncacaaDoor
