/- the laws' Book where lists of fractions are held too: words; one more is kept. -/
import Derived.Test.YtkefmeddnncacaaDoorBK
import Derived.Test.YtkefmeddnncacaaDoorVA
set_option linter.unusedVariables false
set_option linter.unusedSimpArgs false
set_option maxRecDepth 100000
namespace Go.Proofs.YtkefmeddnncacaaDoor
open Go.RowKit

abbrev THR : TypeId := 124
abbrev bkF (num : Nat) (v u : Value) : Array Value := #[.int .i64 (num : Nat), .slice none 0 0, v, .slice none 0 0, .slice none 0 0, .slice none 0 0, .slice none 0 0, .slice none 0 0, u, .slice none 0 0, .slice none 0 0, .slice none 0 0, .slice none 0 0]
/-- The Book: its numbers' part, whatever its fractions' part be. -/
structure BookU (u : Value) (B : Nat) (w : World) (g num : Nat) (v : Value) (es : List Ent) : Prop where
  blk : Blk w g TBK (bkF num v u)
  own : B ≤ g
  row : w.ownsRow B TH 3 v es.length (flatE es)
/-- The Book: its fractions' part. -/
structure BookV (v : Value) (B : Nat) (w : World) (g num : Nat) (u : Value) (fs : List Ent) : Prop where
  blk : Blk w g TBK (bkF num v u)
  own : B ≤ g
  row : w.ownsRow B THR 3 u fs.length (flatE fs)
/-- The Book: both. -/
structure BookF (B : Nat) (w : World) (g num : Nat) (v u : Value) (es fs : List Ent) : Prop where
  U : BookU u B w g num v es
  V : BookV v B w g num u fs
/-- All blocks but the Book's own stay, and memory below B. -/
structure KpV (B : Nat) (w w' : World) : Prop where
  base : Below B w w'
  nums : ∀ b t cs, t ≠ TBK → t ≠ THR → Blk w b t cs → Blk w' b t cs
theorem KpV.tr {B : Nat} {a b c : World} (h : KpV B a b) (k : KpV B b c) : KpV B a c := ⟨h.base.trans k.base, fun b t cs n1 n2 x => k.nums b t cs n1 n2 (h.nums b t cs n1 n2 x)⟩
structure KpF (B : Nat) (w w' : World) : Prop where
  base : Below B w w'
  nums : ∀ b t cs, t ≠ TBK → t ≠ TH → t ≠ THR → Blk w b t cs → Blk w' b t cs
theorem KpF.tr {B : Nat} {a b c : World} (h : KpF B a b) (k : KpF B b c) : KpF B a c := ⟨h.base.trans k.base, fun b t cs n1 n2 n3 x => k.nums b t cs n1 n2 n3 (h.nums b t cs n1 n2 n3 x)⟩
theorem Kp.f {B : Nat} {a b : World} (h : Kp B a b) : KpF B a b := ⟨h.base, fun b t cs n1 n2 _ x => h.nums b t cs n1 n2 x⟩
theorem KpV.f {B : Nat} {a b : World} (h : KpV B a b) : KpF B a b := ⟨h.base, fun b t cs n1 _ n2 x => h.nums b t cs n1 n2 x⟩
theorem infoHR : (Tryd.prog.info? THR).map (fun i => (i.zero, i.size, i.bytes)) = some (some (.agg #[.slice none 0 0, .slice none 0 0, .int .i64 0]), 3, 56) := by kernel_rfl
theorem own_keepT {t : TypeId} {w w' : World} {B n : Nat} {v : Value} {xs : List Value} (h : w.ownsRow B t 3 v n xs) (k : ∀ r cs, Blk w r t cs → Blk w' r t cs) : w'.ownsRow B t 3 v n xs := by
  refine ⟨h.1, ?_⟩
  rcases h.2 with e | ⟨r, cap, cur, e, hB, hh, rest⟩
  · exact .inl e
  · exact .inr ⟨r, cap, cur, e, hB, (k r cur ⟨hh⟩).eq, rest⟩
theorem BookU.keep {B : Nat} {w w' : World} {g num : Nat} {v u : Value} {es : List Ent} (h : BookU u B w g num v es) (k : ∀ g t cs, t ≠ T32 → t ≠ TR → Blk w g t cs → Blk w' g t cs) : BookU u B w' g num v es :=
  ⟨k _ _ _ (by decide) (by decide) h.blk, h.own, own_keepT h.row fun r cs hk => k r TH cs (by decide) (by decide) hk⟩
theorem BookV.keep {B : Nat} {w w' : World} {g num : Nat} {v u : Value} {es : List Ent} (h : BookV v B w g num u es) (k : ∀ g t cs, t ≠ T32 → t ≠ TR → Blk w g t cs → Blk w' g t cs) : BookV v B w' g num u es :=
  ⟨k _ _ _ (by decide) (by decide) h.blk, h.own, own_keepT h.row fun r cs hk => k r THR cs (by decide) (by decide) hk⟩
theorem BookF.keep {B : Nat} {w w' : World} {g num : Nat} {v u : Value} {es fs : List Ent} (h : BookF B w g num v u es fs) (k : ∀ g t cs, t ≠ T32 → t ≠ TR → Blk w g t cs → Blk w' g t cs) : BookF B w' g num v u es fs := ⟨h.U.keep k, h.V.keep k⟩
set_option maxHeartbeats 1000000 in
theorem keepInt32_U (w : World) (B g num : Nat) (v u : Value) (es : List Ent) (hB : B ≤ w.heap.size) (hb : BookU u B w g num v es) (A : Option Addr) (n c : Nat) (hn : num ≤ 100000) (hes : es.length ≤ 100000) :
    Calls Tryd.prog 182 #[.pointer (some ⟨g, 0, none⟩), .slice A n c] w fun e w' => (∃ r, e = .returned r) ∧ Kp B w w' ∧ ∃ v', BookU u B w' g (num + 1) v' (es ++ [⟨A, n, c, none, 0, 0, num + 1⟩]) := by
  refine opq fun R hR => ?_
  obtain ⟨k0, hg, hr⟩ := hb
  obtain ⟨R0, cR, rfl⟩ := own_slice hr
  go_enter Tryd.func182, Tryd.ntmps182
  have c0 := k0.at_ 0 rfl
  have f0 := k0.frozen 0
  have c2 := k0.at_ 2 rfl
  have f2 := k0.frozen 2
  obtain ⟨N, hN⟩ : ∃ N, Hid (N = num + 1) := ⟨_, rfl⟩
  have hw : (num : Int) + 1 = (N : Nat) := by rw [hN.out]; rfl
  have k0' := hide k0
  have hr' := hide hr
  clear k0 hr
  go_wp2
  obtain ⟨V, hV⟩ : ∃ V, w.setCell ⟨g, 0, none⟩ (.int .i64 (N : Nat)) = V := ⟨_, rfl⟩
  have bV : Hid (Kp B w V) := by
    rw [← hV]
    exact ⟨(Below.refl B w).setCell (p := ⟨g, 0, none⟩) hg _, fun b t cs n1 n2 hk => hk.far (p := ⟨g, 0, none⟩) (hk.type_ne k0'.out n1) _⟩
  have k1 : Hid (Blk V g TBK (bkF N (.slice R0 es.length cR) u)) := by
    rw [← hV]
    exact k0'.out.set_ 0 _
  have r1 : Hid (V.ownsRow B TH 3 (.slice R0 es.length cR) es.length (flatE es)) := by
    rw [← hV]
    refine hr'.out.kept (row := some g) ⟨rfl, rfl, rfl, by simp [World.setCell], fun q _ hq => Below.heap_setCell _ _ _ q (fun e => hq (by rw [e]))⟩ (.inr fun e => ?_)
    obtain ⟨_, cs, hk⟩ := own_rowT hr'.out g e
    exact hk.type_ne k0'.out (by decide) rfl
  rw [hV]
  clear hV c0 f0 c2 f2 hr' k0' hw
  have c0 := k1.out.at_ 0 rfl
  have c2 := k1.out.at_ 2 rfl
  have hBV := hide (Nat.le_trans hB bV.out.base.size)
  have kD : Hid (Blk ((V.alloc (.cells #[.slice A n c, .slice none 0 0, .int .i64 (N : Nat)] TH)).drew) g TBK (bkF N (.slice R0 es.length cR) u)) := (k1.out.alloc _).drew
  have rD : Hid (((V.alloc (.cells #[.slice A n c, .slice none 0 0, .int .i64 (N : Nat)] TH)).drew).ownsRow B TH 3 (.slice R0 es.length cR) es.length (flatE es)) := World.ownsRow.alloc r1.out _
  have hD : Hid (∀ (j : Nat) u, [Value.slice A n c, .slice none 0 0, .int .i64 (N : Nat)][j]? = some u → ((V.alloc (.cells #[.slice A n c, .slice none 0 0, .int .i64 (N : Nat)] TH)).drew).cell? ((⟨V.heap.size, 0, none⟩ : Addr).add j) = some u) := fun j u hj => by
    rw [add0]
    exact (Blk.new_at V V.heap.size rfl TH #[.slice A n c, .slice none 0 0, .int .i64 (N : Nat)]).drew.at_ j (by simpa using hj)
  have hU : Hid (∀ u ∈ [Value.slice A n c, .slice none 0 0, .int .i64 (N : Nat)], u.oneCell' = true) := fun u hu => by
    simp at hu
    rcases hu with rfl | rfl | rfl <;> rfl
  have hE := hide hes
  have hEq : Hid (flatE es ++ [Value.slice A n c, .slice none 0 0, .int .i64 (N : Nat)] = flatE (es ++ [⟨A, n, c, none, 0, 0, num + 1⟩])) := by
    show _ = _
    rw [flatE_snoc, hN.out]; rfl
  have bD : Hid (Kp B w ((V.alloc (.cells #[.slice A n c, .slice none 0 0, .int .i64 (N : Nat)] TH)).drew)) := bV.out.tr ⟨((Below.refl B V).alloc hBV.out _).drew, fun b t cs n1 n2 hk => (hk.alloc _).drew⟩
  have c0a : (V.alloc (.cells #[.slice A n c, .slice none 0 0, .int .i64 (N : Nat)] TH)).cell? ⟨g, 0, none⟩ = some (.int .i64 (N : Nat)) := (k1.out.alloc _).at_ 0 rfl
  have c2a : (V.alloc (.cells #[.slice A n c, .slice none 0 0, .int .i64 (N : Nat)] TH)).cell? ⟨g, 2, none⟩ = some (.slice R0 es.length cR) := (k1.out.alloc _).at_ 2 rfl
  clear hes bV r1 hB
  go_region_law (refine step_appv (P := Tryd.prog) (t := 26) (e := TH) (by kernel_rfl) infoH rfl (by omega) _ rfl _ _ rfl B es.length (.slice R0 es.length cR) (flatE es) (by simp [Act.eval, Act.put]) rD.out _ 1 1 [.slice A n c, .slice none 0 0, .int .i64 (N : Nat)] (by simp [Act.eval, Act.put]) rfl hD.out hU.out (by have := hE.out; omega) (by have := hE.out; omega) (Nat.le_trans hBV.out (by simp)) ?_; intro v' w' q1 q2; have kW := hide (blk_grown rD.out q2.out kD.out (by decide)); obtain ⟨R1, c1, rfl⟩ := own_slice q1.out; have d2 := kW.out.at_ 2 rfl; have e2 := kW.out.frozen 2)
  all_goals
    go_wp2
    go_end0
    have hU2 : B ≤ (V.alloc (.cells #[.slice A n c, .slice none 0 0, .int .i64 (N : Nat)] TH)).drew.heap.size := Nat.le_trans hBV.out (by simp)
    have G2 : w'.grownBy (w'.setCell ⟨g, 2, none⟩ (.slice R1 (es.length + 1) c1)) (some g) := ⟨rfl, rfl, rfl, by simp [World.setCell], fun q _ hq => Below.heap_setCell _ _ _ q (fun e => hq (by rw [e]))⟩
    refine opq_end hR ⟨⟨_, rfl⟩, bD.out.tr ⟨((Below.refl B _).grown q2.out hU2 (fun q e => (own_rowT rD.out q e).1)).setCell (p := ⟨g, 2, none⟩) hg _, fun b t cs n1 n2 hk => ?_⟩, .slice R1 (es.length + 1) c1, ⟨?_, hg, ?_⟩⟩
    · have h1 := blk_grown rD.out q2.out hk n2
      exact h1.far (p := ⟨g, 2, none⟩) (h1.type_ne kW.out n1) _
    · rw [← hN.out]
      exact kW.out.set_ 2 _
    · have h2 := q1.out
      rw [hEq.out] at h2
      rw [List.length_append]
      refine h2.kept G2 (.inr fun e => ?_)
      obtain ⟨_, cs, hk⟩ := own_rowT h2 g e
      exact hk.type_ne kW.out (by decide) rfl
set_option maxHeartbeats 1000000 in
theorem keepRat_V (w : World) (B g num : Nat) (v u : Value) (es : List Ent) (hB : B ≤ w.heap.size) (hb : BookV u B w g num v es) (A : Option Addr) (n c : Nat) (hn : num ≤ 100000) (hes : es.length ≤ 100000) :
    Calls Tryd.prog 42 #[.pointer (some ⟨g, 0, none⟩), .slice A n c] w fun e w' => (∃ r, e = .returned r) ∧ KpV B w w' ∧ ∃ v', BookV u B w' g (num + 1) v' (es ++ [⟨A, n, c, none, 0, 0, num + 1⟩]) := by
  refine opq fun R hR => ?_
  obtain ⟨k0, hg, hr⟩ := hb
  obtain ⟨R0, cR, rfl⟩ := own_slice hr
  go_enter Tryd.func42, Tryd.ntmps42
  have c0 := k0.at_ 0 rfl
  have f0 := k0.frozen 0
  have c2 := k0.at_ 8 rfl
  have f2 := k0.frozen 8
  obtain ⟨N, hN⟩ : ∃ N, Hid (N = num + 1) := ⟨_, rfl⟩
  have hw : (num : Int) + 1 = (N : Nat) := by rw [hN.out]; rfl
  have k0' := hide k0
  have hr' := hide hr
  clear k0 hr
  go_wp2
  obtain ⟨V, hV⟩ : ∃ V, w.setCell ⟨g, 0, none⟩ (.int .i64 (N : Nat)) = V := ⟨_, rfl⟩
  have bV : Hid (KpV B w V) := by
    rw [← hV]
    exact ⟨(Below.refl B w).setCell (p := ⟨g, 0, none⟩) hg _, fun b t cs n1 n2 hk => hk.far (p := ⟨g, 0, none⟩) (hk.type_ne k0'.out n1) _⟩
  have k1 : Hid (Blk V g TBK (bkF N u (.slice R0 es.length cR))) := by
    rw [← hV]
    exact k0'.out.set_ 0 _
  have r1 : Hid (V.ownsRow B THR 3 (.slice R0 es.length cR) es.length (flatE es)) := by
    rw [← hV]
    refine hr'.out.kept (row := some g) ⟨rfl, rfl, rfl, by simp [World.setCell], fun q _ hq => Below.heap_setCell _ _ _ q (fun e => hq (by rw [e]))⟩ (.inr fun e => ?_)
    obtain ⟨_, cs, hk⟩ := own_rowT hr'.out g e
    exact hk.type_ne k0'.out (by decide) rfl
  rw [hV]
  clear hV c0 f0 c2 f2 hr' k0' hw
  have c0 := k1.out.at_ 0 rfl
  have c2 := k1.out.at_ 8 rfl
  have hBV := hide (Nat.le_trans hB bV.out.base.size)
  have kD : Hid (Blk ((V.alloc (.cells #[.slice A n c, .slice none 0 0, .int .i64 (N : Nat)] THR)).drew) g TBK (bkF N u (.slice R0 es.length cR))) := (k1.out.alloc _).drew
  have rD : Hid (((V.alloc (.cells #[.slice A n c, .slice none 0 0, .int .i64 (N : Nat)] THR)).drew).ownsRow B THR 3 (.slice R0 es.length cR) es.length (flatE es)) := World.ownsRow.alloc r1.out _
  have hD : Hid (∀ (j : Nat) u, [Value.slice A n c, .slice none 0 0, .int .i64 (N : Nat)][j]? = some u → ((V.alloc (.cells #[.slice A n c, .slice none 0 0, .int .i64 (N : Nat)] THR)).drew).cell? ((⟨V.heap.size, 0, none⟩ : Addr).add j) = some u) := fun j u hj => by
    rw [add0]
    exact (Blk.new_at V V.heap.size rfl THR #[.slice A n c, .slice none 0 0, .int .i64 (N : Nat)]).drew.at_ j (by simpa using hj)
  have hU : Hid (∀ u ∈ [Value.slice A n c, .slice none 0 0, .int .i64 (N : Nat)], u.oneCell' = true) := fun u hu => by
    simp at hu
    rcases hu with rfl | rfl | rfl <;> rfl
  have hE := hide hes
  have hEq : Hid (flatE es ++ [Value.slice A n c, .slice none 0 0, .int .i64 (N : Nat)] = flatE (es ++ [⟨A, n, c, none, 0, 0, num + 1⟩])) := by
    show _ = _
    rw [flatE_snoc, hN.out]; rfl
  have bD : Hid (KpV B w ((V.alloc (.cells #[.slice A n c, .slice none 0 0, .int .i64 (N : Nat)] THR)).drew)) := bV.out.tr ⟨((Below.refl B V).alloc hBV.out _).drew, fun b t cs n1 n2 hk => (hk.alloc _).drew⟩
  have c0a : (V.alloc (.cells #[.slice A n c, .slice none 0 0, .int .i64 (N : Nat)] THR)).cell? ⟨g, 0, none⟩ = some (.int .i64 (N : Nat)) := (k1.out.alloc _).at_ 0 rfl
  have c2a : (V.alloc (.cells #[.slice A n c, .slice none 0 0, .int .i64 (N : Nat)] THR)).cell? ⟨g, 8, none⟩ = some (.slice R0 es.length cR) := (k1.out.alloc _).at_ 8 rfl
  clear hes bV r1 hB
  go_region_law (refine step_appv (P := Tryd.prog) (t := 32) (e := THR) (by kernel_rfl) infoHR rfl (by omega) _ rfl _ _ rfl B es.length (.slice R0 es.length cR) (flatE es) (by simp [Act.eval, Act.put]) rD.out _ 1 1 [.slice A n c, .slice none 0 0, .int .i64 (N : Nat)] (by simp [Act.eval, Act.put]) rfl hD.out hU.out (by have := hE.out; omega) (by have := hE.out; omega) (Nat.le_trans hBV.out (by simp)) ?_; intro v' w' q1 q2; have kW := hide (blk_grown rD.out q2.out kD.out (by decide)); obtain ⟨R1, c1, rfl⟩ := own_slice q1.out; have d2 := kW.out.at_ 8 rfl; have e2 := kW.out.frozen 8)
  all_goals
    go_wp2
    go_end0
    have hU2 : B ≤ (V.alloc (.cells #[.slice A n c, .slice none 0 0, .int .i64 (N : Nat)] THR)).drew.heap.size := Nat.le_trans hBV.out (by simp)
    have G2 : w'.grownBy (w'.setCell ⟨g, 8, none⟩ (.slice R1 (es.length + 1) c1)) (some g) := ⟨rfl, rfl, rfl, by simp [World.setCell], fun q _ hq => Below.heap_setCell _ _ _ q (fun e => hq (by rw [e]))⟩
    refine opq_end hR ⟨⟨_, rfl⟩, bD.out.tr ⟨((Below.refl B _).grown q2.out hU2 (fun q e => (own_rowT rD.out q e).1)).setCell (p := ⟨g, 8, none⟩) hg _, fun b t cs n1 n2 hk => ?_⟩, .slice R1 (es.length + 1) c1, ⟨?_, hg, ?_⟩⟩
    · have h1 := blk_grown rD.out q2.out hk n2
      exact h1.far (p := ⟨g, 8, none⟩) (h1.type_ne kW.out n1) _
    · rw [← hN.out]
      exact kW.out.set_ 8 _
    · have h2 := q1.out
      rw [hEq.out] at h2
      rw [List.length_append]
      refine h2.kept G2 (.inr fun e => ?_)
      obtain ⟨_, cs, hk⟩ := own_rowT h2 g e
      exact hk.type_ne kW.out (by decide) rfl
end Go.Proofs.YtkefmeddnncacaaDoor
