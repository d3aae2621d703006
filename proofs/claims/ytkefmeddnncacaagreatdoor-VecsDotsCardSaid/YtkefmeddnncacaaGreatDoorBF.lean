/- The laws' Book where lists of fractions are held too: kept, filled, grown, looked at, apart. -/
import Derived.Test.YtkefmeddnncacaaGreatDoorBK
import Derived.Test.YtkefmeddnncacaaGreatDoorVA
import Derived.Test.YtkefmeddnncacaaGreatDoorFR
/- the laws' Book where lists of fractions are held too: words; one more is kept. -/
set_option linter.unusedVariables false
set_option linter.unusedSimpArgs false
set_option maxRecDepth 100000
namespace Go.Proofs.YtkefmeddnncacaaGreatDoor
open Go.RowKit

abbrev THR : TypeId := 208
abbrev bkF (num : Nat) (v u : Value) : Array Value := #[.int .i64 (num : Nat), .slice none 0 0, v, .slice none 0 0, .slice none 0 0, .slice none 0 0, .slice none 0 0, .slice none 0 0, u, .slice none 0 0, .slice none 0 0, .slice none 0 0, .slice none 0 0]
/-- The Book: its numbers' part, whatever its fractions' part be. -/
structure BookU (u : Value) (B : Nat) (w : World) (g num : Nat) (v : Value) (es : List Ent) : Prop where
  blk : Blk w g TBK (bkF num v u)
  own : B ≤ g
  row : w.ownsRow B TH 3 v es.length (flatE es)
/-- The Book: its fractions' part. -/
structure BookV (v : Value) (B : Nat) (w : World) (g num : Nat) (u : Value) (fs : List Ent) : Prop where
  blk : Blk w g TBK (bkF num v u)
  own : B ≤ g
  row : w.ownsRow B THR 3 u fs.length (flatE fs)
/-- The Book: both. -/
structure BookF (B : Nat) (w : World) (g num : Nat) (v u : Value) (es fs : List Ent) : Prop where
  U : BookU u B w g num v es
  V : BookV v B w g num u fs
/-- All blocks but the Book's own stay, and memory below B. -/
structure KpV (B : Nat) (w w' : World) : Prop where
  base : Below B w w'
  nums : ∀ b t cs, t ≠ TBK → t ≠ THR → Blk w b t cs → Blk w' b t cs
theorem KpV.tr {B : Nat} {a b c : World} (h : KpV B a b) (k : KpV B b c) : KpV B a c := ⟨h.base.trans k.base, fun b t cs n1 n2 x => k.nums b t cs n1 n2 (h.nums b t cs n1 n2 x)⟩
structure KpF (B : Nat) (w w' : World) : Prop where
  base : Below B w w'
  nums : ∀ b t cs, t ≠ TBK → t ≠ TH → t ≠ THR → Blk w b t cs → Blk w' b t cs
theorem KpF.tr {B : Nat} {a b c : World} (h : KpF B a b) (k : KpF B b c) : KpF B a c := ⟨h.base.trans k.base, fun b t cs n1 n2 n3 x => k.nums b t cs n1 n2 n3 (h.nums b t cs n1 n2 n3 x)⟩
theorem Kp.f {B : Nat} {a b : World} (h : Kp B a b) : KpF B a b := ⟨h.base, fun b t cs n1 n2 _ x => h.nums b t cs n1 n2 x⟩
theorem KpV.f {B : Nat} {a b : World} (h : KpV B a b) : KpF B a b := ⟨h.base, fun b t cs n1 _ n2 x => h.nums b t cs n1 n2 x⟩
theorem infoHR : (Tryz.prog.info? THR).map (fun i => (i.zero, i.size, i.bytes)) = some (some (.agg #[.slice none 0 0, .slice none 0 0, .int .i64 0]), 3, 56) := by kernel_rfl
theorem own_keepT {t : TypeId} {w w' : World} {B n : Nat} {v : Value} {xs : List Value} (h : w.ownsRow B t 3 v n xs) (k : ∀ r cs, Blk w r t cs → Blk w' r t cs) : w'.ownsRow B t 3 v n xs := by
  refine ⟨h.1, ?_⟩
  rcases h.2 with e | ⟨r, cap, cur, e, hB, hh, rest⟩
  · exact .inl e
  · exact .inr ⟨r, cap, cur, e, hB, (k r cur ⟨hh⟩).eq, rest⟩
theorem BookU.keep {B : Nat} {w w' : World} {g num : Nat} {v u : Value} {es : List Ent} (h : BookU u B w g num v es) (k : ∀ g t cs, t ≠ T32 → t ≠ TR → Blk w g t cs → Blk w' g t cs) : BookU u B w' g num v es :=
  ⟨k _ _ _ (by decide) (by decide) h.blk, h.own, own_keepT h.row fun r cs hk => k r TH cs (by decide) (by decide) hk⟩
theorem BookV.keep {B : Nat} {w w' : World} {g num : Nat} {v u : Value} {es : List Ent} (h : BookV v B w g num u es) (k : ∀ g t cs, t ≠ T32 → t ≠ TR → Blk w g t cs → Blk w' g t cs) : BookV v B w' g num u es :=
  ⟨k _ _ _ (by decide) (by decide) h.blk, h.own, own_keepT h.row fun r cs hk => k r THR cs (by decide) (by decide) hk⟩
theorem BookF.keep {B : Nat} {w w' : World} {g num : Nat} {v u : Value} {es fs : List Ent} (h : BookF B w g num v u es fs) (k : ∀ g t cs, t ≠ T32 → t ≠ TR → Blk w g t cs → Blk w' g t cs) : BookF B w' g num v u es fs := ⟨h.U.keep k, h.V.keep k⟩
set_option maxHeartbeats 1000000 in
theorem keepInt32_U (w : World) (B g num : Nat) (v u : Value) (es : List Ent) (hB : B ≤ w.heap.size) (hb : BookU u B w g num v es) (A : Option Addr) (n c : Nat) (hn : num ≤ 100000) (hes : es.length ≤ 100000) :
    Calls Tryz.prog 221 #[.pointer (some ⟨g, 0, none⟩), .slice A n c] w fun e w' => (∃ r, e = .returned r) ∧ Kp B w w' ∧ ∃ v', BookU u B w' g (num + 1) v' (es ++ [⟨A, n, c, none, 0, 0, num + 1⟩]) := by
  refine opq fun R hR => ?_
  obtain ⟨k0, hg, hr⟩ := hb
  obtain ⟨R0, cR, rfl⟩ := own_slice hr
  go_enter Tryz.func221, Tryz.ntmps221
  have c0 := k0.at_ 0 rfl
  have f0 := k0.frozen 0
  have c2 := k0.at_ 2 rfl
  have f2 := k0.frozen 2
  obtain ⟨N, hN⟩ : ∃ N, Hid (N = num + 1) := ⟨_, rfl⟩
  have hw : (num : Int) + 1 = (N : Nat) := by rw [hN.out]; rfl
  have k0' := hide k0
  have hr' := hide hr
  clear k0 hr
  go_wp2
  obtain ⟨V, hV⟩ : ∃ V, w.setCell ⟨g, 0, none⟩ (.int .i64 (N : Nat)) = V := ⟨_, rfl⟩
  have bV : Hid (Kp B w V) := by
    rw [← hV]
    exact ⟨(Below.refl B w).setCell (p := ⟨g, 0, none⟩) hg _, fun b t cs n1 n2 hk => hk.far (p := ⟨g, 0, none⟩) (hk.type_ne k0'.out n1) _⟩
  have k1 : Hid (Blk V g TBK (bkF N (.slice R0 es.length cR) u)) := by
    rw [← hV]
    exact k0'.out.set_ 0 _
  have r1 : Hid (V.ownsRow B TH 3 (.slice R0 es.length cR) es.length (flatE es)) := by
    rw [← hV]
    refine hr'.out.kept (row := some g) ⟨rfl, rfl, rfl, by simp [World.setCell], fun q _ hq => Below.heap_setCell _ _ _ q (fun e => hq (by rw [e]))⟩ (.inr fun e => ?_)
    obtain ⟨_, cs, hk⟩ := own_rowT hr'.out g e
    exact hk.type_ne k0'.out (by decide) rfl
  rw [hV]
  clear hV c0 f0 c2 f2 hr' k0' hw
  have c0 := k1.out.at_ 0 rfl
  have c2 := k1.out.at_ 2 rfl
  have hBV := hide (Nat.le_trans hB bV.out.base.size)
  have kD : Hid (Blk ((V.alloc (.cells #[.slice A n c, .slice none 0 0, .int .i64 (N : Nat)] TH)).drew) g TBK (bkF N (.slice R0 es.length cR) u)) := (k1.out.alloc _).drew
  have rD : Hid (((V.alloc (.cells #[.slice A n c, .slice none 0 0, .int .i64 (N : Nat)] TH)).drew).ownsRow B TH 3 (.slice R0 es.length cR) es.length (flatE es)) := World.ownsRow.alloc r1.out _
  have hD : Hid (∀ (j : Nat) u, [Value.slice A n c, .slice none 0 0, .int .i64 (N : Nat)][j]? = some u → ((V.alloc (.cells #[.slice A n c, .slice none 0 0, .int .i64 (N : Nat)] TH)).drew).cell? ((⟨V.heap.size, 0, none⟩ : Addr).add j) = some u) := fun j u hj => by
    rw [add0]
    exact (Blk.new_at V V.heap.size rfl TH #[.slice A n c, .slice none 0 0, .int .i64 (N : Nat)]).drew.at_ j (by simpa using hj)
  have hU : Hid (∀ u ∈ [Value.slice A n c, .slice none 0 0, .int .i64 (N : Nat)], u.oneCell' = true) := fun u hu => by
    simp at hu
    rcases hu with rfl | rfl | rfl <;> rfl
  have hE := hide hes
  have hEq : Hid (flatE es ++ [Value.slice A n c, .slice none 0 0, .int .i64 (N : Nat)] = flatE (es ++ [⟨A, n, c, none, 0, 0, num + 1⟩])) := by
    show _ = _
    rw [flatE_snoc, hN.out]; rfl
  have bD : Hid (Kp B w ((V.alloc (.cells #[.slice A n c, .slice none 0 0, .int .i64 (N : Nat)] TH)).drew)) := bV.out.tr ⟨((Below.refl B V).alloc hBV.out _).drew, fun b t cs n1 n2 hk => (hk.alloc _).drew⟩
  have c0a : (V.alloc (.cells #[.slice A n c, .slice none 0 0, .int .i64 (N : Nat)] TH)).cell? ⟨g, 0, none⟩ = some (.int .i64 (N : Nat)) := (k1.out.alloc _).at_ 0 rfl
  have c2a : (V.alloc (.cells #[.slice A n c, .slice none 0 0, .int .i64 (N : Nat)] TH)).cell? ⟨g, 2, none⟩ = some (.slice R0 es.length cR) := (k1.out.alloc _).at_ 2 rfl
  clear hes bV r1 hB
  go_region_law (refine step_appv (P := Tryz.prog) (t := 39) (e := TH) (by kernel_rfl) infoH rfl (by omega) _ rfl _ _ rfl B es.length (.slice R0 es.length cR) (flatE es) (by simp [Act.eval, Act.put]) rD.out _ 1 1 [.slice A n c, .slice none 0 0, .int .i64 (N : Nat)] (by simp [Act.eval, Act.put]) rfl hD.out hU.out (by have := hE.out; omega) (by have := hE.out; omega) (Nat.le_trans hBV.out (by simp)) ?_; intro v' w' q1 q2; have kW := hide (blk_grown rD.out q2.out kD.out (by decide)); obtain ⟨R1, c1, rfl⟩ := own_slice q1.out; have d2 := kW.out.at_ 2 rfl; have e2 := kW.out.frozen 2)
  all_goals
    go_wp2
    go_end0
    have hU2 : B ≤ (V.alloc (.cells #[.slice A n c, .slice none 0 0, .int .i64 (N : Nat)] TH)).drew.heap.size := Nat.le_trans hBV.out (by simp)
    have G2 : w'.grownBy (w'.setCell ⟨g, 2, none⟩ (.slice R1 (es.length + 1) c1)) (some g) := ⟨rfl, rfl, rfl, by simp [World.setCell], fun q _ hq => Below.heap_setCell _ _ _ q (fun e => hq (by rw [e]))⟩
    refine opq_end hR ⟨⟨_, rfl⟩, bD.out.tr ⟨((Below.refl B _).grown q2.out hU2 (fun q e => (own_rowT rD.out q e).1)).setCell (p := ⟨g, 2, none⟩) hg _, fun b t cs n1 n2 hk => ?_⟩, .slice R1 (es.length + 1) c1, ⟨?_, hg, ?_⟩⟩
    · have h1 := blk_grown rD.out q2.out hk n2
      exact h1.far (p := ⟨g, 2, none⟩) (h1.type_ne kW.out n1) _
    · rw [← hN.out]
      exact kW.out.set_ 2 _
    · have h2 := q1.out
      rw [hEq.out] at h2
      rw [List.length_append]
      refine h2.kept G2 (.inr fun e => ?_)
      obtain ⟨_, cs, hk⟩ := own_rowT h2 g e
      exact hk.type_ne kW.out (by decide) rfl
set_option maxHeartbeats 1000000 in
theorem keepRat_V (w : World) (B g num : Nat) (v u : Value) (es : List Ent) (hB : B ≤ w.heap.size) (hb : BookV u B w g num v es) (A : Option Addr) (n c : Nat) (hn : num ≤ 100000) (hes : es.length ≤ 100000) :
    Calls Tryz.prog 148 #[.pointer (some ⟨g, 0, none⟩), .slice A n c] w fun e w' => (∃ r, e = .returned r) ∧ KpV B w w' ∧ ∃ v', BookV u B w' g (num + 1) v' (es ++ [⟨A, n, c, none, 0, 0, num + 1⟩]) := by
  refine opq fun R hR => ?_
  obtain ⟨k0, hg, hr⟩ := hb
  obtain ⟨R0, cR, rfl⟩ := own_slice hr
  go_enter Tryz.func148, Tryz.ntmps148
  have c0 := k0.at_ 0 rfl
  have f0 := k0.frozen 0
  have c2 := k0.at_ 8 rfl
  have f2 := k0.frozen 8
  obtain ⟨N, hN⟩ : ∃ N, Hid (N = num + 1) := ⟨_, rfl⟩
  have hw : (num : Int) + 1 = (N : Nat) := by rw [hN.out]; rfl
  have k0' := hide k0
  have hr' := hide hr
  clear k0 hr
  go_wp2
  obtain ⟨V, hV⟩ : ∃ V, w.setCell ⟨g, 0, none⟩ (.int .i64 (N : Nat)) = V := ⟨_, rfl⟩
  have bV : Hid (KpV B w V) := by
    rw [← hV]
    exact ⟨(Below.refl B w).setCell (p := ⟨g, 0, none⟩) hg _, fun b t cs n1 n2 hk => hk.far (p := ⟨g, 0, none⟩) (hk.type_ne k0'.out n1) _⟩
  have k1 : Hid (Blk V g TBK (bkF N u (.slice R0 es.length cR))) := by
    rw [← hV]
    exact k0'.out.set_ 0 _
  have r1 : Hid (V.ownsRow B THR 3 (.slice R0 es.length cR) es.length (flatE es)) := by
    rw [← hV]
    refine hr'.out.kept (row := some g) ⟨rfl, rfl, rfl, by simp [World.setCell], fun q _ hq => Below.heap_setCell _ _ _ q (fun e => hq (by rw [e]))⟩ (.inr fun e => ?_)
    obtain ⟨_, cs, hk⟩ := own_rowT hr'.out g e
    exact hk.type_ne k0'.out (by decide) rfl
  rw [hV]
  clear hV c0 f0 c2 f2 hr' k0' hw
  have c0 := k1.out.at_ 0 rfl
  have c2 := k1.out.at_ 8 rfl
  have hBV := hide (Nat.le_trans hB bV.out.base.size)
  have kD : Hid (Blk ((V.alloc (.cells #[.slice A n c, .slice none 0 0, .int .i64 (N : Nat)] THR)).drew) g TBK (bkF N u (.slice R0 es.length cR))) := (k1.out.alloc _).drew
  have rD : Hid (((V.alloc (.cells #[.slice A n c, .slice none 0 0, .int .i64 (N : Nat)] THR)).drew).ownsRow B THR 3 (.slice R0 es.length cR) es.length (flatE es)) := World.ownsRow.alloc r1.out _
  have hD : Hid (∀ (j : Nat) u, [Value.slice A n c, .slice none 0 0, .int .i64 (N : Nat)][j]? = some u → ((V.alloc (.cells #[.slice A n c, .slice none 0 0, .int .i64 (N : Nat)] THR)).drew).cell? ((⟨V.heap.size, 0, none⟩ : Addr).add j) = some u) := fun j u hj => by
    rw [add0]
    exact (Blk.new_at V V.heap.size rfl THR #[.slice A n c, .slice none 0 0, .int .i64 (N : Nat)]).drew.at_ j (by simpa using hj)
  have hU : Hid (∀ u ∈ [Value.slice A n c, .slice none 0 0, .int .i64 (N : Nat)], u.oneCell' = true) := fun u hu => by
    simp at hu
    rcases hu with rfl | rfl | rfl <;> rfl
  have hE := hide hes
  have hEq : Hid (flatE es ++ [Value.slice A n c, .slice none 0 0, .int .i64 (N : Nat)] = flatE (es ++ [⟨A, n, c, none, 0, 0, num + 1⟩])) := by
    show _ = _
    rw [flatE_snoc, hN.out]; rfl
  have bD : Hid (KpV B w ((V.alloc (.cells #[.slice A n c, .slice none 0 0, .int .i64 (N : Nat)] THR)).drew)) := bV.out.tr ⟨((Below.refl B V).alloc hBV.out _).drew, fun b t cs n1 n2 hk => (hk.alloc _).drew⟩
  have c0a : (V.alloc (.cells #[.slice A n c, .slice none 0 0, .int .i64 (N : Nat)] THR)).cell? ⟨g, 0, none⟩ = some (.int .i64 (N : Nat)) := (k1.out.alloc _).at_ 0 rfl
  have c2a : (V.alloc (.cells #[.slice A n c, .slice none 0 0, .int .i64 (N : Nat)] THR)).cell? ⟨g, 8, none⟩ = some (.slice R0 es.length cR) := (k1.out.alloc _).at_ 8 rfl
  clear hes bV r1 hB
  go_region_law (refine step_appv (P := Tryz.prog) (t := 45) (e := THR) (by kernel_rfl) infoHR rfl (by omega) _ rfl _ _ rfl B es.length (.slice R0 es.length cR) (flatE es) (by simp [Act.eval, Act.put]) rD.out _ 1 1 [.slice A n c, .slice none 0 0, .int .i64 (N : Nat)] (by simp [Act.eval, Act.put]) rfl hD.out hU.out (by have := hE.out; omega) (by have := hE.out; omega) (Nat.le_trans hBV.out (by simp)) ?_; intro v' w' q1 q2; have kW := hide (blk_grown rD.out q2.out kD.out (by decide)); obtain ⟨R1, c1, rfl⟩ := own_slice q1.out; have d2 := kW.out.at_ 8 rfl; have e2 := kW.out.frozen 8)
  all_goals
    go_wp2
    go_end0
    have hU2 : B ≤ (V.alloc (.cells #[.slice A n c, .slice none 0 0, .int .i64 (N : Nat)] THR)).drew.heap.size := Nat.le_trans hBV.out (by simp)
    have G2 : w'.grownBy (w'.setCell ⟨g, 8, none⟩ (.slice R1 (es.length + 1) c1)) (some g) := ⟨rfl, rfl, rfl, by simp [World.setCell], fun q _ hq => Below.heap_setCell _ _ _ q (fun e => hq (by rw [e]))⟩
    refine opq_end hR ⟨⟨_, rfl⟩, bD.out.tr ⟨((Below.refl B _).grown q2.out hU2 (fun q e => (own_rowT rD.out q e).1)).setCell (p := ⟨g, 8, none⟩) hg _, fun b t cs n1 n2 hk => ?_⟩, .slice R1 (es.length + 1) c1, ⟨?_, hg, ?_⟩⟩
    · have h1 := blk_grown rD.out q2.out hk n2
      exact h1.far (p := ⟨g, 8, none⟩) (h1.type_ne kW.out n1) _
    · rw [← hN.out]
      exact kW.out.set_ 8 _
    · have h2 := q1.out
      rw [hEq.out] at h2
      rw [List.length_append]
      refine h2.kept G2 (.inr fun e => ?_)
      obtain ⟨_, cs, hk⟩ := own_rowT h2 g e
      exact hk.type_ne kW.out (by decide) rfl
end Go.Proofs.YtkefmeddnncacaaGreatDoor

/- the laws' Book: lists of fractions in memory of their own, apart from each other; their marks. -/
set_option linter.unusedVariables false
set_option linter.unusedSimpArgs false
set_option maxRecDepth 100000
namespace Go.Proofs.YtkefmeddnncacaaGreatDoor
open Go.RowKit

section
/-- A list of n fractions with room for c, in memory of its own from B on. -/
structure RRow (B : Nat) (w : World) (A : Option Addr) (n c : Nat) (xs : List Value) : Prop where
  len : xs.length = n * 3
  le : n ≤ c
  own : c = 0 ∨ ∃ g cs, A = some ⟨g, 0, none⟩ ∧ B ≤ g ∧ Blk w g TR cs ∧ c * 3 ≤ cs.size ∧ cs.toList.take (n * 3) = xs
variable {B : Nat} {w w' : World} {A : Option Addr} {n c : Nat} {xs : List Value}
theorem RRow.blk (h : RRow B w A n c xs) {g : Nat} (hg : blkOf A c = some g) : ∃ cs, A = some ⟨g, 0, none⟩ ∧ B ≤ g ∧ Blk w g TR cs ∧ c * 3 ≤ cs.size ∧ cs.toList.take (n * 3) = xs := by
  have h0 := blkOf_pos hg
  rcases h.own with e | ⟨g', cs, rfl, hB, hk, hc, ht⟩
  · omega
  · rw [blkOf_some h0] at hg
    cases hg
    exact ⟨cs, rfl, hB, hk, hc, ht⟩
theorem RRow.keep (h : RRow B w A n c xs) (k : ∀ g cs, blkOf A c = some g → Blk w g TR cs → Blk w' g TR cs) : RRow B w' A n c xs := by
  refine ⟨h.len, h.le, ?_⟩
  rcases Nat.eq_zero_or_pos c with h0 | h0
  · exact .inl h0
  · rcases h.own with e | ⟨g', cs, rfl, hB, hk, hc, ht⟩
    · omega
    · exact .inr ⟨g', cs, rfl, hB, k _ _ (blkOf_some h0) hk, hc, ht⟩
theorem RRow.at_ (h : RRow B w A n c xs) {i : Nat} (hi : i < n * 3) : ∃ g, A = some ⟨g, 0, none⟩ ∧ blkOf A c = some g ∧ B ≤ g ∧ g < w.heap.size ∧ w.cell? ⟨g, i, none⟩ = xs[i]? ∧ w.frozen? ⟨g, i, none⟩ = false := by
  have := h.le
  rcases h.own with e | ⟨g', cs, rfl, hB, hk, hc, ht⟩
  · omega
  · refine ⟨g', rfl, blkOf_some (by omega), hB, hk.lt, ?_, hk.frozen i⟩
    rw [hk.cell, ← ht, List.getElem?_take, if_pos hi, Array.getElem?_toList]
theorem RRow.set_ (h : RRow B w A n c xs) {i g : Nat} (hi : i < n * 3) (hg : blkOf A c = some g) (u : Value) : RRow B (w.setCell ⟨g, i, none⟩ u) A n c (xs.set i u) := by
  obtain ⟨cs, rfl, hB, hk, hc, ht⟩ := h.blk hg
  refine ⟨by rw [List.length_set]; exact h.len, h.le, .inr ⟨g, _, rfl, hB, hk.set_ i u, by simpa using hc, ?_⟩⟩
  rw [← ht, Array.toList_setIfInBounds, List.take_set]
/-- append of one fraction. -/
theorem app1R {P : Program} {t : TypeId} (ht : P.underlying t = some (.slice TR)) (he : (P.info? TR).map (fun i => (i.zero, i.size, i.bytes)) = some (some (.agg #[.bool false, .slice none 0 0, .slice none 0 0]), 3, 56)) (ty : TypeId)
    (h : RRow B w A n c xs) (hB : B ≤ w.heap.size) (hn : n ≤ 1000000) (x0 x1 x2 : Value) (h1 : ∀ u ∈ [x0, x1, x2], u.oneCell' = true) (ad : Addr) (cc : Nat) (hnews : ∀ (j : Nat) u, [x0, x1, x2][j]? = some u → w.cell? (ad.add j) = some u) :
    ∃ A' c' w', (Builtin.append_ #[t, t] ty #[.slice A n c, .slice (some ad) 1 cc]).run P w = .ok (.slice A' (n + 1) c') w' ∧ RRow B w' A' (n + 1) c' (xs ++ [x0, x1, x2]) ∧ w.grownBy w' (blkOf A c) ∧ (∀ m c2 ys, m ≤ n → RRow B w A m c2 ys → RRow B w' A m c2 ys) ∧ ((A' = A ∧ c' = c) ∨ A' = some ⟨w.heap.size, 0, none⟩ ∧ Below w.heap.size w w') := by
  obtain ⟨i0, hi, hz0, hz1, hz2⟩ := info_parts he
  by_cases hlt : n < c
  · rcases h.own with e | ⟨g, cs, rfl, hg, hk, hc, htk⟩
    · omega
    · have hr := run_append_room (P := P) w t ty TR i0 ht hi g n c cs hk.eq ad 1 cc [x0, x1, x2] (by rw [hz1]; rfl) hnews h1 hlt (by rw [hz1]; simp; omega)
      rw [hz1] at hr
      have hk' := setRow_heap w g cs ((cs.toList.take (n * 3) ++ [x0, x1, x2] ++ cs.toList.drop (n * 3 + [x0, x1, x2].length)).toArray) TR _ hk.eq
      have hL : ∀ (m c2 : Nat) (ys : List Value), m ≤ n → RRow B w (some ⟨g, 0, none⟩) m c2 ys → RRow B (w.setRow g (cs.toList.take (n * 3) ++ [x0, x1, x2] ++ cs.toList.drop (n * 3 + [x0, x1, x2].length)).toArray) (some ⟨g, 0, none⟩) m c2 ys := by
        intro m c2 ys hm l
        refine ⟨l.len, l.le, ?_⟩
        rcases l.own with e | ⟨g', cs', e, hg', hk2, hc', ht'⟩
        · exact .inl e
        · cases e
          have ecs : cs' = cs := by
            have := hk2.eq.symm.trans hk.eq
            simpa using this
          subst ecs
          refine .inr ⟨g, _, rfl, hg, ⟨hk'⟩, ?_, ?_⟩
          · simp only [List.size_toArray, List.length_append, List.length_take, List.length_drop, Array.length_toList, List.length_cons, List.length_nil]
            omega
          · rw [← ht']
            simp only [List.append_assoc]
            rw [List.take_append_of_le_length (by simp; omega), List.take_take, Nat.min_eq_left (by omega)]
      refine ⟨_, c, _, hr, ⟨by simp [h.len]; omega, hlt, .inr ⟨g, _, rfl, hg, ⟨hk'⟩, ?_, ?_⟩⟩, ⟨rfl, rfl, rfl, by simp, fun k _ hk => setRow_other w g k _ (fun e => hk (by rw [blkOf_some (by omega), e]))⟩, hL, .inl ⟨rfl, rfl⟩⟩
      · simp only [List.size_toArray, List.length_append, List.length_take, List.length_drop, Array.length_toList, List.length_cons, List.length_nil]
        omega
      · have hl : (cs.toList.take (n * 3) ++ [x0, x1, x2]).length = (n + 1) * 3 := by simp; omega
        rw [show (cs.toList.take (n * 3) ++ [x0, x1, x2] ++ cs.toList.drop (n * 3 + [x0, x1, x2].length)).toArray.toList = cs.toList.take (n * 3) ++ [x0, x1, x2] ++ cs.toList.drop (n * 3 + [x0, x1, x2].length) from rfl, List.take_append_of_le_length (by omega), List.take_of_length_le (by omega), htk]
  · have hnc : n = c := by have := h.le; omega
    have grown : ∀ w'', w'' = w.drew.alloc (.cells (xs.toArray ++ [x0, x1, x2].toArray ++ Builtin.zeroCells (Value.agg #[.bool false, .slice none 0 0, .slice none 0 0]).cells (grownCap w (n + 1) c TR - (n + 1))) TR) →
        RRow B w'' (some ⟨w.heap.size, 0, none⟩) (n + 1) (grownCap w (n + 1) c TR) (xs ++ [x0, x1, x2]) ∧ w.grownBy w'' (blkOf A c) ∧ (∀ m c2 ys, m ≤ n → RRow B w A m c2 ys → RRow B w'' A m c2 ys) ∧ Below w.heap.size w w'' := by
      rintro _ rfl
      have hge := grownCap_ge w (n + 1) c TR
      have hb : Below w.heap.size w (w.drew.alloc (.cells (xs.toArray ++ [x0, x1, x2].toArray ++ Builtin.zeroCells (Value.agg #[.bool false, .slice none 0 0, .slice none 0 0]).cells (grownCap w (n + 1) c TR - (n + 1))) TR)) := (Below.refl _ w).drew.alloc (Nat.le_refl _) _
      refine ⟨⟨by simp [h.len]; omega, hge, .inr ⟨w.heap.size, _, rfl, hB, ⟨heap_alloc_new w.drew _⟩, ?_, ?_⟩⟩, ⟨rfl, rfl, rfl, by simp, fun k hk _ => hb.block k hk⟩, fun m c2 ys _ l => l.keep fun g cs _ hk => hk.below' hb, hb⟩
      · simp only [Array.size_append, List.size_toArray, size_zeroCells, h.len, List.length_cons, List.length_nil, show (Value.agg #[.bool false, .slice none 0 0, .slice none 0 0]).cells.size = 3 from rfl]
        omega
      · simp only [Array.toList_append, List.append_assoc]
        rw [← List.append_assoc, List.take_append_of_le_length (by simp [h.len]; omega), List.take_of_length_le (by simp [h.len]; omega)]
    rcases A with _ | b
    · have h0 : c = 0 := by
        rcases h.own with e | ⟨g, cs, e, _⟩
        · exact e
        · cases e
      subst h0
      subst hnc
      have hx0 : xs = [] := List.eq_nil_of_length_eq_zero h.len
      subst hx0
      have hr := run_append_nil (P := P) w t ty TR i0 (.agg #[.bool false, .slice none 0 0, .slice none 0 0]) ht hi hz0 ad 1 cc [x0, x1, x2] (by rw [hz1]; rfl) hnews (by omega) (by omega) (by rw [hz2]; omega)
      obtain ⟨g1, g2, g3, g4⟩ := grown _ rfl
      simp only [Nat.zero_add, List.nil_append, Array.empty_append] at g1 g2 g3 g4 ⊢
      exact ⟨_, _, _, hr, g1, g2, g3, .inr ⟨rfl, g4⟩⟩
    · have holds : ∀ (j : Nat) u, xs[j]? = some u → w.cell? (b.add j) = some u := fun j u hj => by
        have hj2 : j < n * 3 := by rw [← h.len]; exact (List.getElem?_eq_some_iff.1 hj).1
        obtain ⟨g, e, _, _, _, hc, _⟩ := h.at_ hj2
        cases e
        rw [add0, hc, hj]
      have hr := run_append_grow (P := P) w t ty TR i0 (.agg #[.bool false, .slice none 0 0, .slice none 0 0]) ht hi hz0 b n c xs (by rw [hz1, h.len]) holds ad 1 cc [x0, x1, x2] (by rw [hz1]; rfl) hnews (by omega) (by omega) (by rw [hz2]; exact growslice_fits (by omega) (by omega))
      obtain ⟨g1, g2, g3, g4⟩ := grown _ rfl
      exact ⟨_, _, _, hr, g1, g2, g3, .inr ⟨rfl, g4⟩⟩
end
section
/-- What is held: each list's cells, in blocks apart from the others'. -/
structure HeldR (B : Nat) (w : World) (es : List Ent) (X Y : Nat → List Value) : Prop where
  a : ∀ (i : Nat) (e : Ent), es[i]? = some e → RRow B w e.A e.n e.c (X i)
  l : ∀ (i : Nat) (e : Ent), es[i]? = some e → RRow B w e.L e.m e.d (Y i)
  apart : ∀ (i j : Nat) (e e' : Ent), i ≠ j → es[i]? = some e → es[j]? = some e' → ∀ g, e.has g → ¬ e'.has g
  two : ∀ (i : Nat) (e : Ent), es[i]? = some e → (e.L = e.A ∧ e.n ≤ e.m) ∨ ∀ g, blkOf e.L e.d = some g → blkOf e.A e.c ≠ some g
variable {B : Nat} {w w' : World} {es : List Ent} {X Y : Nat → List Value}
theorem HeldR.keep (h : HeldR B w es X Y) (k : ∀ g cs, B ≤ g → Blk w g TR cs → Blk w' g TR cs) : HeldR B w' es X Y := by
  refine ⟨fun i e he => (h.a i e he).keep fun g cs hg hk => ?_, fun i e he => (h.l i e he).keep fun g cs hg hk => ?_, h.apart, h.two⟩
  · obtain ⟨_, _, hB, _⟩ := (h.a i e he).blk hg
    exact k g cs hB hk
  · obtain ⟨_, _, hB, _⟩ := (h.l i e he).blk hg
    exact k g cs hB hk
theorem HeldR.lt (h : HeldR B w es X Y) {i : Nat} {e : Ent} (he : es[i]? = some e) {g : Nat} (hg : e.has g) : g < w.heap.size := by
  rcases hg with hg | hg
  · obtain ⟨_, _, _, hk, _⟩ := (h.a i e he).blk hg
    exact hk.lt
  · obtain ⟨_, _, _, hk, _⟩ := (h.l i e he).blk hg
    exact hk.lt
theorem HeldR.set_ (h : HeldR B w es X Y) (hd : ∀ (i : Nat) (e : Ent), es[i]? = some e → e.d = 0) {i j g : Nat} {e : Ent} (he : es[i]? = some e) (hj : j < e.n * 3) (hg : blkOf e.A e.c = some g) (u : Value) :
    HeldR B (w.setCell ⟨g, j, none⟩ u) es (upd X i ((X i).set j u)) Y := by
  refine ⟨fun i' e' he' => ?_, fun i' e' he' => (h.l i' e' he').keep fun g' cs hg' hk => ?_, h.apart, h.two⟩
  · by_cases hi : i' = i
    · subst hi
      rw [he] at he'
      cases he'
      rw [upd_same]
      exact (h.a _ _ he).set_ hj hg u
    · rw [upd_ne _ _ hi]
      exact (h.a _ _ he').keep fun g' cs hg' hk => hk.far (p := ⟨g, j, none⟩) (fun e0 => h.apart _ _ _ _ hi he' he g' (.inl hg') (.inl (by rw [e0]; exact hg))) u
  · rw [hd _ _ he'] at hg'
    simp [blkOf] at hg'
theorem HeldR.start (h : HeldR B w es X Y) {i : Nat} {e : Ent} (he : es[i]? = some e) : HeldR B w (es.set i ⟨e.A, e.n, e.c, e.A, e.n, e.c, e.k⟩) X (upd Y i (X i)) := by
  refine ⟨fun i' e' he' => ?_, fun i' e' he' => ?_, fun i' j' e1 e2 hne h1 h2 g hg1 hg2 => ?_, fun i' e' he' => ?_⟩
  · rcases get_set_cases he' with ⟨rfl, rfl⟩ | ⟨hi, h1⟩
    · exact h.a _ e he
    · exact h.a _ _ h1
  · rcases get_set_cases he' with ⟨rfl, rfl⟩ | ⟨hi, h1⟩
    · rw [upd_same]
      exact h.a _ _ he
    · rw [upd_ne _ _ hi]
      exact h.l _ _ h1
  · rcases get_set_cases h1 with ⟨rfl, rfl⟩ | ⟨hi, k1⟩ <;> rcases get_set_cases h2 with ⟨rfl, rfl⟩ | ⟨hi2, k2⟩
    · exact hne rfl
    · exact h.apart _ _ _ _ hne he k2 g (by rcases hg1 with x | x <;> exact .inl x) hg2
    · exact h.apart _ _ _ _ hne k1 he g hg1 (by rcases hg2 with x | x <;> exact .inl x)
    · exact h.apart _ _ _ _ hne k1 k2 g hg1 hg2
  · rcases get_set_cases he' with ⟨rfl, rfl⟩ | ⟨hi, h1⟩
    · exact .inl ⟨rfl, Nat.le_refl _⟩
    · exact h.two _ _ h1
theorem HeldR.push (h : HeldR B w es X Y) {i : Nat} {e : Ent} (he : es[i]? = some e) {A' : Option Addr} {c' : Nat} {x : List Value}
    (hrow : RRow B w' A' (e.m + 1) c' (Y i ++ x)) (hg : w.grownBy w' (blkOf e.L e.d)) (hk : ∀ m c2 ys, m ≤ e.m → RRow B w e.L m c2 ys → RRow B w' e.L m c2 ys) (hor : (A' = e.L ∧ c' = e.d) ∨ A' = some ⟨w.heap.size, 0, none⟩ ∧ Below w.heap.size w w') :
    HeldR B w' (es.set i ⟨e.A, e.n, e.c, A', e.m + 1, c', e.k⟩) X (upd Y i (Y i ++ x)) := by
  have hkp : ∀ g cs, g < w.heap.size → blkOf e.L e.d ≠ some g → Blk w g TR cs → Blk w' g TR cs := fun g cs hlt hne hb => hb.keep (hg.block g hlt (fun e0 => hne e0.symm))
  have hnew : ∀ g, blkOf A' c' = some g → blkOf e.L e.d = some g ∨ g = w.heap.size := fun g hg0 => by
    rcases hor with ⟨rfl, rfl⟩ | ⟨rfl, _⟩
    · exact .inl hg0
    · rw [blkOf_some (blkOf_pos hg0)] at hg0
      cases hg0
      exact .inr rfl
  have hoth : ∀ (i' : Nat) (e' : Ent), i' ≠ i → es[i']? = some e' → ∀ g cs, e'.has g → Blk w g TR cs → Blk w' g TR cs := fun i' e' hi h1 g cs hg0 hb =>
    hkp g cs hb.lt (fun e0 => h.apart _ _ _ _ hi h1 he g hg0 (.inr e0)) hb
  refine ⟨fun i' e' he' => ?_, fun i' e' he' => ?_, fun i' j' e1 e2 hne h1 h2 g hg1 hg2 => ?_, fun i' e' he' => ?_⟩
  · rcases get_set_cases he' with ⟨rfl, rfl⟩ | ⟨hi, h1⟩
    · rcases h.two _ _ he with ⟨e0, hn⟩ | hne
      · have := hk e.n e.c (X i') hn (by rw [e0]; exact h.a _ _ he)
        rw [e0] at this
        exact this
      · exact (h.a _ _ he).keep fun g cs hg0 hb => hkp g cs hb.lt (fun e0 => hne g e0 hg0) hb
    · exact (h.a _ _ h1).keep fun g cs hg0 hb => hoth _ _ hi h1 g cs (.inl hg0) hb
  · rcases get_set_cases he' with ⟨rfl, rfl⟩ | ⟨hi, h1⟩
    · rw [upd_same]
      exact hrow
    · rw [upd_ne _ _ hi]
      exact (h.l _ _ h1).keep fun g cs hg0 hb => hoth _ _ hi h1 g cs (.inr hg0) hb
  · have key : ∀ g, Ent.has ⟨e.A, e.n, e.c, A', e.m + 1, c', e.k⟩ g → e.has g ∨ g = w.heap.size := fun g hg0 => by
      rcases hg0 with x | x
      · exact .inl (.inl x)
      · rcases hnew g x with y | y
        · exact .inl (.inr y)
        · exact .inr y
    rcases get_set_cases h1 with ⟨rfl, rfl⟩ | ⟨hi, k1⟩ <;> rcases get_set_cases h2 with ⟨rfl, rfl⟩ | ⟨hi2, k2⟩
    · exact hne rfl
    · rcases key g hg1 with y | y
      · exact h.apart _ _ _ _ hne he k2 g y hg2
      · have := h.lt k2 hg2; omega
    · rcases key g hg2 with y | y
      · exact h.apart _ _ _ _ hne k1 he g hg1 y
      · have := h.lt k1 hg1; omega
    · exact h.apart _ _ _ _ hne k1 k2 g hg1 hg2
  · rcases get_set_cases he' with ⟨rfl, rfl⟩ | ⟨hi, h1⟩
    · rcases hor with ⟨rfl, rfl⟩ | ⟨rfl, _⟩
      · rcases h.two _ _ he with ⟨e0, hn⟩ | hne
        · exact .inl ⟨e0, Nat.le_succ_of_le hn⟩
        · exact .inr hne
      · refine .inr fun g hg0 hg1 => ?_
        rcases hnew g hg0 with y | y
        · rw [blkOf_some (blkOf_pos hg0)] at hg0
          cases hg0
          have := h.lt he (.inl hg1); omega
        · have := h.lt he (.inl hg1); omega
    · exact h.two _ _ h1
end
section
variable {B : Nat} {w w' : World} {A : Option Addr} {n c : Nat} {xs : List Value}
theorem RRow.other (h : RRow B w A n c xs) (hg : w.grownBy w' (blkOf A c)) {g : Nat} {t : TypeId} {cs : Array Value} (ht : t ≠ TR) (hk : Blk w g t cs) : Blk w' g t cs :=
  hk.keep (hg.block g hk.lt (fun e => by
    obtain ⟨cs', _, _, k2, _⟩ := h.blk e.symm
    exact hk.type_ne k2 ht rfl))
theorem RRow.base (h : RRow B w A n c xs) (hg : w.grownBy w' (blkOf A c)) (hB : B ≤ w.heap.size) : Below B w w' := (Below.refl B w).grown hg hB (fun q e => by
    obtain ⟨cs', _, h1, _⟩ := h.blk e
    exact h1)
theorem wpList_app1R {P : Program} {t : TypeId} (ht : P.underlying t = some (.slice TR)) (he : (P.info? TR).map (fun i => (i.zero, i.size, i.bytes)) = some (some (.agg #[.bool false, .slice none 0 0, .slice none 0 0]), 3, 56))
    {ops : Array Oper} {rest : List Oper} {o : Oper} {a : Act} {Q : Exit → Act → World → Prop} (hgd : o.guard = none) (s x : Operand)
    (ho : o.op = .call { callee := .builtin .append, args := #[s, x], argTypes := #[t, t] })
    (h : RRow B w A n c xs) (hs : a.eval s = .slice A n c) (hB : B ≤ w.heap.size) (hn : n ≤ 1000000) (u0 u1 u2 : Value) (hu : ∀ u ∈ [u0, u1, u2], u.oneCell' = true) (ad : Addr) (cc : Nat) (hx : a.eval x = .slice (some ad) 1 cc) (hcell : ∀ (j : Nat) u, [u0, u1, u2][j]? = some u → w.cell? (ad.add j) = some u)
    (hh : ∀ A' c' w', Hid (RRow B w' A' (n + 1) c' (xs ++ [u0, u1, u2])) → Hid (w.grownBy w' (blkOf A c)) → Hid (∀ m c2 ys, m ≤ n → RRow B w A m c2 ys → RRow B w' A m c2 ys) → Hid ((A' = A ∧ c' = c) ∨ A' = some ⟨w.heap.size, 0, none⟩ ∧ Below w.heap.size w w') → wpList P ops Q rest (a.put o.dst (.slice A' (n + 1) c')) w') : wpList P ops Q (o :: rest) a w := by
  refine wpList_plain hgd fun K hK => ?_
  obtain ⟨A', c', w', hrun, h2, h3, h4, h5⟩ := app1R (P := P) ht he o.type h hB hn u0 u1 u2 hu ad cc hcell
  unfold Oper.wp execOp
  simp only [ho, resolve, invoke, builtin, Sem.run_bind, Sem.run_pure, Result.andThen_ok, List.map_toArray, List.map_cons, List.map_nil, hs, hx, hrun]
  exact hK _ _ (hh A' c' w' h2 h3 h4 h5)
end
theorem RRow.take {B : Nat} {w : World} {A : Option Addr} {n c m : Nat} {xs : List Value} (h : RRow B w A n c xs) (hm : m ≤ n) : RRow B w A m c (xs.take (m * 3)) := by
  refine ⟨by rw [List.length_take, h.len]; omega, Nat.le_trans hm h.le, ?_⟩
  rcases h.own with e | ⟨g, cs, e, hB, hk, hc, ht⟩
  · exact .inl e
  · exact .inr ⟨g, cs, e, hB, hk, hc, by rw [← ht, List.take_take, Nat.min_eq_left (by omega)]⟩
theorem blk_news {w : World} {g : Nat} {x0 x1 x2 : Value} (h : Blk w g TR #[x0, x1, x2]) : ∀ (j : Nat) u, [x0, x1, x2][j]? = some u → w.cell? ((⟨g, 0, none⟩ : Addr).add j) = some u := fun j u hj => by
  rw [add0, h.cell]
  simpa using hj
theorem one3 (b : Bool) (A D : Option Addr) (n c m k : Nat) : ∀ u ∈ [Value.bool b, .slice A n c, .slice D m k], u.oneCell' = true := fun u hu => by
  simp at hu
  rcases hu with rfl | rfl | rfl <;> rfl
/-- m fractions that are marks of number k, newer than lo. -/
def Mks (w : World) (lo k m : Nat) (xs : List Value) : Prop :=
  ∀ j, j < m → xs[j * 3]? = some (.bool false) ∧ xs[j * 3 + 1]? = some (.slice none 0 0) ∧ ∃ q d cs, xs[j * 3 + 2]? = some (.slice (some ⟨q, 0, none⟩) 1 d) ∧ lo ≤ q ∧ Blk w q T32 cs ∧ cs[0]? = some (mk32 k)
theorem Mks.keep {w w' : World} {lo k m : Nat} {xs : List Value} (h : Mks w lo k m xs) (hk : ∀ q cs, lo ≤ q → Blk w q T32 cs → Blk w' q T32 cs) : Mks w' lo k m xs := fun j hj => by
  obtain ⟨h0, h1, q, d, cs, h2, h3, h4, h5⟩ := h j hj
  exact ⟨h0, h1, q, d, cs, h2, h3, hk q cs h3 h4, h5⟩
theorem Mks.low {w : World} {lo lo' k m : Nat} {xs : List Value} (h : Mks w lo k m xs) (hl : lo' ≤ lo) : Mks w lo' k m xs := fun j hj => by
  obtain ⟨h0, h1, q, d, cs, h2, h3, h4, h5⟩ := h j hj
  exact ⟨h0, h1, q, d, cs, h2, Nat.le_trans hl h3, h4, h5⟩
theorem Mks.snoc {w : World} {lo k m q d : Nat} {cs : Array Value} {xs : List Value} (h : Mks w lo k m xs) (hl : xs.length = m * 3) (hq : lo ≤ q) (hb : Blk w q T32 cs) (hc : cs[0]? = some (mk32 k)) : Mks w lo k (m + 1) (xs ++ [.bool false, .slice none 0 0, .slice (some ⟨q, 0, none⟩) 1 d]) := fun j hj => by
  by_cases h0 : j < m
  · obtain ⟨h0, h1, q, d, cs, h2, h3, h4, h5⟩ := h j h0
    refine ⟨?_, ?_, q, d, cs, ?_, h3, h4, h5⟩
    all_goals rw [List.getElem?_append_left (by omega)]; assumption
  · obtain rfl : j = m := by omega
    refine ⟨?_, ?_, q, d, cs, ?_, hq, hb, hc⟩
    · rw [List.getElem?_append_right (by omega), show j * 3 - xs.length = 0 by omega]; rfl
    · rw [List.getElem?_append_right (by omega), show j * 3 + 1 - xs.length = 1 by omega]; rfl
    · rw [List.getElem?_append_right (by omega), show j * 3 + 2 - xs.length = 2 by omega]; rfl
/-- One more mark, where its cells are overwritten. -/
theorem Mks.put {w : World} {lo k j q d : Nat} {cs : Array Value} {xs : List Value} (h : Mks w lo k j xs) (hl : (j + 1) * 3 ≤ xs.length) (hq : lo ≤ q) (hb : Blk w q T32 cs) (hc : cs[0]? = some (mk32 k)) :
    Mks w lo k (j + 1) (((xs.set (j * 3) (.bool false)).set (j * 3 + 1) (.slice none 0 0)).set (j * 3 + 2) (.slice (some ⟨q, 0, none⟩) 1 d)) := fun i hi => by
  by_cases h0 : i < j
  · obtain ⟨h0, h1, q, d, cs, h2, h3, h4, h5⟩ := h i h0
    refine ⟨?_, ?_, q, d, cs, ?_, h3, h4, h5⟩
    all_goals
      rw [List.getElem?_set_ne (by omega), List.getElem?_set_ne (by omega), List.getElem?_set_ne (by omega)]
      assumption
  · obtain rfl : i = j := by omega
    refine ⟨?_, ?_, q, d, cs, ?_, hq, hb, hc⟩
    · rw [List.getElem?_set_ne (by omega), List.getElem?_set_ne (by omega), List.getElem?_set_self (by omega)]
    · rw [List.getElem?_set_ne (by omega), List.getElem?_set_self (by rw [List.length_set]; omega)]
    · rw [List.getElem?_set_self (by rw [List.length_set, List.length_set]; omega)]
end Go.Proofs.YtkefmeddnncacaaGreatDoor

/- the laws' Book where lists of fractions are held too: each list of parts is filled, grown, looked at. -/
set_option linter.unusedVariables false
set_option linter.unusedSimpArgs false
set_option maxRecDepth 100000
namespace Go.Proofs.YtkefmeddnncacaaGreatDoor
open Go.RowKit

/-- Memory below B stays, and all blocks of another type than T. -/
structure BelT (T : TypeId) (B : Nat) (w w' : World) : Prop where
  base : Below B w w'
  keep : ∀ b t cs, t ≠ T → Blk w b t cs → Blk w' b t cs
theorem BelT.refl (T : TypeId) (B : Nat) (w : World) : BelT T B w w := ⟨Below.refl _ _, fun _ _ _ _ h => h⟩
theorem BelT.size {T : TypeId} {B : Nat} {w w' : World} (h : BelT T B w w') : w.heap.size ≤ w'.heap.size := h.base.size
theorem BelT.alloc {T : TypeId} {B : Nat} {w w' : World} (h : BelT T B w w') (hB : B ≤ w'.heap.size) (o : Obj) : BelT T B w (w'.alloc o) := ⟨h.base.alloc hB o, fun b t cs ht hk => (h.keep b t cs ht hk).alloc o⟩
theorem BelT.drew {T : TypeId} {B : Nat} {w w' : World} (h : BelT T B w w') : BelT T B w w'.drew := ⟨h.base.drew, fun b t cs ht hk => (h.keep b t cs ht hk).drew⟩
theorem BelT.setCell {T : TypeId} {B g j : Nat} {w w' : World} {cs : Array Value} (h : BelT T B w w') (hk : Blk w' g T cs) (hg : B ≤ g) (u : Value) : BelT T B w (w'.setCell ⟨g, j, none⟩ u) :=
  ⟨h.base.setCell (p := ⟨g, j, none⟩) hg u, fun b t cs' ht hk' => (h.keep b t cs' ht hk').far (p := ⟨g, j, none⟩) ((h.keep b t cs' ht hk').type_ne hk ht) u⟩
/-- .. all blocks but of type TH, those of parts from lo on. -/
structure BelG (lo B : Nat) (w w' : World) : Prop where
  base : Below B w w'
  keep : ∀ b t cs, t ≠ TH → (t = T32 → lo ≤ b) → Blk w b t cs → Blk w' b t cs
theorem BelG.refl (lo B : Nat) (w : World) : BelG lo B w w := ⟨Below.refl _ _, fun _ _ _ _ _ h => h⟩
theorem BelG.size {lo B : Nat} {w w' : World} (h : BelG lo B w w') : w.heap.size ≤ w'.heap.size := h.base.size
theorem BelG.alloc {lo B : Nat} {w w' : World} (h : BelG lo B w w') (hB : B ≤ w'.heap.size) (o : Obj) : BelG lo B w (w'.alloc o) := ⟨h.base.alloc hB o, fun b t cs ht hl hk => (h.keep b t cs ht hl hk).alloc o⟩
theorem BelG.setCell {lo B g j : Nat} {w w' : World} {cs : Array Value} (h : BelG lo B w w') (hk : Blk w' g TH cs) (hg : B ≤ g) (u : Value) : BelG lo B w (w'.setCell ⟨g, j, none⟩ u) :=
  ⟨h.base.setCell (p := ⟨g, j, none⟩) hg u, fun b t cs' ht hl hk' => (h.keep b t cs' ht hl hk').far (p := ⟨g, j, none⟩) ((h.keep b t cs' ht hl hk').type_ne hk ht) u⟩
/-- A list that grows is older than lo, or new. -/
def Old (lo top : Nat) (es : List Ent) : Prop := ∀ (i : Nat) (e : Ent) g, es[i]? = some e → e.has g → g < lo ∨ top ≤ g
theorem BelG.push {lo B : Nat} {w w1 w2 : World} {A : Option Addr} {n c : Nat} {xs : List Value} (h : BelG lo B w w1) (hl : LRow B w1 A n c xs) (hg : w1.grownBy w2 (blkOf A c)) (hB : B ≤ w1.heap.size) (ho : ∀ g, blkOf A c = some g → g < lo ∨ w.heap.size ≤ g) : BelG lo B w w2 := by
  refine ⟨h.base.trans (hl.base hg hB), fun b t cs ht hlo hk => ?_⟩
  have h1 := h.keep b t cs ht hlo hk
  by_cases h32 : t = T32
  · refine h1.keep (hg.block b h1.lt fun e => ?_)
    have := ho b e.symm
    have := hlo h32
    have := hk.lt
    omega
  · exact hl.other hg h32 h1
theorem Old.set_ {lo top i : Nat} {es : List Ent} {e1 : Ent} (h : Old lo top es) (he : ∀ g, e1.has g → g < lo ∨ top ≤ g) : Old lo top (es.set i e1) := by
  intro j e' g hj hg
  rcases get_set_cases hj with ⟨rfl, rfl⟩ | ⟨_, h1⟩
  · exact he g hg
  · exact h _ _ _ h1 hg
theorem BookU.len {B : Nat} {w : World} {g num : Nat} {v u : Value} {es : List Ent} (h : BookU u B w g num v es) : ∃ R c, v = .slice R es.length c := own_slice h.row
/-- The cells of an entry. -/
theorem BookU.ent {B : Nat} {w : World} {g num : Nat} {v u : Value} {es : List Ent} (h : BookU u B w g num v es) {i : Nat} {e : Ent} (he : es[i]? = some e) :
    ∃ r c cur, v = .slice (some ⟨r, 0, none⟩) es.length c ∧ B ≤ r ∧ Blk w r TH cur ∧ i < es.length ∧ w.cell? ⟨r, i * 3, none⟩ = some (.slice e.A e.n e.c) ∧ w.cell? ⟨r, i * 3 + 1, none⟩ = some (.slice e.L e.m e.d) ∧ w.cell? ⟨r, i * 3 + 2, none⟩ = some (.int .i64 (e.k : Nat)) := by
  have hi : i < es.length := (List.getElem?_eq_some_iff.1 he).1
  obtain ⟨r, c, cur, rfl, hB, hn, hm, hk, hs, ht⟩ := own_some h.row (by omega)
  refine ⟨r, c, cur, rfl, hB, hk, hi, ?_, ?_, ?_⟩
  · rw [hk.cell]; exact take_get ht (by rw [← Nat.add_zero (i * 3), flatE_get he 0 (by omega)]; rfl)
  · rw [hk.cell]; exact take_get ht (by rw [flatE_get he 1 (by omega)]; rfl)
  · rw [hk.cell]; exact take_get ht (by rw [flatE_get he 2 (by omega)]; rfl)
theorem BookV.len {B : Nat} {w : World} {g num : Nat} {v u : Value} {es : List Ent} (h : BookV u B w g num v es) : ∃ R c, v = .slice R es.length c := own_slice h.row
/-- The cells of an entry. -/
theorem BookV.ent {B : Nat} {w : World} {g num : Nat} {v u : Value} {es : List Ent} (h : BookV u B w g num v es) {i : Nat} {e : Ent} (he : es[i]? = some e) :
    ∃ r c cur, v = .slice (some ⟨r, 0, none⟩) es.length c ∧ B ≤ r ∧ Blk w r THR cur ∧ i < es.length ∧ w.cell? ⟨r, i * 3, none⟩ = some (.slice e.A e.n e.c) ∧ w.cell? ⟨r, i * 3 + 1, none⟩ = some (.slice e.L e.m e.d) ∧ w.cell? ⟨r, i * 3 + 2, none⟩ = some (.int .i64 (e.k : Nat)) := by
  have hi : i < es.length := (List.getElem?_eq_some_iff.1 he).1
  obtain ⟨r, c, cur, rfl, hB, hn, hm, hk, hs, ht⟩ := own_some h.row (by omega)
  refine ⟨r, c, cur, rfl, hB, hk, hi, ?_, ?_, ?_⟩
  · rw [hk.cell]; exact take_get ht (by rw [← Nat.add_zero (i * 3), flatE_get he 0 (by omega)]; rfl)
  · rw [hk.cell]; exact take_get ht (by rw [flatE_get he 1 (by omega)]; rfl)
  · rw [hk.cell]; exact take_get ht (by rw [flatE_get he 2 (by omega)]; rfl)
set_option maxHeartbeats 2000000 in
theorem fillInt32_U (w : World) (B g num : Nat) (v u : Value) (es : List Ent) (X Y : Nat → List Value) (hB : B ≤ w.heap.size) (hb : BookU u B w g num v es) (hh : Held B w es X Y) (hes : es.length ≤ 100000) (hk : ∀ e ∈ es, e.k ≤ 100000 ∧ e.n ≤ 1000000 ∧ e.d = 0) :
    Calls Tryz.prog 107 #[.pointer (some ⟨g, 0, none⟩)] w fun e w' => (∃ r, e = .returned r) ∧ BelT T32 B w w' ∧ BookU u B w' g num v es ∧ ∃ X', Held B w' es X' Y ∧ ∀ i e, es[i]? = some e → X' i = List.replicate e.n (mk32 e.k) := by
  refine opq fun R hR => ?_
  obtain ⟨RR, cR, rfl⟩ := hb.len
  have bk0 := hide hb
  have hd0 := hide hh
  have hk0 := hide hk
  have bB := hide hB
  clear hb hh hk hB
  go_enter Tryz.func107, Tryz.ntmps107
  go_wp2
  go_loopw [2] (fun iv wr => ∃ (i : Nat), i ≤ es.length ∧ iv = .int .i64 (i : Nat) ∧ Hid (BelT T32 B w wr) ∧ Hid (BookU u B wr g num (.slice RR es.length cR) es) ∧ Hid (∃ X', Held B wr es X' Y ∧ ∀ i' e, i' < i → es[i']? = some e → X' i' = List.replicate e.n (mk32 e.k))) (fun iv _ => es.length - (intOf iv).toNat)
  case atStart => exact ⟨0, by omega, rfl, BelT.refl _ _ _, bk0, X, hd0.out, fun i' e h => by omega⟩
  case round =>
    obtain ⟨i, hi, rfl, hbel, bk1, hX⟩ := hrel
    have c2 := bk1.out.blk.at_ 2 rfl
    by_cases hlt : i < es.length
    · obtain ⟨e, he0⟩ : ∃ e, es[i]? = some e := ⟨_, List.getElem?_eq_getElem hlt⟩
      have he := hide he0
      obtain ⟨r, c', cur, e1, hr, hkr, _, x0, x1, x2⟩ := bk1.out.ent he0
      clear he0
      cases e1
      have hkr := hide hkr
      obtain ⟨A, n, c, L, m, d, k⟩ := e
      obtain ⟨q1, q2, q3⟩ := hk0.out _ (List.mem_of_getElem? he.out)
      dsimp only at x0 x1 x2 q1 q2 q3
      subst q3
      go_wp2
      obtain ⟨p0, hp0⟩ : ∃ p0, wr.heap.size = p0 := ⟨_, rfl⟩
      obtain ⟨V, hV⟩ : ∃ V, wr.alloc (.cells #[.slice A n c, .slice L m 0, .int .i64 (k : Nat)] TH) = V := ⟨_, rfl⟩
      have bx : Hid (Blk V p0 TH #[.slice A n c, .slice L m 0, .int .i64 (k : Nat)]) := by
        rw [← hV, ← hp0]; exact Blk.new _ _ _
      have b1 : Hid (BelT T32 B w V) := by
        rw [← hV]; exact hbel.out.alloc (Nat.le_trans bB.out hbel.out.size) _
      have k1 : Hid (BookU u B V g num (.slice (some ⟨r, 0, none⟩) es.length cR) es) := by
        rw [← hV]; exact bk1.out.keep fun g t cs _ _ hk => hk.alloc _
      have X1 : Hid (∃ X', Held B V es X' Y ∧ (∀ (i' : Nat) (e : Ent), i' < i → es[i']? = some e → X' i' = List.replicate e.n (mk32 e.k))) := by
        obtain ⟨X', h1, h2⟩ := hX.out
        exact ⟨X', by rw [← hV]; exact h1.keep fun g cs _ hk => hk.alloc _, h2⟩
      rw [hp0, hV]
      clear hV hp0 hbel bk1 hX x0 x1 x2 c2 hkr
      go_loopw [4] (fun jv wj => ∃ (j : Nat), j ≤ n ∧ jv = .int .i64 (j : Nat) ∧ Hid (Blk wj p0 TH #[.slice A n c, .slice L m 0, .int .i64 (k : Nat)]) ∧ Hid (BelT T32 B w wj) ∧ Hid (BookU u B wj g num (.slice (some ⟨r, 0, none⟩) es.length cR) es) ∧ Hid (∃ X', Held B wj es X' Y ∧ (∀ (i' : Nat) (e : Ent), i' < i → es[i']? = some e → X' i' = List.replicate e.n (mk32 e.k)) ∧ ∀ j', j' < j → (X' i)[j']? = some (mk32 k))) (fun jv _ => n - (intOf jv).toNat)
      case atStart =>
        obtain ⟨X', h1, h2⟩ := X1.out
        exact ⟨0, by omega, rfl, bx, b1, k1, X', h1, h2, fun j' h => by omega⟩
      case round =>
        clear bx b1 k1 X1
        obtain ⟨j, hj, rfl, bx, b1, k1, X1⟩ := hrel
        have y0 := bx.out.at_ 0 rfl
        have y2 := bx.out.at_ 2 rfl
        by_cases hlj : j < n
        · obtain ⟨ga, cs, rfl, hga, hka, gA⟩ : ∃ ga cs, A = some ⟨ga, 0, none⟩ ∧ B ≤ ga ∧ Hid (Blk wr ga T32 cs ∧ j < cs.size) ∧ Hid (blkOf A c = some ga) := by
            obtain ⟨X', h1, _⟩ := X1.out
            obtain ⟨ga, e1, e2, _⟩ := (h1.a i _ he.out).at_ hlj
            obtain ⟨cs, _, e3, e4, e5, e6⟩ := (h1.a i _ he.out).blk e2
            have := (h1.a i _ he.out).le
            dsimp only at e1 e2 this e5
            exact ⟨ga, cs, e1, e3, ⟨e4, by omega⟩, e2⟩
          have z0 := hka.out.1.at_ j (Array.getElem?_eq_getElem hka.out.2)
          have zf := hka.out.1.frozen j
          have S1 : Hid (Blk ((wr.setCell ⟨ga, j, none⟩ (.int .u32 (1000 + (k : Int)))).drew) p0 TH #[.slice (some ⟨ga, 0, none⟩) n c, .slice L m 0, .int .i64 (k : Nat)]) := (bx.out.far (p := ⟨ga, j, none⟩) (bx.out.type_ne hka.out.1 (by decide)) _).drew
          have S2 : Hid (BelT T32 B w ((wr.setCell ⟨ga, j, none⟩ (.int .u32 (1000 + (k : Int)))).drew)) := (b1.out.setCell hka.out.1 hga _).drew
          have S3 : Hid (BookU u B ((wr.setCell ⟨ga, j, none⟩ (.int .u32 (1000 + (k : Int)))).drew) g num (.slice (some ⟨r, 0, none⟩) es.length cR) es) := k1.out.keep fun g t cs' ht _ hk => (hk.far (p := ⟨ga, j, none⟩) (hk.type_ne hka.out.1 ht) _).drew
          have S4 : Hid (∃ X', Held B ((wr.setCell ⟨ga, j, none⟩ (.int .u32 (1000 + (k : Int)))).drew) es X' Y ∧ (∀ (i' : Nat) (e : Ent), i' < i → es[i']? = some e → X' i' = List.replicate e.n (mk32 e.k)) ∧ ∀ j', j' < j + 1 → (X' i)[j']? = some (mk32 k)) := by
            obtain ⟨X', h1, h2, h3⟩ := X1.out
            refine ⟨_, (h1.set_ (fun i e h => (hk0.out e (List.mem_of_getElem? h)).2.2) he.out hlj gA.out (mk32 k)).keep fun g cs _ hk => hk.drew, fun i' e hi' hee => ?_, fun j' hj' => ?_⟩
            · rw [upd_ne _ _ (by omega)]
              exact h2 i' e hi' hee
            · rw [upd_same]
              have hl := (h1.a _ _ he.out).len
              dsimp only at hl
              by_cases hjj : j' = j
              · subst hjj
                rw [List.getElem?_set_self (by omega)]
              · rw [List.getElem?_set_ne (fun e => hjj e.symm)]
                exact h3 j' (by omega)
          clear bx b1 k1 X1
          go_wp2
          go_region_with (go_at_call 223; refine (mark_ok _ k q1).mono ?_; rintro e w' ⟨rfl, rfl⟩)
          all_goals
            go_wp2
            go_roundw
            case rel => exact ⟨j + 1, by omega, by go_num, S1, S2, S3, S4⟩
            case measure => simp [intOf]; omega
        · obtain rfl : j = n := by omega
          go_wp2
          go_roundw
          case rel =>
            refine ⟨i + 1, by omega, by go_num, b1, k1, ?_⟩
            obtain ⟨X', h1, h2, h3⟩ := X1.out
            refine ⟨X', h1, fun i' e hi' hee => ?_⟩
            by_cases hii : i' = i
            · subst hii
              rw [he.out] at hee
              cases hee
              have hl := (h1.a _ _ he.out).len
              dsimp only at hl ⊢
              refine List.ext_getElem? fun q => ?_
              by_cases hq : q < j
              · rw [h3 q hq, List.getElem?_replicate, if_pos hq]
              · rw [List.getElem?_eq_none (by omega), List.getElem?_eq_none (by rw [List.length_replicate]; omega)]
            · exact h2 i' e (by omega) hee
          case measure => simp [intOf]; omega
    · obtain rfl : i = es.length := by omega
      go_wp2
      go_end0
      obtain ⟨X', h1, h2⟩ := hX.out
      exact opq_end hR ⟨⟨_, rfl⟩, hbel.out, bk1.out, X', h1, fun i e he => h2 i e (List.getElem?_eq_some_iff.1 he).1 he⟩
theorem BookU.setL {u : Value} {B : Nat} {w : World} {g num r c n : Nat} {es : List Ent} (h : BookU u B w g num (.slice (some ⟨r, 0, none⟩) n c) es) {i : Nat} {e : Ent} (he : es[i]? = some e) (L : Option Addr) (m d : Nat) :
    BookU u B (w.setCell ⟨r, i * 3 + 1, none⟩ (.slice L m d)) g num (.slice (some ⟨r, 0, none⟩) n c) (es.set i ⟨e.A, e.n, e.c, L, m, d, e.k⟩) := by
  have hi : i < es.length := (List.getElem?_eq_some_iff.1 he).1
  obtain ⟨r', c', cur, e1, hB, hn, hm, hk, hs, ht⟩ := own_some h.row (by omega)
  cases e1
  refine ⟨h.blk.far (p := ⟨r, i * 3 + 1, none⟩) (h.blk.type_ne hk (by decide)) _, h.own, by rw [flatE_len]; simp; omega, .inr ⟨r, c, _, by simp, hB, (hk.set_ (i * 3 + 1) (.slice L m d)).eq, by simpa using hn, by simpa [maxLen] using hm, by simpa using hs, ?_⟩⟩
  rw [flatE_set he, Array.toList_setIfInBounds, List.length_set, List.take_set, ht]
theorem BookV.setL {u : Value} {B : Nat} {w : World} {g num r c n : Nat} {es : List Ent} (h : BookV u B w g num (.slice (some ⟨r, 0, none⟩) n c) es) {i : Nat} {e : Ent} (he : es[i]? = some e) (L : Option Addr) (m d : Nat) :
    BookV u B (w.setCell ⟨r, i * 3 + 1, none⟩ (.slice L m d)) g num (.slice (some ⟨r, 0, none⟩) n c) (es.set i ⟨e.A, e.n, e.c, L, m, d, e.k⟩) := by
  have hi : i < es.length := (List.getElem?_eq_some_iff.1 he).1
  obtain ⟨r', c', cur, e1, hB, hn, hm, hk, hs, ht⟩ := own_some h.row (by omega)
  cases e1
  refine ⟨h.blk.far (p := ⟨r, i * 3 + 1, none⟩) (h.blk.type_ne hk (by decide)) _, h.own, by rw [flatE_len]; simp; omega, .inr ⟨r, c, _, by simp, hB, (hk.set_ (i * 3 + 1) (.slice L m d)).eq, by simpa using hn, by simpa [maxLen] using hm, by simpa using hs, ?_⟩⟩
  rw [flatE_set he, Array.toList_setIfInBounds, List.length_set, List.take_set, ht]
set_option maxHeartbeats 2000000 in
theorem growInt32_U (w : World) (B g num : Nat) (v u : Value) (es : List Ent) (X Y : Nat → List Value) (hB : B ≤ w.heap.size) (hb : BookU u B w g num v es) (hh : Held B w es X Y) (hes : es.length ≤ 100000) (hk : ∀ e ∈ es, e.k ≤ 100000 ∧ e.n ≤ 500000) (hX : ∀ i e, es[i]? = some e → X i = List.replicate e.n (mk32 e.k)) (lo : Nat) (hlo : Old lo w.heap.size es) :
    Calls Tryz.prog 119 #[.pointer (some ⟨g, 0, none⟩)] w fun e w' => (∃ r, e = .returned r) ∧ BelG lo B w w' ∧ ∃ es' Y', BookU u B w' g num v es' ∧ Held B w' es' X Y' ∧ Grown es es.length es' Y' := by
  refine opq fun R hR => ?_
  obtain ⟨RR, cR, rfl⟩ := hb.len
  have bk0 := hide hb
  have hd0 := hide hh
  have hk0 := hide hk
  have hX0 := hide hX
  replace hlo := hide hlo
  have bB := hide hB
  clear hb hh hk hB hX
  go_enter Tryz.func119, Tryz.ntmps119
  go_wp2
  go_loopw [2] (fun iv wr => ∃ (i : Nat), i ≤ es.length ∧ iv = .int .i64 (i : Nat) ∧ Hid (BelG lo B w wr) ∧ Hid (∃ es' Y', Old lo w.heap.size es' ∧ BookU u B wr g num (.slice RR es.length cR) es' ∧ Held B wr es' X Y' ∧ Grown es i es' Y')) (fun iv _ => es.length - (intOf iv).toNat)
  case atStart => exact ⟨0, by omega, rfl, BelG.refl _ _ _, es, Y, hlo.out, bk0.out, hd0.out, rfl, fun j e' h => ⟨e', h, rfl, rfl, rfl, rfl⟩, fun j e' h => by omega⟩
  case round =>
    obtain ⟨i, hi, rfl, hbel, hX⟩ := hrel
    obtain ⟨es', Y', od1, bk1, hd1, gr1⟩ := hX.out
    have od1 := hide od1
    have bk1 := hide bk1
    have hd1 := hide hd1
    have gr1 := hide gr1
    clear hX
    have c2 := bk1.out.blk.at_ 2 rfl
    by_cases hlt : i < es.length
    · obtain ⟨e, he0⟩ : ∃ e, es'[i]? = some e := ⟨_, List.getElem?_eq_getElem (by rw [gr1.out.len]; exact hlt)⟩
      have he := hide he0
      obtain ⟨r, c', cur, e1, hr, hkr, _, x0, x1, x2⟩ := bk1.out.ent he0
      clear he0
      obtain ⟨rfl, e2, e3⟩ := Value.slice.inj e1
      clear e1 e2 e3
      have hkr := hide hkr
      obtain ⟨e0, f0, f1, f2, f3, f4⟩ := gr1.out.same _ _ he.out
      obtain ⟨q1, q2⟩ := hk0.out _ (List.mem_of_getElem? f0)
      have hXi := hide (hX0.out _ _ f0)
      rw [← f2, ← f4] at hXi
      rw [← f4] at q1
      rw [← f2] at q2
      clear f0 f1 f2 f3 f4 e0
      obtain ⟨A, n, c, L, m, d, k⟩ := e
      dsimp only at x0 x1 x2 q1 q2 hXi
      go_wp2
      obtain ⟨p0, hp0⟩ : ∃ p0, wr.heap.size = p0 := ⟨_, rfl⟩
      obtain ⟨V, hV⟩ : ∃ V, wr.alloc (.cells #[.slice A n c, .slice L m d, .int .i64 (k : Nat)] TH) = V := ⟨_, rfl⟩
      have bx : Hid (Blk V p0 TH #[.slice A n c, .slice L m d, .int .i64 (k : Nat)]) := by
        rw [← hV, ← hp0]; exact Blk.new _ _ _
      have b1 : Hid (BelG lo B w V) := by
        rw [← hV]; exact hbel.out.alloc (Nat.le_trans bB.out hbel.out.size) _
      have k1 : Hid (BookU u B V g num (.slice (some ⟨r, 0, none⟩) es.length cR) es') := by
        rw [← hV]; exact bk1.out.keep fun g t cs _ _ hk => hk.alloc _
      have X1 : Hid (Held B V (es'.set i ⟨A, n, c, A, n + 0, c, k⟩) X (upd Y' i (List.replicate (n + 0) (mk32 k)))) := by
        have h1 : Held B V es' X Y' := by rw [← hV]; exact hd1.out.keep fun g cs _ hk => hk.alloc _
        have := h1.start he.out
        rw [hXi.out] at this
        exact this
      rw [hp0, hV]
      clear hV hp0 hbel bk1 hd1 x0 x1 x2 c2 hkr
      go_loopw [4, 5] (fun tv jv wj => ∃ (j : Nat) (A' : Option Addr) (c' : Nat), j ≤ 40 ∧ jv = .int .i64 (j : Nat) ∧ tv = .slice A' (n + j) c' ∧ Hid (Blk wj p0 TH #[.slice A n c, .slice L m d, .int .i64 (k : Nat)]) ∧ Hid (BelG lo B w wj) ∧ Hid (∀ g, blkOf A' c' = some g → g < lo ∨ w.heap.size ≤ g) ∧ Hid (BookU u B wj g num (.slice (some ⟨r, 0, none⟩) es.length cR) es') ∧ Hid (Held B wj (es'.set i ⟨A, n, c, A', n + j, c', k⟩) X (upd Y' i (List.replicate (n + j) (mk32 k))))) (fun _ jv _ => 40 - (intOf jv).toNat)
      case atStart => exact ⟨0, A, c, by omega, rfl, rfl, bx, b1, fun g hg => od1.out _ _ _ he.out (.inl hg), k1, X1⟩
      case round =>
        clear bx b1 k1 X1
        obtain ⟨j, A', c', hj, rfl, rfl, bx, b1, oA, k1, X1⟩ := hrel
        have y2 := bx.out.at_ 2 rfl
        by_cases hlj : j < 40
        · have S1 : Hid (Blk (wr.alloc (.cells #[.int .u32 (1000 + (k : Int))] T32)) p0 TH #[.slice A n c, .slice L m d, .int .i64 (k : Nat)]) := bx.out.alloc _
          have S0 := hide (Nat.le_trans bB.out b1.out.size)
          have S2 : Hid (BelG lo B w (wr.alloc (.cells #[.int .u32 (1000 + (k : Int))] T32))) := b1.out.alloc S0.out _
          have S3 : Hid (BookU u B (wr.alloc (.cells #[.int .u32 (1000 + (k : Int))] T32)) g num (.slice (some ⟨r, 0, none⟩) es.length cR) es') := k1.out.keep fun g t cs' ht _ hk => hk.alloc _
          have S4 : Hid (Held B (wr.alloc (.cells #[.int .u32 (1000 + (k : Int))] T32)) (es'.set i ⟨A, n, c, A', n + j, c', k⟩) X (upd Y' i (List.replicate (n + j) (mk32 k)))) := X1.out.keep fun g cs _ hk => hk.alloc _
          have S5 : Hid ((es'.set i ⟨A, n, c, A', n + j, c', k⟩)[i]? = some ⟨A, n, c, A', n + j, c', k⟩) := by
            show _ = _
            rw [List.getElem?_set_self (List.getElem?_eq_some_iff.1 he.out).1]
          have S6 : Hid (LRow B (wr.alloc (.cells #[.int .u32 (1000 + (k : Int))] T32)) A' (n + j) c' (List.replicate (n + j) (mk32 k))) := by
            have := S4.out.l _ _ S5.out
            rw [upd_same] at this
            exact this
          have S7 : Hid ((wr.alloc (.cells #[.int .u32 (1000 + (k : Int))] T32)).cell? ⟨wr.heap.size, 0, none⟩ = some (.int .u32 (1000 + (k : Int)))) := (Blk.new wr T32 #[.int .u32 (1000 + (k : Int))]).at_ 0 rfl
          have S8 : Hid (B ≤ (wr.alloc (.cells #[.int .u32 (1000 + (k : Int))] T32)).heap.size) := Nat.le_trans bB.out S2.out.size
          clear bx b1 k1 X1
          go_wp2_with fail
          refine (mark_ok _ k q1).mono ?_
          rintro e w' ⟨rfl, rfl⟩
          go_wp2_with (at_builtin; refine wpList_app1 (P := Tryz.prog) (t := 22) (by kernel_rfl) info32 rfl _ _ rfl S6.out rfl S8.out (by omega) _ rfl _ 1 rfl S7.out ?_; intro A2 c2 w2 r1 r2 r3 r4)
          go_roundw
          case rel =>
            have P1 := S4.out.push S5.out (A' := A2) (c' := c2) (x := .int .u32 (1000 + (k : Int))) (by rw [upd_same]; exact r1.out) r2.out r3.out r4.out
            refine ⟨j + 1, A2, c2, by omega, by go_num, rfl, S6.out.other r2.out (by decide) S1.out, S2.out.push S6.out r2.out S8.out oA.out, ?_, S3.out.keep fun g t cs ht _ hk => S6.out.other r2.out ht hk, ?_⟩
            · intro g hg
              rcases r4.out with ⟨rfl, rfl⟩ | ⟨rfl, _⟩
              · exact oA.out g hg
              · have hs := S2.out.size
                rw [blkOf_some (blkOf_pos hg)] at hg
                cases hg
                exact .inr hs
            rw [upd_same, List.set_set] at P1
            have e1 : upd (upd Y' i (List.replicate (n + j) (mk32 k))) i (List.replicate (n + j) (mk32 k) ++ [.int .u32 (1000 + (k : Int))]) = upd Y' i (List.replicate (n + (j + 1)) (mk32 k)) := by
              funext q
              unfold upd
              by_cases hq : q = i
              · rw [if_pos hq, if_pos hq, ← Nat.add_assoc, List.replicate_succ']
                rfl
              · rw [if_neg hq, if_neg hq, if_neg hq]
            rw [e1] at P1
            exact P1
          case measure => simp [intOf]; omega
        · obtain rfl : j = 40 := by omega
          obtain ⟨cu, hcu⟩ : ∃ cu, Hid (Blk wr r TH cu ∧ i * 3 + 1 < cu.size) := by
            obtain ⟨r', c', cur', e1, _, hkr, _, _, x1, _⟩ := k1.out.ent he.out
            obtain ⟨e2, _, _⟩ := Value.slice.inj e1
            cases e2
            rw [hkr.cell] at x1
            exact ⟨cur', hkr, (Array.getElem?_eq_some_iff.1 x1).1⟩
          have x1 := hcu.out.1.at_ (i * 3 + 1) (Array.getElem?_eq_getElem hcu.out.2)
          have xf := hcu.out.1.frozen (i * 3 + 1)
          have c2 := k1.out.blk.at_ 2 rfl
          go_wp2
          go_roundw
          case rel =>
            have U1 := k1.out.setL he.out A' (n + 40) c'
            have hbr : B ≤ r := hr
            refine ⟨i + 1, by omega, by go_num, b1.out.setCell hcu.out.1 hbr _, _, _, ?_, U1, X1.out.keep fun g cs _ hk => hk.far (p := ⟨r, i * 3 + 1, none⟩) (hk.type_ne hcu.out.1 (by decide)) _, ?_, ?_, ?_⟩
            · exact od1.out.set_ fun g hg => by
                rcases hg with x | x
                · exact od1.out _ _ _ he.out (.inl x)
                · exact oA.out g x
            · rw [List.length_set]; exact gr1.out.len
            · intro j e' h
              rcases get_set_cases h with ⟨rfl, rfl⟩ | ⟨_, h1⟩
              · obtain ⟨e0, s1, s2⟩ := gr1.out.same _ _ he.out
                exact ⟨e0, s1, s2⟩
              · exact gr1.out.same _ _ h1
            · intro j e' hj h
              rcases get_set_cases h with ⟨rfl, rfl⟩ | ⟨hne, h1⟩
              · exact ⟨rfl, upd_same _ _ _⟩
              · rw [upd_ne _ _ hne]
                exact gr1.out.done _ _ (by omega) h1
          case measure => simp [intOf]; omega
    · obtain rfl : i = es.length := by omega
      go_wp2
      go_end0
      exact opq_end hR ⟨⟨_, rfl⟩, hbel.out, es', Y', bk1.out, hd1.out, gr1.out⟩
/-- All blocks stay, and memory below B. -/
structure BelA (B : Nat) (w w' : World) : Prop where
  base : Below B w w'
  keep : ∀ b t cs, Blk w b t cs → Blk w' b t cs
theorem BelA.refl (B : Nat) (w : World) : BelA B w w := ⟨Below.refl _ _, fun _ _ _ h => h⟩
theorem BelA.size {B : Nat} {w w' : World} (h : BelA B w w') : w.heap.size ≤ w'.heap.size := h.base.size
theorem BelA.alloc {B : Nat} {w w' : World} (h : BelA B w w') (hB : B ≤ w'.heap.size) (o : Obj) : BelA B w (w'.alloc o) := ⟨h.base.alloc hB o, fun b t cs hk => (h.keep b t cs hk).alloc o⟩
theorem BelA.drewN {B : Nat} {w w' : World} (h : BelA B w w') (q : Nat) : BelA B w (w'.drewN q) := ⟨below_drewN h.base q, fun b t cs hk => (h.keep b t cs hk).drewN q⟩
theorem BelA.below {B : Nat} {w w1 w2 : World} (h : BelA B w w1) (k : Below w1.heap.size w1 w2) (hB : B ≤ w1.heap.size) : BelA B w w2 := ⟨h.base.trans (k.mono hB), fun b t cs hk => (h.keep b t cs hk).below' k⟩
set_option maxHeartbeats 2000000 in
theorem lookInt32_U (w : World) (B g num : Nat) (v u : Value) (es : List Ent) (X Y : Nat → List Value) (hB : B ≤ w.heap.size) (hb : BookU u B w g num v es) (hh : Held B w es X Y) (hes : es.length ≤ 100000)
    (hk : ∀ (i : Nat) (e : Ent), es[i]? = some e → e.k ≤ 100000 ∧ e.n ≤ 500000 ∧ e.m = e.n + 40 ∧ X i = List.replicate e.n (mk32 e.k) ∧ Y i = List.replicate e.m (mk32 e.k)) :
    Calls Tryz.prog 131 #[.pointer (some ⟨g, 0, none⟩)] w fun e w' => e = .returned (.bool true) ∧ BelA B w w' ∧ BookU u B w' g num v es := by
  refine opq fun R hR => ?_
  obtain ⟨RR, cR, rfl⟩ := hb.len
  have bk0 := hide hb
  have hd0 := hide hh
  have hk0 := hide hk
  have bB := hide hB
  clear hb hh hk hB
  go_enter Tryz.func131, Tryz.ntmps131
  go_wp2
  go_loopw [3] (fun iv wr => ∃ (i : Nat), i ≤ es.length ∧ iv = .int .i64 (i : Nat) ∧ Hid (BelA B w wr) ∧ Hid (BookU u B wr g num (.slice RR es.length cR) es) ∧ Hid (Held B wr es X Y)) (fun iv _ => es.length - (intOf iv).toNat)
  case atStart => exact ⟨0, by omega, rfl, BelA.refl _ _, bk0, hd0⟩
  case round =>
    obtain ⟨i, hi, rfl, hbel, bk1, hd1⟩ := hrel
    have c2 := bk1.out.blk.at_ 2 rfl
    by_cases hlt : i < es.length
    · obtain ⟨e, he0⟩ : ∃ e, es[i]? = some e := ⟨_, List.getElem?_eq_getElem hlt⟩
      have he := hide he0
      obtain ⟨r, c', cur, e1, hr, hkr, _, x0, x1, x2⟩ := bk1.out.ent he0
      obtain ⟨q1, q2, q3, q4, q5⟩ := hk0.out _ _ he0
      clear he0
      obtain ⟨rfl, e2, e3⟩ := Value.slice.inj e1
      clear e1 e2 e3
      have hkr := hide hkr
      obtain ⟨A, n, c, L, m, d, k⟩ := e
      dsimp only at x0 x1 x2 q1 q2 q3 q4 q5
      subst q3
      replace q4 := hide q4
      replace q5 := hide q5
      go_wp2
      obtain ⟨p0, hp0⟩ : ∃ p0, wr.heap.size = p0 := ⟨_, rfl⟩
      obtain ⟨V, hV⟩ : ∃ V, wr.alloc (.cells #[.slice A n c, .slice L (n + 40) d, .int .i64 (k : Nat)] TH) = V := ⟨_, rfl⟩
      have bx : Hid (Blk V p0 TH #[.slice A n c, .slice L (n + 40) d, .int .i64 (k : Nat)]) := by
        rw [← hV, ← hp0]; exact Blk.new _ _ _
      have b1 : Hid (BelA B w V) := by
        rw [← hV]; exact hbel.out.alloc (Nat.le_trans bB.out hbel.out.size) _
      have k1 : Hid (BookU u B V g num (.slice (some ⟨r, 0, none⟩) es.length cR) es) := by
        rw [← hV]; exact bk1.out.keep fun g t cs _ _ hk => hk.alloc _
      have X1 : Hid (Held B V es X Y) := by
        rw [← hV]; exact hd1.out.keep fun g cs _ hk => hk.alloc _
      rw [hp0, hV]
      clear hV hp0 hbel bk1 hd1 x0 x1 x2 c2 hkr
      go_loopw [5] (fun jv wj => ∃ (j : Nat), j ≤ n + 40 ∧ jv = .int .i64 (j : Nat) ∧ Hid (Blk wj p0 TH #[.slice A n c, .slice L (n + 40) d, .int .i64 (k : Nat)]) ∧ Hid (BelA B w wj) ∧ Hid (BookU u B wj g num (.slice (some ⟨r, 0, none⟩) es.length cR) es) ∧ Hid (Held B wj es X Y)) (fun jv _ => n + 40 - (intOf jv).toNat)
      case atStart => exact ⟨0, by omega, rfl, bx, b1, k1, X1⟩
      case round =>
        clear bx b1 k1 X1
        obtain ⟨j, hj, rfl, bx, b1, k1, X1⟩ := hrel
        have y0 := bx.out.at_ 0 rfl
        have y1 := bx.out.at_ 1 rfl
        have y2 := bx.out.at_ 2 rfl
        have S : Hid (∀ q, Hid (Blk (wr.drewN q) p0 TH #[.slice A n c, .slice L (n + 40) d, .int .i64 (k : Nat)]) ∧ Hid (BelA B w (wr.drewN q)) ∧ Hid (BookU u B (wr.drewN q) g num (.slice (some ⟨r, 0, none⟩) es.length cR) es) ∧ Hid (Held B (wr.drewN q) es X Y)) := fun q => ⟨bx.out.drewN q, b1.out.drewN q, k1.out.keep fun g t cs _ _ hk => hk.drewN q, X1.out.keep fun g cs _ hk => hk.drewN q⟩
        by_cases hlj : j < n + 40
        · obtain ⟨gl, rfl, z1⟩ : ∃ gl, L = some ⟨gl, 0, none⟩ ∧ wr.cell? ⟨gl, j, none⟩ = some (.int .u32 (1000 + (k : Int))) := by
            have h1 := X1.out.l _ _ he.out
            rw [q5.out] at h1
            exact h1.marks hlj
          by_cases hln : j < n
          · obtain ⟨ga, rfl, z0⟩ : ∃ ga, A = some ⟨ga, 0, none⟩ ∧ wr.cell? ⟨ga, j, none⟩ = some (.int .u32 (1000 + (k : Int))) := by
              have h1 := X1.out.a _ _ he.out
              rw [q4.out] at h1
              exact h1.marks hln
            have hdl : decide ((j : Int) < (n : Int)) = true := by simpa using hln
            clear b1 k1 X1 bx
            go_wp2
            go_quiet (first | (go_at_call 235; refine Calls.quiet_of_same (isInt32_ok _ k q1)))
            go_wp2
            go_roundw
            case rel => exact ⟨j + 1, by omega, by go_num, S.out _⟩
            case measure => simp [intOf]; omega
          · have hdl : decide ((j : Int) < (n : Int)) = false := by simpa using hln
            clear b1 k1 X1 bx
            go_wp2
            go_quiet (first | (go_at_call 235; refine Calls.quiet_of_same (isInt32_ok _ k q1)))
            go_wp2
            go_roundw
            case rel => exact ⟨j + 1, by omega, by go_num, S.out _⟩
            case measure => simp [intOf]; omega
        · obtain rfl : j = n + 40 := by omega
          go_wp2
          go_roundw
          case rel => exact ⟨i + 1, by omega, by go_num, b1, k1, X1⟩
          case measure => simp [intOf]; omega
    · obtain rfl : i = es.length := by omega
      go_wp2
      exact opq_end hR ⟨rfl, hbel.out, bk1.out⟩
end Go.Proofs.YtkefmeddnncacaaGreatDoor

/- the laws' Book: each list of fractions is filled with its mark, grown, looked at. -/
set_option linter.unusedVariables false
set_option linter.unusedSimpArgs false
set_option maxRecDepth 100000
namespace Go.Proofs.YtkefmeddnncacaaGreatDoor
open Go.RowKit

theorem upd_upd (X : Nat → List Value) (i : Nat) (xs ys : List Value) : upd (upd X i xs) i ys = upd X i ys := by
  funext j
  unfold upd
  split <;> rfl
set_option maxHeartbeats 1000000 in
theorem markRat_ok (w : World) (k : Nat) (hk : k ≤ 100000) :
    Calls Tryz.prog 229 #[.int .i64 (k : Nat)] w fun e w' => ∃ q, e = .returned (.agg #[.bool false, .slice none 0 0, .slice (some ⟨q, 0, none⟩) 1 1]) ∧ Below w.heap.size w w' ∧ w.heap.size ≤ q ∧ Blk w' q T32 #[mk32 k] := by
  refine opq fun R hR => ?_
  go_enter Tryz.func229, Tryz.ntmps229
  have h := wrap_u32_mark k hk
  go_wp2
  refine bodyPost_ret (v := .agg #[.bool false, .slice none 0 0, .slice (some ⟨w.heap.size + 1, 0, none⟩) 1 1]) (by simp [results, Tryz.results229, go_sem]) rfl ?_
  refine opq_end hR ⟨_, rfl, ((Below.refl _ _).alloc (Nat.le_refl _) _).alloc (by simp) _, Nat.le_succ _, ?_⟩
  exact Blk.new_at _ (w.heap.size + 1) (by simp) T32 #[.int .u32 (1000 + (k : Int))]
theorem isRat_ok (w : World) (k : Nat) (hk : k ≤ 100000) (q d : Nat) (cs : Array Value) (hb : Blk w q T32 cs) (hc : cs[0]? = some (mk32 k)) :
    Calls Tryz.prog 241 #[.agg #[.bool false, .slice none 0 0, .slice (some ⟨q, 0, none⟩) 1 d], .int .i64 (k : Nat)] w fun e w' => e = .returned (.bool true) ∧ Below w.heap.size w w' := by
  refine opq fun R hR => ?_
  have h := wrap_u32_mark k hk
  have y : Below w.heap.size w (w.alloc (.cells #[.bool false, .slice none 0 0, .slice (some ⟨q, 0, none⟩) 1 d] TR)) := (Below.refl _ _).alloc (Nat.le_refl _) _
  have z : (w.alloc (.cells #[.bool false, .slice none 0 0, .slice (some ⟨q, 0, none⟩) 1 d] TR)).cell? ⟨q, 0, none⟩ = some (.int .u32 (1000 + (k : Int))) := (hb.below' y).at_ 0 hc
  have K := Blk.new w TR #[.bool false, .slice none 0 0, .slice (some ⟨q, 0, none⟩) 1 d]
  have z2 := K.at_ 2 rfl
  replace y := hide y
  clear hb hc K
  go_enter Tryz.func241, Tryz.ntmps241
  go_wp2
  exact opq_end hR ⟨by simp, y.out⟩
set_option maxHeartbeats 2000000 in
theorem fillRat_V (w : World) (B g num : Nat) (v u : Value) (es : List Ent) (X Y : Nat → List Value) (hB : B ≤ w.heap.size) (hb : BookV u B w g num v es) (hh : HeldR B w es X Y) (hes : es.length ≤ 100000) (hk : ∀ e ∈ es, e.k ≤ 100000 ∧ e.n ≤ 1000000 ∧ e.d = 0) :
    Calls Tryz.prog 113 #[.pointer (some ⟨g, 0, none⟩)] w fun e w' => (∃ r, e = .returned r) ∧ BelT TR B w w' ∧ BookV u B w' g num v es ∧ ∃ X', HeldR B w' es X' Y ∧ ∀ i e, es[i]? = some e → Mks w' w.heap.size e.k e.n (X' i) := by
  refine opq fun R hR => ?_
  obtain ⟨RR, cR, rfl⟩ := hb.len
  have bk0 := hide hb
  have hd0 := hide hh
  have hk0 := hide hk
  have bB := hide hB
  clear hb hh hk hB
  go_enter Tryz.func113, Tryz.ntmps113
  go_wp2
  go_loopw [2] (fun iv wr => ∃ (i : Nat), i ≤ es.length ∧ iv = .int .i64 (i : Nat) ∧ Hid (BelT TR B w wr) ∧ Hid (BookV u B wr g num (.slice RR es.length cR) es) ∧ Hid (∃ X', HeldR B wr es X' Y ∧ ∀ i' e, i' < i → es[i']? = some e → Mks wr w.heap.size e.k e.n (X' i'))) (fun iv _ => es.length - (intOf iv).toNat)
  case atStart => exact ⟨0, by omega, rfl, BelT.refl _ _ _, bk0, X, hd0.out, fun i' e h => by omega⟩
  case round =>
    obtain ⟨i, hi, rfl, hbel, bk1, hX⟩ := hrel
    have c2 := bk1.out.blk.at_ 8 rfl
    by_cases hlt : i < es.length
    · obtain ⟨e, he0⟩ : ∃ e, es[i]? = some e := ⟨_, List.getElem?_eq_getElem hlt⟩
      have he := hide he0
      obtain ⟨r, c', cur, e1, hr, hkr, _, x0, x1, x2⟩ := bk1.out.ent he0
      clear he0
      cases e1
      have hkr := hide hkr
      obtain ⟨A, n, c, L, m, d, k⟩ := e
      obtain ⟨q1, q2, q3⟩ := hk0.out _ (List.mem_of_getElem? he.out)
      dsimp only at x0 x1 x2 q1 q2 q3
      subst q3
      go_wp2
      obtain ⟨p0, hp0⟩ : ∃ p0, wr.heap.size = p0 := ⟨_, rfl⟩
      obtain ⟨V, hV⟩ : ∃ V, wr.alloc (.cells #[.slice A n c, .slice L m 0, .int .i64 (k : Nat)] THR) = V := ⟨_, rfl⟩
      have bx : Hid (Blk V p0 THR #[.slice A n c, .slice L m 0, .int .i64 (k : Nat)]) := by
        rw [← hV, ← hp0]; exact Blk.new _ _ _
      have b1 : Hid (BelT TR B w V) := by
        rw [← hV]; exact hbel.out.alloc (Nat.le_trans bB.out hbel.out.size) _
      have k1 : Hid (BookV u B V g num (.slice (some ⟨r, 0, none⟩) es.length cR) es) := by
        rw [← hV]; exact bk1.out.keep fun g t cs _ _ hk => hk.alloc _
      have X1 : Hid (∃ X', HeldR B V es X' Y ∧ (∀ (i' : Nat) (e : Ent), i' < i → es[i']? = some e → Mks V w.heap.size e.k e.n (X' i'))) := by
        obtain ⟨X', h1, h2⟩ := hX.out
        exact ⟨X', by rw [← hV]; exact h1.keep fun g cs _ hk => hk.alloc _, fun i' e hi' he' => (h2 i' e hi' he').keep fun q cs _ hk => by rw [← hV]; exact hk.alloc _⟩
      rw [hp0, hV]
      clear hV hp0 hbel bk1 hX x0 x1 x2 c2 hkr
      go_loopw [4] (fun jv wj => ∃ (j : Nat), j ≤ n ∧ jv = .int .i64 (j : Nat) ∧ Hid (Blk wj p0 THR #[.slice A n c, .slice L m 0, .int .i64 (k : Nat)]) ∧ Hid (BelT TR B w wj) ∧ Hid (BookV u B wj g num (.slice (some ⟨r, 0, none⟩) es.length cR) es) ∧ Hid (∃ X', HeldR B wj es X' Y ∧ (∀ (i' : Nat) (e : Ent), i' < i → es[i']? = some e → Mks wj w.heap.size e.k e.n (X' i')) ∧ Mks wj w.heap.size k j (X' i))) (fun jv _ => n - (intOf jv).toNat)
      case atStart =>
        obtain ⟨X', h1, h2⟩ := X1.out
        exact ⟨0, by omega, rfl, bx, b1, k1, X', h1, h2, fun j' h => by omega⟩
      case round =>
        clear bx b1 k1 X1
        obtain ⟨j, hj, rfl, bx, b1, k1, X1⟩ := hrel
        have y0 := bx.out.at_ 0 rfl
        have y2 := bx.out.at_ 2 rfl
        by_cases hlj : j < n
        · obtain ⟨ga, cs, rfl, hga, hka, gA⟩ : ∃ ga cs, A = some ⟨ga, 0, none⟩ ∧ B ≤ ga ∧ Hid (Blk wr ga TR cs ∧ j * 3 + 2 < cs.size) ∧ Hid (blkOf A c = some ga) := by
            obtain ⟨X', h1, _⟩ := X1.out
            obtain ⟨ga, e1, e2, _⟩ := (h1.a i _ he.out).at_ (i := j * 3) (by dsimp only; omega)
            obtain ⟨cs, _, e3, e4, e5, e6⟩ := (h1.a i _ he.out).blk e2
            have := (h1.a i _ he.out).le
            dsimp only at e1 e2 this e5
            exact ⟨ga, cs, e1, e3, ⟨e4, by omega⟩, e2⟩
          go_wp2
          go_region_with (go_at_call 229; refine (markRat_ok _ k q1).mono ?_; rintro e w1 ⟨q, rfl, d1, hq, hbq⟩; have D := hide (below_tr ((Below.refl _ _).drew : Below wr.heap.size wr wr.drew) d1); clear d1; have hkb := hide (hka.out.1.below' D.out); have hbq := hide hbq; have z0 := hkb.out.at_ (j * 3) (Array.getElem?_eq_getElem (by have := hka.out.2; omega)); have z1 := hkb.out.at_ (j * 3 + 1) (Array.getElem?_eq_getElem (by have := hka.out.2; omega)); have z2 := hkb.out.at_ (j * 3 + 2) (Array.getElem?_eq_getElem hka.out.2); have f0 := hkb.out.frozen (j * 3); have f1 := hkb.out.frozen (j * 3 + 1); have f2 := hkb.out.frozen (j * 3 + 2); have bx' := hide (bx.out.below' D.out); clear y0 y2; have y0 := bx'.out.at_ 0 rfl; have y2 := bx'.out.at_ 2 rfl)
          all_goals
            obtain ⟨X', h1, h2, h3⟩ := X1.out
            have eW : wr.drew.heap.size = wr.heap.size := by simp
            rw [eW] at hq
            have hBw := b1.out.size
            have hB1 := Nat.le_trans bB.out hBw
            have M1 : BelT TR B w w1 := ⟨b1.out.base.trans (D.out.mono hB1), fun b t cs ht hk => (b1.out.keep b t cs ht hk).below' D.out⟩
            have M2 := ((M1.setCell (j := j * 3) hkb.out hga (.bool false)).setCell (j := j * 3 + 1) (hkb.out.set_ _ _) hga (.slice none 0 0)).setCell (j := j * 3 + 2) ((hkb.out.set_ _ _).set_ _ _) hga (.slice (some ⟨q, 0, none⟩) 1 1)
            have hlr := (h1.a _ _ he.out).len
            have hlc := (h1.a _ _ he.out).le
            dsimp only at hlr hlc
            have h1' : HeldR B w1 es X' Y := h1.keep fun g cs _ hk => hk.below' D.out
            have hz : ∀ (i : Nat) (e : Ent), es[i]? = some e → e.d = 0 := fun i e h => (hk0.out e (List.mem_of_getElem? h)).2.2
            have N1 := h1'.set_ hz he.out (j := j * 3) (by dsimp only; omega) gA.out (.bool false)
            have N2 := N1.set_ hz he.out (j := j * 3 + 1) (by dsimp only; omega) gA.out (.slice none 0 0)
            have N3 := N2.set_ hz he.out (j := j * 3 + 2) (by dsimp only; omega) gA.out (.slice (some ⟨q, 0, none⟩) 1 1)
            rw [upd_same, upd_upd, upd_same, upd_upd] at N3
            have far : ∀ q' cs', Blk wr q' T32 cs' → Blk ((((w1).setCell ⟨ga, j * 3, none⟩ (.bool false)).setCell ⟨ga, j * 3 + 1, none⟩ (.slice none 0 0)).setCell ⟨ga, j * 3 + 2, none⟩ (.slice (some ⟨q, 0, none⟩) 1 1)) q' T32 cs' := fun q' cs' hk => (((hk.below' D.out).far (p := ⟨ga, j * 3, none⟩) ((hk.below' D.out).type_ne hkb.out (by decide)) _).far (p := ⟨ga, j * 3 + 1, none⟩) ((hk.below' D.out).type_ne hkb.out (by decide)) _).far (p := ⟨ga, j * 3 + 2, none⟩) ((hk.below' D.out).type_ne hkb.out (by decide)) _
            have hbq' : Blk ((((w1).setCell ⟨ga, j * 3, none⟩ (.bool false)).setCell ⟨ga, j * 3 + 1, none⟩ (.slice none 0 0)).setCell ⟨ga, j * 3 + 2, none⟩ (.slice (some ⟨q, 0, none⟩) 1 1)) q T32 #[mk32 k] := ((hbq.out.far (p := ⟨ga, j * 3, none⟩) (hbq.out.type_ne hkb.out (by decide)) _).far (p := ⟨ga, j * 3 + 1, none⟩) (hbq.out.type_ne hkb.out (by decide)) _).far (p := ⟨ga, j * 3 + 2, none⟩) (hbq.out.type_ne hkb.out (by decide)) _
            have S1 : Hid (Blk ((((w1).setCell ⟨ga, j * 3, none⟩ (.bool false)).setCell ⟨ga, j * 3 + 1, none⟩ (.slice none 0 0)).setCell ⟨ga, j * 3 + 2, none⟩ (.slice (some ⟨q, 0, none⟩) 1 1)) p0 THR #[.slice (some ⟨ga, 0, none⟩) n c, .slice L m 0, .int .i64 (k : Nat)]) := ((bx'.out.far (p := ⟨ga, j * 3, none⟩) (bx'.out.type_ne hkb.out (by decide)) _).far (p := ⟨ga, j * 3 + 1, none⟩) (bx'.out.type_ne hkb.out (by decide)) _).far (p := ⟨ga, j * 3 + 2, none⟩) (bx'.out.type_ne hkb.out (by decide)) _
            have S2 := hide M2
            have S3 : Hid (BookV u B ((((w1).setCell ⟨ga, j * 3, none⟩ (.bool false)).setCell ⟨ga, j * 3 + 1, none⟩ (.slice none 0 0)).setCell ⟨ga, j * 3 + 2, none⟩ (.slice (some ⟨q, 0, none⟩) 1 1)) g num (.slice (some ⟨r, 0, none⟩) es.length cR) es) := k1.out.keep fun g' t cs' _ ht hk => (((hk.below' D.out).far (p := ⟨ga, j * 3, none⟩) ((hk.below' D.out).type_ne hkb.out ht) _).far (p := ⟨ga, j * 3 + 1, none⟩) ((hk.below' D.out).type_ne hkb.out ht) _).far (p := ⟨ga, j * 3 + 2, none⟩) ((hk.below' D.out).type_ne hkb.out ht) _
            have S4 : Hid (∃ X', HeldR B ((((w1).setCell ⟨ga, j * 3, none⟩ (.bool false)).setCell ⟨ga, j * 3 + 1, none⟩ (.slice none 0 0)).setCell ⟨ga, j * 3 + 2, none⟩ (.slice (some ⟨q, 0, none⟩) 1 1)) es X' Y ∧ (∀ (i' : Nat) (e : Ent), i' < i → es[i']? = some e → Mks ((((w1).setCell ⟨ga, j * 3, none⟩ (.bool false)).setCell ⟨ga, j * 3 + 1, none⟩ (.slice none 0 0)).setCell ⟨ga, j * 3 + 2, none⟩ (.slice (some ⟨q, 0, none⟩) 1 1)) w.heap.size e.k e.n (X' i')) ∧ Mks ((((w1).setCell ⟨ga, j * 3, none⟩ (.bool false)).setCell ⟨ga, j * 3 + 1, none⟩ (.slice none 0 0)).setCell ⟨ga, j * 3 + 2, none⟩ (.slice (some ⟨q, 0, none⟩) 1 1)) w.heap.size k (j + 1) (X' i)) := by
              refine ⟨_, N3, fun i' e hi' hee => ?_, ?_⟩
              · rw [upd_ne _ _ (by omega)]
                exact (h2 i' e hi' hee).keep fun q cs _ hk => far q cs hk
              · rw [upd_same]
                exact (h3.keep fun q cs _ hk => far q cs hk).put (by omega) (Nat.le_trans hBw hq) hbq' rfl
            clear bx b1 k1 X1 hbq' far N1 N2 N3 M1 M2 h1 h2 h3 h1' hz z0 z1 z2 f0 f1 f2 y0 y2 bx' hbq hkb hka D hq hlr hlc eW
            go_wp2
            go_roundw
            case rel => exact ⟨j + 1, by omega, by go_num, S1, S2, S3, S4⟩
            case measure => simp [intOf]; omega
        · obtain rfl : j = n := by omega
          go_wp2
          go_roundw
          case rel =>
            refine ⟨i + 1, by omega, by go_num, b1, k1, ?_⟩
            obtain ⟨X', h1, h2, h3⟩ := X1.out
            refine ⟨X', h1, fun i' e hi' hee => ?_⟩
            by_cases hii : i' = i
            · subst hii
              rw [he.out] at hee
              cases hee
              exact h3
            · exact h2 i' e (by omega) hee
          case measure => simp [intOf]; omega
    · obtain rfl : i = es.length := by omega
      go_wp2
      go_end0
      obtain ⟨X', h1, h2⟩ := hX.out
      exact opq_end hR ⟨⟨_, rfl⟩, hbel.out, bk1.out, X', h1, fun i e he => h2 i e (List.getElem?_eq_some_iff.1 he).1 he⟩
/-- Memory below B stays, and all blocks but of fractions and of the row of them that is held. -/
structure BelR (B : Nat) (w w' : World) : Prop where
  base : Below B w w'
  keep : ∀ b t cs, t ≠ TR → t ≠ THR → Blk w b t cs → Blk w' b t cs
theorem BelR.refl (B : Nat) (w : World) : BelR B w w := ⟨Below.refl _ _, fun _ _ _ _ _ h => h⟩
theorem BelR.size {B : Nat} {w w' : World} (h : BelR B w w') : w.heap.size ≤ w'.heap.size := h.base.size
theorem BelR.below {B : Nat} {w w1 w2 : World} (h : BelR B w w1) (k : Below w1.heap.size w1 w2) (hB : B ≤ w1.heap.size) : BelR B w w2 := ⟨h.base.trans (k.mono hB), fun b t cs h1 h2 hk => (h.keep b t cs h1 h2 hk).below' k⟩
theorem BelR.setCell {B g j : Nat} {w w' : World} {cs : Array Value} (h : BelR B w w') (hk : Blk w' g THR cs) (hg : B ≤ g) (u : Value) : BelR B w (w'.setCell ⟨g, j, none⟩ u) :=
  ⟨h.base.setCell (p := ⟨g, j, none⟩) hg u, fun b t cs' h1 h2 hk' => (h.keep b t cs' h1 h2 hk').far (p := ⟨g, j, none⟩) ((h.keep b t cs' h1 h2 hk').type_ne hk h2) u⟩
theorem BelR.push {B : Nat} {w w1 w2 : World} {A : Option Addr} {n c : Nat} {xs : List Value} (h : BelR B w w1) (hl : RRow B w1 A n c xs) (hg : w1.grownBy w2 (blkOf A c)) (hB : B ≤ w1.heap.size) : BelR B w w2 :=
  ⟨h.base.trans (hl.base hg hB), fun b t cs h1 h2 hk => hl.other hg h1 (h.keep b t cs h1 h2 hk)⟩
/-- The first i entries are grown. -/
structure GrownR (w : World) (lo : Nat) (es : List Ent) (i : Nat) (es' : List Ent) (Y : Nat → List Value) : Prop where
  len : es'.length = es.length
  same : ∀ (j : Nat) (e' : Ent), es'[j]? = some e' → ∃ e, es[j]? = some e ∧ e'.A = e.A ∧ e'.n = e.n ∧ e'.c = e.c ∧ e'.k = e.k
  done : ∀ (j : Nat) (e' : Ent), j < i → es'[j]? = some e' → e'.m = e'.n + 40 ∧ Mks w lo e'.k (e'.n + 40) (Y j)
theorem GrownR.keep {w w' : World} {lo i : Nat} {es es' : List Ent} {Y : Nat → List Value} (h : GrownR w lo es i es' Y) (k : ∀ g cs, Blk w g T32 cs → Blk w' g T32 cs) : GrownR w' lo es i es' Y :=
  ⟨h.len, h.same, fun j e' hj he => ⟨(h.done j e' hj he).1, (h.done j e' hj he).2.keep fun g cs _ hk => k g cs hk⟩⟩
set_option maxHeartbeats 2000000 in
theorem growRat_V (w : World) (B g num : Nat) (v u : Value) (es : List Ent) (X Y : Nat → List Value) (hB : B ≤ w.heap.size) (hb : BookV u B w g num v es) (hh : HeldR B w es X Y) (hes : es.length ≤ 100000) (hk : ∀ e ∈ es, e.k ≤ 100000 ∧ e.n ≤ 500000) (lo : Nat) (hlo : lo ≤ w.heap.size) (hX : ∀ i e, es[i]? = some e → Mks w lo e.k e.n (X i)) :
    Calls Tryz.prog 125 #[.pointer (some ⟨g, 0, none⟩)] w fun e w' => (∃ r, e = .returned r) ∧ BelR B w w' ∧ ∃ es' Y', BookV u B w' g num v es' ∧ HeldR B w' es' X Y' ∧ GrownR w' lo es es.length es' Y' := by
  refine opq fun R hR => ?_
  obtain ⟨RR, cR, rfl⟩ := hb.len
  have bk0 := hide hb
  have hd0 := hide hh
  have hk0 := hide hk
  have hX0 := hide hX
  replace hlo := hide hlo
  have bB := hide hB
  clear hb hh hk hB hX
  go_enter Tryz.func125, Tryz.ntmps125
  go_wp2
  go_loopw [2] (fun iv wr => ∃ (i : Nat), i ≤ es.length ∧ iv = .int .i64 (i : Nat) ∧ Hid (BelR B w wr) ∧ Hid (∃ es' Y', BookV u B wr g num (.slice RR es.length cR) es' ∧ HeldR B wr es' X Y' ∧ GrownR wr lo es i es' Y')) (fun iv _ => es.length - (intOf iv).toNat)
  case atStart => exact ⟨0, by omega, rfl, BelR.refl _ _, es, Y, bk0.out, hd0.out, rfl, fun j e' h => ⟨e', h, rfl, rfl, rfl, rfl⟩, fun j e' h => by omega⟩
  case round =>
    obtain ⟨i, hi, rfl, hbel, hX⟩ := hrel
    obtain ⟨es', Y', bk1, hd1, gr1⟩ := hX.out
    have bk1 := hide bk1
    have hd1 := hide hd1
    have gr1 := hide gr1
    clear hX
    have c2 := bk1.out.blk.at_ 8 rfl
    by_cases hlt : i < es.length
    · obtain ⟨e, he0⟩ : ∃ e, es'[i]? = some e := ⟨_, List.getElem?_eq_getElem (by rw [gr1.out.len]; exact hlt)⟩
      have he := hide he0
      obtain ⟨r, c', cur, e1, hr, hkr, _, x0, x1, x2⟩ := bk1.out.ent he0
      clear he0
      obtain ⟨rfl, e2, e3⟩ := Value.slice.inj e1
      clear e1 e2 e3
      have hkr := hide hkr
      obtain ⟨e0, f0, f1, f2, f3, f4⟩ := gr1.out.same _ _ he.out
      obtain ⟨q1, q2⟩ := hk0.out _ (List.mem_of_getElem? f0)
      have hXi := hide (hX0.out _ _ f0)
      rw [← f2, ← f4] at hXi
      rw [← f4] at q1
      rw [← f2] at q2
      clear f0 f1 f2 f3 f4 e0
      obtain ⟨A, n, c, L, m, d, k⟩ := e
      dsimp only at x0 x1 x2 q1 q2 hXi
      go_wp2
      obtain ⟨p0, hp0⟩ : ∃ p0, wr.heap.size = p0 := ⟨_, rfl⟩
      obtain ⟨V, hV⟩ : ∃ V, wr.alloc (.cells #[.slice A n c, .slice L m d, .int .i64 (k : Nat)] THR) = V := ⟨_, rfl⟩
      have bx : Hid (Blk V p0 THR #[.slice A n c, .slice L m d, .int .i64 (k : Nat)]) := by
        rw [← hV, ← hp0]; exact Blk.new _ _ _
      have b1 : Hid (BelR B w V) := by
        rw [← hV]; exact hbel.out.below ((Below.refl _ _).alloc (Nat.le_refl _) _) (Nat.le_trans bB.out hbel.out.size)
      have k1 : Hid (BookV u B V g num (.slice (some ⟨r, 0, none⟩) es.length cR) es') := by
        rw [← hV]; exact bk1.out.keep fun g t cs _ _ hk => hk.alloc _
      have X1 : Hid (∃ ys, HeldR B V (es'.set i ⟨A, n, c, A, n + 0, c, k⟩) X (upd Y' i ys) ∧ Mks V lo k (n + 0) ys) := by
        have h1 : HeldR B V es' X Y' := by rw [← hV]; exact hd1.out.keep fun g cs _ hk => hk.alloc _
        refine ⟨X i, h1.start he.out, hXi.out.keep fun q cs _ hk => b1.out.keep q _ cs (by decide) (by decide) hk⟩
      have gr2 : Hid (GrownR V lo es i es' Y') := gr1.out.keep fun g cs hk => by rw [← hV]; exact hk.alloc _
      rw [hp0, hV]
      clear hV hp0 hbel bk1 hd1 x0 x1 x2 c2 hkr
      clear gr1
      go_loopw [4, 5] (fun tv jv wj => ∃ (j : Nat) (A' : Option Addr) (c' : Nat), j ≤ 40 ∧ jv = .int .i64 (j : Nat) ∧ tv = .slice A' (n + j) c' ∧ Hid (Blk wj p0 THR #[.slice A n c, .slice L m d, .int .i64 (k : Nat)]) ∧ Hid (BelR B w wj) ∧ Hid (BookV u B wj g num (.slice (some ⟨r, 0, none⟩) es.length cR) es') ∧ Hid (∃ ys, HeldR B wj (es'.set i ⟨A, n, c, A', n + j, c', k⟩) X (upd Y' i ys) ∧ Mks wj lo k (n + j) ys) ∧ Hid (GrownR wj lo es i es' Y')) (fun _ jv _ => 40 - (intOf jv).toNat)
      case atStart => exact ⟨0, A, c, by omega, rfl, rfl, bx, b1, k1, X1, gr2⟩
      case round =>
        clear bx b1 k1 X1 gr2
        obtain ⟨j, A', c', hj, rfl, rfl, bx, b1, k1, X1, gr1⟩ := hrel
        have y2 := bx.out.at_ 2 rfl
        by_cases hlj : j < 40
        · have S0 := hide (Nat.le_trans bB.out b1.out.size)
          go_wp2_with fail
          refine (markRat_ok _ k q1).mono ?_
          rintro e w1 ⟨q, rfl, d1, hq, hbq⟩
          have y1 := hide ((Below.refl w1.heap.size w1).alloc (Nat.le_refl _) (.cells #[.bool false, .slice none 0 0, .slice (some ⟨q, 0, none⟩) 1 1] TR))
          have D := hide (below_tr d1 y1.out)
          have KA := hide (Blk.new w1 TR #[.bool false, .slice none 0 0, .slice (some ⟨q, 0, none⟩) 1 1])
          have S1 : Hid (Blk (w1.alloc (.cells #[.bool false, .slice none 0 0, .slice (some ⟨q, 0, none⟩) 1 1] TR)) p0 THR #[.slice A n c, .slice L m d, .int .i64 (k : Nat)]) := bx.out.below' D.out
          have S2 : Hid (BelR B w (w1.alloc (.cells #[.bool false, .slice none 0 0, .slice (some ⟨q, 0, none⟩) 1 1] TR))) := b1.out.below D.out S0.out
          have S3 : Hid (BookV u B (w1.alloc (.cells #[.bool false, .slice none 0 0, .slice (some ⟨q, 0, none⟩) 1 1] TR)) g num (.slice (some ⟨r, 0, none⟩) es.length cR) es') := k1.out.keep fun g t cs' _ _ hk => hk.below' D.out
          obtain ⟨ys, X2, M2⟩ := X1.out
          have S4 : Hid (HeldR B (w1.alloc (.cells #[.bool false, .slice none 0 0, .slice (some ⟨q, 0, none⟩) 1 1] TR)) (es'.set i ⟨A, n, c, A', n + j, c', k⟩) X (upd Y' i ys)) := X2.keep fun g cs _ hk => hk.below' D.out
          have S5 : Hid ((es'.set i ⟨A, n, c, A', n + j, c', k⟩)[i]? = some ⟨A, n, c, A', n + j, c', k⟩) := by
            show _ = _
            rw [List.getElem?_set_self (List.getElem?_eq_some_iff.1 he.out).1]
          have S6 : Hid (RRow B (w1.alloc (.cells #[.bool false, .slice none 0 0, .slice (some ⟨q, 0, none⟩) 1 1] TR)) A' (n + j) c' ys) := by
            have := S4.out.l _ _ S5.out
            rw [upd_same] at this
            exact this
          have S8 : Hid (B ≤ (w1.alloc (.cells #[.bool false, .slice none 0 0, .slice (some ⟨q, 0, none⟩) 1 1] TR)).heap.size) := Nat.le_trans bB.out S2.out.size
          have S9 : Hid (Mks (w1.alloc (.cells #[.bool false, .slice none 0 0, .slice (some ⟨q, 0, none⟩) 1 1] TR)) lo k (n + j) ys) := M2.keep fun q cs _ hk => hk.below' D.out
          have SG : Hid (GrownR (w1.alloc (.cells #[.bool false, .slice none 0 0, .slice (some ⟨q, 0, none⟩) 1 1] TR)) lo es i es' Y') := gr1.out.keep fun g cs hk => hk.below' D.out
          have hbq' : Hid (Blk (w1.alloc (.cells #[.bool false, .slice none 0 0, .slice (some ⟨q, 0, none⟩) 1 1] TR)) q T32 #[mk32 k]) := hbq.below' y1.out
          have hql : Hid (lo ≤ q) := Nat.le_trans hlo.out (Nat.le_trans b1.out.size hq)
          clear bx b1 k1 X1 gr1 X2 M2 d1 hq hbq y1 D y2
          go_wp2_with (at_builtin; refine wpList_app1R (P := Tryz.prog) (t := 56) (by kernel_rfl) infoR rfl _ _ rfl S6.out rfl S8.out (by omega) _ _ _ (one3 _ _ _ _ _ _ _) _ 1 rfl (blk_news KA.out) ?_; intro A2 c2 w2 r1 r2 r3 r4)
          go_roundw
          case rel =>
            have P1 := S4.out.push S5.out (A' := A2) (c' := c2) (x := [.bool false, .slice none 0 0, .slice (some ⟨q, 0, none⟩) 1 1]) (by rw [upd_same]; exact r1.out) r2.out r3.out r4.out
            rw [upd_same, List.set_set, upd_upd] at P1
            exact ⟨j + 1, A2, c2, by omega, by go_num, rfl, S6.out.other r2.out (by decide) S1.out, S2.out.push S6.out r2.out S8.out,
              ⟨S6.out.other r2.out (by decide) S3.out.blk, S3.out.own, own_keepT S3.out.row fun r cs hk => S6.out.other r2.out (by decide) hk⟩,
              ⟨_, P1, (S9.out.keep fun q cs _ hk => S6.out.other r2.out (by decide) hk).snoc S6.out.len hql.out (S6.out.other r2.out (by decide) hbq'.out) rfl⟩, SG.out.keep fun g cs hk => S6.out.other r2.out (by decide) hk⟩
          case measure => simp [intOf]; omega
        · obtain rfl : j = 40 := by omega
          obtain ⟨cu, hcu⟩ : ∃ cu, Hid (Blk wr r THR cu ∧ i * 3 + 1 < cu.size) := by
            obtain ⟨r', c', cur', e1, _, hkr, _, _, x1, _⟩ := k1.out.ent he.out
            obtain ⟨e2, _, _⟩ := Value.slice.inj e1
            cases e2
            rw [hkr.cell] at x1
            exact ⟨cur', hkr, (Array.getElem?_eq_some_iff.1 x1).1⟩
          have x1 := hcu.out.1.at_ (i * 3 + 1) (Array.getElem?_eq_getElem hcu.out.2)
          have xf := hcu.out.1.frozen (i * 3 + 1)
          have c2 := k1.out.blk.at_ 8 rfl
          go_wp2
          go_roundw
          case rel =>
            have U1 := k1.out.setL he.out A' (n + 40) c'
            have hbr : B ≤ r := hr
            obtain ⟨ys, X2, M2⟩ := X1.out
            have far : ∀ t, t ≠ THR → ∀ g cs, Blk wr g t cs → Blk (wr.setCell ⟨r, i * 3 + 1, none⟩ (.slice A' (n + 40) c')) g t cs := fun t ht g cs hk => hk.far (p := ⟨r, i * 3 + 1, none⟩) (hk.type_ne hcu.out.1 ht) _
            refine ⟨i + 1, by omega, by go_num, b1.out.setCell hcu.out.1 hbr _, _, _, U1, X2.keep fun g cs _ hk => far _ (by decide) g cs hk, ?_, ?_, ?_⟩
            · rw [List.length_set]; exact gr1.out.len
            · intro j e' h
              rcases get_set_cases h with ⟨rfl, rfl⟩ | ⟨_, h1⟩
              · obtain ⟨e0, s1, s2⟩ := gr1.out.same _ _ he.out
                exact ⟨e0, s1, s2⟩
              · exact gr1.out.same _ _ h1
            · intro j e' hj h
              rcases get_set_cases h with ⟨rfl, rfl⟩ | ⟨hne, h1⟩
              · exact ⟨rfl, by rw [upd_same]; exact M2.keep fun q cs _ hk => far _ (by decide) q cs hk⟩
              · rw [upd_ne _ _ hne]
                have := gr1.out.done _ _ (by omega) h1
                exact ⟨this.1, this.2.keep fun q cs _ hk => far _ (by decide) q cs hk⟩
          case measure => simp [intOf]; omega
    · obtain rfl : i = es.length := by omega
      go_wp2
      go_end0
      exact opq_end hR ⟨⟨_, rfl⟩, hbel.out, es', Y', bk1.out, hd1.out, gr1.out⟩
end Go.Proofs.YtkefmeddnncacaaGreatDoor

/- the laws' Book: each list of fractions that is held is looked at. -/
set_option linter.unusedVariables false
set_option linter.unusedSimpArgs false
set_option maxRecDepth 100000
namespace Go.Proofs.YtkefmeddnncacaaGreatDoor
open Go.RowKit

theorem RRow.mark {B : Nat} {w : World} {A : Option Addr} {n c lo k : Nat} {xs : List Value} (h : RRow B w A n c xs) (m : Mks w lo k n xs) {j : Nat} (hj : j < n) :
    ∃ g q d cs, A = some ⟨g, 0, none⟩ ∧ w.cell? ⟨g, j * 3, none⟩ = some (.bool false) ∧ w.cell? ⟨g, j * 3 + 1, none⟩ = some (.slice none 0 0) ∧ w.cell? ⟨g, j * 3 + 2, none⟩ = some (.slice (some ⟨q, 0, none⟩) 1 d) ∧ Hid (Blk w q T32 cs) ∧ Hid (cs[0]? = some (mk32 k)) := by
  obtain ⟨h0, h1, q, d, cs, h2, h3, h4, h5⟩ := m j hj
  obtain ⟨g, e, _, _, _, c0, _⟩ := h.at_ (i := j * 3) (by omega)
  obtain ⟨g1, e1, _, _, _, c1, _⟩ := h.at_ (i := j * 3 + 1) (by omega)
  obtain ⟨g2, e2, _, _, _, c2, _⟩ := h.at_ (i := j * 3 + 2) (by omega)
  rw [e] at e1 e2
  cases e1
  cases e2
  exact ⟨g, q, d, cs, e, by rw [c0, h0], by rw [c1, h1], by rw [c2, h2], h4, h5⟩
theorem fbk_assayerlaw01_isRat (args : Array Value) (w : World) : (callFunc 241 args).run Tryz.prog w = .ok (.enter 241 args) w := callFunc_enter Tryz.func241 (by kernel_rfl) rfl args w
set_option maxHeartbeats 2000000 in
theorem lookRat_V (w : World) (B g num : Nat) (v u : Value) (es : List Ent) (X Y : Nat → List Value) (hB : B ≤ w.heap.size) (hb : BookV u B w g num v es) (hh : HeldR B w es X Y) (hes : es.length ≤ 100000)
    (lo : Nat)
    (hk : ∀ (i : Nat) (e : Ent), es[i]? = some e → e.k ≤ 100000 ∧ e.n ≤ 500000 ∧ e.m = e.n + 40 ∧ Mks w lo e.k e.n (X i) ∧ Mks w lo e.k e.m (Y i)) :
    Calls Tryz.prog 137 #[.pointer (some ⟨g, 0, none⟩)] w fun e w' => e = .returned (.bool true) ∧ BelA B w w' ∧ BookV u B w' g num v es := by
  refine opq fun R hR => ?_
  obtain ⟨RR, cR, rfl⟩ := hb.len
  have bk0 := hide hb
  have hd0 := hide hh
  have hk0 := hide hk
  have bB := hide hB
  clear hb hh hk hB
  go_enter Tryz.func137, Tryz.ntmps137
  go_wp2
  go_loopw [3] (fun iv wr => ∃ (i : Nat), i ≤ es.length ∧ iv = .int .i64 (i : Nat) ∧ Hid (BelA B w wr) ∧ Hid (BookV u B wr g num (.slice RR es.length cR) es) ∧ Hid (HeldR B wr es X Y)) (fun iv _ => es.length - (intOf iv).toNat)
  case atStart => exact ⟨0, by omega, rfl, BelA.refl _ _, bk0, hd0⟩
  case round =>
    obtain ⟨i, hi, rfl, hbel, bk1, hd1⟩ := hrel
    have c2 := bk1.out.blk.at_ 8 rfl
    by_cases hlt : i < es.length
    · obtain ⟨e, he0⟩ : ∃ e, es[i]? = some e := ⟨_, List.getElem?_eq_getElem hlt⟩
      have he := hide he0
      obtain ⟨r, c', cur, e1, hr, hkr, _, x0, x1, x2⟩ := bk1.out.ent he0
      obtain ⟨q1, q2, q3, q4, q5⟩ := hk0.out _ _ he0
      clear he0
      obtain ⟨rfl, e2, e3⟩ := Value.slice.inj e1
      clear e1 e2 e3
      have hkr := hide hkr
      obtain ⟨A, n, c, L, m, d, k⟩ := e
      dsimp only at x0 x1 x2 q1 q2 q3 q4 q5
      subst q3
      replace q4 := hide q4
      replace q5 := hide q5
      go_wp2
      obtain ⟨p0, hp0⟩ : ∃ p0, wr.heap.size = p0 := ⟨_, rfl⟩
      obtain ⟨V, hV⟩ : ∃ V, wr.alloc (.cells #[.slice A n c, .slice L (n + 40) d, .int .i64 (k : Nat)] THR) = V := ⟨_, rfl⟩
      have bx : Hid (Blk V p0 THR #[.slice A n c, .slice L (n + 40) d, .int .i64 (k : Nat)]) := by
        rw [← hV, ← hp0]; exact Blk.new _ _ _
      have b1 : Hid (BelA B w V) := by
        rw [← hV]; exact hbel.out.alloc (Nat.le_trans bB.out hbel.out.size) _
      have k1 : Hid (BookV u B V g num (.slice (some ⟨r, 0, none⟩) es.length cR) es) := by
        rw [← hV]; exact bk1.out.keep fun g t cs _ _ hk => hk.alloc _
      have X1 : Hid (HeldR B V es X Y) := by
        rw [← hV]; exact hd1.out.keep fun g cs _ hk => hk.alloc _
      rw [hp0, hV]
      clear hV hp0 hbel bk1 hd1 x0 x1 x2 c2 hkr
      go_loopw [5] (fun jv wj => ∃ (j : Nat), j ≤ n + 40 ∧ jv = .int .i64 (j : Nat) ∧ Hid (Blk wj p0 THR #[.slice A n c, .slice L (n + 40) d, .int .i64 (k : Nat)]) ∧ Hid (BelA B w wj) ∧ Hid (BookV u B wj g num (.slice (some ⟨r, 0, none⟩) es.length cR) es) ∧ Hid (HeldR B wj es X Y)) (fun jv _ => n + 40 - (intOf jv).toNat)
      case atStart => exact ⟨0, by omega, rfl, bx, b1, k1, X1⟩
      case round =>
        clear bx b1 k1 X1
        obtain ⟨j, hj, rfl, bx, b1, k1, X1⟩ := hrel
        have y0 := bx.out.at_ 0 rfl
        have y1 := bx.out.at_ 1 rfl
        have y2 := bx.out.at_ 2 rfl
        by_cases hlj : j < n + 40
        · obtain ⟨gl, ql, dl, csl, rfl, z0, z1, z2, hbl, hcl⟩ := (X1.out.l _ _ he.out).mark (q5.out.keep fun q cs _ hk => b1.out.keep q _ cs hk) (j := j) hlj
          by_cases hln : j < n
          · obtain ⟨ga, qa, da, csa, rfl, v0, v1, v2, hba, hca⟩ := (X1.out.a _ _ he.out).mark (q4.out.keep fun q cs _ hk => b1.out.keep q _ cs hk) (j := j) hln
            have hdl : decide ((j : Int) < (n : Int)) = true := by simpa using hln
            have H0 := hide y0
            have H1 := hide y1
            have H2 := hide y2
            have L0 := hide z0
            have L1 := hide z1
            have L2 := hide z2
            have A0 := hide v0
            have A1 := hide v1
            have A2 := hide v2
            have hlj2 : ¬ ((n : Int) + 40 ≤ (j : Int)) := by omega
            go_wp2
            refine wp_region_facts 27 (fun w' => Below wr.heap.size wr w') [(37, .eq ((.pointer (some ⟨p0, 1, none⟩) : Value))), (38, .eq (.slice (some ⟨gl, 0, none⟩) (n + 40) d)), (39, .eq (.int .i64 (j : Nat))), (40, .eq ((.pointer (some ⟨gl, j * 3, none⟩) : Value))), (41, .eq (.agg #[.bool false, .slice none 0 0, .slice (some ⟨ql, 0, none⟩) 1 dl])), (42, .eq ((.pointer (some ⟨p0, 2, none⟩) : Value))), (43, .eq (.int .i64 (k : Nat))), (44, .eq (.bool true)), (45, .eq (.bool false)), (46, .eq (.bool false)), (47, .eq (.int .i64 (j : Nat))), (48, .eq ((.pointer (some ⟨p0, 0, none⟩) : Value))), (49, .eq (.slice (some ⟨ga, 0, none⟩) n c)), (50, .eq (.int .i64 (n : Nat))), (51, .eq (.bool true)), (52, .eq (.bool true)), (53, .eq ((.pointer (some ⟨p0, 0, none⟩) : Value))), (54, .eq (.slice (some ⟨ga, 0, none⟩) n c)), (55, .eq (.int .i64 (j : Nat))), (56, .eq ((.pointer (some ⟨ga, j * 3, none⟩) : Value))), (57, .eq (.agg #[.bool false, .slice none 0 0, .slice (some ⟨qa, 0, none⟩) 1 da])), (58, .eq ((.pointer (some ⟨p0, 2, none⟩) : Value))), (59, .eq (.int .i64 (k : Nat))), (60, .eq (.bool true)), (61, .eq (.bool false)), (62, .eq (.bool false)), (63, .eq (.bool false))] [false, false, false, false, false, false, false, false, false, false, false, false, false, false, false, false, false, false, false, false, false, false, false, false, false, false, false, false, false, false, false, false, false, false, false, false, false, true, true, true, true, true, true, true, true, true, true, true, true, true, true, true, true, true, true, true, true, true, true, true, true, true, true, true] mixed (by kernel_rfl) (by kernel_rfl) (by kernel_rfl) (fun _ _ h hb => h.trans (hb.mono h.size)) ((Below.refl _ _).drew) ⟨?_, ?_, ?_, ?_, ?_, ?_, ?_, ?_, ?_, ?_, ?_, ?_, ?_, ?_, ?_, ?_, ?_, ?_, ?_, ?_, ?_, ?_, ?_, ?_, ?_, ?_, ?_, trivial⟩ ?_
            · exact .fieldAddr (.inl rfl) rfl rfl rfl (fun a w' hC hs hl => by rw [show a.eval (.tmp 4) = (.pointer (some ⟨p0, 0, none⟩) : Value) from (hs 4 (by kernel_rfl))]; simp [go_sem])
            · exact .load (.slice (some ⟨gl, 0, none⟩) (n + 40) d) (.inl rfl) rfl rfl (fun a w' hC hs hl => by rw [show a.eval (.tmp 37) = (.pointer (some ⟨p0, 1, none⟩) : Value) from (hl 37 (by kernel_rfl) (by kernel_rfl))]; exact ⟨by simp [go_sem, cell_below hC H1.out], rfl⟩)
            · exact .moveC (.inl rfl) (.inl rfl) rfl (fun a w' hC hs => (hs 5 (by kernel_rfl)))
            · exact .value (.inl rfl) (by intro T e; cases e) rfl rfl (fun a w' hC hs hl => by
                have e0 : a.eval (.tmp 38) = (.slice (some ⟨gl, 0, none⟩) (n + 40) d) := (hl 38 (by kernel_rfl) (by kernel_rfl))
                have e1 : a.eval (.tmp 39) = (.int .i64 (j : Nat)) := (hl 39 (by kernel_rfl) (by kernel_rfl))
                simp only [execOp, e0, e1]
                simp [go_sem, hlj2])
            · exact .load (.agg #[.bool false, .slice none 0 0, .slice (some ⟨ql, 0, none⟩) 1 dl]) (.inl rfl) rfl rfl (fun a w' hC hs hl => by rw [show a.eval (.tmp 40) = (.pointer (some ⟨gl, j * 3, none⟩) : Value) from (hl 40 (by kernel_rfl) (by kernel_rfl))]; exact ⟨by simp [go_sem, cell_below hC L0.out, cell_below hC L1.out, cell_below hC L2.out], rfl⟩)
            · exact .fieldAddr (.inl rfl) rfl rfl rfl (fun a w' hC hs hl => by rw [show a.eval (.tmp 4) = (.pointer (some ⟨p0, 0, none⟩) : Value) from (hs 4 (by kernel_rfl))]; simp [go_sem])
            · exact .load (.int .i64 (k : Nat)) (.inl rfl) rfl rfl (fun a w' hC hs hl => by rw [show a.eval (.tmp 42) = (.pointer (some ⟨p0, 2, none⟩) : Value) from (hl 42 (by kernel_rfl) (by kernel_rfl))]; exact ⟨by simp [go_sem, cell_below hC H2.out], rfl⟩)
            · exact .call (.inl rfl) rfl rfl fbk_assayerlaw01_isRat (fun a w' hC hs hl => by
                show Calls _ _ #[a.eval (.tmp 41), a.eval (.tmp 43)] _ _
                rw [show a.eval (.tmp 41) = (.agg #[.bool false, .slice none 0 0, .slice (some ⟨ql, 0, none⟩) 1 dl] : Value) from (hl 41 (by kernel_rfl) (by kernel_rfl)), show a.eval (.tmp 43) = (.int .i64 (k : Nat) : Value) from (hl 43 (by kernel_rfl) (by kernel_rfl))]
                exact (isRat_ok w' k q1 _ _ _ (hbl.out.below' hC) hcl.out).mono fun e w'' ⟨h1, h2⟩ => ⟨_, h1, h2, rfl⟩)
            · exact .value (.inl rfl) (by intro T e; cases e) rfl rfl (fun a w' hC hs hl => by
                have e0 : a.eval (.tmp 44) = (.bool true) := (hl 44 (by kernel_rfl) (by kernel_rfl))
                simp only [execOp, e0]
                skip
                simp [go_sem] <;> rfl)
            · exact .move (.inl rfl) (.inl rfl) rfl (by kernel_rfl) (by kernel_rfl) rfl
            · exact .moveC (.inr ⟨9, false, 46, by decide, rfl, rfl, rfl⟩) (.inl rfl) rfl (fun a w' hC hs => (hs 5 (by kernel_rfl)))
            · exact .fieldAddr (.inr ⟨9, false, 46, by decide, rfl, rfl, rfl⟩) rfl rfl rfl (fun a w' hC hs hl => by rw [show a.eval (.tmp 4) = (.pointer (some ⟨p0, 0, none⟩) : Value) from (hs 4 (by kernel_rfl))]; simp [go_sem])
            · exact .load (.slice (some ⟨ga, 0, none⟩) n c) (.inr ⟨9, false, 46, by decide, rfl, rfl, rfl⟩) rfl rfl (fun a w' hC hs hl => by rw [show a.eval (.tmp 48) = (.pointer (some ⟨p0, 0, none⟩) : Value) from (hl 48 (by kernel_rfl) (by kernel_rfl))]; exact ⟨by simp [go_sem, cell_below hC H0.out], rfl⟩)
            · exact .value (.inr ⟨9, false, 46, by decide, rfl, rfl, rfl⟩) (by intro T e; cases e) rfl rfl (fun a w' hC hs hl => by
                have e0 : a.eval (.tmp 49) = (.slice (some ⟨ga, 0, none⟩) n c) := (hl 49 (by kernel_rfl) (by kernel_rfl))
                have e0' : a.tmps[49]?.getD undef = _ := (by simp [Act.eval] : _ = a.eval (.tmp 49)).trans e0
                simp [execOp, resolve, invoke, builtin, go_sem, e0, e0'])
            · exact .value (.inr ⟨9, false, 46, by decide, rfl, rfl, rfl⟩) (by intro T e; cases e) rfl rfl (fun a w' hC hs hl => by
                have e0 : a.eval (.tmp 47) = (.int .i64 (j : Nat)) := (hl 47 (by kernel_rfl) (by kernel_rfl))
                have e1 : a.eval (.tmp 50) = (.int .i64 (n : Nat)) := (hl 50 (by kernel_rfl) (by kernel_rfl))
                simp only [execOp, e0, e1]
                skip
                simp [go_sem, hln])
            · exact .move (.inr ⟨9, false, 46, by decide, rfl, rfl, rfl⟩) (.inl rfl) rfl (by kernel_rfl) (by kernel_rfl) rfl
            · exact .fieldAddr (.inr ⟨15, true, 52, by decide, rfl, rfl, rfl⟩) rfl rfl rfl (fun a w' hC hs hl => by rw [show a.eval (.tmp 4) = (.pointer (some ⟨p0, 0, none⟩) : Value) from (hs 4 (by kernel_rfl))]; simp [go_sem])
            · exact .load (.slice (some ⟨ga, 0, none⟩) n c) (.inr ⟨15, true, 52, by decide, rfl, rfl, rfl⟩) rfl rfl (fun a w' hC hs hl => by rw [show a.eval (.tmp 53) = (.pointer (some ⟨p0, 0, none⟩) : Value) from (hl 53 (by kernel_rfl) (by kernel_rfl))]; exact ⟨by simp [go_sem, cell_below hC H0.out], rfl⟩)
            · exact .moveC (.inr ⟨15, true, 52, by decide, rfl, rfl, rfl⟩) (.inl rfl) rfl (fun a w' hC hs => (hs 5 (by kernel_rfl)))
            · exact .value (.inr ⟨15, true, 52, by decide, rfl, rfl, rfl⟩) (by intro T e; cases e) rfl rfl (fun a w' hC hs hl => by
                have e0 : a.eval (.tmp 54) = (.slice (some ⟨ga, 0, none⟩) n c) := (hl 54 (by kernel_rfl) (by kernel_rfl))
                have e1 : a.eval (.tmp 55) = (.int .i64 (j : Nat)) := (hl 55 (by kernel_rfl) (by kernel_rfl))
                simp only [execOp, e0, e1]
                simp [go_sem, hln])
            · exact .load (.agg #[.bool false, .slice none 0 0, .slice (some ⟨qa, 0, none⟩) 1 da]) (.inr ⟨15, true, 52, by decide, rfl, rfl, rfl⟩) rfl rfl (fun a w' hC hs hl => by rw [show a.eval (.tmp 56) = (.pointer (some ⟨ga, j * 3, none⟩) : Value) from (hl 56 (by kernel_rfl) (by kernel_rfl))]; exact ⟨by simp [go_sem, cell_below hC A0.out, cell_below hC A1.out, cell_below hC A2.out], rfl⟩)
            · exact .fieldAddr (.inr ⟨15, true, 52, by decide, rfl, rfl, rfl⟩) rfl rfl rfl (fun a w' hC hs hl => by rw [show a.eval (.tmp 4) = (.pointer (some ⟨p0, 0, none⟩) : Value) from (hs 4 (by kernel_rfl))]; simp [go_sem])
            · exact .load (.int .i64 (k : Nat)) (.inr ⟨15, true, 52, by decide, rfl, rfl, rfl⟩) rfl rfl (fun a w' hC hs hl => by rw [show a.eval (.tmp 58) = (.pointer (some ⟨p0, 2, none⟩) : Value) from (hl 58 (by kernel_rfl) (by kernel_rfl))]; exact ⟨by simp [go_sem, cell_below hC H2.out], rfl⟩)
            · exact .call (.inr ⟨15, true, 52, by decide, rfl, rfl, rfl⟩) rfl rfl fbk_assayerlaw01_isRat (fun a w' hC hs hl => by
                show Calls _ _ #[a.eval (.tmp 57), a.eval (.tmp 59)] _ _
                rw [show a.eval (.tmp 57) = (.agg #[.bool false, .slice none 0 0, .slice (some ⟨qa, 0, none⟩) 1 da] : Value) from (hl 57 (by kernel_rfl) (by kernel_rfl)), show a.eval (.tmp 59) = (.int .i64 (k : Nat) : Value) from (hl 59 (by kernel_rfl) (by kernel_rfl))]
                exact (isRat_ok w' k q1 _ _ _ (hba.out.below' hC) hca.out).mono fun e w'' ⟨h1, h2⟩ => ⟨_, h1, h2, rfl⟩)
            · exact .value (.inr ⟨15, true, 52, by decide, rfl, rfl, rfl⟩) (by intro T e; cases e) rfl rfl (fun a w' hC hs hl => by
                have e0 : a.eval (.tmp 60) = (.bool true) := (hl 60 (by kernel_rfl) (by kernel_rfl))
                simp only [execOp, e0]
                skip
                simp [go_sem] <;> rfl)
            · exact .pick (b := true) (.inr ⟨9, false, 46, by decide, rfl, rfl, rfl⟩) rfl rfl (fun a w' hC hs hl => ⟨(hl 52 (by kernel_rfl) (by kernel_rfl)), (hl 61 (by kernel_rfl) (by kernel_rfl))⟩)
            · exact .pick (b := false) (.inl rfl) rfl rfl (fun a w' hC hs hl => ⟨(hl 46 (by kernel_rfl) (by kernel_rfl)), (hl 62 (by kernel_rfl) (by kernel_rfl))⟩)
            · intro f wz hC hF _
              have f63 : f 63 = .bool false := hF 63 (by kernel_rfl)
              clear hF
              simp only [patch, List.drop]
              rw [f63]
              clear f63
              try change wpList _ _ _ [] _ _
              generalize f 37 = y37_
              generalize f 38 = y38_
              generalize f 39 = y39_
              generalize f 40 = y40_
              generalize f 41 = y41_
              generalize f 42 = y42_
              generalize f 43 = y43_
              generalize f 44 = y44_
              generalize f 45 = y45_
              generalize f 46 = y46_
              generalize f 47 = y47_
              generalize f 48 = y48_
              generalize f 49 = y49_
              generalize f 50 = y50_
              generalize f 51 = y51_
              generalize f 52 = y52_
              generalize f 53 = y53_
              generalize f 54 = y54_
              generalize f 55 = y55_
              generalize f 56 = y56_
              generalize f 57 = y57_
              generalize f 58 = y58_
              generalize f 59 = y59_
              generalize f 60 = y60_
              generalize f 61 = y61_
              generalize f 62 = y62_
              have DD := hide hC
              have SB := b1.out.size
              have hB1 := Nat.le_trans bB.out SB
              clear y0 y1 y2 z0 z1 z2 hdl hlj2 v0 v1 v2 H0 H1 H2 L0 L1 L2 A0 A1 A2 hC
              go_wp2
              go_roundw
              case rel => exact ⟨j + 1, by omega, by go_num, bx.out.below' DD.out, b1.out.below DD.out hB1, k1.out.keep fun g t cs _ _ hk => hk.below' DD.out, X1.out.keep fun g cs _ hk => hk.below' DD.out⟩
              case measure => simp [intOf]; omega
          · have hdl : decide ((j : Int) < (n : Int)) = false := by simpa using hln
            have H0 := hide y0
            have H1 := hide y1
            have H2 := hide y2
            have L0 := hide z0
            have L1 := hide z1
            have L2 := hide z2
            have hlj2 : ¬ ((n : Int) + 40 ≤ (j : Int)) := by omega
            go_wp2
            refine wp_region_facts 27 (fun w' => Below wr.heap.size wr w') [(37, .eq ((.pointer (some ⟨p0, 1, none⟩) : Value))), (38, .eq (.slice (some ⟨gl, 0, none⟩) (n + 40) d)), (39, .eq (.int .i64 (j : Nat))), (40, .eq ((.pointer (some ⟨gl, j * 3, none⟩) : Value))), (41, .eq (.agg #[.bool false, .slice none 0 0, .slice (some ⟨ql, 0, none⟩) 1 dl])), (42, .eq ((.pointer (some ⟨p0, 2, none⟩) : Value))), (43, .eq (.int .i64 (k : Nat))), (44, .eq (.bool true)), (45, .eq (.bool false)), (46, .eq (.bool false)), (47, .eq (.int .i64 (j : Nat))), (48, .eq ((.pointer (some ⟨p0, 0, none⟩) : Value))), (49, .eq (.slice A n c)), (50, .eq (.int .i64 (n : Nat))), (51, .eq (.bool false)), (52, .eq (.bool false)), (53, .eq (undef)), (54, .eq (undef)), (55, .eq (undef)), (56, .eq (undef)), (57, .eq (undef)), (58, .eq (undef)), (59, .eq (undef)), (60, .eq (undef)), (61, .eq (undef)), (62, .eq (Go.Value.bool false)), (63, .eq (Go.Value.bool false))] [false, false, false, false, false, false, false, false, false, false, false, false, false, false, false, false, false, false, false, false, false, false, false, false, false, false, false, false, false, false, false, false, false, false, false, false, false, true, true, true, true, true, true, true, true, true, true, true, true, true, true, true, true, true, true, true, true, true, true, true, true, true, true, true] mixed (by kernel_rfl) (by kernel_rfl) (by kernel_rfl) (fun _ _ h hb => h.trans (hb.mono h.size)) ((Below.refl _ _).drew) ⟨?_, ?_, ?_, ?_, ?_, ?_, ?_, ?_, ?_, ?_, ?_, ?_, ?_, ?_, ?_, ?_, ?_, ?_, ?_, ?_, ?_, ?_, ?_, ?_, ?_, ?_, ?_, trivial⟩ ?_
            · exact .fieldAddr (.inl rfl) rfl rfl rfl (fun a w' hC hs hl => by rw [show a.eval (.tmp 4) = (.pointer (some ⟨p0, 0, none⟩) : Value) from (hs 4 (by kernel_rfl))]; simp [go_sem])
            · exact .load (.slice (some ⟨gl, 0, none⟩) (n + 40) d) (.inl rfl) rfl rfl (fun a w' hC hs hl => by rw [show a.eval (.tmp 37) = (.pointer (some ⟨p0, 1, none⟩) : Value) from (hl 37 (by kernel_rfl) (by kernel_rfl))]; exact ⟨by simp [go_sem, cell_below hC H1.out], rfl⟩)
            · exact .moveC (.inl rfl) (.inl rfl) rfl (fun a w' hC hs => (hs 5 (by kernel_rfl)))
            · exact .value (.inl rfl) (by intro T e; cases e) rfl rfl (fun a w' hC hs hl => by
                have e0 : a.eval (.tmp 38) = (.slice (some ⟨gl, 0, none⟩) (n + 40) d) := (hl 38 (by kernel_rfl) (by kernel_rfl))
                have e1 : a.eval (.tmp 39) = (.int .i64 (j : Nat)) := (hl 39 (by kernel_rfl) (by kernel_rfl))
                simp only [execOp, e0, e1]
                simp [go_sem, hlj2])
            · exact .load (.agg #[.bool false, .slice none 0 0, .slice (some ⟨ql, 0, none⟩) 1 dl]) (.inl rfl) rfl rfl (fun a w' hC hs hl => by rw [show a.eval (.tmp 40) = (.pointer (some ⟨gl, j * 3, none⟩) : Value) from (hl 40 (by kernel_rfl) (by kernel_rfl))]; exact ⟨by simp [go_sem, cell_below hC L0.out, cell_below hC L1.out, cell_below hC L2.out], rfl⟩)
            · exact .fieldAddr (.inl rfl) rfl rfl rfl (fun a w' hC hs hl => by rw [show a.eval (.tmp 4) = (.pointer (some ⟨p0, 0, none⟩) : Value) from (hs 4 (by kernel_rfl))]; simp [go_sem])
            · exact .load (.int .i64 (k : Nat)) (.inl rfl) rfl rfl (fun a w' hC hs hl => by rw [show a.eval (.tmp 42) = (.pointer (some ⟨p0, 2, none⟩) : Value) from (hl 42 (by kernel_rfl) (by kernel_rfl))]; exact ⟨by simp [go_sem, cell_below hC H2.out], rfl⟩)
            · exact .call (.inl rfl) rfl rfl fbk_assayerlaw01_isRat (fun a w' hC hs hl => by
                show Calls _ _ #[a.eval (.tmp 41), a.eval (.tmp 43)] _ _
                rw [show a.eval (.tmp 41) = (.agg #[.bool false, .slice none 0 0, .slice (some ⟨ql, 0, none⟩) 1 dl] : Value) from (hl 41 (by kernel_rfl) (by kernel_rfl)), show a.eval (.tmp 43) = (.int .i64 (k : Nat) : Value) from (hl 43 (by kernel_rfl) (by kernel_rfl))]
                exact (isRat_ok w' k q1 _ _ _ (hbl.out.below' hC) hcl.out).mono fun e w'' ⟨h1, h2⟩ => ⟨_, h1, h2, rfl⟩)
            · exact .value (.inl rfl) (by intro T e; cases e) rfl rfl (fun a w' hC hs hl => by
                have e0 : a.eval (.tmp 44) = (.bool true) := (hl 44 (by kernel_rfl) (by kernel_rfl))
                simp only [execOp, e0]
                skip
                simp [go_sem] <;> rfl)
            · exact .move (.inl rfl) (.inl rfl) rfl (by kernel_rfl) (by kernel_rfl) rfl
            · exact .moveC (.inr ⟨9, false, 46, by decide, rfl, rfl, rfl⟩) (.inl rfl) rfl (fun a w' hC hs => (hs 5 (by kernel_rfl)))
            · exact .fieldAddr (.inr ⟨9, false, 46, by decide, rfl, rfl, rfl⟩) rfl rfl rfl (fun a w' hC hs hl => by rw [show a.eval (.tmp 4) = (.pointer (some ⟨p0, 0, none⟩) : Value) from (hs 4 (by kernel_rfl))]; simp [go_sem])
            · exact .load (.slice A n c) (.inr ⟨9, false, 46, by decide, rfl, rfl, rfl⟩) rfl rfl (fun a w' hC hs hl => by rw [show a.eval (.tmp 48) = (.pointer (some ⟨p0, 0, none⟩) : Value) from (hl 48 (by kernel_rfl) (by kernel_rfl))]; exact ⟨by simp [go_sem, cell_below hC H0.out], rfl⟩)
            · exact .value (.inr ⟨9, false, 46, by decide, rfl, rfl, rfl⟩) (by intro T e; cases e) rfl rfl (fun a w' hC hs hl => by
                have e0 : a.eval (.tmp 49) = (.slice A n c) := (hl 49 (by kernel_rfl) (by kernel_rfl))
                have e0' : a.tmps[49]?.getD undef = _ := (by simp [Act.eval] : _ = a.eval (.tmp 49)).trans e0
                simp [execOp, resolve, invoke, builtin, go_sem, e0, e0'])
            · exact .value (.inr ⟨9, false, 46, by decide, rfl, rfl, rfl⟩) (by intro T e; cases e) rfl rfl (fun a w' hC hs hl => by
                have e0 : a.eval (.tmp 47) = (.int .i64 (j : Nat)) := (hl 47 (by kernel_rfl) (by kernel_rfl))
                have e1 : a.eval (.tmp 50) = (.int .i64 (n : Nat)) := (hl 50 (by kernel_rfl) (by kernel_rfl))
                simp only [execOp, e0, e1]
                skip
                simp [go_sem, hln])
            · exact .move (.inr ⟨9, false, 46, by decide, rfl, rfl, rfl⟩) (.inl rfl) rfl (by kernel_rfl) (by kernel_rfl) rfl
            · exact .skip ⟨15, false, 52, by decide, rfl, rfl, rfl⟩ (fun _ e => by cases e; exact .inl rfl)
            · exact .skip ⟨15, false, 52, by decide, rfl, rfl, rfl⟩ (fun _ e => by cases e; exact .inl rfl)
            · exact .skip ⟨15, false, 52, by decide, rfl, rfl, rfl⟩ (fun _ e => by cases e; exact .inl rfl)
            · exact .skip ⟨15, false, 52, by decide, rfl, rfl, rfl⟩ (fun _ e => by cases e; exact .inl rfl)
            · exact .skip ⟨15, false, 52, by decide, rfl, rfl, rfl⟩ (fun _ e => by cases e; exact .inl rfl)
            · exact .skip ⟨15, false, 52, by decide, rfl, rfl, rfl⟩ (fun _ e => by cases e; exact .inl rfl)
            · exact .skip ⟨15, false, 52, by decide, rfl, rfl, rfl⟩ (fun _ e => by cases e; exact .inl rfl)
            · exact .skip ⟨15, false, 52, by decide, rfl, rfl, rfl⟩ (fun _ e => by cases e; exact .inl rfl)
            · exact .skip ⟨15, false, 52, by decide, rfl, rfl, rfl⟩ (fun _ e => by cases e; exact .inl rfl)
            · exact .pick (b := false) (.inr ⟨9, false, 46, by decide, rfl, rfl, rfl⟩) rfl rfl (fun a w' hC hs hl => ⟨(hl 52 (by kernel_rfl) (by kernel_rfl)), rfl⟩)
            · exact .pick (b := false) (.inl rfl) rfl rfl (fun a w' hC hs hl => ⟨(hl 46 (by kernel_rfl) (by kernel_rfl)), (hl 62 (by kernel_rfl) (by kernel_rfl))⟩)
            · intro f wz hC hF _
              have f63 : f 63 = .bool false := hF 63 (by kernel_rfl)
              clear hF
              simp only [patch, List.drop]
              rw [f63]
              clear f63
              try change wpList _ _ _ [] _ _
              generalize f 37 = y37_
              generalize f 38 = y38_
              generalize f 39 = y39_
              generalize f 40 = y40_
              generalize f 41 = y41_
              generalize f 42 = y42_
              generalize f 43 = y43_
              generalize f 44 = y44_
              generalize f 45 = y45_
              generalize f 46 = y46_
              generalize f 47 = y47_
              generalize f 48 = y48_
              generalize f 49 = y49_
              generalize f 50 = y50_
              generalize f 51 = y51_
              generalize f 52 = y52_
              generalize f 53 = y53_
              generalize f 54 = y54_
              generalize f 55 = y55_
              generalize f 56 = y56_
              generalize f 57 = y57_
              generalize f 58 = y58_
              generalize f 59 = y59_
              generalize f 60 = y60_
              generalize f 61 = y61_
              generalize f 62 = y62_
              have DD := hide hC
              have SB := b1.out.size
              have hB1 := Nat.le_trans bB.out SB
              clear y0 y1 y2 z0 z1 z2 hdl hlj2 H0 H1 H2 L0 L1 L2 hC
              go_wp2
              go_roundw
              case rel => exact ⟨j + 1, by omega, by go_num, bx.out.below' DD.out, b1.out.below DD.out hB1, k1.out.keep fun g t cs _ _ hk => hk.below' DD.out, X1.out.keep fun g cs _ hk => hk.below' DD.out⟩
              case measure => simp [intOf]; omega
        · obtain rfl : j = n + 40 := by omega
          go_wp2
          go_roundw
          case rel => exact ⟨i + 1, by omega, by go_num, b1, k1, X1⟩
          case measure => simp [intOf]; omega
    · obtain rfl : i = es.length := by omega
      go_wp2
      exact opq_end hR ⟨rfl, hbel.out, bk1.out⟩
end Go.Proofs.YtkefmeddnncacaaGreatDoor

/- the laws' Book where lists of fractions are held too: Apart. -/
set_option linter.unusedVariables false
set_option linter.unusedSimpArgs false
set_option maxRecDepth 100000
namespace Go.Proofs.YtkefmeddnncacaaGreatDoor
open Go.RowKit

/-- Lists of fractions that are held, each in a block of its own, of number at most hi. -/
def HBR (B hi : Nat) (w : World) (fs : List Ent) : Prop :=
  ∃ X Y, HeldR B w fs X Y ∧ (∀ (i : Nat) (e : Ent) g, fs[i]? = some e → e.has g → g < hi) ∧ ∀ e ∈ fs, e.k ≤ 100000 ∧ e.n ≤ 500000 ∧ e.d = 0
theorem HBR.nil (B hi : Nat) (w : World) : HBR B hi w [] :=
  ⟨fun _ => [], fun _ => [], ⟨fun i e h => by simp at h, fun i e h => by simp at h, fun i j e e' _ h => by simp at h, fun i e h => by simp at h⟩, fun i e g h => by simp at h, fun e h => by simp at h⟩
theorem HBR.keep {B hi : Nat} {w w' : World} {fs : List Ent} (h : HBR B hi w fs) (k : ∀ g cs, Blk w g TR cs → Blk w' g TR cs) : HBR B hi w' fs := by
  obtain ⟨X, Y, h1, h2, h3⟩ := h
  exact ⟨X, Y, h1.keep fun g cs _ hk => k g cs hk, h2, h3⟩
theorem HBR.kp {B hi : Nat} {w w' : World} {fs : List Ent} (h : HBR B hi w fs) (k : KpF B w w') : HBR B hi w' fs := h.keep fun g cs hk => k.nums g _ cs (by decide) (by decide) (by decide) hk
theorem HBR.bel {B hi : Nat} {w w' : World} {fs : List Ent} (h : HBR B hi w fs) (k : Below w.heap.size w w') : HBR B hi w' fs := h.keep fun g cs hk => hk.below' k
theorem HBR.up {B hi hi' : Nat} {w : World} {fs : List Ent} (h : HBR B hi w fs) (hh : hi ≤ hi') : HBR B hi' w fs := by
  obtain ⟨X, Y, h1, h2, h3⟩ := h
  exact ⟨X, Y, h1, fun i e g he hg => Nat.lt_of_lt_of_le (h2 i e g he hg) hh, h3⟩
theorem HBR.snoc {B hi hi' : Nat} {w : World} {es : List Ent} (h : HBR B hi w es) {A : Option Addr} {n c : Nat} {xs : List Value} (l : RRow hi w A n c xs) (hh : hi' = w.heap.size) (hB : B ≤ hi) (hw : hi ≤ w.heap.size) (hn : n ≤ 500000) {k : Nat} (hk : k ≤ 100000) : HBR B hi' w (es ++ [⟨A, n, c, none, 0, 0, k⟩]) := by
  subst hh
  obtain ⟨X, Y, h1, h2, h3⟩ := h
  have hl : ∀ g, blkOf A c = some g → hi ≤ g ∧ g < w.heap.size := fun g hg => by
    obtain ⟨cs, _, e1, e2, _⟩ := l.blk hg
    exact ⟨e1, e2.lt⟩
  have hcase : ∀ (i : Nat) (e : Ent), (es ++ [⟨A, n, c, none, 0, 0, k⟩])[i]? = some e → (es[i]? = some e ∧ i < es.length) ∨ (i = es.length ∧ e = ⟨A, n, c, none, 0, 0, k⟩) := fun i e he => by
    by_cases hi : i < es.length
    · rw [List.getElem?_append_left hi] at he
      exact .inl ⟨he, hi⟩
    · rw [List.getElem?_append_right (by omega)] at he
      have := (List.getElem?_eq_some_iff.1 he).1
      simp at this
      obtain rfl : i = es.length := by omega
      simp at he
      exact .inr ⟨rfl, he.symm⟩
  have hnew : ∀ g, Ent.has ⟨A, n, c, none, 0, 0, k⟩ g → blkOf A c = some g := fun g hg => by
    rcases hg with x | x
    · exact x
    · simp [blkOf] at x
  refine ⟨upd X es.length xs, upd Y es.length [], ⟨fun i e he => ?_, fun i e he => ?_, fun i j e e' hne he he' g hg hg' => ?_, fun i e he => ?_⟩, fun i e g he hg => ?_, fun e he => ?_⟩
  · rcases hcase i e he with ⟨x, y⟩ | ⟨rfl, rfl⟩
    · rw [upd_ne _ _ (by omega)]; exact h1.a _ _ x
    · rw [upd_same]
      refine ⟨l.len, l.le, ?_⟩
      rcases l.own with z | ⟨g, cs, z1, z2, z3⟩
      · exact .inl z
      · exact .inr ⟨g, cs, z1, Nat.le_trans hB z2, z3⟩
  · rcases hcase i e he with ⟨x, y⟩ | ⟨rfl, rfl⟩
    · rw [upd_ne _ _ (by omega)]; exact h1.l _ _ x
    · rw [upd_same]; exact ⟨rfl, Nat.le_refl _, .inl rfl⟩
  · rcases hcase i e he with ⟨x, y⟩ | ⟨rfl, rfl⟩ <;> rcases hcase j e' he' with ⟨x', y'⟩ | ⟨rfl, rfl⟩
    · exact h1.apart _ _ _ _ hne x x' g hg hg'
    · have := h2 _ _ _ x hg
      have := hl g (hnew g hg')
      omega
    · have := h2 _ _ _ x' hg'
      have := hl g (hnew g hg)
      omega
    · exact hne rfl
  · rcases hcase i e he with ⟨x, y⟩ | ⟨rfl, rfl⟩
    · exact h1.two _ _ x
    · exact .inr fun g hg => by simp [blkOf] at hg
  · rcases hcase i e he with ⟨x, y⟩ | ⟨rfl, rfl⟩
    · have := h2 _ _ _ x hg
      omega
    · exact (hl g (hnew g hg)).2
  · rcases List.mem_append.1 he with x | x
    · exact h3 e x
    · simp at x
      subst x
      exact ⟨hk, hn, rfl⟩
theorem HB.kpF {B hi : Nat} {w w' : World} {es : List Ent} (h : HB B hi w es) (k : KpF B w w') : HB B hi w' es := by
  obtain ⟨X, Y, h1, h2, h3⟩ := h
  exact ⟨X, Y, h1.keep fun g cs _ hk => k.nums g _ cs (by decide) (by decide) (by decide) hk, h2, h3⟩
theorem BookV.by {v : Value} {B : Nat} {w w' : World} {g num : Nat} {u : Value} {fs : List Ent} (h : BookV v B w g num u fs) (hb : Blk w' g TBK (bkF num v u)) (k : ∀ r cs, Blk w r THR cs → Blk w' r THR cs) : BookV v B w' g num u fs := ⟨hb, h.own, own_keepT h.row k⟩
theorem BookU.by {v : Value} {B : Nat} {w w' : World} {g num : Nat} {u : Value} {es : List Ent} (h : BookU u B w g num v es) (hb : Blk w' g TBK (bkF num v u)) (k : ∀ r cs, Blk w r TH cs → Blk w' r TH cs) : BookU u B w' g num v es := ⟨hb, h.own, own_keepT h.row k⟩

set_option maxHeartbeats 4000000 in
theorem Apart_F (w : World) (B g num hi hj : Nat) (v u : Value) (es fs : List Ent) (hB : B ≤ w.heap.size) (hb : BookF B w g num v u es fs) (hh : HB B hi w es) (hr : HBR B hj w fs) (hes : es.length ≤ 100000) (hfs : fs.length ≤ 100000) :
    Calls Tryz.prog 26 #[.pointer (some ⟨g, 0, none⟩)] w fun e w' => e = .returned (.bool true) ∧ Below B w w' := by
  refine opq fun R hR => ?_
  obtain ⟨rc, rcl, rfl⟩ := hb.U.len
  obtain ⟨rr, rrl, rfl⟩ := hb.V.len
  have K := hide hb.U.blk
  have gB := hide hb.U.own
  obtain ⟨X0, Y0, t1, t2, t3⟩ := hh
  obtain ⟨P0, Q0, p1, p2, p3⟩ := hr
  replace t3 := hide t3
  replace p3 := hide p3
  obtain ⟨w0, hw0⟩ : ∃ w0, w0 = w := ⟨_, rfl⟩
  rw [← hw0] at hR
  have S0 : Hid (B ≤ w.heap.size ∧ BookU (.slice rr fs.length rrl) B w g num (.slice rc es.length rcl) es ∧ BookV (.slice rc es.length rcl) B w g num (.slice rr fs.length rrl) fs ∧ Held B w es X0 Y0 ∧ HeldR B w fs P0 Q0 ∧ Below B w0 w) := ⟨hB, hb.U, hb.V, t1, p1, by rw [hw0]; exact Below.refl B w⟩
  replace hw0 := hide hw0
  clear hb t1 t2 p1 p2 hB hw0
  go_enter Tryz.func26, Tryz.ntmps26

  go_wp2_with fail
  refine (fillByte_nil _ g (K.out.at_ 1 rfl)).mono ?_
  rintro e w' ⟨⟨_, rfl⟩, rfl⟩
  go_wp2_with fail
  refine (fillInt32_U _ B g num _ _ es X0 Y0 S0.out.1 S0.out.2.1 S0.out.2.2.2.1 hes (fun e he => ⟨(t3.out e he).1, by have := (t3.out e he).2.1; omega, (t3.out e he).2.2⟩)).mono ?_
  rintro e w1 ⟨⟨_, rfl⟩, z1, z2, X1, z3, z4⟩
  have S1 : Hid (B ≤ w1.heap.size ∧ BookU (.slice rr fs.length rrl) B w1 g num (.slice rc es.length rcl) es ∧ BookV (.slice rc es.length rcl) B w1 g num (.slice rr fs.length rrl) fs ∧ Held B w1 es X1 Y0 ∧ HeldR B w1 fs P0 Q0 ∧ Below B w0 w1) :=
    ⟨Nat.le_trans S0.out.1 z1.size, z2, S0.out.2.2.1.keep fun b t cs n1 _ hk => z1.keep b t cs n1 hk, z3, S0.out.2.2.2.2.1.keep fun b cs _ hk => z1.keep b _ cs (by decide) hk, S0.out.2.2.2.2.2.trans z1.base⟩
  replace z4 := hide z4
  obtain ⟨lo, hlo⟩ : ∃ lo, Hid (lo = w1.heap.size) := ⟨_, rfl⟩
  clear S0 K z1 z3
  have K := hide z2.blk
  clear z2
  go_wp2_with fail
  refine (fillNum_nil _ g (K.out.at_ 3 rfl)).mono ?_
  rintro e w' ⟨⟨_, rfl⟩, rfl⟩
  go_wp2_with fail
  refine (fillBool_nil _ g (K.out.at_ 4 rfl)).mono ?_
  rintro e w' ⟨⟨_, rfl⟩, rfl⟩
  go_wp2_with fail
  refine (fillText_nil _ g (K.out.at_ 5 rfl)).mono ?_
  rintro e w' ⟨⟨_, rfl⟩, rfl⟩
  go_wp2_with fail
  refine (fillToken_nil _ g (K.out.at_ 6 rfl)).mono ?_
  rintro e w' ⟨⟨_, rfl⟩, rfl⟩
  go_wp2_with fail
  refine (fillTenant_nil _ g (K.out.at_ 7 rfl)).mono ?_
  rintro e w' ⟨⟨_, rfl⟩, rfl⟩
  go_wp2_with fail
  refine (fillRat_V _ B g num _ _ fs P0 Q0 S1.out.1 S1.out.2.2.1 S1.out.2.2.2.2.1 hfs (fun e he => ⟨(p3.out e he).1, by have := (p3.out e he).2.1; omega, (p3.out e he).2.2⟩)).mono ?_
  rintro e w2 ⟨⟨_, rfl⟩, z1, z2, P1, z3, y4⟩
  have S2 : Hid (B ≤ w2.heap.size ∧ BookU (.slice rr fs.length rrl) B w2 g num (.slice rc es.length rcl) es ∧ BookV (.slice rc es.length rcl) B w2 g num (.slice rr fs.length rrl) fs ∧ Held B w2 es X1 Y0 ∧ HeldR B w2 fs P1 Q0 ∧ Below B w0 w2) :=
    ⟨Nat.le_trans S1.out.1 z1.size, S1.out.2.1.keep fun b t cs _ n1 hk => z1.keep b t cs n1 hk, z2, S1.out.2.2.2.1.keep fun b cs _ hk => z1.keep b _ cs (by decide) hk, z3, S1.out.2.2.2.2.2.trans z1.base⟩
  have O2 : Hid (Old lo w2.heap.size es) := fun i e g he hg => .inl (by rw [hlo.out]; exact S1.out.2.2.2.1.lt he hg)
  have L2 : Hid (lo ≤ w2.heap.size) := by rw [hlo.out]; exact z1.size
  rw [← hlo.out] at y4
  replace y4 := hide y4
  clear S1 K z1 z3 hlo
  have K := hide z2.blk
  clear z2
  go_wp2_with fail
  refine (fillVar_nil _ g (K.out.at_ 9 rfl)).mono ?_
  rintro e w' ⟨⟨_, rfl⟩, rfl⟩
  go_wp2_with fail
  refine (fillRow_nil _ g (K.out.at_ 10 rfl)).mono ?_
  rintro e w' ⟨⟨_, rfl⟩, rfl⟩
  go_wp2_with fail
  refine (fillNode_nil _ g (K.out.at_ 11 rfl)).mono ?_
  rintro e w' ⟨⟨_, rfl⟩, rfl⟩
  go_wp2_with fail
  refine (fillJob_nil _ g (K.out.at_ 12 rfl)).mono ?_
  rintro e w' ⟨⟨_, rfl⟩, rfl⟩
  go_wp2_with fail
  refine (growByte_nil _ g (K.out.at_ 1 rfl)).mono ?_
  rintro e w' ⟨⟨_, rfl⟩, rfl⟩
  go_wp2_with fail
  refine (growInt32_U _ B g num _ _ es X1 Y0 S2.out.1 S2.out.2.1 S2.out.2.2.2.1 hes (fun e he => ⟨(t3.out e he).1, (t3.out e he).2.1⟩) z4.out lo O2.out).mono ?_
  rintro e w3 ⟨⟨_, rfl⟩, z1, es', Y1, z2, z3, z5⟩
  have hes2 : Hid (es'.length = es.length) := z5.len
  have S3 : Hid (B ≤ w3.heap.size ∧ BookU (.slice rr fs.length rrl) B w3 g num (.slice rc es.length rcl) es' ∧ BookV (.slice rc es.length rcl) B w3 g num (.slice rr fs.length rrl) fs ∧ Held B w3 es' X1 Y1 ∧ HeldR B w3 fs P1 Q0 ∧ Below B w0 w3) :=
    ⟨Nat.le_trans S2.out.1 z1.size, z2, S2.out.2.2.1.by z2.blk fun r cs hk => z1.keep r _ cs (by decide) (fun e => absurd e (by decide)) hk, z3, S2.out.2.2.2.2.1.keep fun b cs _ hk => z1.keep b _ cs (by decide) (fun e => absurd e (by decide)) hk, S2.out.2.2.2.2.2.trans z1.base⟩
  have G3 : Hid (∀ (i : Nat) (e : Ent), es'[i]? = some e → e.k ≤ 100000 ∧ e.n ≤ 500000 ∧ e.m = e.n + 40 ∧ X1 i = List.replicate e.n (mk32 e.k) ∧ Y1 i = List.replicate e.m (mk32 e.k)) := fun i e he => by
    obtain ⟨e0, y0, y1, y2, y3, y4⟩ := z5.same i e he
    have hi' := (List.getElem?_eq_some_iff.1 he).1
    rw [hes2.out] at hi'
    obtain ⟨y5, y6⟩ := z5.done i e hi' he
    have y7 := t3.out e0 (List.mem_of_getElem? y0)
    refine ⟨by rw [y4]; exact y7.1, by rw [y2]; exact y7.2.1, y5, ?_, by rw [y5]; exact y6⟩
    rw [z4.out i e0 y0, y2, y4]
  have L3 : Hid (lo ≤ w3.heap.size) := Nat.le_trans L2.out z1.size
  replace y4 : Hid (∀ (i : Nat) (e : Ent), fs[i]? = some e → Mks w3 lo e.k e.n (P1 i)) := fun i e he => (y4.out i e he).keep fun q cs hq hk => z1.keep q _ cs (by decide) (fun _ => hq) hk
  clear S2 K z1 z3 z5 z4 t3 O2 L2
  have K := hide z2.blk
  clear z2
  go_wp2_with fail
  refine (growNum_nil _ g (K.out.at_ 3 rfl)).mono ?_
  rintro e w' ⟨⟨_, rfl⟩, rfl⟩
  go_wp2_with fail
  refine (growBool_nil _ g (K.out.at_ 4 rfl)).mono ?_
  rintro e w' ⟨⟨_, rfl⟩, rfl⟩
  go_wp2_with fail
  refine (growText_nil _ g (K.out.at_ 5 rfl)).mono ?_
  rintro e w' ⟨⟨_, rfl⟩, rfl⟩
  go_wp2_with fail
  refine (growToken_nil _ g (K.out.at_ 6 rfl)).mono ?_
  rintro e w' ⟨⟨_, rfl⟩, rfl⟩
  go_wp2_with fail
  refine (growTenant_nil _ g (K.out.at_ 7 rfl)).mono ?_
  rintro e w' ⟨⟨_, rfl⟩, rfl⟩
  go_wp2_with fail
  refine (growRat_V _ B g num _ _ fs P1 Q0 S3.out.1 S3.out.2.2.1 S3.out.2.2.2.2.1 hfs (fun e he => ⟨(p3.out e he).1, (p3.out e he).2.1⟩) lo L3.out y4.out).mono ?_
  rintro e w4 ⟨⟨_, rfl⟩, z1, fs', Q1, z2, z3, z5⟩
  have hfs2 : Hid (fs'.length = fs.length) := z5.len
  have S4 : Hid (B ≤ w4.heap.size ∧ BookU (.slice rr fs.length rrl) B w4 g num (.slice rc es.length rcl) es' ∧ BookV (.slice rc es.length rcl) B w4 g num (.slice rr fs.length rrl) fs' ∧ Held B w4 es' X1 Y1 ∧ HeldR B w4 fs' P1 Q1 ∧ Below B w0 w4) :=
    ⟨Nat.le_trans S3.out.1 z1.size, S3.out.2.1.by z2.blk fun r cs hk => z1.keep r _ cs (by decide) (by decide) hk, z2, S3.out.2.2.2.1.keep fun b cs _ hk => z1.keep b _ cs (by decide) (by decide) hk, z3, S3.out.2.2.2.2.2.trans z1.base⟩
  have G4 : Hid (∀ (i : Nat) (e : Ent), fs'[i]? = some e → e.k ≤ 100000 ∧ e.n ≤ 500000 ∧ e.m = e.n + 40 ∧ Mks w4 lo e.k e.n (P1 i) ∧ Mks w4 lo e.k e.m (Q1 i)) := fun i e he => by
    obtain ⟨e0, y0, y1, y2, y3, y5⟩ := z5.same i e he
    have hi' := (List.getElem?_eq_some_iff.1 he).1
    rw [hfs2.out] at hi'
    obtain ⟨y6, y7⟩ := z5.done i e hi' he
    have y8 := p3.out e0 (List.mem_of_getElem? y0)
    refine ⟨by rw [y5]; exact y8.1, by rw [y2]; exact y8.2.1, y6, ?_, by rw [y6]; exact y7⟩
    rw [y2, y5]
    exact (y4.out i e0 y0).keep fun q cs hq hk => z1.keep q _ cs (by decide) (by decide) hk
  clear S3 K z1 z3 z5 y4 p3 L3
  have K := hide z2.blk
  clear z2
  go_wp2_with fail
  refine (growVar_nil _ g (K.out.at_ 9 rfl)).mono ?_
  rintro e w' ⟨⟨_, rfl⟩, rfl⟩
  go_wp2_with fail
  refine (growRow_nil _ g (K.out.at_ 10 rfl)).mono ?_
  rintro e w' ⟨⟨_, rfl⟩, rfl⟩
  go_wp2_with fail
  refine (growNode_nil _ g (K.out.at_ 11 rfl)).mono ?_
  rintro e w' ⟨⟨_, rfl⟩, rfl⟩
  go_wp2_with fail
  refine (growJob_nil _ g (K.out.at_ 12 rfl)).mono ?_
  rintro e w' ⟨⟨_, rfl⟩, rfl⟩
  go_wp2_with fail
  refine (lookByte_nil _ g (K.out.at_ 1 rfl)).mono ?_
  rintro e w' ⟨rfl, rfl⟩
  go_wp2_with fail
  refine (lookInt32_U _ B g num _ _ es' X1 Y1 S4.out.1 S4.out.2.1 S4.out.2.2.2.1 (by rw [hes2.out]; exact hes) G3.out).mono ?_
  rintro e w5 ⟨rfl, z1, z2⟩
  have S5 : Hid (B ≤ w5.heap.size ∧ BookV (.slice rc es.length rcl) B w5 g num (.slice rr fs.length rrl) fs' ∧ HeldR B w5 fs' P1 Q1 ∧ Below B w0 w5) := ⟨Nat.le_trans S4.out.1 z1.size, S4.out.2.2.1.keep fun b t cs _ _ hk => z1.keep b t cs hk, S4.out.2.2.2.2.1.keep fun b cs _ hk => z1.keep b _ cs hk, S4.out.2.2.2.2.2.trans z1.base⟩
  replace G4 : Hid (∀ (i : Nat) (e : Ent), fs'[i]? = some e → e.k ≤ 100000 ∧ e.n ≤ 500000 ∧ e.m = e.n + 40 ∧ Mks w5 lo e.k e.n (P1 i) ∧ Mks w5 lo e.k e.m (Q1 i)) := fun i e he => by
    obtain ⟨a1, a2, a3, a4, a5⟩ := G4.out i e he
    exact ⟨a1, a2, a3, a4.keep fun q cs _ hk => z1.keep q _ cs hk, a5.keep fun q cs _ hk => z1.keep q _ cs hk⟩
  clear S4 G3 K z1 hes2
  have K := hide z2.blk
  clear z2
  go_wp2_with fail
  refine (lookNum_nil _ g (K.out.at_ 3 rfl)).mono ?_
  rintro e w' ⟨rfl, rfl⟩
  go_wp2_with fail
  refine (lookBool_nil _ g (K.out.at_ 4 rfl)).mono ?_
  rintro e w' ⟨rfl, rfl⟩
  go_wp2_with fail
  refine (lookText_nil _ g (K.out.at_ 5 rfl)).mono ?_
  rintro e w' ⟨rfl, rfl⟩
  go_wp2_with fail
  refine (lookToken_nil _ g (K.out.at_ 6 rfl)).mono ?_
  rintro e w' ⟨rfl, rfl⟩
  go_wp2_with fail
  refine (lookTenant_nil _ g (K.out.at_ 7 rfl)).mono ?_
  rintro e w' ⟨rfl, rfl⟩
  go_wp2_with fail
  refine (lookRat_V _ B g num _ _ fs' P1 Q1 S5.out.1 S5.out.2.1 S5.out.2.2.1 (by rw [hfs2.out]; exact hfs) lo G4.out).mono ?_
  rintro e w6 ⟨rfl, z1, z2⟩
  have S6 : Hid (Below B w0 w6) := S5.out.2.2.2.trans z1.base
  clear S5 G4 K z1
  have K := hide z2.blk
  clear z2
  go_wp2_with fail
  refine (lookVar_nil _ g (K.out.at_ 9 rfl)).mono ?_
  rintro e w' ⟨rfl, rfl⟩
  go_wp2_with fail
  refine (lookRow_nil _ g (K.out.at_ 10 rfl)).mono ?_
  rintro e w' ⟨rfl, rfl⟩
  go_wp2_with fail
  refine (lookNode_nil _ g (K.out.at_ 11 rfl)).mono ?_
  rintro e w' ⟨rfl, rfl⟩
  go_wp2_with fail
  refine (lookJob_nil _ g (K.out.at_ 12 rfl)).mono ?_
  rintro e w' ⟨rfl, rfl⟩
  go_wp2
  exact opq_end hR ⟨rfl, S6.out⟩
end Go.Proofs.YtkefmeddnncacaaGreatDoor
