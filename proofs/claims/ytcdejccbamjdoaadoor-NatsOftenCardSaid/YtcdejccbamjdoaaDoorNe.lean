/- nats: Cmp. -/
import Derived.Test.YtcdejccbamjdoaaDoorNd
set_option linter.unusedVariables false
set_option linter.unusedSimpArgs false
set_option maxRecDepth 100000
namespace Go.Proofs.YtcdejccbamjdoaaDoor
open Go.RowKit Go.Shelf
attribute [local go_sem] Oper.semAt_some

set_option maxHeartbeats 2000000 in
theorem Cmp_ok (w : World) (A A' : Option Addr) (n n' c c' : Nat) (xs ys : List Nat) (h : Rd w A n xs) (h' : Rd w A' n' ys) (h32 : Is32 xs) (h32' : Is32 ys) (hn : n ≤ 35184372087808) (hn' : n' ≤ 35184372087808) (hc : n ≤ c) (hc' : n' ≤ c') :
    Calls Tryd.prog 36 #[.slice A n c, .slice A' n' c'] w fun e w' => e = .returned (.int .i64 (cmpN (nv xs) (nv ys))) ∧ Below w.heap.size w w' := by
  refine (callsIn_wide (n := 3)).1 ?_
  have F1 := hide (fine_any (w.alloc (.cells #[.int .i64 0] 3)) A n c xs (h.below ((Below.refl _ _).alloc (Nat.le_refl _) _)) h32 hc)
  have F2 := hide (fine_any (w.alloc (.cells #[.int .i64 0] 3)) A' n' c' ys (h'.below ((Below.refl _ _).alloc (Nat.le_refl _) _)) h32' hc')
  clear h h' h32 h32'
  refine callsIn_of_wp_marks Tryd.func36 rfl trivial ?_ rfl
  simp only [Tryd.ntmps36, List.size_toArray, List.length_cons, List.length_nil, Nat.reduceAdd, Nat.reduceSub, Array.replicate_succ, Array.replicate_zero, List.push_toArray, List.append_toArray, List.nil_append, List.cons_append]
  gi_wp2_with fail
  refine ⟨trivial, ?_⟩
  refine (callsIn_wide.2 F1.out).mono ?_
  rintro e w' ⟨A1, n1, c1, xs1, rfl, rfl, r1, p1, q1, q2⟩
  gi_wp2_with fail
  refine ⟨trivial, ?_⟩
  refine (callsIn_wide.2 F2.out).mono ?_
  rintro e w' ⟨A2, n2, c2, ys1, rfl, rfl, r2, p2, q3, q4⟩
  gi_wp2_with fail
  refine ⟨trivial, ?_⟩
  refine (callsIn_wide.2 (pairs_ok _ A1 A2 n1 n2 c1 c2)).mono ?_
  rintro e w' ⟨rfl, rfl⟩
  gi_wp2
  have hlen1 : n1 ≤ 35184372087808 := by omega
  have hlen2 : n2 ≤ 35184372087808 := by omega
  have b0 : Below w.heap.size w (w.alloc (.cells #[.int .i64 0] 3)) := (Below.refl _ _).alloc (Nat.le_refl _) _
  have b2 : Below w.heap.size w (((w.alloc (.cells #[.int .i64 0] 3)).alloc (.cells #[.slice A1 n1 c1] 23)).alloc (.cells #[.slice A2 n2 c2] 23)) := (b0.alloc (by simp) _).alloc (by simp; omega) _
  have b1 : Below (w.heap.size + 1) (w.alloc (.cells #[.int .i64 0] 3)) (((w.alloc (.cells #[.int .i64 0] 3)).alloc (.cells #[.slice A1 n1 c1] 23)).alloc (.cells #[.slice A2 n2 c2] 23)) := ((Below.refl _ _).alloc (by simp) _).alloc (by simp) _
  have kA : Blk (((w.alloc (.cells #[.int .i64 0] 3)).alloc (.cells #[.slice A1 n1 c1] 23)).alloc (.cells #[.slice A2 n2 c2] 23)) (w.heap.size + 1) 23 #[.slice A1 n1 c1] := by
    have := (Blk.new (w.alloc (.cells #[.int .i64 0] 3)) 23 #[.slice A1 n1 c1]).alloc (.cells #[.slice A2 n2 c2] 23)
    rw [World.size_alloc] at this
    exact this
  have kB : Blk (((w.alloc (.cells #[.int .i64 0] 3)).alloc (.cells #[.slice A1 n1 c1] 23)).alloc (.cells #[.slice A2 n2 c2] 23)) (w.heap.size + 1 + 1) 23 #[.slice A2 n2 c2] := by
    have := Blk.new ((w.alloc (.cells #[.int .i64 0] 3)).alloc (.cells #[.slice A1 n1 c1] 23)) 23 #[.slice A2 n2 c2]
    rw [World.size_alloc, World.size_alloc] at this
    exact this
  have kR : Blk (((w.alloc (.cells #[.int .i64 0] 3)).alloc (.cells #[.slice A1 n1 c1] 23)).alloc (.cells #[.slice A2 n2 c2] 23)) w.heap.size 3 #[.int .i64 0] := ((Blk.new w 3 #[.int .i64 0]).alloc _).alloc _
  have hsz : (((w.alloc (.cells #[.int .i64 0] 3)).alloc (.cells #[.slice A1 n1 c1] 23)).alloc (.cells #[.slice A2 n2 c2] 23)).heap.size = w.heap.size + 1 + 1 + 1 := by simp
  obtain ⟨W0, hW0⟩ : ∃ W0, ((w.alloc (.cells #[.int .i64 0] 3)).alloc (.cells #[.slice A1 n1 c1] 23)).alloc (.cells #[.slice A2 n2 c2] 23) = W0 := ⟨_, rfl⟩
  rw [hW0] at b2 b1 kA kB kR hsz ⊢
  clear hW0
  have R1 := hide (r1.out.below (b1.mono (by simp)))
  have R2 := hide (r2.out.below (b1.mono (by simp)))
  have P1 := hide p1.out.1
  have P2 := hide p2.out.1
  have HV := hide (cmpR_prs p1.out.1 p2.out.1 (max n1 n2) (by rw [r1.out.1]; omega) (by rw [r2.out.1]; omega))
  rw [p1.out.2.2, p2.out.2.2] at HV
  have HB2 := hide b2
  have HR := hide kR
  have HA := hide kA
  have HBk := hide kB
  have HS := hide hsz
  clear b2 kR kA kB hsz F1 F2 r1 r2 p1 p2 b0 b1
  have hst := pairs1_stops (3 - 1) (by omega) (w.heap.size + 1) (w.heap.size + 1 + 1) (w.heap.size + 1 + 1 + 1) A1 A2 n1 n2 c1 c2 (max n1 n2) xs1 ys1 rfl (by omega) W0 (HA.out.cell 0) (HBk.out.cell 0) (by omega) (by omega) (by rw [HS.out]; exact Nat.le_refl _)
    (fun W' hb => R1.out.below (hb.mono (by rw [HS.out]; exact Nat.le_refl _))) (fun W' hb => R2.out.below (hb.mono (by rw [HS.out]; exact Nat.le_refl _))) P1.out P2.out
  refine wpIn_rangeFunc_ownF rfl (by omega) (gf := 75) (lb := #[.pointer (some ⟨w.heap.size + 1, 0, none⟩), .pointer (some ⟨w.heap.size + 1 + 1, 0, none⟩)]) rfl trivial (enters_of Tryd.func75 (by kernel_rfl) rfl)
    hst belowK_t (belowK_b (by rw [HS.out]; exact Nat.le_refl _)) (Below.refl _ _) (fun _ => rfl)
    (fun pre W => (Hid (cmpP pre = none) ∧ W.cell? ⟨w.heap.size, 0, none⟩ = some (.int .i64 0) ∧ W.frozen? ⟨w.heap.size, 0, none⟩ = false) ∧ Hid (Below w.heap.size w W))
    (fun c pre W => (c = .ret ∧ ∃ p, cmpP pre = some p ∧ W.cell? ⟨w.heap.size, 0, none⟩ = some (.int .i64 (cmpR (some p)))) ∧ Hid (Below w.heap.size w W))
    (OwnFrom.and (Own.from (fun s A B row hs hg hr => ⟨hs.1, cell_kept hs.2.1 hg hr, (frozen_kept hs.2.1 hg hr).trans hs.2.2⟩) _) (ownFrom_below (n₀ := w.heap.size) (w₀ := w) (Nat.le_refl _) (by rw [HS.out]; omega)))
    (fun c => OwnFrom.and (Own.from (fun s A B row hs hg hr => by obtain ⟨h1, p, h2, h3⟩ := hs; exact ⟨h1, p, h2, cell_kept h3 hg hr⟩) _) (ownFrom_below (n₀ := w.heap.size) (w₀ := w) (Nat.le_refl _) (by rw [HS.out]; omega)))
    ⟨⟨rfl, HR.out.cell 0, HR.out.frozen 0⟩, HB2.out⟩
    (fun x => { tmps := #[.slice A n c, .slice A' n' c', undef, undef, .pointer (some ⟨w.heap.size, 0, none⟩), .int .u64 (x.1 : Int), .int .u64 (x.2 : Int), .slice A n c, .slice A1 n1 c1, .slice A' n' c', .slice A2 n2 c2,
      .func (.func 75) #[] #[.pointer (some ⟨w.heap.size + 1, 0, none⟩), .pointer (some ⟨w.heap.size + 1 + 1, 0, none⟩)], .int .u64 (x.1 : Int), .int .u64 (x.2 : Int), undef, undef, undef, undef, undef, undef], defers := [] }) ?assign ?body ?done ?stop
  case assign =>
    intro l x W K hK
    gi_wp2
    exact hK
  case body =>
    rintro l pre x W ⟨⟨hp, hcr, hfr⟩, hB⟩ _
    have HP := hide hp
    have HB := hide hB
    clear hp hB
    obtain ⟨x1, x2⟩ := x
    dsimp only at *
    by_cases hne : x1 = x2
    · have e1 : ((x1 : Int) != x2) = false := by rw [hne]; simp
      have HM := hide (cmpP_miss (x := (x1, x2)) HP.out.out hne)
      clear HP hne
      gi_wp2
      exact ⟨KeepsOthers.refl _, Below.refl _ _, ⟨HM.out, hcr, hfr⟩, HB.out⟩
    · have e1 : ((x1 : Int) != x2) = true := by simp; omega
      have HH := hide (cmpP_hit (x := (x1, x2)) HP.out.out hne)
      have HB' := hide (fun v => HB.out.out.setCell (p := ⟨w.heap.size, 0, none⟩) (Nat.le_refl _) v)
      clear HP
      by_cases hlt : x1 < x2
      · have e2 : decide (x1 < x2) = true := by simpa using hlt
        have e3 : Hid (cmpR (some (x1, x2)) = -1) := if_pos hlt
        clear hne hlt
        gi_wp2
        exact ⟨KeepsOthers.setCell _ _ _, ⟨rfl, _, HH.out, by rw [e3.out]; exact World.cell?_setCell_same' _ _ _ (by rw [hcr]; rfl)⟩, HB'.out _⟩
      · have e2 : decide (x1 < x2) = false := by simpa using hlt
        have e3 : Hid (cmpR (some (x1, x2)) = 1) := if_neg hlt
        clear hne hlt
        gi_wp2
        exact ⟨KeepsOthers.setCell _ _ _, ⟨rfl, _, HH.out, by rw [e3.out]; exact World.cell?_setCell_same' _ _ _ (by rw [hcr]; rfl)⟩, HB'.out _⟩
  case done =>
    rintro D zs W hD rfl ⟨⟨hp, hcr, hfr⟩, hB⟩ hK
    have e := HV.out
    rw [hp.out] at e
    have HE := hide e
    clear e hp
    have hK' := (KeepsOthers.setCell W ⟨w.heap.size, 0, none⟩ (.int .i64 0)).same D _ hK rfl
    have hc5 := cell_kept (World.cell?_setCell_same' W ⟨w.heap.size, 0, none⟩ (.int .i64 0) (by rw [hcr]; rfl)) (grownBy_putObj' _ D (.deferred none)) (fun r e => by cases e; exact ⟨_, hK', rfl⟩)
    have HB3 := hide ((hB.out.setCell (p := ⟨w.heap.size, 0, none⟩) (Nat.le_refl _) (.int .i64 0)).trans (belowK_b (w := W0) (n₀ := w.heap.size) (by rw [HS.out]; omega) _ D _ (.deferred none) hD hK' rfl rfl))
    clear hst
    gi_wp2
    refine ⟨by simp, .inl ⟨_, _, rfl, run_takeDeferred hK', ?_⟩⟩
    refine ⟨.int .i64 0, ?_, by rw [← HE.out]; rfl, HB3.out⟩
    simp [results, Tryd.f36, go_sem, hc5]
  case stop =>
    rintro D c pre W hD ⟨k, hk, rfl⟩ ⟨⟨rfl, p, hp, hcr⟩, hB⟩ hK
    obtain ⟨qs, hqs⟩ := prs_prefix (max n1 n2) k hk xs1 ys1
    have e := HV.out
    rw [hqs, cmpP_prefix hp] at e
    have HE := hide e
    clear e hp hqs hst
    have hc5 := cell_kept hcr (grownBy_putObj' _ D (.deferred none)) (fun r e => by cases e; exact ⟨_, hK, rfl⟩)
    have HB3 := hide (hB.out.trans (belowK_b (w := W0) (n₀ := w.heap.size) (by rw [HS.out]; omega) W D _ (.deferred none) hD hK rfl rfl))
    gi_wp2
    refine ⟨by simp, .inl ⟨_, _, rfl, run_takeDeferred hK, ?_⟩⟩
    refine ⟨.int .i64 (cmpR (some p)), ?_, by rw [HE.out], HB3.out⟩
    simp [results, Tryd.f36, go_sem, hc5]
end Go.Proofs.YtcdejccbamjdoaaDoor
