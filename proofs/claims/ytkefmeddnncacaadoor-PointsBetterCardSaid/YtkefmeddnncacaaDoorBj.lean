/- laws of ints that compare with the document's answer: words. -/
import Derived.Test.YtkefmeddnncacaaDoorBi
import Derived.Test.YtkefmeddnncacaaDoorRh
import Derived.Test.YtkefmeddnncacaaDoorJd
set_option linter.unusedVariables false
set_option linter.unusedSimpArgs false
set_option maxRecDepth 100000
namespace Go.Proofs.YtkefmeddnncacaaDoor
open Go.RowKit

theorem Tw.only {B g B' : Nat} {w W : World} {A : Option Addr} {n c : Nat} {xs : List Nat} {t : TypeId} {cs : Array Value} (h : Tw B' w A n c xs) (hB : B ≤ B') (hb : Blk w g t cs) (ht : T32 ≠ t) (F : Only g w W) : Tw B W A n c xs := by
  obtain ⟨h1, h2, h3, h4, h5⟩ := h
  rcases h2 with h2 | ⟨ga, ca, rfl, hg, hk, hc⟩
  · omega
  · have hne : ga ≠ g := fun e => by subst e; exact hk.type_ne hb ht rfl
    have hk' : Blk W ga T32 ca := hk.keep (F.block ga hne)
    refine ⟨⟨h1.1, h1.2.1, fun hn => ?_⟩, .inr ⟨ga, ca, rfl, Nat.le_trans hB hg, hk', hc⟩, h3, h4, h5⟩
    obtain ⟨ad, e, hl, hcl⟩ := h1.2.2 hn
    cases e
    refine ⟨_, rfl, hk'.lt, fun j hj => ?_⟩
    have := hcl j hj
    rw [add0, hk.cell] at this
    rw [add0, hk'.cell]
    exact this
set_option maxHeartbeats 1000000 in
theorem ip_twin {w : World} {b : Bool} {A : Option Addr} {n c : Nat} {xs : List Nat} (h : Prt w (.slice A n c) xs) (hn : n ≤ 100000) :
    Calls Tryd.prog 83 #[.agg #[.bool b, .slice A n c]] w fun e w' => ∃ X cx, e = .returned (.agg #[.bool b, .slice X n cx]) ∧ Hid (Below w.heap.size w w') ∧ Tw w.heap.size w' X n cx xs := by
  refine opq fun R hR => ?_
  replace h := hide h
  go_enter Tryd.func83, Tryd.ntmps83
  go_wp2_with fail
  obtain ⟨W, hW, K1, K2, BW, ZW⟩ := alloc2 w #[.bool b, .slice A n c] #[.bool false, .slice none 0 0] 49 49
  rw [hW]
  clear hW ZW
  have c0 : W.cell? ⟨w.heap.size, 0, none⟩ = some (.bool b) := K1.out.at_ 0 rfl
  have c1 : W.cell? ⟨w.heap.size, 1, none⟩ = some (.slice A n c) := K1.out.at_ 1 rfl
  go_region_held3 (fun w' => w'.cell? ⟨w.heap.size, 0, none⟩ = some (.bool b) ∧ w'.cell? ⟨w.heap.size, 1, none⟩ = some (.slice A n c)) (first | (go_keep; done) | exact ⟨((K1w2.out.far (p := ⟨w.heap.size + 1, 0, none⟩) (show w.heap.size ≠ w.heap.size + 1 by omega) _).far (p := ⟨w.heap.size + 1, 1, none⟩) (show w.heap.size ≠ w.heap.size + 1 by omega) _).at_ 0 rfl, ((K1w2.out.far (p := ⟨w.heap.size + 1, 0, none⟩) (show w.heap.size ≠ w.heap.size + 1 by omega) _).far (p := ⟨w.heap.size + 1, 1, none⟩) (show w.heap.size ≠ w.heap.size + 1 by omega) _).at_ 1 rfl⟩ | go_keep)
    (first
    | (go_at_call 84; refine (np_twin (h.out.below BW.out.drew) hn).mono ?_; rintro e w2 ⟨X, cx, rfl, d1, tx⟩; have TX := hide tx; have B2 := hide (below_tr BW.out.drew d1.out); have K1w2 := hide (K1.out.drew.below' d1.out); have K2w2 := hide (K2.out.drew.below' d1.out); have c02 : w2.cell? ⟨w.heap.size, 0, none⟩ = some (.bool b) := K1w2.out.at_ 0 rfl; have c12 : w2.cell? ⟨w.heap.size, 1, none⟩ = some (.slice A n c) := K1w2.out.at_ 1 rfl; have q0 : w2.cell? ⟨w.heap.size + 1, 0, none⟩ = some (.bool false) := K2w2.out.at_ 0 rfl; have q1 : w2.cell? ⟨w.heap.size + 1, 1, none⟩ = some (.slice none 0 0) := K2w2.out.at_ 1 rfl; have q2 : w2.frozen? ⟨w.heap.size + 1, 0, none⟩ = false := K2w2.out.frozen 0; have q3 : w2.frozen? ⟨w.heap.size + 1, 1, none⟩ = false := K2w2.out.frozen 1; clear d1 tx))
  all_goals
    go_wp2
    refine bodyPost_ret (v := .agg #[.bool b, .slice X n cx]) (by simp [results, Tryd.results83, go_sem, q0, q1, q2, q3]) rfl ?_
    exact opq_end hR ⟨X, cx, rfl, (by (repeat (first | exact B2 | exact Below.refl _ _ | refine Below.setCell ?_ (by first | (simp; done) | (simp; omega)) _ | refine Below.alloc ?_ (by first | (simp; done) | (simp; omega)) _))), TX.out.only BW.out.size K2w2.out (by decide) (((Only.refl _ _).set _ _).set _ _)⟩
theorem ip_left {B : Nat} {w : World} {A X : Option Addr} {b : Bool} {n c cx : Nat} {xs : List Nat} (h : Tw B w X n cx xs) (h' : Prt w (.slice A n c) xs) :
    Calls Tryd.prog 90 #[.agg #[.bool b, .slice X n cx], .agg #[.bool b, .slice A n c]] w fun e w' => e = .returned (.bool true) ∧ Hid (Below w.heap.size w w') := by
  refine opq fun R hR => ?_
  have b0 := hide (ints_box w b (.slice X n cx))
  have b1 := hide (b0.out.trans ((ints_box (w.alloc (.cells #[.bool b, .slice X n cx] 49)) b (.slice A n c)).mono b0.out.size))
  have h := hide h
  have h' := hide h'
  go_enter Tryd.func90, Tryd.ntmps90
  go_wp2_with fail
  refine (np_left (h.out.below b1.out) (h'.out.below b1.out)).mono ?_
  rintro e w1 ⟨rfl, d1⟩
  have b2 := hide (below_tr b1.out d1.out)
  go_wp2
  exact opq_end hR ⟨rfl, b2⟩
theorem IntR.lrow {z : Int} {B : Nat} {w : World} {s : Bool} {A : Option Addr} {n c : Nat} (h : IntR z B w (.agg #[.bool s, .slice A n c])) : ∃ xs, LRow B w A n c xs := by
  obtain ⟨u, e1, r⟩ := h
  have : u = .slice A n c := by simp at e1; exact e1.2.symm
  subst this
  exact r.lrow
theorem intR_len {z : Int} {B : Nat} {w : World} {s : Bool} {A : Option Addr} {n c : Nat} (h : IntR z B w (.agg #[.bool s, .slice A n c])) : n = L z.natAbs := by
  obtain ⟨u, e1, r⟩ := h
  have : u = .slice A n c := by simp at e1; exact e1.2.symm
  subst this
  exact natR_len r
end Go.Proofs.YtkefmeddnncacaaDoor
