/- laws of rats that compare: a fraction's twin, what is left of it, the Book of fractions. -/
import Derived.Test.YtkefmeddnncacaaDoorBm
import Derived.Test.YtkefmeddnncacaaDoorBk
import Derived.Test.YtkefmeddnncacaaDoorRr
set_option linter.unusedVariables false
set_option linter.unusedSimpArgs false
set_option maxRecDepth 100000
namespace Go.Proofs.YtkefmeddnncacaaDoor
open Go.RowKit

set_option maxHeartbeats 2000000 in
theorem rp_twin {w : World} {b : Bool} {A D : Option Addr} {n c m k : Nat} {xs ys : List Nat} (h : Prt w (.slice A n c) xs) (h' : Prt w (.slice D m k) ys) (hn : n ≤ 100000) (hm : m ≤ 100000) :
    Calls Tryd.prog 18 #[.agg #[.bool b, .slice A n c, .slice D m k]] w fun e w' => ∃ X cx Y cy, e = .returned (.agg #[.bool b, .slice X n cx, .slice Y m cy]) ∧ Hid (Below w.heap.size w w') ∧ Tw w.heap.size w' X n cx xs ∧ Tw w.heap.size w' Y m cy ys ∧ Sep (.slice X n cx) (.slice Y m cy) := by
  refine opq fun R hR => ?_
  replace h := hide h
  replace h' := hide h'
  go_enter Tryd.func18, Tryd.ntmps18
  go_wp2_with fail
  obtain ⟨W, hW, K1, K2, BW, ZW⟩ := alloc2 w #[.bool b, .slice A n c, .slice D m k] #[.bool false, .slice none 0 0, .slice none 0 0] TR TR
  rw [hW]
  clear hW ZW
  have c0 : W.cell? ⟨w.heap.size, 0, none⟩ = some (.bool b) := K1.out.at_ 0 rfl
  have c1 : W.cell? ⟨w.heap.size, 1, none⟩ = some (.slice A n c) := K1.out.at_ 1 rfl
  have c2 : W.cell? ⟨w.heap.size, 2, none⟩ = some (.slice D m k) := K1.out.at_ 2 rfl
  go_region_law
    (first
    | ((try go_simp); go_at_call 83
       first
       | (refine (ip_twin (b := b) (h.out.below BW.out.drew) hn).mono ?_; rintro e u1 ⟨X, cx, rfl, d1, t1⟩; have TX := hide t1; have D1 := hide d1.out; clear d1 t1 c0 c1 c2; have K11 := hide (K1.out.drew.below' D1.out); have K21 := hide (K2.out.drew.below' D1.out); have E1 := hide (below_tr BW.out.drew D1.out); have x0 : u1.cell? ⟨w.heap.size, 0, none⟩ = some (.bool b) := K11.out.at_ 0 rfl; have x1 : u1.cell? ⟨w.heap.size, 1, none⟩ = some (.slice A n c) := K11.out.at_ 1 rfl; have x2 : u1.cell? ⟨w.heap.size, 2, none⟩ = some (.slice D m k) := K11.out.at_ 2 rfl; have z0 : u1.cell? ⟨w.heap.size + 1, 0, none⟩ = some (.bool false) := K21.out.at_ 0 rfl; have z1 : u1.cell? ⟨w.heap.size + 1, 1, none⟩ = some (.slice none 0 0) := K21.out.at_ 1 rfl; have z2 : u1.cell? ⟨w.heap.size + 1, 2, none⟩ = some (.slice none 0 0) := K21.out.at_ 2 rfl; have f0 : u1.frozen? ⟨w.heap.size + 1, 0, none⟩ = false := K21.out.frozen 0; have f1 : u1.frozen? ⟨w.heap.size + 1, 1, none⟩ = false := K21.out.frozen 1; have f2 : u1.frozen? ⟨w.heap.size + 1, 2, none⟩ = false := K21.out.frozen 2)
       | (refine (ip_twin (b := b) (h.out.below E1.out) hn).mono ?_; rintro e u2 ⟨X, cx, rfl, d1, t1⟩; have TX := hide t1; have D2 := hide d1.out; clear d1 t1 x0 x1 x2 z0 z1 z2 f0 f1 f2; have K12 := hide (K11.out.below' D2.out); have K22 := hide (K21.out.below' D2.out); have E2 := hide (below_tr E1.out D2.out); have SP : Hid (Sep (.slice X n cx) (.slice Y m cy)) := (sep_of TY.out.fr TX.out.fr).symm; have TY' := hide (TY.out.below D2.out); have x0 : u2.cell? ⟨w.heap.size, 0, none⟩ = some (.bool b) := K12.out.at_ 0 rfl; have x1 : u2.cell? ⟨w.heap.size, 1, none⟩ = some (.slice A n c) := K12.out.at_ 1 rfl; have x2 : u2.cell? ⟨w.heap.size, 2, none⟩ = some (.slice D m k) := K12.out.at_ 2 rfl; have z0 : u2.cell? ⟨w.heap.size + 1, 0, none⟩ = some (.bool false) := K22.out.at_ 0 rfl; have z1 : u2.cell? ⟨w.heap.size + 1, 1, none⟩ = some (.slice none 0 0) := K22.out.at_ 1 rfl; have z2 : u2.cell? ⟨w.heap.size + 1, 2, none⟩ = some (.slice none 0 0) := K22.out.at_ 2 rfl; have f0 : u2.frozen? ⟨w.heap.size + 1, 0, none⟩ = false := K22.out.frozen 0; have f1 : u2.frozen? ⟨w.heap.size + 1, 1, none⟩ = false := K22.out.frozen 1; have f2 : u2.frozen? ⟨w.heap.size + 1, 2, none⟩ = false := K22.out.frozen 2))
    | ((try go_simp); go_at_call 84
       first
       | (refine (np_twin (h'.out.below BW.out.drew) hm).mono ?_; rintro e u1 ⟨Y, cy, rfl, d1, t1⟩; have TY := hide t1; have D1 := hide d1.out; clear d1 t1 c0 c1 c2; have K11 := hide (K1.out.drew.below' D1.out); have K21 := hide (K2.out.drew.below' D1.out); have E1 := hide (below_tr BW.out.drew D1.out); have x0 : u1.cell? ⟨w.heap.size, 0, none⟩ = some (.bool b) := K11.out.at_ 0 rfl; have x1 : u1.cell? ⟨w.heap.size, 1, none⟩ = some (.slice A n c) := K11.out.at_ 1 rfl; have x2 : u1.cell? ⟨w.heap.size, 2, none⟩ = some (.slice D m k) := K11.out.at_ 2 rfl; have z0 : u1.cell? ⟨w.heap.size + 1, 0, none⟩ = some (.bool false) := K21.out.at_ 0 rfl; have z1 : u1.cell? ⟨w.heap.size + 1, 1, none⟩ = some (.slice none 0 0) := K21.out.at_ 1 rfl; have z2 : u1.cell? ⟨w.heap.size + 1, 2, none⟩ = some (.slice none 0 0) := K21.out.at_ 2 rfl; have f0 : u1.frozen? ⟨w.heap.size + 1, 0, none⟩ = false := K21.out.frozen 0; have f1 : u1.frozen? ⟨w.heap.size + 1, 1, none⟩ = false := K21.out.frozen 1; have f2 : u1.frozen? ⟨w.heap.size + 1, 2, none⟩ = false := K21.out.frozen 2)
       | (refine (np_twin (h'.out.below E1.out) hm).mono ?_; rintro e u2 ⟨Y, cy, rfl, d1, t1⟩; have TY := hide t1; have D2 := hide d1.out; clear d1 t1 x0 x1 x2 z0 z1 z2 f0 f1 f2; have K12 := hide (K11.out.below' D2.out); have K22 := hide (K21.out.below' D2.out); have E2 := hide (below_tr E1.out D2.out); have SP : Hid (Sep (.slice X n cx) (.slice Y m cy)) := sep_of TX.out.fr TY.out.fr; have TX' := hide (TX.out.below D2.out); have x0 : u2.cell? ⟨w.heap.size, 0, none⟩ = some (.bool b) := K12.out.at_ 0 rfl; have x1 : u2.cell? ⟨w.heap.size, 1, none⟩ = some (.slice A n c) := K12.out.at_ 1 rfl; have x2 : u2.cell? ⟨w.heap.size, 2, none⟩ = some (.slice D m k) := K12.out.at_ 2 rfl; have z0 : u2.cell? ⟨w.heap.size + 1, 0, none⟩ = some (.bool false) := K22.out.at_ 0 rfl; have z1 : u2.cell? ⟨w.heap.size + 1, 1, none⟩ = some (.slice none 0 0) := K22.out.at_ 1 rfl; have z2 : u2.cell? ⟨w.heap.size + 1, 2, none⟩ = some (.slice none 0 0) := K22.out.at_ 2 rfl; have f0 : u2.frozen? ⟨w.heap.size + 1, 0, none⟩ = false := K22.out.frozen 0; have f1 : u2.frozen? ⟨w.heap.size + 1, 1, none⟩ = false := K22.out.frozen 1; have f2 : u2.frozen? ⟨w.heap.size + 1, 2, none⟩ = false := K22.out.frozen 2)))
  all_goals
    go_wp2
    refine bodyPost_ret (v := .agg #[.bool b, .slice X n cx, .slice Y m cy]) (by simp [results, Tryd.results18, go_sem, z0, z1, z2, f0, f1, f2]) rfl ?_
    first
    | exact opq_end hR ⟨X, cx, Y, cy, rfl, (by (repeat (first | exact E2 | exact Below.refl _ _ | refine Below.setCell ?_ (by first | (simp; done) | (simp; omega)) _ | refine Below.alloc ?_ (by first | (simp; done) | (simp; omega)) _))), TX'.out.only BW.out.size K22.out (by decide) ((((Only.refl _ _).set _ _).set _ _).set _ _), TY.out.only E1.out.size K22.out (by decide) ((((Only.refl _ _).set _ _).set _ _).set _ _), SP.out⟩
    | exact opq_end hR ⟨X, cx, Y, cy, rfl, (by (repeat (first | exact E2 | exact Below.refl _ _ | refine Below.setCell ?_ (by first | (simp; done) | (simp; omega)) _ | refine Below.alloc ?_ (by first | (simp; done) | (simp; omega)) _))), TX.out.only E1.out.size K22.out (by decide) ((((Only.refl _ _).set _ _).set _ _).set _ _), TY'.out.only BW.out.size K22.out (by decide) ((((Only.refl _ _).set _ _).set _ _).set _ _), SP.out⟩
theorem rats_box (w : World) (b : Bool) (u d : Value) : Below w.heap.size w (w.alloc (.cells #[.bool b, u, d] TR)) := (Below.refl _ _).alloc (Nat.le_refl _) _
set_option maxHeartbeats 2000000 in
theorem rp_left {B B' : Nat} {w : World} {b : Bool} {A D X Y : Option Addr} {n c cx m k cy : Nat} {xs ys : List Nat} (h1 : Tw B w X n cx xs) (h2 : Tw B' w Y m cy ys) (h3 : Prt w (.slice A n c) xs) (h4 : Prt w (.slice D m k) ys) :
    Calls Tryd.prog 22 #[.agg #[.bool b, .slice X n cx, .slice Y m cy], .agg #[.bool b, .slice A n c, .slice D m k]] w fun e w' => ∃ u, e = .returned u ∧ Below w.heap.size w w' ∧ u = .bool true := by
  refine opq fun R hR => ?_
  replace h1 := hide h1
  replace h2 := hide h2
  replace h3 := hide h3
  replace h4 := hide h4
  have B0 := hide (rats_box w b (.slice X n cx) (.slice Y m cy))
  have B1 := hide (B0.out.trans ((rats_box (w.alloc (.cells #[.bool b, .slice X n cx, .slice Y m cy] TR)) b (.slice A n c) (.slice D m k)).mono B0.out.size))
  have K1 := hide ((Blk.new_at w w.heap.size rfl TR #[.bool b, .slice X n cx, .slice Y m cy]).alloc (.cells #[.bool b, .slice A n c, .slice D m k] TR))
  have K2 := hide (Blk.new_at (w.alloc (.cells #[.bool b, .slice X n cx, .slice Y m cy] TR)) (w.heap.size + 1) (by simp) TR #[.bool b, .slice A n c, .slice D m k])
  have I1 := hide (ip_left (b := b) (h1.out.below B1.out) (h3.out.below B1.out))
  go_enter Tryd.func22, Tryd.ntmps22
  go_wp2_with fail
  refine I1.out.mono ?_
  rintro e w1 ⟨rfl, d1⟩
  have B2 := hide (B1.out.trans (d1.out.mono B1.out.size))
  replace K1 := hide (K1.out.below' d1.out)
  replace K2 := hide (K2.out.below' d1.out)
  have x2 := K1.out.at_ 2 rfl
  have y2 := K2.out.at_ 2 rfl
  clear d1 I1
  go_wp2_with fail
  refine (np_left (h2.out.below B2.out) (h4.out.below B2.out)).mono ?_
  rintro e w2 ⟨rfl, d2⟩
  have B3 := hide (B2.out.trans (d2.out.mono B2.out.size))
  go_wp2
  exact opq_end hR ⟨_, rfl, B3.out, rfl⟩
end Go.Proofs.YtkefmeddnncacaaDoor
