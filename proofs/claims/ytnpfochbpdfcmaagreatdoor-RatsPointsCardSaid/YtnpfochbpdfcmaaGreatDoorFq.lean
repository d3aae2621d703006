/- The frame of the laws on fractions: what their arguments are, how large they are; the library's own number. -/
import Derived.Test.YtnpfochbpdfcmaaGreatDoorFi
import Derived.Test.YtnpfochbpdfcmaaGreatDoorKi
import Derived.Shelf.Vars
set_option linter.unusedVariables false
set_option linter.unusedSimpArgs false
set_option maxRecDepth 100000
namespace Go.Proofs.YtnpfochbpdfcmaaGreatDoor
open Go.ChangeShapes Go.WideShapes Go.ChangeAt Go.RowKit Go.Joins

theorem maxL_of {W : World} (h : W.ShapedOpen Tryz.prog) : MaxL W :=
  cell_of_shapedOpen_int (P := Tryz.prog) (g := 1) (t := 3) (zero := #[.int .i64 0]) h (of_decide_eq_true (by kernel_rfl)) (by kernel_rfl) rfl (by kernel_rfl) (by kernel_rfl) Tryz.underlying3
theorem open_partsW {H : Type} {enc : TypeId × Value → H} {W : World} {t : TypeId} {fuel : Nat} {v : Value} {x : DataW H × List MemPlace} (ht : Tryz.prog.underlying t = some (.slice 37))
    (h : DataW.trod enc Tryz.prog W 0 (fun _ => true) true fuel t [v] = some x) (hz : (DataW.weights Tryz.prog t x.1).all (· ≤ reachBytes) = true) : ∃ A n c xs, v = .slice A n c ∧ n ≤ c ∧ Rd W A n xs ∧ Is32 xs ∧ n ≤ 70368744177664 := by
  obtain ⟨A, n, c, xs, e, h1, h2, h3⟩ := open_parts ht h
  refine ⟨A, n, c, xs, e, h1, h2, h3, ?_⟩
  subst e
  rcases open_ints ht (k := .u32) (by kernel_rfl) (by kernel_rfl) h with ⟨e, _⟩ | ⟨a, len, cap, zs, e, _, hl, hm, hzl, hx, hc, hw⟩
  · cases e; omega
  · cases e
    subst hx
    have hb : Tryz.prog.bytesOf 37 = 4 := by kernel_rfl
    have hr : reachBytes = 140737488351232 := by decide
    simp only [DataW.weights, ht, hb, hr, List.all_cons, Bool.and_eq_true, decide_eq_true_eq] at hz
    have hz1 := hz.1
    simp only [Go.ChangeShapes.lits, List.length_map, List.length_take, List.length_drop] at hz1
    have hzl : zs.length = c := by simpa using hzl
    omega
theorem weights_agg2 {H : Type} {t t0 t1 : TypeId} {f0 f1 : Field} {y0 y1 : DataW H} (ht : Tryz.prog.underlying t = some (.struct #[f0, f1])) (h : (DataW.weights Tryz.prog t (.agg [y0, y1])).all (· ≤ reachBytes) = true) :
    (DataW.weights Tryz.prog f0.type y0).all (· ≤ reachBytes) = true ∧ (DataW.weights Tryz.prog f1.type y1).all (· ≤ reachBytes) = true := by
  simp only [DataW.weights, ht, DataW.weightsEach, List.map_cons, List.map_nil, List.append_nil, List.all_append, Bool.and_eq_true] at h
  exact h
/-- A fraction that came in. -/
theorem open_rat {H : Type} {enc : TypeId × Value → H} {W : World} {base : Nat} {v : Value} {d : DataW H} {ps : List MemPlace}
    (hval : Value.okWide Tryz.prog W .any base 27 v) (h : DataW.Trod enc Tryz.prog W 0 (fun _ => true) true 27 v d ps) (hz : (DataW.weights Tryz.prog 27 d).all (· ≤ reachBytes) = true) :
    ∃ b A n c xs D m k ys, v = .agg #[.bool b, .slice A n c, .slice D m k] ∧ Rd W A n xs ∧ Is32 xs ∧ n ≤ c ∧ n ≤ 70368744177664 ∧ Rd W D m ys ∧ Is32 ys ∧ m ≤ k ∧ m ≤ 70368744177664 := by
  obtain ⟨cs, rfl, hsz⟩ := okWide_struct Tryz.underlying27 hval
  obtain ⟨c0, c1, c2, rfl⟩ := array3 (hsz.trans (by kernel_rfl))
  obtain ⟨fuel, hf⟩ := h
  obtain ⟨y0, y1, n, hx, _, h0, h1⟩ := trod_struct2 Tryz.underlying27 hf
  simp only [Prod.mk.injEq] at hx
  obtain ⟨rfl, rfl⟩ := hx
  obtain ⟨z0, z1⟩ := weights_agg2 (t0 := 0) (t1 := 0) Tryz.underlying27 hz
  have h0' : DataW.trod enc Tryz.prog W 0 (fun _ => true) true n 25 [c0, c1] = some y0 := h0
  have h1' : DataW.trod enc Tryz.prog W 0 (fun _ => true) true n 23 [c2] = some y1 := h1
  obtain ⟨u0, u1, n', hx, _, g0, g1⟩ := trod_struct2 Tryz.underlying25 h0'
  subst hx
  obtain ⟨_, z2⟩ := weights_agg2 (t0 := 0) (t1 := 0) Tryz.underlying25 z0
  have g0' : DataW.trod enc Tryz.prog W 0 (fun _ => true) true n' 4 [c0] = some u0 := g0
  have g1' : DataW.trod enc Tryz.prog W 0 (fun _ => true) true n' 23 [c1] = some u1 := g1
  obtain ⟨b, rfl⟩ := trod_bool (by kernel_rfl) g0'
  obtain ⟨A, n1, c, xs, rfl, hc, hr, h32, hn⟩ := open_partsW (by kernel_rfl) g1' z2
  obtain ⟨D, m, k, ys, rfl, hk, hr2, h322, hm⟩ := open_partsW (by kernel_rfl) h1' z1
  exact ⟨b, A, n1, c, xs, D, m, k, ys, rfl, hr, h32, hc, hn, hr2, h322, hk, hm⟩
end Go.Proofs.YtnpfochbpdfcmaaGreatDoor
