/- The frame of a law on three lists and a fraction in one argument. -/
import Derived.Test.YthnhcbdecgkacaaGreatDoorVB
set_option linter.unusedVariables false
set_option linter.unusedSimpArgs false
set_option maxRecDepth 100000
namespace Go.Proofs.YthnhcbdecgkacaaGreatDoor
open Go.ChangeShapes Go.WideShapes Go.ChangeAt Go.RowKit Go.Joins

theorem open_rats1 {H : Type} {enc : TypeId × Value → H} {W : World} {t : TypeId} {fuel : Nat} {c : Value} {y : DataW H × List MemPlace} (ht : Tryz.prog.underlying t = some (.slice 60))
    (h : DataW.trod enc Tryz.prog W 0 (fun _ => true) true fuel t [c] = some y) (hz : (DataW.weights Tryz.prog t y.1).all (· ≤ reachBytes) = true) : ∃ A n c' es, c = .slice A n c' ∧ Lst RRw W (.slice A n c') es := by
  have hs : ∃ A n c', c = .slice A n c' := by
    rcases Deep.open_slice ht h with ⟨e, _⟩ | ⟨a, len, cap, m, n, D, Pl, e, _⟩
    · cases e; exact ⟨_, _, _, rfl⟩
    · cases e; exact ⟨_, _, _, rfl⟩
  obtain ⟨A, n, c', rfl⟩ := hs
  obtain ⟨A', n', c2, es, e, hL⟩ := open_rats (v := .slice A n c') ht ⟨fuel, (h : DataW.trod enc Tryz.prog W 0 (fun _ => true) true fuel t (Value.slice A n c').cells.toList = some (y.1, y.2))⟩ rfl hz
  exact ⟨A, n, c', es, rfl, hL⟩
theorem array6 {α : Type} {a : Array α} (h : a.size = 6) : ∃ x0 x1 x2 x3 x4 x5, a = #[x0, x1, x2, x3, x4, x5] := by
  obtain ⟨l⟩ := a
  match l, h with
  | [a, b, c, d, e, f], _ => exact ⟨a, b, c, d, e, f, rfl⟩
theorem open_three {H : Type} {enc : TypeId × Value → H} {W : World} {base : Nat} {v : Value} {d : DataW H} {ps : List MemPlace}
    (hval : Value.okWide Tryz.prog W .any base 62 v) (h : DataW.Trod enc Tryz.prog W 0 (fun _ => true) true 62 v d ps) (hz : (DataW.weights Tryz.prog 62 d).all (· ≤ reachBytes) = true) :
    ∃ A1 n1 c1 es1 A2 n2 c2 es2 A3 n3 c3 es3 b4 A4 n4 c4 D4 m4 k4 e4, v = .agg #[.slice A1 n1 c1, .slice A2 n2 c2, .slice A3 n3 c3, .bool b4, .slice A4 n4 c4, .slice D4 m4 k4] ∧
      Lst RRw W (.slice A1 n1 c1) es1 ∧ Lst RRw W (.slice A2 n2 c2) es2 ∧ Lst RRw W (.slice A3 n3 c3) es3 ∧ RRw W (.agg #[.bool b4, .slice A4 n4 c4, .slice D4 m4 k4]) e4 := by
  obtain ⟨cs, rfl, hsz⟩ := okWide_struct Tryz.underlying62 hval
  obtain ⟨x0, x1, x2, x3, x4, x5, rfl⟩ := array6 (hsz.trans (by kernel_rfl))
  obtain ⟨fuel, hf⟩ := h
  obtain ⟨xs, n, _, hx, hl, hlen, hfs⟩ := DataW.trod_struct Tryz.underlying62 hf
  match xs, hlen with
  | [y0, y1, y2, y3], _ =>
    simp only [Prod.mk.injEq] at hx
    obtain ⟨rfl, rfl⟩ := hx
    have hz' := hz
    simp only [DataW.weights, Tryz.underlying62, DataW.weightsEach, List.map_cons, List.map_nil, List.append_nil, List.all_append, Bool.and_eq_true] at hz'
    obtain ⟨z0, z1, z2, z3⟩ := hz'
    have h0 : DataW.trod enc Tryz.prog W 0 (fun _ => true) true n 58 [x0] = some y0 := hfs 0 _ rfl
    have h1 : DataW.trod enc Tryz.prog W 0 (fun _ => true) true n 58 [x1] = some y1 := hfs 1 _ rfl
    have h2 : DataW.trod enc Tryz.prog W 0 (fun _ => true) true n 58 [x2] = some y2 := hfs 2 _ rfl
    have h3 : DataW.trod enc Tryz.prog W 0 (fun _ => true) true n 60 [x3, x4, x5] = some y3 := hfs 3 _ rfl
    obtain ⟨A1, n1, c1, es1, rfl, L1⟩ := open_rats1 (by kernel_rfl) h0 z0
    obtain ⟨A2, n2, c2, es2, rfl, L2⟩ := open_rats1 (by kernel_rfl) h1 z1
    obtain ⟨A3, n3, c3, es3, rfl, L3⟩ := open_rats1 (by kernel_rfl) h2 z2
    obtain ⟨u, e, hu, R4⟩ := rat_cells (d := y3.1) (ps := y3.2) h3 (by simpa using z3)
    have R4' := R4
    obtain ⟨A, m, c, D, m', k', rfl, _⟩ := R4'
    have hu' : [x3, x4, x5] = [.bool e.1, .slice A m c, .slice D m' k'] := hu
    cases hu'
    exact ⟨A1, n1, c1, es1, A2, n2, c2, es2, A3, n3, c3, es3, _, A, m, c, D, m', k', e, rfl, L1, L2, L3, R4⟩
end Go.Proofs.YthnhcbdecgkacaaGreatDoor
