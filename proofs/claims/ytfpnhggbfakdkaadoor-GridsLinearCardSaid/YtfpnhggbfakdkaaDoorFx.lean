/- The frame of a law. -/
import Derived.Test.YtfpnhggbfakdkaaDoorCa
import Derived.Test.YtfpnhggbfakdkaaDoorRows
import Derived.Test.YtfpnhggbfakdkaaDoorCards
import Derived.Test.YtfpnhggbfakdkaaDoorTie
import Derived.WalkKit
import Derived.ProofKit
import Derived.OpenShut
import Derived.ReadAgain
import Derived.Deep.DeepHandedRow
import Derived.Lib.LaidTab
import Derived.Lib.TrailingZeros
import Derived.Test.YtfpnhggbfakdkaaDoorNB
import Derived.Lib.SmallJoins
import Derived.Test.YtfpnhggbfakdkaaDoorKB
import Derived.Shelf.Vars
/- The frame of every law: what its arguments are, and that they read as they did. -/
set_option linter.unusedVariables false
set_option linter.unusedSimpArgs false
set_option maxRecDepth 100000
namespace Go.Proofs.YtfpnhggbfakdkaaDoor
open Go.ChangeShapes Go.WideShapes Go.ChangeAt Go.RowKit

theorem own : ownKnob Tryd.prog.godebug = none := by kernel_rfl
theorem kids : Kids Tryd.prog (· < Tryd.prog.types.size) := kids_rows (by kernel_rfl) (by kernel_rfl)
theorem full : ∀ t e, t < Tryd.prog.types.size → Tryd.prog.underlying t = some (.slice e) → 0 < Tryd.prog.cellsOf e := slices_full_of Tryd.prog (by kernel_rfl)

theorem trodAll_carry {H : Type} {enc : TypeId × Value → H} {P : Program} {w w' : World} {base : Nat} {spare : Nat → Bool} {held : Bool} : ∀ {ts : List TypeId} {vs : List Value} {ds : List (DataW H)} {ps : List MemPlace},
    DataW.TrodAll enc P w base spare held ts vs ds ps → (∀ p ∈ ps, w.sameAt w' p) → DataW.TrodAll enc P w' base spare held ts vs ds ps
  | [], [], [], _, h, _ => h
  | _ :: _, _ :: _, _ :: _, _, ⟨p, q, ⟨n, h1⟩, h2, e⟩, hs =>
    ⟨p, q, ⟨n, DataW.trod_carry n _ _ _ h1 (fun x hx => hs x (by rw [e]; exact List.mem_append_left _ hx))⟩, trodAll_carry h2 (fun x hx => hs x (by rw [e]; exact List.mem_append_right _ hx)), e⟩
/-- What the statement asks of a call that answers true and turns nothing that was there. -/
theorem law_post {H : Type} {enc : TypeId × Value → H} {f : Func} {s : ChangeSpec} {W W' : World} {args : Array Value} {ds gs : List (DataW H)} {before : List MemPlace}
    (hvars : s.vars = []) (hT : ∀ t ∈ f.params.toList, t < Tryd.prog.types.size)
    (hres : DataW.TrodAll enc Tryd.prog W' W.heap.size (fun _ => false) false f.resultTypes.toList ((Value.bool true).resultList f.resultTypes.size) (s.fn H (ds ++ gs)).results [])
    (hW : DataW.Whole enc Tryd.prog f.params.toList s.vars false W args.toList ds gs before)
    (ha : (s.fn H (ds ++ gs)).args = ds) (hv : (s.fn H (ds ++ gs)).vars = []) (hb : Below W.heap.size W W') : s.post enc Tryd.prog f false true false false W args (.bool true) W' := by
  have hlt := fun p hp => hW.lt (p := p) hp
  have hW' := hW
  obtain ⟨p, q, hA, hV, hpq, hz, hn⟩ := hW
  rw [hvars] at hV
  obtain ⟨e1, e2⟩ := trodVars_none hV
  subst e1
  subst e2
  have hp : ∀ x ∈ p, x.block < W.heap.size := fun x hx => hlt x (by rw [hpq]; exact List.mem_append_left _ hx)
  refine ⟨ds, [], before, [], p, [], hW', hres, ?_, ?_, hb.frame _, fun h => by cases h⟩
  · rw [ha]
    exact trodAll_carry (DataW.TrodAll.respare kids full hT hA (fun x hx => by simpa using hp x hx)) (fun x hx => hb.same (hp x hx))
  · rw [hvars, hv]
    rfl
end Go.Proofs.YtfpnhggbfakdkaaDoor

/- The frame of every law: the tables that the row lists, and a world that holds them. -/
set_option linter.unusedVariables false
set_option linter.unusedSimpArgs false
set_option maxRecDepth 100000
namespace Go.Proofs.YtfpnhggbfakdkaaDoor
open Go.ChangeShapes Go.WideShapes Go.ChangeAt Go.RowKit

theorem gTab : Tryd.prog.globalNamed "math/bits.deBruijn32tab" = some 0 := by kernel_rfl
theorem gTabType : (Tryd.prog.globals[0]?).map (·.type) = some 123 := by kernel_rfl
theorem tab_of {W : World} {rest : List (String × DataW Unit)} (h : laidMet Tryd.prog (("math/bits.deBruijn32tab", Rows.laid_math_bits_deBruijn32tab) :: rest) W) : Tab W := by
  have T : Lib.TabIs Tryd.prog W "math/bits.deBruijn32tab" .u8 (Lib.deBruijn32tab.map fun (x : Nat) => (x : Int)) :=
    Lib.tabIs_of_head (n := 32) (e := 5) gTab gTabType (by kernel_rfl) (by kernel_rfl) (by kernel_rfl) (by kernel_rfl) h
  refine ⟨fun j hj => ?_⟩
  have := T.cell gTab j (by simpa [Lib.deBruijn32tab] using hj)
  rw [this, List.getD_eq_getElem?_getD, List.getElem?_map, List.getD_eq_getElem?_getD]
  have hj2 : j < Lib.deBruijn32tab.length := by simpa [Lib.deBruijn32tab] using hj
  rw [List.getElem?_eq_getElem hj2]
  rfl
/-- The cells of a datum. -/
def flatD : Nat → DataW Unit → List Value
  | 0, _ => []
  | _ + 1, .lit (.int k z) => [.int k z]
  | n + 1, .agg ds => ds.flatMap (flatD n)
  | _, _ => []
def layCells (d : DataW Unit) : Obj → Obj
  | .cells _ t fr => .cells (flatD 8 d).toArray t fr
  | o => o
def layAll (P : Program) : List (String × DataW Unit) → Array Obj → Array Obj
  | [], h => h
  | x :: l, h => layAll P l (match P.globalNamed x.1 with
    | some g => h.modify g (layCells x.2)
    | none => h)
/-- A world for the witness: the settled one, the listed tables holding what their initialisers lay. -/
noncomputable def laidWorld (l : List (String × DataW Unit)) (os : Os) : World :=
  { World.holding Tryd.prog os ⟨#[], #[], []⟩ with heap := layAll Tryd.prog l (World.holding Tryd.prog os ⟨#[], #[], []⟩).heap }
end Go.Proofs.YtfpnhggbfakdkaaDoor

/- The frame of the laws on whole numbers: what their arguments are. -/
set_option linter.unusedVariables false
set_option linter.unusedSimpArgs false
set_option maxRecDepth 100000
namespace Go.Proofs.YtfpnhggbfakdkaaDoor
open Go.ChangeShapes Go.WideShapes Go.ChangeAt Go.RowKit Go.Joins

theorem trod_bool {H : Type} {enc : TypeId × Value → H} {P : Program} {w : World} {base : Nat} {spare : Nat → Bool} {held : Bool} {fuel : Nat} {t : TypeId} {v : Value} {x : DataW H × List MemPlace} (ht : P.underlying t = some .bool) (h : DataW.trod enc P w base spare held fuel t [v] = some x) : ∃ b, v = .bool b := by
  cases fuel with
  | zero => simp [DataW.trod] at h
  | succ n =>
    unfold DataW.trod at h
    rw [ht] at h
    split at h <;> simp_all
/-- Cells that came in as a list of parts. -/
theorem open_parts {H : Type} {enc : TypeId × Value → H} {W : World} {t : TypeId} {fuel : Nat} {v : Value} {x : DataW H × List MemPlace} (ht : Tryd.prog.underlying t = some (.slice 85))
    (h : DataW.trod enc Tryd.prog W 0 (fun _ => true) true fuel t [v] = some x) : ∃ A n c xs, v = .slice A n c ∧ n ≤ c ∧ Rd W A n xs ∧ Is32 xs := by
  rcases open_ints ht (k := .u32) (by kernel_rfl) (by kernel_rfl) h with ⟨e, _⟩ | ⟨a, len, cap, zs, e, _, hl, hm, hz, hx, hc, hw⟩
  · cases e
    exact ⟨none, 0, 0, [], rfl, Nat.le_refl _, Rdk.nil _ _ _, is32_nil⟩
  · cases e
    have hzl : zs.length = cap := by simpa using hz
    have hmax : maxLen = 9223372036854775807 := by decide
    have hwf : ∀ z ∈ zs, 0 ≤ z ∧ z < 4294967296 := fun z hz' => by
      have := hw z hz'
      simp only [Lit.wf, Bool.and_eq_true, decide_eq_true_eq] at this
      have e1 : IntKind.u32.min = 0 := by decide
      have e2 : IntKind.u32.max = 4294967295 := by decide
      omega
    refine ⟨_, len, cap, (zs.take len).map Int.toNat, rfl, hl, ⟨by simp; omega, by omega, fun h0 => ⟨a, rfl, ?_, fun j hj => ?_⟩⟩, ?_⟩
    · have := hc 0 (by omega)
      have hb := World.block_lt_of_cell? W _ this
      rwa [block_add] at hb
    · rw [hc j (by omega)]
      have hj2 : j < zs.length := by omega
      have e : ((zs.take len).map Int.toNat).getD j 0 = (zs[j]'hj2).toNat := by
        simp [List.getD_eq_getElem?_getD, List.getElem?_map, List.getElem?_take, hj, hj2]
      rw [e, List.getD_eq_getElem?_getD, List.getElem?_eq_getElem hj2]
      have := hwf _ (List.getElem_mem hj2)
      simp only [Option.getD_some]
      congr 2
      omega
    · intro x hx
      obtain ⟨z, hz', rfl⟩ := List.mem_map.1 hx
      have := hwf z (List.mem_of_mem_take hz')
      omega
end Go.Proofs.YtfpnhggbfakdkaaDoor

/- The frame of the laws on fractions: what their arguments are, how large they are; the library's own number. -/
set_option linter.unusedVariables false
set_option linter.unusedSimpArgs false
set_option maxRecDepth 100000
namespace Go.Proofs.YtfpnhggbfakdkaaDoor
open Go.ChangeShapes Go.WideShapes Go.ChangeAt Go.RowKit Go.Joins

theorem open_partsW {H : Type} {enc : TypeId × Value → H} {W : World} {t : TypeId} {fuel : Nat} {v : Value} {x : DataW H × List MemPlace} (ht : Tryd.prog.underlying t = some (.slice 85))
    (h : DataW.trod enc Tryd.prog W 0 (fun _ => true) true fuel t [v] = some x) (hz : (DataW.weights Tryd.prog t x.1).all (· ≤ reachBytes) = true) : ∃ A n c xs, v = .slice A n c ∧ n ≤ c ∧ Rd W A n xs ∧ Is32 xs ∧ n ≤ 70368744177664 := by
  obtain ⟨A, n, c, xs, e, h1, h2, h3⟩ := open_parts ht h
  refine ⟨A, n, c, xs, e, h1, h2, h3, ?_⟩
  subst e
  rcases open_ints ht (k := .u32) (by kernel_rfl) (by kernel_rfl) h with ⟨e, _⟩ | ⟨a, len, cap, zs, e, _, hl, hm, hzl, hx, hc, hw⟩
  · cases e; omega
  · cases e
    subst hx
    have hb : Tryd.prog.bytesOf 85 = 4 := by kernel_rfl
    have hr : reachBytes = 140737488351232 := by decide
    simp only [DataW.weights, ht, hb, hr, List.all_cons, Bool.and_eq_true, decide_eq_true_eq] at hz
    have hz1 := hz.1
    simp only [Go.ChangeShapes.lits, List.length_map, List.length_take, List.length_drop] at hz1
    have hzl : zs.length = c := by simpa using hzl
    omega
theorem weights_agg2 {H : Type} {t t0 t1 : TypeId} {f0 f1 : Field} {y0 y1 : DataW H} (ht : Tryd.prog.underlying t = some (.struct #[f0, f1])) (h : (DataW.weights Tryd.prog t (.agg [y0, y1])).all (· ≤ reachBytes) = true) :
    (DataW.weights Tryd.prog f0.type y0).all (· ≤ reachBytes) = true ∧ (DataW.weights Tryd.prog f1.type y1).all (· ≤ reachBytes) = true := by
  simp only [DataW.weights, ht, DataW.weightsEach, List.map_cons, List.map_nil, List.append_nil, List.all_append, Bool.and_eq_true] at h
  exact h
/-- A fraction that came in. -/
theorem open_rat {H : Type} {enc : TypeId × Value → H} {W : World} {base : Nat} {v : Value} {d : DataW H} {ps : List MemPlace}
    (hval : Value.okWide Tryd.prog W .any base 44 v) (h : DataW.Trod enc Tryd.prog W 0 (fun _ => true) true 44 v d ps) (hz : (DataW.weights Tryd.prog 44 d).all (· ≤ reachBytes) = true) :
    ∃ b A n c xs D m k ys, v = .agg #[.bool b, .slice A n c, .slice D m k] ∧ Rd W A n xs ∧ Is32 xs ∧ n ≤ c ∧ n ≤ 70368744177664 ∧ Rd W D m ys ∧ Is32 ys ∧ m ≤ k ∧ m ≤ 70368744177664 := by
  obtain ⟨cs, rfl, hsz⟩ := okWide_struct Tryd.underlying44 hval
  obtain ⟨c0, c1, c2, rfl⟩ := array3 (hsz.trans (by kernel_rfl))
  obtain ⟨fuel, hf⟩ := h
  obtain ⟨y0, y1, n, hx, _, h0, h1⟩ := trod_struct2 Tryd.underlying44 hf
  simp only [Prod.mk.injEq] at hx
  obtain ⟨rfl, rfl⟩ := hx
  obtain ⟨z0, z1⟩ := weights_agg2 (t0 := 0) (t1 := 0) Tryd.underlying44 hz
  have h0' : DataW.trod enc Tryd.prog W 0 (fun _ => true) true n 42 [c0, c1] = some y0 := h0
  have h1' : DataW.trod enc Tryd.prog W 0 (fun _ => true) true n 40 [c2] = some y1 := h1
  obtain ⟨u0, u1, n', hx, _, g0, g1⟩ := trod_struct2 Tryd.underlying42 h0'
  subst hx
  obtain ⟨_, z2⟩ := weights_agg2 (t0 := 0) (t1 := 0) Tryd.underlying42 z0
  have g0' : DataW.trod enc Tryd.prog W 0 (fun _ => true) true n' 4 [c0] = some u0 := g0
  have g1' : DataW.trod enc Tryd.prog W 0 (fun _ => true) true n' 40 [c1] = some u1 := g1
  obtain ⟨b, rfl⟩ := trod_bool (by kernel_rfl) g0'
  obtain ⟨A, n1, c, xs, rfl, hc, hr, h32, hn⟩ := open_partsW (by kernel_rfl) g1' z2
  obtain ⟨D, m, k, ys, rfl, hk, hr2, h322, hm⟩ := open_partsW (by kernel_rfl) h1' z1
  exact ⟨b, A, n1, c, xs, D, m, k, ys, rfl, hr, h32, hc, hn, hr2, h322, hk, hm⟩
end Go.Proofs.YtfpnhggbfakdkaaDoor
