/- The frame of every law: what its arguments are, and that they read as they did. -/
import Derived.Test.YtnpfochbpdfcmaaGreatDoorCa
import Derived.Test.YtnpfochbpdfcmaaGreatDoorRows
import Derived.Test.YtnpfochbpdfcmaaGreatDoorCards
import Derived.Test.YtnpfochbpdfcmaaGreatDoorTie
import Derived.WalkKit
import Derived.ProofKit
import Derived.OpenShut
import Derived.ReadAgain
import Derived.Deep.DeepHandedRow
import Derived.Lib.LaidTab
import Derived.Lib.TrailingZeros
set_option linter.unusedVariables false
set_option linter.unusedSimpArgs false
set_option maxRecDepth 100000
namespace Go.Proofs.YtnpfochbpdfcmaaGreatDoor
open Go.ChangeShapes Go.WideShapes Go.ChangeAt Go.RowKit

theorem own : ownKnob Tryz.prog.godebug = none := by kernel_rfl
theorem kids : Kids Tryz.prog (· < Tryz.prog.types.size) := kids_rows (by kernel_rfl) (by kernel_rfl)
theorem full : ∀ t e, t < Tryz.prog.types.size → Tryz.prog.underlying t = some (.slice e) → 0 < Tryz.prog.cellsOf e := slices_full_of Tryz.prog (by kernel_rfl)

theorem trodAll_carry {H : Type} {enc : TypeId × Value → H} {P : Program} {w w' : World} {base : Nat} {spare : Nat → Bool} {held : Bool} : ∀ {ts : List TypeId} {vs : List Value} {ds : List (DataW H)} {ps : List MemPlace},
    DataW.TrodAll enc P w base spare held ts vs ds ps → (∀ p ∈ ps, w.sameAt w' p) → DataW.TrodAll enc P w' base spare held ts vs ds ps
  | [], [], [], _, h, _ => h
  | _ :: _, _ :: _, _ :: _, _, ⟨p, q, ⟨n, h1⟩, h2, e⟩, hs =>
    ⟨p, q, ⟨n, DataW.trod_carry n _ _ _ h1 (fun x hx => hs x (by rw [e]; exact List.mem_append_left _ hx))⟩, trodAll_carry h2 (fun x hx => hs x (by rw [e]; exact List.mem_append_right _ hx)), e⟩
/-- What the statement asks of a call that answers true and turns nothing that was there. -/
theorem law_post {H : Type} {enc : TypeId × Value → H} {f : Func} {s : ChangeSpec} {W W' : World} {args : Array Value} {ds gs : List (DataW H)} {before : List MemPlace}
    (hvars : s.vars = []) (hT : ∀ t ∈ f.params.toList, t < Tryz.prog.types.size)
    (hres : DataW.TrodAll enc Tryz.prog W' W.heap.size (fun _ => false) false f.resultTypes.toList ((Value.bool true).resultList f.resultTypes.size) (s.fn H (ds ++ gs)).results [])
    (hW : DataW.Whole enc Tryz.prog f.params.toList s.vars false W args.toList ds gs before)
    (ha : (s.fn H (ds ++ gs)).args = ds) (hv : (s.fn H (ds ++ gs)).vars = []) (hb : Below W.heap.size W W') : s.post enc Tryz.prog f false true false false W args (.bool true) W' := by
  have hlt := fun p hp => hW.lt (p := p) hp
  have hW' := hW
  obtain ⟨p, q, hA, hV, hpq, hz, hn⟩ := hW
  rw [hvars] at hV
  obtain ⟨e1, e2⟩ := trodVars_none hV
  subst e1
  subst e2
  have hp : ∀ x ∈ p, x.block < W.heap.size := fun x hx => hlt x (by rw [hpq]; exact List.mem_append_left _ hx)
  refine ⟨ds, [], before, [], p, [], hW', hres, ?_, ?_, hb.frame _, fun h => by cases h⟩
  · rw [ha]
    exact trodAll_carry (DataW.TrodAll.respare kids full hT hA (fun x hx => by simpa using hp x hx)) (fun x hx => hb.same (hp x hx))
  · rw [hvars, hv]
    rfl
/-- A number that came in. -/
theorem open_nat {H : Type} {enc : TypeId × Value → H} {W : World} {base : Nat} {t : TypeId} {v : Value} {d : DataW H} {ps : List MemPlace} (ht : Tryz.prog.underlying t = some (.slice 37))
    (hval : Value.okWide Tryz.prog W .any base t v) (h : DataW.Trod enc Tryz.prog W 0 (fun _ => true) true t v d ps) : ∃ A n c xs, v = .slice A n c ∧ n ≤ c ∧ Rd W A n xs ∧ Is32 xs := by
  obtain ⟨A, n, c, rfl⟩ := okWide_slice ht hval
  obtain ⟨fuel, hf⟩ := h
  rcases open_ints ht (k := .u32) (by kernel_rfl) (by kernel_rfl) hf with ⟨e, _⟩ | ⟨a, len, cap, zs, e, _, hl, hm, hz, hx, hc, hw⟩
  · simp [Value.cells] at e
    obtain ⟨rfl, rfl, rfl⟩ := e
    exact ⟨none, 0, 0, [], rfl, Nat.le_refl _, Rdk.nil _ _ _, is32_nil⟩
  · simp [Value.cells] at e
    obtain ⟨rfl, rfl, rfl⟩ := e
    have hzl : zs.length = c := by simpa using hz
    have hmax : maxLen = 9223372036854775807 := by decide
    have hwf : ∀ z ∈ zs, 0 ≤ z ∧ z < 4294967296 := fun z hz' => by
      have := hw z hz'
      simp only [Lit.wf, Bool.and_eq_true, decide_eq_true_eq] at this
      have e1 : IntKind.u32.min = 0 := by decide
      have e2 : IntKind.u32.max = 4294967295 := by decide
      omega
    refine ⟨_, n, c, (zs.take n).map Int.toNat, rfl, hl, ⟨by simp; omega, by omega, fun h0 => ⟨a, rfl, ?_, fun j hj => ?_⟩⟩, ?_⟩
    · have := hc 0 (by omega)
      have hb := World.block_lt_of_cell? W _ this
      rwa [block_add] at hb
    · rw [hc j (by omega)]
      have hj2 : j < zs.length := by omega
      have e : ((zs.take n).map Int.toNat).getD j 0 = (zs[j]'hj2).toNat := by
        simp [List.getD_eq_getElem?_getD, List.getElem?_map, List.getElem?_take, hj, hj2]
      rw [e, List.getD_eq_getElem?_getD, List.getElem?_eq_getElem hj2]
      have := hwf _ (List.getElem_mem hj2)
      simp only [Option.getD_some]
      congr 2
      omega
    · intro x hx
      obtain ⟨z, hz', rfl⟩ := List.mem_map.1 hx
      have := hwf z (List.mem_of_mem_take hz')
      omega
end Go.Proofs.YtnpfochbpdfcmaaGreatDoor
