/- The frame of the laws on whole numbers: what their arguments are. -/
import Derived.Test.YtnpfochbpdfcmaaGreatDoorFs
import Derived.Lib.SmallJoins
set_option linter.unusedVariables false
set_option linter.unusedSimpArgs false
set_option maxRecDepth 100000
namespace Go.Proofs.YtnpfochbpdfcmaaGreatDoor
open Go.ChangeShapes Go.WideShapes Go.ChangeAt Go.RowKit Go.Joins

theorem trod_bool {H : Type} {enc : TypeId × Value → H} {P : Program} {w : World} {base : Nat} {spare : Nat → Bool} {held : Bool} {fuel : Nat} {t : TypeId} {v : Value} {x : DataW H × List MemPlace} (ht : P.underlying t = some .bool) (h : DataW.trod enc P w base spare held fuel t [v] = some x) : ∃ b, v = .bool b := by
  cases fuel with
  | zero => simp [DataW.trod] at h
  | succ n =>
    unfold DataW.trod at h
    rw [ht] at h
    split at h <;> simp_all
/-- Cells that came in as a list of parts. -/
theorem open_parts {H : Type} {enc : TypeId × Value → H} {W : World} {t : TypeId} {fuel : Nat} {v : Value} {x : DataW H × List MemPlace} (ht : Tryz.prog.underlying t = some (.slice 37))
    (h : DataW.trod enc Tryz.prog W 0 (fun _ => true) true fuel t [v] = some x) : ∃ A n c xs, v = .slice A n c ∧ n ≤ c ∧ Rd W A n xs ∧ Is32 xs := by
  rcases open_ints ht (k := .u32) (by kernel_rfl) (by kernel_rfl) h with ⟨e, _⟩ | ⟨a, len, cap, zs, e, _, hl, hm, hz, hx, hc, hw⟩
  · cases e
    exact ⟨none, 0, 0, [], rfl, Nat.le_refl _, Rdk.nil _ _ _, is32_nil⟩
  · cases e
    have hzl : zs.length = cap := by simpa using hz
    have hmax : maxLen = 9223372036854775807 := by decide
    have hwf : ∀ z ∈ zs, 0 ≤ z ∧ z < 4294967296 := fun z hz' => by
      have := hw z hz'
      simp only [Lit.wf, Bool.and_eq_true, decide_eq_true_eq] at this
      have e1 : IntKind.u32.min = 0 := by decide
      have e2 : IntKind.u32.max = 4294967295 := by decide
      omega
    refine ⟨_, len, cap, (zs.take len).map Int.toNat, rfl, hl, ⟨by simp; omega, by omega, fun h0 => ⟨a, rfl, ?_, fun j hj => ?_⟩⟩, ?_⟩
    · have := hc 0 (by omega)
      have hb := World.block_lt_of_cell? W _ this
      rwa [block_add] at hb
    · rw [hc j (by omega)]
      have hj2 : j < zs.length := by omega
      have e : ((zs.take len).map Int.toNat).getD j 0 = (zs[j]'hj2).toNat := by
        simp [List.getD_eq_getElem?_getD, List.getElem?_map, List.getElem?_take, hj, hj2]
      rw [e, List.getD_eq_getElem?_getD, List.getElem?_eq_getElem hj2]
      have := hwf _ (List.getElem_mem hj2)
      simp only [Option.getD_some]
      congr 2
      omega
    · intro x hx
      obtain ⟨z, hz', rfl⟩ := List.mem_map.1 hx
      have := hwf z (List.mem_of_mem_take hz')
      omega
/-- A whole number that came in. -/
theorem open_int {H : Type} {enc : TypeId × Value → H} {W : World} {base : Nat} {v : Value} {d : DataW H} {ps : List MemPlace}
    (hval : Value.okWide Tryz.prog W .any base 25 v) (h : DataW.Trod enc Tryz.prog W 0 (fun _ => true) true 25 v d ps) : ∃ b A n c xs, v = .agg #[.bool b, .slice A n c] ∧ n ≤ c ∧ Rd W A n xs ∧ Is32 xs := by
  obtain ⟨v0, v1, y0, y1, n, rfl, _, _, h0, h1⟩ := open_agg2 Tryz.underlying25 (by kernel_rfl) (by kernel_rfl) hval h
  obtain ⟨b, rfl⟩ := trod_bool (by kernel_rfl) h0
  obtain ⟨A, n, c, xs, rfl, hc, hr, h32⟩ := open_parts (by kernel_rfl) h1
  exact ⟨b, A, n, c, xs, rfl, hc, hr, h32⟩
end Go.Proofs.YtnpfochbpdfcmaaGreatDoor
