/- VecsOdd: a fraction that may not be, among others, is told where there is an error, and where there is none it is 0; the law holds of every input, with the package-level tables as the program's text lays them. -/
import Derived.Test.YthnhcbdecgkacaaGreatDoorFx
import Derived.Test.YthnhcbdecgkacaaGreatDoorVB
import Derived.Test.YthnhcbdecgkacaaGreatDoorVy
import Derived.ChangeMaps5
set_option linter.unusedVariables false
set_option linter.unusedSimpArgs false
set_option maxRecDepth 100000
namespace Go.Proofs.YthnhcbdecgkacaaGreatDoor.vecsOdd
open Go.ChangeShapes Go.WideShapes Go.ChangeAt Go.RowKit
open Go.ChangeMaps (open_string shut_string)

theorem contract (H : Type) (enc : TypeId × Value → H) (W : World) (base : Nat) (args : Array Value) (ds gs : List (DataW H)) (before : List MemPlace)
    (hval : ∀ (j : Nat) t v, Tryz.f9.params[j]? = some t → args[j]? = some v → Value.okWide Tryz.prog W .any base t v)
    (hW : DataW.Whole enc Tryz.prog Tryz.f9.params.toList Rows.vecsOddSpec.vars false W args.toList ds gs before) (hL : laidMetH Tryz.prog Rows.vecsOddRow.laid W) (hz : (DataW.weightsEach Tryz.prog (Tryz.f9.params.toList ++ (OpenSpec.ofChange Rows.vecsOddSpec).bare.plain.varTypes Tryz.prog) (ds ++ gs)).all (· ≤ reachBytes) = true) (hsh : W.ShapedOpen Tryz.prog) :
    Calls Tryz.prog 9 args W fun e W' => ∃ v, e = .returned v ∧ Rows.vecsOddSpec.post enc Tryz.prog Tryz.f9 false true false false W args v W' := by
  have hW' := hW
  obtain ⟨p, q, hA0, hV, rfl, hfz, hnd⟩ := hW
  have hA : DataW.TrodAll enc Tryz.prog W 0 (fun _ => true) true Tryz.f9.params.toList args.toList ds p := hA0
  rw [Tryz.params9] at hA hval
  obtain ⟨v0, vs0, d0, ds0, p0, q0, hargs, rfl, rfl, h0, r0⟩ := trodAll_cons hA
  obtain ⟨v1, vs1, d1, ds1, p1, q1, rfl, rfl, rfl, h1, r1⟩ := trodAll_cons r0
  obtain ⟨rfl, rfl, rfl⟩ := trodAll_nil r1
  obtain rfl : args = #[v0, v1] := by cases args; simp_all
  obtain ⟨rfl, rfl⟩ := trodVars_none hV
  have hz2 : (DataW.weightsEach Tryz.prog [58, 5] [d0, d1]).all (· ≤ reachBytes) = true := by
    rw [Tryz.params9] at hz
    exact hz
  simp only [DataW.weightsEach, List.all_append, Bool.and_eq_true] at hz2
  obtain ⟨z0_, z1_, _⟩ := hz2
  obtain ⟨A0', n0', c0', e0'⟩ := okWide_slice (e := 60) (by kernel_rfl) (hval 0 _ v0 rfl rfl)
  obtain ⟨A0, n0, c0, es0, rfl, L0⟩ := open_rats (by kernel_rfl) h0 (by rw [e0']; rfl) z0_
  obtain ⟨z1, rfl, rfl, rfl, hw1⟩ := Go.ChangeShapes.open_int (k := .u8) (by kernel_rfl) (hval 1 _ v1 rfl rfl) h1
  have hz1 : 0 ≤ z1 ∧ z1 < 256 := by
    simp only [Lit.wf, Bool.and_eq_true, decide_eq_true_eq] at hw1
    have e1 : IntKind.u8.min = 0 := by decide
    have e2 : IntKind.u8.max = 255 := by decide
    omega
  obtain ⟨m1, rfl⟩ : ∃ m : Nat, z1 = (m : Int) := ⟨z1.toNat, by omega⟩
  refine (VecsOdd_ok W A0 n0 c0 es0 m1 L0 (by omega) (tab_of hL)).mono fun e W' ⟨he, hb⟩ => ?_
  subst he
  exact ⟨_, rfl, law_post rfl (by decide) (trodAll_cons_mk (shut_bool (by kernel_rfl) _) trodAll_mk0) hW' rfl rfl hb.out⟩

theorem laid_met (os : Os) : laidMet Tryz.prog Rows.vecsOddRow.laid ((laidWorld Rows.vecsOddRow.laid os).forCall (fun _ _ => 0) ⟨#[], #[.slice none 0 0, .int .u8 0], []⟩).memory :=
  laidMet_of_run' 8 (by kernel_rfl) (by kernel_rfl)
theorem reads (os : Os) {H : Type} (enc : TypeId × Value → H) : ∃ places, DataW.whole enc Tryz.prog ((laidWorld Rows.vecsOddRow.laid os).forCall (fun _ _ => 0) ⟨#[], #[.slice none 0 0, .int .u8 0], []⟩).memory Tryz.f9.params.toList Rows.vecsOddSpec.vars false #[Value.slice none 0 0, Value.int .u8 0].toList 8 = some ([.nil, .lit (.int .u8 0)], [], places) :=
  ⟨[], by kernel_rfl⟩
theorem lifted (os : Os) (started : os.Started) (H : Type) (enc : TypeId × Value → H) (F : Stop.Interp) :
    ReturnsInHanded {} Tryz.checked os 9 .any ((OpenSpec.ofChange Rows.vecsOddSpec).preRow enc Tryz.prog Tryz.f9 Rows.vecsOddRow.domain false Rows.vecsOddRow.laid) (((OpenSpec.ofChange Rows.vecsOddSpec).at F).post enc Tryz.prog Tryz.f9 false true false false) := by
  obtain ⟨places, hx⟩ := reads os enc
  refine returnsInHanded_of_row (C := Tryz.checked) (s := OpenSpec.ofChange Rows.vecsOddSpec) own started (by kernel_rfl) Tryz.func9
    (witness_row_at (enc := enc) (C := Tryz.checked) false (laidWorld Rows.vecsOddRow.laid os) #[.slice none 0 0, .int .u8 0] rfl (by kernel_rfl) (by kernel_rfl) (by kernel_rfl)
      (OpenSpec.preRow_of_cond 8 hx (by kernel_rfl) (fun k hk => by cases hk) (by kernel_rfl) (laid_met os))) ?_
  intro W base args ds gs before hval hW _ _ hz hL hsh _
  exact contract H enc W base args ds gs before hval hW hL hz hsh
theorem said : Rows.VecsOddSaid :=
  OpenClaim.holds_of_cond 9 Tryz.f9 rfl rfl rfl rfl rfl rfl rfl ⟨rfl, rfl, rfl, rfl, rfl⟩ rfl rfl rfl rfl rfl (by kernel_rfl) Tryz.func9 (by kernel_rfl)
    (of_decide_eq_true (by kernel_rfl)) (by unfold Func.isWrapper; first | (rw [if_pos (by decide +kernel)]; kernel_rfl) | (rw [if_neg (by decide +kernel)]; exact ⟨rfl, rfl⟩))
    (fun os started H enc _ F => by rw [OpenClaim.pre_eq_preRow]; exact lifted os started H enc F)
theorem plain (f : FuncId) (fn : Func) (hf : Tryz.pinned.checked.prog.funcNamed "assayer/assayerlaw04.VecsOdd" = some f) (hfn : Tryz.pinned.checked.prog.funcs[f]? = some fn) :
    false = Tryz.pinned.checked.prog.looks [] ∧ ∀ (j : Nat) t, fn.params[j]? = some t → Tryz.pinned.checked.prog.wantsStandIn t = false := by
  obtain rfl : f = 9 := Option.some.inj ((show Tryz.prog.funcNamed "assayer/assayerlaw04.VecsOdd" = some 9 by kernel_rfl).symm.trans hf) |>.symm
  obtain rfl : fn = Tryz.f9 := (Option.some.inj (Tryz.func9.symm.trans hfn)).symm
  refine ⟨by kernel_rfl, fun j t ht => ?_⟩
  have hm := Array.mem_of_getElem? ht
  have : ∀ t ∈ Tryz.f9.params.toList, Tryz.prog.wantsStandIn t = false := by
    rw [Tryz.params9]
    intro t ht
    simp at ht
    rcases ht with rfl | rfl <;> kernel_rfl
  exact this t (by simpa using hm)
theorem vecsOdd_holds : Rows.VecsOddCardSaid :=
  Claim7.holds_tied_plain_at .later [] _ _ _ _ said (fun _ h => by cases h) (by kernel_rfl) (fun _ h => by cases h) vecsOdd_row_tie rfl ⟨rfl, rfl⟩ (by kernel_rfl) rfl plain (by kernel_rfl)
end Go.Proofs.YthnhcbdecgkacaaGreatDoor.vecsOdd
