/- What a grid makes of a sum is the sum of what it makes of both: for every input (any grid, any two lists, any fraction; greater ones are passed over by the law itself). -/
import Derived.Test.YtfpnhggbfakdkaaDoorFx
import Derived.Test.YtfpnhggbfakdkaaDoorVB
import Derived.Test.YtfpnhggbfakdkaaDoorFy
import Derived.Test.YtfpnhggbfakdkaaDoorWr
import Derived.ChangeMaps5
set_option linter.unusedVariables false
set_option linter.unusedSimpArgs false
set_option maxRecDepth 100000
namespace Go.Proofs.YtfpnhggbfakdkaaDoor.gridsLinear
open Go.ChangeShapes Go.WideShapes Go.ChangeAt Go.RowKit
open Go.ChangeMaps (open_string shut_string)

theorem contract (H : Type) (enc : TypeId × Value → H) (W : World) (base : Nat) (args : Array Value) (ds gs : List (DataW H)) (before : List MemPlace)
    (hval : ∀ (j : Nat) t v, Tryd.f5.params[j]? = some t → args[j]? = some v → Value.okWide Tryd.prog W .any base t v)
    (hW : DataW.Whole enc Tryd.prog Tryd.f5.params.toList Rows.gridsLinearSpec.vars false W args.toList ds gs before) (hL : laidMetH Tryd.prog Rows.gridsLinearRow.laid W) (hz : (DataW.weightsEach Tryd.prog (Tryd.f5.params.toList ++ (OpenSpec.ofChange Rows.gridsLinearSpec).bare.plain.varTypes Tryd.prog) (ds ++ gs)).all (· ≤ reachBytes) = true) (hsh : W.ShapedOpen Tryd.prog) :
    Calls Tryd.prog 5 args W fun e W' => ∃ v, e = .returned v ∧ Rows.gridsLinearSpec.post enc Tryd.prog Tryd.f5 false true false false W args v W' := by
  have hW' := hW
  obtain ⟨p, q, hA0, hV, rfl, hfz, hnd⟩ := hW
  have hA : DataW.TrodAll enc Tryd.prog W 0 (fun _ => true) true Tryd.f5.params.toList args.toList ds p := hA0
  rw [Tryd.params5] at hA hval
  obtain ⟨v0, vs0, d0, ds0, p0, q0, hargs, rfl, rfl, h0, r0⟩ := trodAll_cons hA
  obtain ⟨v1, vs1, d1, ds1, p1, q1, rfl, rfl, rfl, h1, r1⟩ := trodAll_cons r0
  obtain ⟨v2, vs2, d2, ds2, p2, q2, rfl, rfl, rfl, h2, r2⟩ := trodAll_cons r1
  obtain ⟨rfl, rfl, rfl⟩ := trodAll_nil r2
  obtain rfl : args = #[v0, v1, v2] := by cases args; simp_all
  obtain ⟨rfl, rfl⟩ := trodVars_none hV
  have hz2 : (DataW.weightsEach Tryd.prog [22, 38, 44] [d0, d1, d2]).all (· ≤ reachBytes) = true := by
    rw [Tryd.params5] at hz
    exact hz
  simp only [DataW.weightsEach, List.all_append, Bool.and_eq_true] at hz2
  obtain ⟨z0_, z1_, z2_, _⟩ := hz2
  obtain ⟨A0', n0', c0', e0'⟩ := okWide_slice (e := 30) (by kernel_rfl) (hval 0 _ v0 rfl rfl)
  obtain ⟨A0, n0, c0, es0, rfl, L0⟩ := open_grid (by kernel_rfl) h0 (by rw [e0']; rfl) z0_
  obtain ⟨A1a, n1a, c1a, es1a, A1b, n1b, c1b, es1b, rfl, L1a, L1b⟩ := open_two (hval 1 _ v1 rfl rfl) h1 z1_
  obtain ⟨b2, A2, n2, c2, xs2, D2, m2, k2, ys2, rfl, rd2, i2, l2, t2, rd2', i2', l2', t2'⟩ := open_rat (hval 2 _ v2 rfl rfl) h2 z2_
  refine (GridsLinear_ok W A0 n0 c0 es0 A1a n1a c1a es1a A1b n1b c1b es1b b2 A2 n2 c2 D2 m2 k2 (b2, xs2, ys2) L0 L1a L1b ⟨A2, n2, c2, D2, m2, k2, rfl, rd2, i2, l2, t2, rd2', i2', l2', t2'⟩ (tab_of hL)).mono fun e W' ⟨he, hb⟩ => ?_
  subst he
  exact ⟨_, rfl, law_post rfl (by decide) (trodAll_cons_mk (shut_bool (by kernel_rfl) _) trodAll_mk0) hW' rfl rfl hb.out⟩

theorem laid_met (os : Os) : laidMet Tryd.prog Rows.gridsLinearRow.laid ((laidWorld Rows.gridsLinearRow.laid os).forCall (fun _ _ => 0) ⟨#[], #[.slice none 0 0, .agg #[.slice none 0 0, .slice none 0 0], .agg #[.bool false, .slice none 0 0, .slice none 0 0]], []⟩).memory :=
  laidMet_of_run' 8 (by kernel_rfl) (by kernel_rfl)
theorem reads (os : Os) {H : Type} (enc : TypeId × Value → H) : ∃ places, DataW.whole enc Tryd.prog ((laidWorld Rows.gridsLinearRow.laid os).forCall (fun _ _ => 0) ⟨#[], #[.slice none 0 0, .agg #[.slice none 0 0, .slice none 0 0], .agg #[.bool false, .slice none 0 0, .slice none 0 0]], []⟩).memory Tryd.f5.params.toList Rows.gridsLinearSpec.vars false #[Value.slice none 0 0, Value.agg #[.slice none 0 0, .slice none 0 0], Value.agg #[.bool false, .slice none 0 0, .slice none 0 0]].toList 8 = some ([.nil, .agg [.nil, .nil], .agg [.agg [.lit (.bool false), .nil], .nil]], [], places) :=
  ⟨[], by kernel_rfl⟩
theorem lifted (os : Os) (started : os.Started) (H : Type) (enc : TypeId × Value → H) (F : Stop.Interp) :
    ReturnsInHanded {} Tryd.checked os 5 .any ((OpenSpec.ofChange Rows.gridsLinearSpec).preRow enc Tryd.prog Tryd.f5 Rows.gridsLinearRow.domain false Rows.gridsLinearRow.laid) (((OpenSpec.ofChange Rows.gridsLinearSpec).at F).post enc Tryd.prog Tryd.f5 false true false false) := by
  obtain ⟨places, hx⟩ := reads os enc
  refine returnsInHanded_of_row (C := Tryd.checked) (s := OpenSpec.ofChange Rows.gridsLinearSpec) own started (by kernel_rfl) Tryd.func5
    (witness_row_at (enc := enc) (C := Tryd.checked) false (laidWorld Rows.gridsLinearRow.laid os) #[.slice none 0 0, .agg #[.slice none 0 0, .slice none 0 0], .agg #[.bool false, .slice none 0 0, .slice none 0 0]] rfl (by kernel_rfl) (by kernel_rfl) (by kernel_rfl)
      (OpenSpec.preRow_of_cond 8 hx (by kernel_rfl) (fun k hk => by cases hk) (by kernel_rfl) (laid_met os))) ?_
  intro W base args ds gs before hval hW _ _ hz hL hsh _
  exact contract H enc W base args ds gs before hval hW hL hz hsh
set_option maxHeartbeats 40000000 in
theorem closed : joinedFacts Tryd.pinned.checked.prog 5 Tryd.f5 (OpenSpec.ofChange Rows.gridsLinearSpec).bare Rows.gridsLinearRow = true := by
  unfold joinedFacts
  simp only [Bool.and_eq_true]
  and_intros
  all_goals (as_aux_lemma => kernel_rfl)
theorem said : Rows.GridsLinearSaid :=
  OpenClaim.holds_of_cond 5 Tryd.f5 rfl rfl rfl rfl rfl rfl rfl ⟨rfl, rfl, rfl, rfl, rfl⟩ rfl rfl rfl rfl rfl (by kernel_rfl) Tryd.func5 closed
    (of_decide_eq_true (by kernel_rfl)) (by unfold Func.isWrapper; first | (rw [if_pos (by decide +kernel)]; kernel_rfl) | (rw [if_neg (by decide +kernel)]; exact ⟨rfl, rfl⟩))
    (fun os started H enc _ F => by rw [OpenClaim.pre_eq_preRow]; exact lifted os started H enc F)
theorem plain (f : FuncId) (fn : Func) (hf : Tryd.pinned.checked.prog.funcNamed "assayer/assayerlaw05.GridsLinear" = some f) (hfn : Tryd.pinned.checked.prog.funcs[f]? = some fn) :
    false = Tryd.pinned.checked.prog.looks [] ∧ ∀ (j : Nat) t, fn.params[j]? = some t → Tryd.pinned.checked.prog.wantsStandIn t = false := by
  obtain rfl : f = 5 := Option.some.inj ((show Tryd.prog.funcNamed "assayer/assayerlaw05.GridsLinear" = some 5 by kernel_rfl).symm.trans hf) |>.symm
  obtain rfl : fn = Tryd.f5 := (Option.some.inj (Tryd.func5.symm.trans hfn)).symm
  refine ⟨by kernel_rfl, fun j t ht => ?_⟩
  have hm := Array.mem_of_getElem? ht
  have : ∀ t ∈ Tryd.f5.params.toList, Tryd.prog.wantsStandIn t = false := by
    rw [Tryd.params5]
    intro t ht
    simp at ht
    rcases ht with rfl | rfl | rfl <;> kernel_rfl
  exact this t (by simpa using hm)
theorem gridsLinear_holds : Rows.GridsLinearCardSaid :=
  Claim7.holds_tied_plain_at .later [] _ _ _ _ said (fun _ h => by cases h) (by kernel_rfl) (fun _ h => by cases h) gridsLinear_row_tie rfl ⟨rfl, rfl⟩ (by kernel_rfl) rfl plain (by kernel_rfl)
end Go.Proofs.YtfpnhggbfakdkaaDoor.gridsLinear
