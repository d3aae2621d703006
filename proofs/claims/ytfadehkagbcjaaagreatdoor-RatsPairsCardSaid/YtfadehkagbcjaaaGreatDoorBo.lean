/- laws of rats that compare: what a call answers, by its parts. -/
import Derived.Test.YtfadehkagbcjaaaGreatDoorBn
import Derived.Test.YtfadehkagbcjaaaGreatDoorKA
import Derived.Test.YtfadehkagbcjaaaGreatDoorKB
set_option linter.unusedVariables false
set_option linter.unusedSimpArgs false
set_option maxRecDepth 100000
namespace Go.Proofs.YtfadehkagbcjaaaGreatDoor
open Go.RowKit

/-- A whole number above, and one below, in memory of their own. -/
structure PR (z : Int) (N B : Nat) (w : World) (s : Bool) (A : Option Addr) (n c : Nat) (D : Option Addr) (m k : Nat) : Prop where
  i : IntR z B w (.agg #[.bool s, .slice A n c])
  d : NatR N B w (.slice D m k)
  sp : Sep (.slice A n c) (.slice D m k)
theorem PR.below {z : Int} {N B : Nat} {w w' : World} {s : Bool} {A D : Option Addr} {n c m k : Nat} (h : PR z N B w s A n c D m k) (hb : Below w.heap.size w w') : PR z N B w' s A n c D m k := ⟨h.i.below hb, h.d.below hb, h.sp⟩
theorem PR.of {q : Rat} {B : Nat} {w : World} {s : Bool} {A D : Option Addr} {n c m k : Nat} (h : RatR q B w (.agg #[.bool s, .slice A n c, .slice D m k])) : PR q.num q.den B w s A n c D m k := by
  obtain ⟨u, d, e, h1, h2, h3⟩ := h
  cases e
  exact ⟨⟨_, rfl, h1⟩, h2, h3⟩
theorem PR.zero (B : Nat) (w : World) : PR 0 0 B w false none 0 0 none 0 0 := ⟨⟨_, rfl, NatR.zero _ _⟩, NatR.zero _ _, Sep.nil _⟩
theorem PR.len {z : Int} {N B : Nat} {w : World} {s : Bool} {A D : Option Addr} {n c m k : Nat} (h : PR z N B w s A n c D m k) : n = L z.natAbs ∧ m = L N := ⟨intR_len h.i, natR_len h.d⟩
theorem PR.next {B : Nat} {w w' : World} {es : List Ent} {z : Int} {N : Nat} {s : Bool} {A D : Option Addr} {n c m k : Nat} (h : HW B w es) (kb : Below w.heap.size w w') (r : PR z N w.heap.size w' s A n c D m k) (hB : B ≤ w.heap.size) (l1 : L z.natAbs ≤ 500000) (l2 : L N ≤ 500000) {i i' : Nat} (hk : i ≤ 1000) (hk' : i' ≤ 1000) :
    HW B w' (es ++ [⟨A, n, c, none, 0, 0, i⟩] ++ [⟨D, m, k, none, 0, 0, i'⟩]) := by
  obtain ⟨_, e1⟩ := r.i.lrow
  obtain ⟨_, e2⟩ := r.d.lrow
  exact HW.next2 h kb e1 e2 r.sp hB (by rw [r.len.1]; exact l1) (by rw [r.len.2]; exact l2) hk hk'
theorem Tw.next {B : Nat} {w w' : World} {es : List Ent} {xs ys : List Nat} {X Y : Option Addr} {n c m k : Nat} (h : HW B w es) (kb : Below w.heap.size w w') (t1 : Tw w.heap.size w' X n c xs) (t2 : Tw w.heap.size w' Y m k ys) (sp : Sep (.slice X n c) (.slice Y m k)) (hB : B ≤ w.heap.size) {i i' : Nat} (hk : i ≤ 1000) (hk' : i' ≤ 1000) :
    HW B w' (es ++ [⟨X, n, c, none, 0, 0, i⟩] ++ [⟨Y, m, k, none, 0, 0, i'⟩]) := by
  obtain ⟨_, e1⟩ := t1.lrow
  obtain ⟨_, e2⟩ := t2.lrow
  exact HW.next2 h kb e1 e2 sp hB (by have := t1.len; omega) (by have := t2.len; omega) hk hk'
theorem ratR_PR {P : Ending → World → Prop} {q : Rat} {w w' : World} {e : Ending} (h : ∃ u, e = .returned u ∧ Below w.heap.size w w' ∧ RatR q w.heap.size w' u) :
    ∃ s A n c D m k, e = .returned (.agg #[.bool s, .slice A n c, .slice D m k]) ∧ Hid (Below w.heap.size w w') ∧ PR q.num q.den w.heap.size w' s A n c D m k := by
  obtain ⟨u, h1, h2, h3⟩ := h
  obtain ⟨s, A, n, c, D, m, k, rfl⟩ := h3.slice
  exact ⟨s, A, n, c, D, m, k, h1, h2, .of h3⟩
set_option maxHeartbeats 1000000 in
theorem same_PR {w : World} {z : Int} {N B B' : Nat} {s s' : Bool} {A D A' D' : Option Addr} {n c m k n' c' m' k' : Nat} (h : PR z N B w s A n c D m k) (h' : PR z N B' w s' A' n' c' D' m' k') :
    Calls Tryz.prog 54 #[.agg #[.bool s, .slice A n c, .slice D m k], .agg #[.bool s', .slice A' n' c', .slice D' m' k']] w fun e w' => ∃ u, e = .returned u ∧ Below w.heap.size w w' ∧ u = .bool true := by
  refine opq fun R hR => ?_
  replace h := hide h
  replace h' := hide h'
  have B0 := hide (rats_box w s (.slice A n c) (.slice D m k))
  have B1 := hide (B0.out.trans ((rats_box (w.alloc (.cells #[.bool s, .slice A n c, .slice D m k] TR)) s' (.slice A' n' c') (.slice D' m' k')).mono B0.out.size))
  have K1 := hide ((Blk.new_at w w.heap.size rfl TR #[.bool s, .slice A n c, .slice D m k]).alloc (.cells #[.bool s', .slice A' n' c', .slice D' m' k'] TR))
  have K2 := hide (Blk.new_at (w.alloc (.cells #[.bool s, .slice A n c, .slice D m k] TR)) (w.heap.size + 1) (by simp) TR #[.bool s', .slice A' n' c', .slice D' m' k'])
  have I1 := hide (sameInt_yes (h.out.i.can.below B1.out) (h'.out.i.can.below B1.out))
  go_enter Tryz.func54, Tryz.ntmps54
  go_wp2_with fail
  refine I1.out.mono ?_
  rintro e w1 ⟨_, rfl, d1, rfl⟩
  have B2 := hide (B1.out.trans (d1.mono B1.out.size))
  replace K1 := hide (K1.out.below' d1)
  replace K2 := hide (K2.out.below' d1)
  have x2 := K1.out.at_ 2 rfl
  have y2 := K2.out.at_ 2 rfl
  clear d1 I1
  go_wp2_with fail
  refine (nSame_P (h.out.d.can.below B2.out) (h'.out.d.can.below B2.out)).mono ?_
  rintro e w2 ⟨_, rfl, d2, rfl⟩
  have B3 := hide (B2.out.trans (d2.mono B2.out.size))
  have t : decide (N = N) = true := by simp
  rw [t]
  go_wp2
  exact opq_end hR ⟨_, rfl, B3.out, rfl⟩
/-! ### a quotient -/
def dvZ (b1 : Bool) (xs1 ys1 : List Nat) (b2 : Bool) (xs2 ys2 : List Nat) : Int := if (rok b1 xs1 ys1 && rok b2 xs2 ys2) = true then if rv b2 xs2 ys2 = 0 then 0 else (rv b1 xs1 ys1 / rv b2 xs2 ys2).num else 0
def dvN (b1 : Bool) (xs1 ys1 : List Nat) (b2 : Bool) (xs2 ys2 : List Nat) : Nat := if (rok b1 xs1 ys1 && rok b2 xs2 ys2) = true then if rv b2 xs2 ys2 = 0 then 0 else (rv b1 xs1 ys1 / rv b2 xs2 ys2).den else 0
def dvK (b1 : Bool) (xs1 ys1 : List Nat) (b2 : Bool) (xs2 ys2 : List Nat) : Int := if (rok b1 xs1 ys1 && rok b2 xs2 ys2) = true then if rv b2 xs2 ys2 = 0 then 10 else 0 else 1
section
variable {w : World} {v v' : Value} {b1 b2 : Bool} {xs1 ys1 xs2 ys2 : List Nat}
theorem rp_Div (h1 : RPrt w v b1 xs1 ys1) (h2 : RPrt w v' b2 xs2 ys2) (s1 : H (rv b1 xs1 ys1) 1000) (s2 : H (rv b2 xs2 ys2) 1000) (hT : Tab w) :
    Calls Tryz.prog 70 #[v, v'] w fun e w' => ∃ s A n c D m k, e = .returned (.tuple #[.agg #[.bool s, .slice A n c, .slice D m k], .int .i64 (dvK b1 xs1 ys1 b2 xs2 ys2)]) ∧ Hid (Below w.heap.size w w') ∧ PR (dvZ b1 xs1 ys1 b2 xs2 ys2) (dvN b1 xs1 ys1 b2 xs2 ys2) w.heap.size w' s A n c D m k := by
  unfold dvK dvZ dvN
  cases hr : rok b1 xs1 ys1 && rok b2 xs2 ys2 with
  | false => exact (rDiv_bad h1 h2 hT hr).mono fun e w' ⟨q1, q2⟩ => ⟨_, _, _, _, _, _, _, q1, q2, .zero _ _⟩
  | true =>
    rw [Bool.and_eq_true] at hr
    by_cases h0 : rv b2 xs2 ys2 = 0
    · simp only [h0, if_true]
      exact (rDiv_zero (h1.can hr.1) (s1.up (by decide)) (h2.can hr.2) (s2.up (by decide)) hT h0).mono fun e w' ⟨q1, q2⟩ => ⟨_, _, _, _, _, _, _, q1, q2, .zero _ _⟩
    · simp only [h0, if_true, if_false]
      exact (rDiv_ok (h1.can hr.1) (s1.up (by decide)) (h2.can hr.2) (s2.up (by decide)) hT h0).mono fun e w' ⟨u, q1, q2, q3⟩ => by
        obtain ⟨s, A, n, c, D, m, k, rfl⟩ := q3.slice
        exact ⟨s, A, n, c, D, m, k, q1, q2, .of q3⟩
theorem rq_Div (h1 : RPrt w v b1 xs1 ys1) (h2 : RPrt w v' b2 xs2 ys2) (s1 : H (rv b1 xs1 ys1) 1000) (s2 : H (rv b2 xs2 ys2) 1000) :
    Calls Tryz.prog 71 #[v, v'] w fun e w' => ∃ s A n c D m k, e = .returned (.tuple #[.agg #[.bool s, .slice A n c, .slice D m k], .int .i64 (dvK b1 xs1 ys1 b2 xs2 ys2)]) ∧ Hid (Below w.heap.size w w') ∧ PR (dvZ b1 xs1 ys1 b2 xs2 ys2) (dvN b1 xs1 ys1 b2 xs2 ys2) w.heap.size w' s A n c D m k := by
  unfold dvK dvZ dvN
  cases hr : rok b1 xs1 ys1 && rok b2 xs2 ys2 with
  | false => exact (krDiv_bad h1 h2 hr).mono fun e w' ⟨q1, q2⟩ => ⟨_, _, _, _, _, _, _, q1, q2, .zero _ _⟩
  | true =>
    rw [Bool.and_eq_true] at hr
    by_cases h0 : rv b2 xs2 ys2 = 0
    · simp only [h0, if_true]
      exact (krDiv_zero (h1.can hr.1) (h2.can hr.2) (s1.up (by decide)) (s2.up (by decide)) h0).mono fun e w' ⟨q1, q2⟩ => ⟨_, _, _, _, _, _, _, q1, q2, .zero _ _⟩
    · simp only [h0, if_true, if_false]
      exact (krDiv_ok (h1.can hr.1) (h2.can hr.2) (s1.up (by decide)) (s2.up (by decide)) h0).mono fun e w' ⟨u, q1, q2, q3⟩ => by
        obtain ⟨s, A, n, c, D, m, k, rfl⟩ := q3.slice
        exact ⟨s, A, n, c, D, m, k, q1, q2, .of q3⟩
theorem dv_L {k : Nat} (s1 : H (rv b1 xs1 ys1) k) (s2 : H (rv b2 xs2 ys2) k) (hk : 1 ≤ k) : L (dvZ b1 xs1 ys1 b2 xs2 ys2).natAbs ≤ k + k ∧ L (dvN b1 xs1 ys1 b2 xs2 ys2) ≤ k + k := by
  unfold dvZ dvN
  split
  · split
    · exact ⟨by rw [Int.natAbs_zero, L_zero]; omega, by rw [L_zero]; omega⟩
    · have := H_div s1 s2 hk (Nat.le_refl _)
      exact ⟨this.1, this.2⟩
  · exact ⟨by rw [Int.natAbs_zero, L_zero]; omega, by rw [L_zero]; omega⟩
end
theorem krSub_C {w : World} {v v' : Value} {p q : Rat} (h : RArg w v p) (h' : RArg w v' q) :
    Calls Tryz.prog 77 #[v, v'] w fun e w' => ∃ u, e = .returned u ∧ Below w.heap.size w w' ∧ RatR (p - q) 0 w' u := (krSub_P h h').mono fun e w' ⟨u, q1, q2, q3⟩ => ⟨u, q1, q2, q3.mono (Nat.zero_le _)⟩
theorem krAdd_C {w : World} {v v' : Value} {p q : Rat} (h : RArg w v p) (h' : RArg w v' q) :
    Calls Tryz.prog 76 #[v, v'] w fun e w' => ∃ u, e = .returned u ∧ Below w.heap.size w w' ∧ RCan w' u (p + q) := (krAdd_P h h').mono fun e w' ⟨u, q1, q2, q3⟩ => ⟨u, q1, q2, q3.can⟩
theorem krSub_D {w : World} {v v' : Value} {p q : Rat} (h : RArg w v p) (h' : RArg w v' q) :
    Calls Tryz.prog 77 #[v, v'] w fun e w' => ∃ u, e = .returned u ∧ Below w.heap.size w w' ∧ RCan w' u (p - q) := (krSub_P h h').mono fun e w' ⟨u, q1, q2, q3⟩ => ⟨u, q1, q2, q3.can⟩
theorem krMul_C {w : World} {v v' : Value} {p q : Rat} (h : RArg w v p) (h' : RArg w v' q) :
    Calls Tryz.prog 78 #[v, v'] w fun e w' => ∃ u, e = .returned u ∧ Below w.heap.size w w' ∧ RCan w' u (p * q) := (krMul_P h h').mono fun e w' ⟨u, q1, q2, q3⟩ => ⟨u, q1, q2, q3.can⟩
theorem PR.rcan {q : Rat} {B : Nat} {w : World} {s : Bool} {A D : Option Addr} {n c m k : Nat} (h : PR q.num q.den B w s A n c D m k) : RCan w (.agg #[.bool s, .slice A n c, .slice D m k]) q := rcan_mk q h.i.can h.d.can rfl rfl
theorem sameRat_yes {w : World} {v v' : Value} {q : Rat} (h : RCan w v q) (h' : RCan w v' q) :
    Calls Tryz.prog 54 #[v, v'] w fun e w' => ∃ u, e = .returned u ∧ Below w.heap.size w w' ∧ u = .bool true :=
  (rSame_P h h').mono fun e w' ⟨u, h1, h2, h3⟩ => ⟨_, h1, h2, by rw [h3]; simp⟩
theorem krCmp_eq {w : World} {v v' : Value} {p q : Rat} (h : RArg w v p) (h' : RArg w v' q) (z1 : H p 100000) (z2 : H q 100000) {r : Int} (hr : cmpQ p q = r) :
    Calls Tryz.prog 73 #[v, v'] w fun e w' => ∃ u, e = .returned u ∧ Below w.heap.size w w' ∧ u = .int .i64 r := (krCmp_P h h' z1 z2).mono fun e w' ⟨u, q1, q2, q3⟩ => ⟨u, q1, q2, by rw [q3, hr]⟩
theorem krSign_eq {w : World} {v : Value} {p : Rat} (h : RArg w v p) {r : Int} (hr : cmpQ p 0 = r) :
    Calls Tryz.prog 75 #[v] w fun e w' => ∃ u, e = .returned u ∧ Below w.heap.size w w' ∧ u = .int .i64 r := (krSign_P h).mono fun e w' ⟨u, q1, q2, q3⟩ => ⟨u, q1, q2, by rw [q3, hr]⟩
end Go.Proofs.YtfadehkagbcjaaaGreatDoor
