/- nats: pairs, Cmp. -/
import Derived.Test.YtcdejccbamjdoaaDoorNb
import Derived.Test.YtcdejccbamjdoaaDoorLm2
import Derived.RangeFuncNested
import Derived.RangeFuncBound
import Derived.RangeFuncCalls
import Derived.RangeFuncLeaves
import Derived.RangeFuncFrom
import Derived.RangeFuncOne
import Derived.Shelf.Abstract
import Derived.Shelf.RegionOpen
import Derived.OwnWalkIn
import Derived.TacticsInMore
import Derived.LoopNIn
import Derived.LoopIn
import Derived.Stop.RegionWithIn
import Derived.Sort.AtCallIn
set_option linter.unusedVariables false
set_option linter.unusedSimpArgs false
set_option maxRecDepth 100000
namespace Go.Proofs.YtcdejccbamjdoaaDoor
open Go.RowKit Go.Shelf
attribute [local go_sem] Oper.semAt_some

set_option maxHeartbeats 400000 in
theorem pairs_ok (w : World) (A A' : Option Addr) (n n' c c' : Nat) :
    Calls Tryd.prog 60 #[.slice A n c, .slice A' n' c'] w fun e w' => e = .returned (.func (.func 75) #[] #[.pointer (some ⟨w.heap.size, 0, none⟩), .pointer (some ⟨w.heap.size + 1, 0, none⟩)]) ∧
      (w.alloc (.cells #[.slice A n c] 23)).alloc (.cells #[.slice A' n' c'] 23) = w' := by
  refine opq fun R hR => ?_
  go_enter Tryd.func60, Tryd.ntmps60
  go_wp2
  exact opq_end hR ⟨rfl, rfl⟩

set_option maxHeartbeats 2000000 in
theorem pairs1_in (q l Ba Bb n₀ : Nat) (A A' : Option Addr) (n n' c c' m : Nat) (xs ys : List Nat) (hm : m = max n n') (hm3 : m ≤ 35184372087808) (J Jx : List (Nat × Nat) → World → Prop) (hq : 1 ≤ q)
    (hY : ∀ pre x W, J pre W → pre.length < m → YieldAt Fence.wide (q - 1) Tryd.prog l #[.int .u64 (x.1 : Int), .int .u64 (x.2 : Int)] W fun e W' =>
      (e = .returned (.bool true) ∧ J (pre ++ [x]) W' ∧ Below n₀ W W') ∨ (e = .returned (.bool false) ∧ Jx (pre ++ [x]) W'))
    (hJd : ∀ pre W, J pre W → J pre W.drew)
    (W : World) (hBa : W.cell? ⟨Ba, 0, none⟩ = some (.slice A n c)) (hBb : W.cell? ⟨Bb, 0, none⟩ = some (.slice A' n' c')) (ha : Ba < n₀) (hb : Bb < n₀)
    (hx : ∀ W', Below n₀ W W' → Rd W' A n xs) (hy : ∀ W', Below n₀ W W' → Rd W' A' n' ys) (h32 : Is32 xs) (h32' : Is32 ys) (h0 : J [] W) :
    CallsIn Fence.wide q Tryd.prog 75 #[.func (.yield l) #[] #[], .pointer (some ⟨Ba, 0, none⟩), .pointer (some ⟨Bb, 0, none⟩)] W fun e W' => (∃ v, e = .returned v) ∧
      ((∃ zs, zs = prs m m xs ys ∧ J zs W') ∨ (∃ pre, (∃ k, k ≤ m ∧ pre = prs m k xs ys) ∧ Jx pre W')) := by
  refine callsIn_of_wp Tryd.func75 rfl trivial ?_ rfl
  simp only [Tryd.ntmps75, List.size_toArray, List.length_cons, List.length_nil, Nat.reduceAdd, Nat.reduceSub, Array.replicate_succ, Array.replicate_zero, List.push_toArray, List.append_toArray, List.nil_append, List.cons_append]
  have hm0 := hide hm
  have hmax := fun ts t => run_max_nat (P := Tryd.prog) ts t n n' m hm
  clear hm
  gi_wp2
  gi_loopw [4] (fun iv wr => ∃ k j : Nat, k + j = m ∧ iv = .int .i64 ((j : Int) - 1) ∧ J (prs m k xs ys) wr ∧ Hid (Below n₀ W wr)) (fun iv _ => (intOf iv + 1).toNat)
  case atStart => exact ⟨0, m, by omega, rfl, h0, Below.refl _ _⟩
  case round =>
    obtain ⟨k, j, hkj, rfl, hJs, hB⟩ := hrel
    have hca : wr.cell? ⟨Ba, 0, none⟩ = some (.slice A n c) := (hB.out.cell (p := ⟨Ba, 0, none⟩) ha).trans hBa
    have hcb : wr.cell? ⟨Bb, 0, none⟩ = some (.slice A' n' c') := (hB.out.cell (p := ⟨Bb, 0, none⟩) hb).trans hBb
    clear hBa hBb hmax
    rcases j with _ | j
    · have HJ := hide hJs
      obtain rfl : k = m := by omega
      clear hJs hY hJd hx hy h0
      gi_wp2
      go_end0
      exact ⟨⟨_, rfl⟩, .inl ⟨_, rfl, HJ.out⟩⟩
    · have HP := hide (prs_succ m k xs ys)
      rw [show m - 1 - k = j from by omega] at HP
      have ej : ((j + 1 : Nat) : Int) - 1 = (j : Int) := by omega
      rw [ej]
      have e0 : decide (0 ≤ (j : Int)) = true := by simp
      have HY : YieldAt Fence.wide (q - 1) Tryd.prog l #[.int .u64 ((xs.getD j 0 : Nat) : Int), .int .u64 ((ys.getD j 0 : Nat) : Int)] wr.drew fun e W' => ∃ t : Bool, e = .returned (.bool t) ∧ Hid ((t = true ∧ J (prs m (k + 1) xs ys) W' ∧ Below n₀ wr W') ∨ (t = false ∧ Jx (prs m (k + 1) xs ys) W')) := by
        obtain ⟨fn, tmps, assign, body, hy1, hR1⟩ := hY (prs m k xs ys) (xs.getD j 0, ys.getD j 0) wr.drew (hJd _ _ hJs) (by rw [prs_length]; omega)
        refine ⟨fn, tmps, assign, body, hy1, hR1.mono ?_⟩
        rw [← HP.out]
        rintro e W' (⟨h1, h2, h3⟩ | ⟨h1, h2⟩)
        · exact ⟨true, h1, .inl ⟨rfl, h2, ((Below.refl n₀ wr).drew).trans h3⟩⟩
        · exact ⟨false, h1, .inr ⟨rfl, h2⟩⟩
      have G1 := hide (at_nat wr.drew A n c xs j (hx wr.drew hB.out.drew) h32)
      have G2 := hide (at_nat wr.drew A' n' c' ys j (hy wr.drew hB.out.drew) h32')
      obtain ⟨fn, tmps, assign, body, hy1, hR1⟩ := HY
      have HR := hide hR1
      generalize xs.getD j 0 = x at *
      generalize ys.getD j 0 = y at *
      clear hJs hY hJd hx hy h0 ej hR1
      gi_wp2
      gi_region_with (first
        | (refine ⟨trivial, ?_⟩; gi_at_call_has 58 (Value.slice A n c); refine (callsIn_wide.2 G1.out).mono ?_; rintro e w' ⟨rfl, rfl⟩)
        | (refine ⟨trivial, ?_⟩; gi_at_call 58; refine (callsIn_wide.2 G2.out).mono ?_; rintro e w' ⟨rfl, rfl⟩)
        | (refine HR.out.mono ?_; rintro e W3 ⟨t, rfl, hZ⟩))
      all_goals
        rcases hZ.out with ⟨rfl, hJ3, hk3⟩ | ⟨rfl, hJx3⟩
        · have HJ3 := hide hJ3
          have HK3 := hide (hB.out.trans hk3)
          clear hJ3 hk3 hZ
          gi_wp2
          go_roundw
          case rel => exact ⟨k + 1, j, by omega, rfl, HJ3.out, HK3⟩
          case measure => simp [intOf]
        · have HX := hide hJx3
          clear hJx3 hZ
          gi_wp2
          refine bodyPost_ret (results_none rfl _ _ _) rfl ?_
          exact ⟨⟨_, rfl⟩, .inr ⟨_, ⟨k + 1, by omega, rfl⟩, HX.out⟩⟩

/-- The closure of pairs, as the law for a range over it asks. -/
theorem pairs1_stops (q : Nat) (hq : 1 ≤ q) (Ba Bb n₀ : Nat) (A A' : Option Addr) (n n' c c' m : Nat) (xs ys : List Nat) (hm : m = max n n') (hm3 : m ≤ 35184372087808) (w : World) (hBa : w.cell? ⟨Ba, 0, none⟩ = some (.slice A n c)) (hBb : w.cell? ⟨Bb, 0, none⟩ = some (.slice A' n' c')) (ha : Ba < n₀) (hb : Bb < n₀) (hn₀ : n₀ ≤ w.heap.size)
    (hx : ∀ W', Below n₀ w W' → Rd W' A n xs) (hy : ∀ W', Below n₀ w W' → Rd W' A' n' ys) (h32 : Is32 xs) (h32' : Is32 ys) :
    SeqStopsK Fence.wide q Tryd.prog 75 #[.pointer (some ⟨Ba, 0, none⟩), .pointer (some ⟨Bb, 0, none⟩)] (fun x : Nat × Nat => #[Value.int .u64 (x.1 : Int), .int .u64 (x.2 : Int)]) (Below n₀) (fun zs => zs = prs m m xs ys) (fun pre => ∃ k, k ≤ m ∧ pre = prs m k xs ys) m w :=
  fun l J Jx W hW hJ _ hY h0 =>
    pairs1_in q l Ba Bb n₀ A A' n n' c c' m xs ys hm hm3 J Jx hq hY (fun pre W1 h => hJ pre W1 W1.drew none h ⟨rfl, rfl, rfl, Nat.le_refl _, fun _ _ _ => rfl⟩ (fun r e => by cases e)) W
      ((hW.cell (p := ⟨Ba, 0, none⟩) (Nat.lt_of_lt_of_le ha hn₀)).trans hBa) ((hW.cell (p := ⟨Bb, 0, none⟩) (Nat.lt_of_lt_of_le hb hn₀)).trans hBb) ha hb
      (fun W' h => hx W' ((hW.mono hn₀).trans h)) (fun W' h => hy W' ((hW.mono hn₀).trans h)) h32 h32' h0

end Go.Proofs.YtcdejccbamjdoaaDoor
