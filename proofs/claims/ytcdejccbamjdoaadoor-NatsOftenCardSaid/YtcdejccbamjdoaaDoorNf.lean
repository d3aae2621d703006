/- nats: Clone, Of, Back, Sub. -/
import Derived.Test.YtcdejccbamjdoaaDoorNc
import Derived.WalkSpells
import Derived.Test.YtcdejccbamjdoaaDoorNe
set_option linter.unusedVariables false
set_option linter.unusedSimpArgs false
set_option maxRecDepth 100000
namespace Go.Proofs.YtcdejccbamjdoaaDoor
open Go.RowKit

set_option maxHeartbeats 400000 in
theorem clone_ok (w : World) (A : Option Addr) (n c : Nat) (xs : List Nat) (h : Rd w A n xs) (hn : n ≤ 35184372087808) :
    Calls Tryd.prog 54 #[.slice A n c] w fun e w' => ∃ A' c', e = .returned (.slice A' n c') ∧ n ≤ c' ∧ Rd w' A' n xs ∧ Fr T32 w.heap.size w' A' c' ∧ Below w.heap.size w w' ∧ w'.ownsRow w.heap.size T32 1 (.slice A' n c') n (xs.map fun x => Value.int .u32 (x : Nat)) := by
  refine opq fun R hR => ?_
  have H := hide h
  clear h
  have hnil := fun W => Lib.run_eql_slice_nil (P := Tryd.prog) W 23 55 A n c 0 0 (by kernel_rfl)
  go_enter Tryd.func54, Tryd.ntmps54
  rcases A with _ | ad
  · have hn0 : n = 0 := by
      rcases Nat.eq_zero_or_pos n with h0 | h0
      · exact h0
      · obtain ⟨ad, h, _⟩ := H.out.2.2 h0; cases h
    subst hn0
    go_wp2
    exact opq_end hR ⟨none, 0, rfl, Nat.le_refl _, by rw [H.out.nil_iff]; exact Rdk.nil _ _ _, .inl rfl, Below.refl _ _, by rw [H.out.nil_iff]; exact World.ownsRow_nil _ _ _ _⟩
  · have bA : Below w.heap.size w (w.alloc (.cells #[] 55)) := (Below.refl _ _).alloc (Nat.le_refl _) _
    have own : (w.alloc (.cells #[] 55)).ownsRow w.heap.size 55 1 (.slice (some ⟨w.heap.size, 0, none⟩) 0 0) 0 (([] : List Nat).map fun x => Value.int .u32 (x : Nat)) :=
      own_blk (Blk.new w 55 #[]) (Nat.le_refl _) rfl (by omega) (Nat.le_refl _) rfl
    have HR := hide (H.out.below bA)
    have HW := hide own
    have HA := hide bA
    clear own bA
    go_wp2_with (at_builtin; refine wpList_app (k := .u32) (b := 4) (t := 23) (e := 55) (by kernel_rfl) info32 _ rfl _ _ rfl w.heap.size 0 _ [] rfl HW.out (some ad) n c xs rfl HR.out (by omega) (by omega) (by simp) ?_; intro A' c' w' q1 q2 q3 q4 q5)
    rw [List.nil_append, Nat.zero_add] at *
    exact opq_end hR ⟨A', c', rfl, q1, q2.out, q3.out, HA.out.grown q5.out (by simp) (fun k e => by cases e; exact Nat.le_refl _), q4.out⟩

set_option maxHeartbeats 400000 in
theorem Of_ok (w : World) (x : Nat) (hx : x < 18446744073709551616) :
    Calls Tryd.prog 44 #[.int .u64 (x : Nat)] w fun e w' => ∃ v, e = .returned v ∧ NatR x w.heap.size w' v ∧ Below w.heap.size w w' := by
  refine opq fun R hR => ?_
  go_enter Tryd.func44, Tryd.ntmps44
  have hb := Blk.new w T32 (cellsOf .u32 [x % 4294967296, x / 4294967296])
  have h32 : Is32 [x % 4294967296, x / 4294967296] := is32_cons.2 ⟨by omega, is32_cons.2 ⟨by omega, is32_nil⟩⟩
  have hv : val [x % 4294967296, x / 4294967296] = x := by simp only [val]; omega
  have N := hide (natR_of_blk hb h32 (Nat.le_refl _) (by simp))
  have C := hide (cut_ok (w.alloc (.cells (cellsOf .u32 [x % 4294967296, x / 4294967296]) T32)) (some ⟨w.heap.size, 0, none⟩) 2 2 _ (hb.rd 2 (Nat.le_refl _) (by omega)) (Nat.le_refl _))
  have HB := hide ((Below.refl w.heap.size w).alloc (Nat.le_refl _) (.cells (cellsOf .u32 [x % 4294967296, x / 4294967296]) T32))
  rw [hv] at N
  clear hv h32 hb
  go_wp2_with fail
  refine C.out.mono ?_
  rintro e w' ⟨rfl, rfl⟩
  go_wp2
  exact opq_end hR ⟨_, rfl, N.out, HB.out⟩

theorem NatR.mono {N B B' : Nat} {w : World} {v : Value} (h : NatR N B w v) (hB : B' ≤ B) : NatR N B' w v := by
  obtain ⟨A, c, e, r, f, l⟩ := h
  exact ⟨A, c, e, r, f.mono hB, l⟩
set_option maxHeartbeats 400000 in
theorem Sub_ok (w : World) (A A' : Option Addr) (n n' c c' : Nat) (xs ys : List Nat) (h : Rd w A n xs) (h' : Rd w A' n' ys) (h32 : Is32 xs) (h32' : Is32 ys) (hn : n ≤ 35184372087808) (hn' : n' ≤ 35184372087808) (hc : n ≤ c) (hc' : n' ≤ c') :
    Calls Tryd.prog 40 #[.slice A n c, .slice A' n' c'] w fun e w' =>
      (if chk xs = true ∧ chk ys = true ∧ val ys ≤ val xs then ∃ v, e = .returned (.tuple #[v, .int .i64 0]) ∧ NatR (val xs - val ys) w.heap.size w' v
        else e = .returned (.tuple #[.slice none 0 0, .int .i64 1])) ∧ Below w.heap.size w w' := by
  refine opq fun R hR => ?_
  have C1 := hide (Check_ok w A n c xs h)
  have C2 := hide (Check_ok w A' n' c' ys h')
  have C3 := hide (Cmp_ok w A A' n n' c c' xs ys h h' h32 h32' hn hn' hc hc')
  cases hx : chk xs
  · rw [hx] at C1
    go_enter Tryd.func40, Tryd.ntmps40
    go_wp2_with fail
    refine C1.out.mono ?_
    rintro e w' ⟨rfl, rfl⟩
    go_wp2
    exact opq_end hR ⟨by rw [if_neg (by rw [hx]; simp)]; rfl, Below.refl _ _⟩
  · cases hy : chk ys
    · rw [hx] at C1
      rw [hy] at C2
      go_enter Tryd.func40, Tryd.ntmps40
      go_wp2_with fail
      refine C1.out.mono ?_
      rintro e w' ⟨rfl, rfl⟩
      go_wp2_with fail
      refine C2.out.mono ?_
      rintro e w' ⟨rfl, rfl⟩
      go_wp2
      exact opq_end hR ⟨by rw [if_neg (by rw [hy]; simp)]; rfl, Below.refl _ _⟩
    · rw [hx] at C1
      rw [hy] at C2
      by_cases hv : val ys ≤ val xs
      · have e1 : Hid (decide (cmpN (nv xs) (nv ys) < 0) = false) := by
          show _ = _
          simp only [cmpN, nv, hx, hy, if_true, decide_eq_false_iff_not]
          rw [if_neg (by omega)]
          split <;> omega
        have hl : n' ≤ n := by rw [← h.1, ← h'.1]; exact len_le_of_val h32 h32' hy hv
        have H1 := hide h
        have H2 := hide h'
        have H3 := hide h32
        have H4 := hide h32'
        have H5 := hide hv
        clear h h' h32 h32' hv
        generalize cmpN (nv xs) (nv ys) = r at *
        have e2 := e1.out
        go_enter Tryd.func40, Tryd.ntmps40
        go_wp2_with fail
        refine C1.out.mono ?_
        rintro e w' ⟨rfl, rfl⟩
        go_wp2_with fail
        refine C2.out.mono ?_
        rintro e w' ⟨rfl, rfl⟩
        go_wp2_with fail
        refine C3.out.mono ?_
        rintro e w' ⟨rfl, hb⟩
        have HB := hide hb
        clear hb
        go_wp2_with fail
        refine (minus_ok _ A A' n n' c c' xs ys (H1.out.below HB.out) (H2.out.below HB.out) H3.out H4.out hn hl H5.out).mono ?_
        rintro e w2 ⟨v, rfl, hN, hb2⟩
        have HN := hide hN
        have HB2 := hide hb2
        clear hN hb2
        go_wp2
        exact opq_end hR ⟨by rw [if_pos ⟨hx, hy, H5.out⟩]; exact ⟨v, rfl, HN.out.mono HB.out.size⟩, below_tr HB.out HB2.out⟩
      · have e1 : Hid (decide (cmpN (nv xs) (nv ys) < 0) = true) := by
          show _ = _
          simp only [cmpN, nv, hx, hy, if_true, decide_eq_true_eq]
          rw [if_pos (by omega)]
          omega
        have H5 := hide hv
        clear h h' h32 h32' hv
        generalize cmpN (nv xs) (nv ys) = r at *
        have e2 := e1.out
        go_enter Tryd.func40, Tryd.ntmps40
        go_wp2_with fail
        refine C1.out.mono ?_
        rintro e w' ⟨rfl, rfl⟩
        go_wp2_with fail
        refine C2.out.mono ?_
        rintro e w' ⟨rfl, rfl⟩
        go_wp2_with fail
        refine C3.out.mono ?_
        rintro e w' ⟨rfl, hb⟩
        have HB := hide hb
        clear hb
        go_wp2
        exact opq_end hR ⟨by rw [if_neg (fun q => H5.out q.2.2)]; rfl, HB.out⟩
end Go.Proofs.YtcdejccbamjdoaaDoor
