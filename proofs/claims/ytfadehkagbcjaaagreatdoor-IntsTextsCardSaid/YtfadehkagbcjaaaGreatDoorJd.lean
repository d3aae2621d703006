/- the laws of ints: great. -/
import Derived.Test.YtfadehkagbcjaaaGreatDoorJb
set_option linter.unusedVariables false
set_option linter.unusedSimpArgs false
set_option maxRecDepth 100000
namespace Go.Proofs.YtfadehkagbcjaaaGreatDoor
open Go.RowKit

theorem iany_step {l : List (Bool × Option Addr × Nat × Nat)} {p : Bool × Option Addr × Nat × Nat → Bool} {i : Nat} {x : Bool × Option Addr × Nat × Nat} (h : (l.take i).any p = false) (hx : l[i]? = some x) (hp : p x = false) : (l.take (i + 1)).any p = false := by
  obtain ⟨hi, e⟩ := List.getElem?_eq_some_iff.1 hx
  rw [List.take_succ_eq_append_getElem hi, List.any_append, h, e]
  simp [hp]
theorem igreat_ok (w : World) (g : Nat) (l : List (Bool × Option Addr × Nat × Nat)) (hc : ∀ (j : Nat) x, l[j]? = some x → w.cell? ⟨g, j * 2 + 1, none⟩ = some (.slice x.2.1 x.2.2.1 x.2.2.2)) (hl : l.length ≤ 1000) :
    Calls Tryz.prog 13 #[.slice (some ⟨g, 0, none⟩) l.length l.length] w fun e w' => e = .returned (.bool (l.any fun x => decide (200 < x.2.2.1))) ∧ w = w' := by
  refine opq fun R hR => ?_
  have HC := hide hc
  clear hc
  go_enter Tryz.func13, Tryz.ntmps13
  go_wp2
  go_loop [3] (fun iv => ∃ i : Nat, i ≤ l.length ∧ iv = .int .i64 (i : Nat) ∧ Hid ((l.take i).any (fun x => decide (200 < x.2.2.1)) = false)) (fun iv => l.length - (intOf iv).toNat)
  case atStart => exact ⟨0, by omega, rfl, rfl⟩
  case round =>
    obtain ⟨i, hi, rfl, hs⟩ := hrel
    by_cases hlt : i < l.length
    · obtain ⟨⟨b, a, n, c⟩, hx⟩ : ∃ y, l[i]? = some y := ⟨_, List.getElem?_eq_getElem hlt⟩
      have hcell := HC.out i _ hx
      have S1 := hide (fun hp => iany_step hs.out hx hp)
      have S2 : Hid (200 < n → l.any (fun x => decide (200 < x.2.2.1)) = true) := fun q => List.any_eq_true.2 ⟨_, List.mem_of_getElem? hx, by simpa using q⟩
      clear hx
      by_cases hn : 200 < n
      · go_wp2
        exact opq_end hR ⟨ret_bool (S2.out hn).symm, rfl⟩
      · have S3 := hide (S1.out (by simpa using hn))
        clear S1 S2
        go_wp2
        go_round
        case rel => exact ⟨i + 1, by omega, by go_num, S3⟩
        case measure => simp [intOf]; omega
    · obtain rfl : i = l.length := by omega
      have e := hs.out
      rw [List.take_length] at e
      have E := hide e
      clear e
      go_wp2
      exact opq_end hR ⟨ret_bool E.out.symm, rfl⟩
theorem igreat1 {w : World} {b1 : Bool} {A1 : Option Addr} {n1 c1 : Nat} {t : TypeId} {g : Nat} (hg : w.heap.size = g) (r : Bool) (hr : decide (200 < n1) = r) :
    Calls Tryz.prog 13 #[.slice (some ⟨g, 0, none⟩) 1 1] (w.alloc (.cells #[.bool b1, .slice A1 n1 c1] t)) fun e w' => ∃ u, e = .returned u ∧ Below (w.alloc (.cells #[.bool b1, .slice A1 n1 c1] t)).heap.size (w.alloc (.cells #[.bool b1, .slice A1 n1 c1] t)) w' ∧ u = .bool r := by
  subst hg
  have B := Blk.new w t #[.bool b1, .slice A1 n1 c1]
  have := igreat_ok (w.alloc (.cells #[.bool b1, .slice A1 n1 c1] t)) w.heap.size [(b1, A1, n1, c1)] (fun j x hx => by
    rw [B.cell]
    match j, hx with
    | 0, hx => cases hx; rfl) (by simp)
  exact this.mono fun e w' ⟨h1, h2⟩ => ⟨_, h1, h2 ▸ Below.refl _ _, by simp [hr]⟩
theorem igreat2 {w : World} {b1 b2 : Bool} {A1 A2 : Option Addr} {n1 c1 n2 c2 : Nat} {t : TypeId} {g : Nat} (hg : w.heap.size = g) (r : Bool) (hr : (decide (200 < n1) || decide (200 < n2)) = r) :
    Calls Tryz.prog 13 #[.slice (some ⟨g, 0, none⟩) 2 2] (w.alloc (.cells #[.bool b1, .slice A1 n1 c1, .bool b2, .slice A2 n2 c2] t)) fun e w' => ∃ u, e = .returned u ∧ Below (w.alloc (.cells #[.bool b1, .slice A1 n1 c1, .bool b2, .slice A2 n2 c2] t)).heap.size (w.alloc (.cells #[.bool b1, .slice A1 n1 c1, .bool b2, .slice A2 n2 c2] t)) w' ∧ u = .bool r := by
  subst hg
  have B := Blk.new w t #[.bool b1, .slice A1 n1 c1, .bool b2, .slice A2 n2 c2]
  have := igreat_ok (w.alloc (.cells #[.bool b1, .slice A1 n1 c1, .bool b2, .slice A2 n2 c2] t)) w.heap.size [(b1, A1, n1, c1), (b2, A2, n2, c2)] (fun j x hx => by
    rw [B.cell]
    match j, hx with
    | 0, hx => cases hx; rfl
    | 1, hx => cases hx; rfl) (by simp)
  exact this.mono fun e w' ⟨h1, h2⟩ => ⟨_, h1, h2 ▸ Below.refl _ _, by simpa using hr⟩
theorem igreat3 {w : World} {b1 b2 b3 : Bool} {A1 A2 A3 : Option Addr} {n1 c1 n2 c2 n3 c3 : Nat} {t : TypeId} {g : Nat} (hg : w.heap.size = g) (r : Bool) (hr : (decide (200 < n1) || (decide (200 < n2) || decide (200 < n3))) = r) :
    Calls Tryz.prog 13 #[.slice (some ⟨g, 0, none⟩) 3 3] (w.alloc (.cells #[.bool b1, .slice A1 n1 c1, .bool b2, .slice A2 n2 c2, .bool b3, .slice A3 n3 c3] t)) fun e w' => ∃ u, e = .returned u ∧ Below (w.alloc (.cells #[.bool b1, .slice A1 n1 c1, .bool b2, .slice A2 n2 c2, .bool b3, .slice A3 n3 c3] t)).heap.size (w.alloc (.cells #[.bool b1, .slice A1 n1 c1, .bool b2, .slice A2 n2 c2, .bool b3, .slice A3 n3 c3] t)) w' ∧ u = .bool r := by
  subst hg
  have B := Blk.new w t #[.bool b1, .slice A1 n1 c1, .bool b2, .slice A2 n2 c2, .bool b3, .slice A3 n3 c3]
  have := igreat_ok (w.alloc (.cells #[.bool b1, .slice A1 n1 c1, .bool b2, .slice A2 n2 c2, .bool b3, .slice A3 n3 c3] t)) w.heap.size [(b1, A1, n1, c1), (b2, A2, n2, c2), (b3, A3, n3, c3)] (fun j x hx => by
    rw [B.cell]
    match j, hx with
    | 0, hx => cases hx; rfl
    | 1, hx => cases hx; rfl
    | 2, hx => cases hx; rfl) (by simp)
  exact this.mono fun e w' ⟨h1, h2⟩ => ⟨_, h1, h2 ▸ Below.refl _ _, by simpa using hr⟩
theorem iCheck_F {w : World} {b : Bool} {A : Option Addr} {n c : Nat} {xs : List Nat} (h : Rd w A n xs) (h32 : Is32 xs) (hc : n ≤ c) (hn : n ≤ 1000000000000) (r : Bool) (hr : iok b xs = r) :
    Calls Tryz.prog 102 #[.agg #[.bool b, .slice A n c]] w fun e w' => ∃ u, e = .returned u ∧ Below w.heap.size w w' ∧ u = .bool r :=
  (iCheck_ok ⟨_, rfl, A, n, c, rfl, hc, Nat.le_trans hn (by decide), h, h32⟩).mono fun e w' ⟨h1, h2⟩ => ⟨_, h1, h2.out, by rw [hr]⟩
theorem ican_of {w : World} {b : Bool} {A : Option Addr} {n c : Nat} {xs : List Nat} (h : Rd w A n xs) (h32 : Is32 xs) (hc : n ≤ c) (hn : n ≤ 1000000000000) (hk : iok b xs = true) : ICan w (.agg #[.bool b, .slice A n c]) (iv b xs) :=
  IPrt.can ⟨_, rfl, A, n, c, rfl, hc, Nat.le_trans hn (by decide), h, h32⟩ hk
end Go.Proofs.YtfadehkagbcjaaaGreatDoor
