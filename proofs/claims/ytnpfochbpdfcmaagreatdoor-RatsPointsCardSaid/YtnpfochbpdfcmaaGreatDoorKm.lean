/- the laws of rats: more contracts, and plain lemmas. -/
import Derived.Test.YtnpfochbpdfcmaaGreatDoorFreeS
set_option linter.unusedVariables false
set_option linter.unusedSimpArgs false
set_option maxRecDepth 100000
namespace Go.Proofs.YtnpfochbpdfcmaaGreatDoor
open Go.RowKit

theorem divInt_one (z : Int) : Rat.divInt z 1 = (z : Rat) := by rw [Rat.divInt_eq_div]; grind
theorem floor_L {q : Rat} {k : Nat} (h : H q k) : L q.floor.natAbs ≤ k + 1 := by
  have h1 : q.floor.natAbs ≤ q.num.natAbs + 1 := by
    have hd := q.den_pos
    have := Nat.div_le_self q.num.natAbs q.den
    rw [floor_parts]
    generalize q.num.natAbs / q.den = m at *
    split
    · split <;> omega
    · omega
  exact Nat.le_trans (L_mono h1) (L_add2 (k' := k) h.1 (Nat.le_trans (L_small (by omega)) (by
    have hn := q.den_nz
    have h2 : 1 ≤ L q.den := by
      rcases Nat.eq_zero_or_pos (L q.den) with h0 | h0
      · exact absurd (is_zero_len.1 h0) hn
      · exact h0
    exact Nat.le_trans h2 h.2)) (by omega))
theorem H_floor {q : Rat} {k : Nat} (h : H q k) : H (Rat.divInt q.floor 1) (k + 1) := by
  rw [divInt_one]; exact H_int (floor_L h) (by omega)
theorem floor_whole {q : Rat} (h : q.den = 1) : cmpQ (Rat.divInt q.floor 1) q = 0 := by
  rw [divInt_one]; exact cmpQ_e ((den_one_iff q).1 h)
theorem floor_part {q : Rat} (h : q.den ≠ 1) : cmpQ (Rat.divInt q.floor 1) q = -1 := by
  rw [divInt_one]
  refine cmpQ_lt ?_
  have h1 := Rat.floor_le q
  have h2 : ((q.floor : Int) : Rat) ≠ q := fun e => h ((den_one_iff q).2 e)
  rcases Rat.le_iff_lt_or_eq.1 h1 with h3 | h3
  · exact h3
  · exact absurd h3 h2
theorem floor_more (q : Rat) : cmpQ (Rat.divInt q.floor 1 + Rat.divInt 1 1) q = 1 := by
  rw [divInt_one, divInt_one]
  refine cmpQ_gt ?_
  have := Rat.lt_floor_add_one q
  rw [Rat.intCast_add] at this
  exact this
theorem make_mul {a b : Int} (hb : b ≠ 0) : Rat.divInt a b * Rat.divInt b 1 = Rat.divInt a 1 := by
  rw [Rat.divInt_eq_div, Rat.divInt_eq_div, Rat.divInt_eq_div]
  have : (b : Rat) ≠ 0 := by exact_mod_cast hb
  grind
theorem H_make {z n : Int} {k : Nat} (hz : L z.natAbs ≤ k) (hn : L n.natAbs ≤ k) (hk : 1 ≤ k) : H (Rat.divInt z n) k := by
  rcases Int.lt_trichotomy n 0 with h | h | h
  · rw [make_neg h]; exact H_mk (by omega) (Z_neg hz) hn
  · subst h; rw [Rat.divInt_zero]; exact H_zero hk
  · rw [make_pos h]; exact H_mk (by omega) hz hn
theorem iCheck_c {w : World} {v : Value} {x : Int} (h : ICan w v x) (hl : L x.natAbs ≤ 1000000000000) : Calls Tryz.prog 26 #[v] w fun e w' => ∃ u, e = .returned u ∧ Below w.heap.size w w' ∧ u = .bool true :=
  (iCheck_ok (h.prt (L_up hl (by decide)))).mono fun e w' ⟨h1, h2⟩ => ⟨_, h1, h2.out, by rw [iok_self]⟩
theorem one_L : L (1 : Int).natAbs ≤ 1000000000000 := L_up (L_small (N := 1) (by decide)) (by decide)
end Go.Proofs.YtnpfochbpdfcmaaGreatDoor
