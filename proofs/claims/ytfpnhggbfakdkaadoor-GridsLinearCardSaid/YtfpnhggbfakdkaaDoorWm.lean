/- grids: two are the same; what a law opens; plain words on turned grids. -/
import Derived.Test.YtfpnhggbfakdkaaDoorWl
import Derived.Test.YtfpnhggbfakdkaaDoorBY
set_option linter.unusedVariables false
set_option linter.unusedSimpArgs false
set_option maxRecDepth 100000
namespace Go.Proofs.YtfpnhggbfakdkaaDoor
open Go.RowKit

/-- What a law of grids opens: a grid that is not too great, and may be. -/
structure GOpen (w : World) (A : Option Addr) (n c : Nat) (ess : List (List Raw)) (N : Nat) : Prop where
  can : Gst RCan w (.slice A n c) (ess.map fun es => es.map rvE)
  gq : GQ (ess.map fun es => es.map rvE) N 300
  n8 : n ≤ 8
  N8 : N ≤ 8
theorem gopen_raw {w : World} {A : Option Addr} {n c : Nat} {ess : List (List Raw)} (h : Gst RRw w (.slice A n c) ess) (hg : n ≤ 8 ∧ gsz ess ≤ 300 ∧ ∀ es ∈ ess, es.length ≤ 8) : Gst RRaw w (.slice A n c) ess := (h.rawW 300 hg.2.1 (by decide)).1
theorem gopen {w : World} {A : Option Addr} {n c : Nat} {ess : List (List Raw)} (h : Gst RRaw w (.slice A n c) ess) (hg : n ≤ 8 ∧ gsz ess ≤ 300 ∧ ∀ es ∈ ess, es.length ≤ 8) (hk : gok ess = true) : GOpen w A n c ess (cols ess) := by
  have hr := List.all_eq_true.1 hk
  have hrow : ∀ es ∈ ess, es.length = cols ess ∧ es.all rk = true := fun es he => by
    have := hr es he
    unfold rowB at this
    rw [Bool.and_eq_true, decide_eq_true_eq] at this
    exact this
  have hl := h.len
  refine ⟨h.imp rvE fun es he u e hm hu => hu.can (List.all_eq_true.1 (hrow es he).2 e hm), ⟨fun qs hq => ?_, fun qs hq q hm => ?_, fun e => ?_⟩, hg.1, ?_⟩
  · obtain ⟨es, he, rfl⟩ := List.mem_map.1 hq
    rw [List.length_map]
    exact (hrow es he).1
  · obtain ⟨es, he, rfl⟩ := List.mem_map.1 hq
    obtain ⟨e, hm', rfl⟩ := List.mem_map.1 hm
    obtain ⟨A', n', c', us, e1, h1, h2, h3, h4, h5, h6⟩ := h
    cases e1
    obtain ⟨j, hj, rfl⟩ := List.getElem_of_mem he
    obtain ⟨u, hu, hL⟩ := h6 j _ (List.getElem?_eq_getElem hj)
    obtain ⟨A2, n2, c2, vs, e2, k1, k2, k3, k4, k5, k6⟩ := hL
    obtain ⟨i, hi, rfl⟩ := List.getElem_of_mem hm'
    obtain ⟨v, hv, hE⟩ := k6 i _ (List.getElem?_eq_getElem hi)
    have hs1 := tsz_mem (List.getElem_mem hi)
    have hs2 := (tsz_gsz he hg.2.1).2
    exact (hE.siz (by omega)).up (by omega)
  · have : ess = [] := List.map_eq_nil_iff.1 e
    rw [this]; rfl
  · unfold cols
    rcases ess with _ | ⟨a, r⟩
    · exact Nat.zero_le _
    · exact hg.2.2 a (List.mem_cons_self ..)
theorem GOpen.below {w w' : World} {A : Option Addr} {n c : Nat} {ess : List (List Raw)} {N : Nat} (h : GOpen w A n c ess N) (hb : Below w.heap.size w w') : GOpen w' A n c ess N := ⟨h.can.can_below hb, h.gq, h.n8, h.N8⟩
theorem szt300 {N : Nat} (h : N ≤ 8) : szt 300 N ≤ 1000000000 := Nat.le_trans (szt_le 300 N 8 h) (by decide)
/-- A turned grid. -/
theorem turnQ_len (qss : List (List Rat)) (N : Nat) : (turnQ qss N).length = N := by
  unfold turnQ
  simp
theorem GQ.turn {qss : List (List Rat)} {N s : Nat} (G : GQ qss N s) (hs : 1 ≤ s) : GQ (turnQ qss N) (if N = 0 then 0 else qss.length) s := by
  refine ⟨fun qs hq => ?_, fun qs hq => ?_, fun e => ?_⟩
  · unfold turnQ at hq
    obtain ⟨k, hk, rfl⟩ := List.mem_map.1 hq
    have := List.mem_range.1 hk
    rw [List.length_map, if_neg (by omega)]
  · unfold turnQ at hq
    obtain ⟨k, hk, rfl⟩ := List.mem_map.1 hq
    intro x hx
    obtain ⟨q, hm, rfl⟩ := List.mem_map.1 hx
    exact H_getD (G.hs q hm) hs k
  · have := turnQ_len qss N
    rw [e] at this
    have h0 : N = 0 := this.symm
    rw [if_pos h0]
end Go.Proofs.YtfpnhggbfakdkaaDoor
