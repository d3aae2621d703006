/- nats: Text. -/
import Derived.Test.YtcdejccbamjdoaaDoorNr
import Derived.Test.YtcdejccbamjdoaaDoorLe
import Derived.Test.YtcdejccbamjdoaaDoorCore3
import Derived.Test.YtcdejccbamjdoaaDoorShelf
set_option linter.unusedVariables false
set_option linter.unusedSimpArgs false
set_option maxRecDepth 100000
namespace Go.Proofs.YtcdejccbamjdoaaDoor
open Go.RowKit

theorem infoS : (Tryd.prog.info? 9).map (fun i => (i.zero, i.size, i.bytes)) = some (some (.string ⟨#[]⟩), 1, 16) := by kernel_rfl
abbrev vstr (l : List UInt8) : Value := .string ⟨l.toArray⟩
theorem join_flat (xs : List (List UInt8)) : Lib.join xs [] = xs.flatten := by
  cases xs with
  | nil => rfl
  | cons x r => rw [Lib.join_cons]; simp [Lib.joinTail]
theorem below_putRow {α : Type} [Inhabited α] {B : Nat} {w W : World} (h : Below B w W) (enc : α → Value) (n g off : Nat) (d : Array α) (hg : B ≤ g) : Below B w (Sort.putRow enc (Sort.ahead W n) g off d) := by
  refine ⟨h.os, h.tape, h.output, by rw [Sort.size_putRow]; exact h.size, fun k hk => ?_⟩
  rw [← h.block k hk]
  show (W.heap.modify g _)[k]? = _
  rw [Array.getElem?_modify, if_neg (by omega)]

/-- A number in memory of its own stays, while a row elsewhere grows. -/
theorem NatR.grown {N B : Nat} {w w' : World} {v : Value} {row : Option Nat} (h : NatR N B w v) (hg : w.grownBy w' row) (hr : ∀ k, row = some k → k < B) : NatR N B w' v := by
  obtain ⟨A, c, rfl, r, f, l⟩ := h
  rcases f with h0 | ⟨g, cs, e, hB, hk, hc⟩
  · have hl : (limbs N).length = 0 := by omega
    refine ⟨A, c, rfl, ⟨rfl, by omega, fun q => by omega⟩, .inl h0, l⟩
  · have hblk : w'.heap[g]? = w.heap[g]? := hg.block g hk.lt (fun q => by have := hr g q.symm; omega)
    refine ⟨A, c, rfl, ⟨r.1, r.2.1, fun q => ?_⟩, .inr ⟨g, cs, e, hB, hk.keep hblk, hc⟩, l⟩
    obtain ⟨ad, e1, hb, hcl⟩ := r.2.2 q
    rw [e] at e1
    cases e1
    refine ⟨_, e, (hk.keep hblk).lt, fun j hj => ?_⟩
    rw [← hcl j hj, add0]
    exact World.cell?_of_block (w := w) hblk
set_option maxHeartbeats 2000000 in
theorem Text_ok (w : World) (A : Option Addr) (n c : Nat) (xs : List Nat) (h : Rd w A n xs) (h32 : Is32 xs) (hn : n ≤ 1000000) (hc : n ≤ c) :
    Calls Tryd.prog 42 #[.slice A n c] w fun e w' => e = .returned (vstr (bts (txt (nv xs)))) ∧ Below w.heap.size w w' := by
  refine opq fun R hR => ?_
  have F1 := hide (fine_any w A n c xs h h32 hc)
  clear h h32
  go_enter Tryd.func42, Tryd.ntmps42
  go_wp2_with fail
  refine F1.out.mono ?_
  rintro e w' ⟨A1, n1, c1, xs1, rfl, rfl, r1, p1, q1, q2⟩
  have M1 := hide (can_of r1.out p1.out.1 p1.out.2.1 q2)
  have S1 : Hid (nv xs < 4294967296 ^ n) := by
    show _ < _
    rw [← p1.out.2.2]
    exact Nat.lt_of_lt_of_le (val_lt p1.out.1) (Nat.pow_le_pow_right (by omega) (by rw [r1.out.1]; exact q1))
  rw [p1.out.2.2] at M1
  clear F1 r1 p1
  generalize nv xs = N at *
  go_wp2
  go_loopg [0, 3, 5] (2 * n) (fun k av lv nv wr => ∃ j, Hid (k + j = 2 * n) ∧ Hid (Can wr av (N / 10 ^ (9 * j))) ∧ Hid (wr.ownsRow w.heap.size 9 1 lv j ((pcs j N).map vstr)) ∧ Hid (Below w.heap.size w wr))
  case atStart => exact ⟨0, hide (by omega), by simpa using M1, World.ownsRow_nil _ _ _ _, Below.refl _ _⟩
  case round =>
    obtain ⟨j, hk, hcan, hown, hbel⟩ := hrel
    clear M1
    have hkj := hk.out
    by_cases hM : N / 10 ^ (9 * j) = 0
    · have hM0 := hide hM
      rw [hM] at hcan
      obtain ⟨A2, c2, rfl, l2, r2⟩ := hcan.out
      clear hM hcan l2 r2
      rw [limbs_zero]
      by_cases h0 : j = 0
      · subst h0
        have e0 : N = 0 := by simpa using hM0.out
        obtain ⟨A3, c3, rfl⟩ := own_slice hown.out
        have C1 := hide (fun w => Tryd.slices_Reverse_string_empty A3 c3 w)
        have C2 := hide (fun w => Tryd.strings_Join_none A3 c3 ⟨#[]⟩ w)
        have C3 := hide (fun w => Tryd.strings_TrimLeft_one ⟨#[]⟩ 48 (by decide) w)
        clear hown hM0 hk
        go_wp2_with fail
        refine (C1.out _).mono ?_
        rintro e w' ⟨rfl, rfl⟩
        go_wp2_with fail
        refine (C2.out _).mono ?_
        rintro e w' ⟨rfl, rfl⟩
        go_wp2_with fail
        refine (C3.out _).mono ?_
        rintro e w' ⟨rfl, rfl⟩
        go_wp2
        exact opq_end hR ⟨by rw [e0]; rfl, hbel.out⟩
      · obtain ⟨g, cap, cur, rfl, hB, hnc, hcm, hblk, hcs, htk⟩ := own_some hown.out (by omega)
        have hlen := pcs_length j N
        have Hl : Hid (Sort.Holds encStr wr g 0 (pcs j N).toArray) := by
          intro q hq
          have hq' : q < j := by simpa [hlen] using hq
          refine ⟨?_, hblk.frozen _⟩
          rw [Nat.zero_add, hblk.cell]
          refine take_get htk ?_
          rw [List.getElem?_map, List.getElem?_eq_getElem (by rw [hlen]; exact hq')]
          simp [encStr, vstr, getElem!_pos, hq', hlen]
        have C1 := hide (Tryd.slices_Reverse_string g 0 cap (pcs j N) wr Hl.out (by omega))
        rw [hlen] at C1
        clear hown hk htk hcs
        go_wp2_with fail
        refine C1.out.mono ?_
        rintro e w1 ⟨rfl, nq, e1⟩
        have B1 : Hid (Below w.heap.size w w1) := by rw [e1]; exact below_putRow hbel.out _ _ _ _ _ hB
        have Hl2 : Hid (Sort.Holds encStr w1 g 0 (pcs j N).reverse.toArray) := by
          rw [e1]
          exact Sort.holds_putRow encStr _ g 0 _ _ (Sort.holds_ahead encStr wr nq g 0 _ Hl.out) (by simp)
        have hg1 : g < w1.heap.size := by
          rw [e1, Sort.size_putRow]
          exact hblk.lt
        have C2 : Hid (∀ (hj : j ≤ 2 * n), Calls Tryd.prog 71 #[.slice (some ⟨g, 0, none⟩) j cap, .string ⟨#[]⟩] w1 fun e w' => e = .returned (.string ⟨((pcs j N).reverse.flatten).toArray⟩) ∧ Below w1.heap.size w1 w') := by
          intro hj
          have em : ((pcs j N).reverse.map fun l => (⟨l.toArray⟩ : ByteArray)).map (·.data.toList) = (pcs j N).reverse := by
            rw [List.map_map]
            conv => rhs; rw [← List.map_id (pcs j N).reverse]
            apply List.map_congr_left
            intro x _
            simp
          have ln : ((pcs j N).reverse.map fun l => (⟨l.toArray⟩ : ByteArray)).length = j := by simp [hlen]
          have J := Tryd.strings_Join g 0 cap ((pcs j N).reverse.map fun l => (⟨l.toArray⟩ : ByteArray)) ⟨#[]⟩ w1 (by
            intro q x hq
            have hq' : q < j := by
              have := (List.getElem?_eq_some_iff.1 hq).1
              rw [ln] at this
              exact this
            have := (Hl2.out q (by simpa [hlen] using hq')).1
            rw [this]
            rw [List.getElem?_map, List.getElem?_eq_getElem (by simpa [hlen] using hq')] at hq
            simp at hq
            rw [← hq]
            simp [encStr, getElem!_pos, hq', hlen]) hg1 (by rw [ln]; omega) (by rw [ln]; exact hnc) (by rw [em]; show (Lib.join _ []).length ≤ _; rw [join_flat, pcs_flat_len]; omega)
          rw [em, ln] at J
          have ej : Lib.join (pcs j N).reverse (⟨#[]⟩ : ByteArray).data.toList = (pcs j N).reverse.flatten := join_flat _
          rw [ej] at J
          exact J
        have tr := pcs_trim hM0.out
        generalize (pcs j N).reverse.flatten = F at *
        have C3 : Hid (∀ w, Calls Tryd.prog 70 #[.string ⟨F.toArray⟩, .string ⟨#[48]⟩] w fun e w' => e = .returned (.string ⟨(bts (decs N)).toArray⟩) ∧ w' = w) := by
          intro w
          have := Tryd.strings_TrimLeft_one ⟨F.toArray⟩ 48 (by decide) w
          rw [show Lib.trimLeftB (⟨F.toArray⟩ : ByteArray).data.toList 48 = bts (decs N) from tr] at this
          exact this
        clear C1 Hl Hl2 hM0 hblk hB hbel e1 tr
        go_wp2_with fail
        refine (C2.out (by omega)).mono ?_
        rintro e w2 ⟨rfl, b2⟩
        have B2 := hide (below_tr B1.out b2)
        go_wp2_with fail
        refine (C3.out _).mono ?_
        rintro e w' ⟨rfl, rfl⟩
        by_cases hN : N = 0
        · subst hN
          rw [decs_zero]
          go_wp2
          exact opq_end hR ⟨rfl, B2.out⟩
        · have t1 : (bts (decs N)).isEmpty = false := by
            have : decs N ≠ [] := fun q => hN (decs_eq_nil.1 q)
            cases h : decs N with
            | nil => exact absurd h this
            | cons a b => rfl
          have e2 : Hid (txt N = decs N) := if_neg hN
          go_wp2
          exact opq_end hR ⟨by rw [e2.out]; rfl, B2.out⟩
    · obtain ⟨A2, c2, rfl, l2, r2⟩ := hcan.out
      have hL : 0 < (limbs (N / 10 ^ (9 * j))).length := by
        rcases Nat.eq_zero_or_pos (limbs (N / 10 ^ (9 * j))).length with q | q
        · exact absurd (is_zero_len.1 q) hM
        · exact q
      have hj : j < 2 * n := by
        rcases Nat.lt_or_ge j (2 * n) with q | q
        · exact q
        · exact absurd (pcs_end S1.out q) hM
      have SM : Hid (Sm (N / 10 ^ (9 * j))) := by
        have a : Sm N := Nat.le_trans (limbs_length_le.2 S1.out) (by omega)
        exact a.mono (Nat.div_le_self _ _)
      obtain ⟨A3, c3, rfl⟩ := own_slice hown.out
      have hz := hbel.out.size
      clear l2 r2 hM hk
      go_wp2_with fail
      refine (short_can 1000000000 hcan.out SM.out (by omega) (by omega)).mono ?_
      rintro e w1 ⟨u1, rfl, N1, B1⟩
      rw [div_nine] at N1
      have b2 := hide (below_tr hbel.out B1.out)
      have O1 := hide (own_below hown.out B1.out)
      have ml : N / 10 ^ (9 * j) % 1000000000 < 1000000000 := Nat.mod_lt _ (by omega)
      have CC : Hid (∀ w, Calls Tryd.prog 68 #[.int .u32 (N / 10 ^ (9 * j) % 1000000000 : Nat)] w fun e w' => e = .returned (vstr (bts (dig 9 (N / 10 ^ (9 * j))))) ∧ Below w.heap.size w w') := by
        intro w
        rw [← piece_mod]
        exact nine_ok w _ ml
      generalize N / 10 ^ (9 * j) % 1000000000 = rr at *
      have ep := pcs_succ j N
      generalize bts (dig 9 (N / 10 ^ (9 * j))) = pc at *
      generalize (limbs (N / 10 ^ (9 * j))).length = L at *
      have hown' := hown
      clear hcan SM hown
      go_wp2_with fail
      refine (CC.out _).mono ?_
      rintro e w2 ⟨rfl, B2⟩
      have b3 := hide (below_tr b2.out B2)
      have O2 := hide ((own_below O1.out B2).alloc (.cells #[vstr pc] 9))
      have b4 := hide (b3.out.alloc b3.out.size (.cells #[vstr pc] 9))
      have K0 := Blk.new w2 9 #[vstr pc]
      have hz2 := b3.out.size
      have N2 := hide ((N1.out.below B2).below ((Below.refl _ w2).alloc (Nat.le_refl _) (.cells #[vstr pc] 9)))
      have OB := hide hown'.out.lt
      have hn1 : ∀ (q : Nat) u, [vstr pc][q]? = some u → (w2.alloc (.cells #[vstr pc] 9)).cell? ((⟨w2.heap.size, 0, none⟩ : Addr).add q) = some u := by
        intro q u hq
        rw [add0, K0.cell]
        simpa using hq
      have HN1 := hide hn1
      clear CC B2 O1 K0 hn1
      go_wp2_with (at_builtin; refine wpList_appv (t := 93) (e := 9) (z := .string ⟨#[]⟩) (size := 1) (b := 16) (by kernel_rfl) infoS rfl (by omega) _ rfl _ _ rfl w.heap.size j _ ((pcs j N).map vstr) rfl O2.out ⟨w2.heap.size, 0, none⟩ 1 1 [vstr pc] rfl rfl HN1.out (by intro u hu; simp at hu; subst hu; rfl) (by omega) (by omega) (by simp; omega) ?_; intro v3 w3 q3 q4)
      have b5 := hide (b4.out.grown q4.out (by simp; omega) (fun k e => own_from O2.out e))
      have N3 : Hid (Can w3 u1 (N / 10 ^ (9 * (j + 1)))) := (N2.out.grown q4.out (fun k e => (OB.out k e).2)).can
      go_roundg (gk - 1)
      case measure => omega
      case rel => exact ⟨j + 1, hide (by omega), N3, by rw [ep, List.map_append]; exact q3, b5⟩
end Go.Proofs.YtcdejccbamjdoaaDoor
