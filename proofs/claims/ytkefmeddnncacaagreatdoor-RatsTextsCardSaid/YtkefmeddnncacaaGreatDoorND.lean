/- nats: Text, Parse, all contracts at numbers; some answers that the document fixes. -/
import Derived.Test.YtkefmeddnncacaaGreatDoorNC
import Derived.Test.YtkefmeddnncacaaGreatDoorLa
import Derived.Laws.IdiomStrings
import Derived.Test.YtkefmeddnncacaaGreatDoorCa
import Derived.Test.YtkefmeddnncacaaGreatDoorShelf
import Derived.Sort.Row
import Derived.Lib.SlTrimSet
import Derived.Test.YtkefmeddnncacaaGreatDoorNB
import Derived.Test.YtkefmeddnncacaaGreatDoorNA
import Derived.Laws.Closers25
import Derived.WideShapes
import Derived.OwnWalk
/- nats: nine digits. -/
set_option linter.unusedVariables false
set_option linter.unusedSimpArgs false
set_option maxRecDepth 100000
namespace Go.Proofs.YtkefmeddnncacaaGreatDoor
open Go.RowKit

theorem info8 : (Tryz.prog.info? 5).map (fun i => (i.zero, i.size, i.bytes)) = some (some (.int .u8 0), 1, 1) := by kernel_rfl

theorem nine_ok (w : World) (n : Nat) (hn : n < 1000000000) :
    Calls Tryz.prog 217 #[.int .u32 (n : Nat)] w fun e w' => e = .returned (.string ⟨((dig 9 n).map UInt8.ofNat).toArray⟩) ∧ Below w.heap.size w w' := by
  refine opq fun R hR => ?_
  have hmk := mk_nums (P := Tryz.prog) (t := 157) (e := 5) (k := .u8) (b := 1) (by kernel_rfl) info8 9 9 rfl (by omega) (by omega)
  go_enter Tryz.func217, Tryz.ntmps217
  go_wp2
  clear hmk
  go_loopw [0, 8] (fun nv iv wr => ∃ i m, i ≤ 9 ∧ iv = .int .i64 (i : Nat) ∧ nv = .int .u32 (m : Nat) ∧ Hid (m = n / 10 ^ i) ∧ m ≤ n ∧ Hid (Blk wr w.heap.size 5 (cellsOf .u8 (List.replicate (9 - i) 0 ++ dig i n))) ∧ Hid (Below w.heap.size w wr)) (fun _ iv _ => 9 - (intOf iv).toNat)
  case atStart => exact ⟨0, n, by omega, rfl, rfl, by show _ = _; simp, Nat.le_refl _, Blk.new _ _ _, (Below.refl _ _).alloc (Nat.le_refl _) _⟩
  case round =>
    obtain ⟨i, m, hi, rfl, rfl, hm, hmn, hblk, hbel⟩ := hrel
    by_cases hlt : i < 9
    · have hcell := hblk.out.cell (8 - i)
      rw [cellsOf_get _ _ _ (by simp [dig_length]; omega)] at hcell
      have hfro := hblk.out.frozen (8 - i)
      have e1 := dig_put hlt m hm.out
      have S2 := hide (hblk.out.set_ (8 - i) (.int .u8 ((48 + m % 10 : Nat) : Int)))
      rw [cellsOf_set, e1] at S2
      have S3 := hide (hbel.out.setCell (p := ⟨w.heap.size, 8 - i, none⟩) (Nat.le_refl _) (.int .u8 ((48 + m % 10 : Nat) : Int)))
      have e2 : Hid (m / 10 = n / 10 ^ (i + 1)) := by
        show _ = _
        rw [hm.out, Nat.div_div_eq_div_mul, Nat.pow_succ]
      clear e1
      go_wp2
      go_roundw
      case rel => exact ⟨i + 1, m / 10, by omega, by go_num, by go_num, e2, by omega, S2, S3⟩
      case measure => simp [intOf]; omega
    · obtain rfl : i = 9 := by omega
      have hb := hblk.out
      rw [Nat.sub_self, List.replicate_zero, List.nil_append] at hb
      have hconv := run_convert_bytes_back (P := Tryz.prog) wr 157 9 5 ⟨w.heap.size, 0, none⟩ 9 ((dig 9 n).map UInt8.ofNat) (by kernel_rfl) (by kernel_rfl) (by kernel_rfl) (fun j hj => by
        rw [List.length_map, dig_length] at hj
        rw [add0, hb.cell, cellsOf_get _ _ _ (by rw [dig_length]; exact hj), getD_lt (by rw [dig_length]; exact hj), List.getElem_map]
        have := dig_lt _ (List.getElem_mem (l := dig 9 n) (n := j) (by rw [dig_length]; exact hj))
        generalize (dig 9 n)[j] = x at *
        have e : (UInt8.ofNat x).toNat = x := by rw [UInt8.toNat_ofNat']; omega
        rw [e])
      rw [List.length_map, dig_length] at hconv
      clear hb
      go_wp2
      exact opq_end hR ⟨rfl, hbel.out⟩
end Go.Proofs.YtkefmeddnncacaaGreatDoor

/- nats: Text. -/
set_option linter.unusedVariables false
set_option linter.unusedSimpArgs false
set_option maxRecDepth 100000
namespace Go.Proofs.YtkefmeddnncacaaGreatDoor
open Go.RowKit

theorem infoS : (Tryz.prog.info? 9).map (fun i => (i.zero, i.size, i.bytes)) = some (some (.string ⟨#[]⟩), 1, 16) := by kernel_rfl
abbrev vstr (l : List UInt8) : Value := .string ⟨l.toArray⟩
theorem join_flat (xs : List (List UInt8)) : Lib.join xs [] = xs.flatten := by
  cases xs with
  | nil => rfl
  | cons x r => rw [Lib.join_cons]; simp [Lib.joinTail]
theorem below_putRow {α : Type} [Inhabited α] {B : Nat} {w W : World} (h : Below B w W) (enc : α → Value) (n g off : Nat) (d : Array α) (hg : B ≤ g) : Below B w (Sort.putRow enc (Sort.ahead W n) g off d) := by
  refine ⟨h.os, h.tape, h.output, by rw [Sort.size_putRow]; exact h.size, fun k hk => ?_⟩
  rw [← h.block k hk]
  show (W.heap.modify g _)[k]? = _
  rw [Array.getElem?_modify, if_neg (by omega)]

/-- A number in memory of its own stays, while a row elsewhere grows. -/
theorem NatR.grown {N B : Nat} {w w' : World} {v : Value} {row : Option Nat} (h : NatR N B w v) (hg : w.grownBy w' row) (hr : ∀ k, row = some k → k < B) : NatR N B w' v := by
  obtain ⟨A, c, rfl, r, f, l⟩ := h
  rcases f with h0 | ⟨g, cs, e, hB, hk, hc⟩
  · have hl : (limbs N).length = 0 := by omega
    refine ⟨A, c, rfl, ⟨rfl, by omega, fun q => by omega⟩, .inl h0, l⟩
  · have hblk : w'.heap[g]? = w.heap[g]? := hg.block g hk.lt (fun q => by have := hr g q.symm; omega)
    refine ⟨A, c, rfl, ⟨r.1, r.2.1, fun q => ?_⟩, .inr ⟨g, cs, e, hB, hk.keep hblk, hc⟩, l⟩
    obtain ⟨ad, e1, hb, hcl⟩ := r.2.2 q
    rw [e] at e1
    cases e1
    refine ⟨_, e, (hk.keep hblk).lt, fun j hj => ?_⟩
    rw [← hcl j hj, add0]
    exact World.cell?_of_block (w := w) hblk
set_option maxHeartbeats 2000000 in
theorem Text_ok (w : World) (A : Option Addr) (n c : Nat) (xs : List Nat) (h : Rd w A n xs) (h32 : Is32 xs) (hn : n ≤ 1000000) (hc : n ≤ c) :
    Calls Tryz.prog 100 #[.slice A n c] w fun e w' => e = .returned (vstr (bts (txt (nv xs)))) ∧ Below w.heap.size w w' := by
  refine opq fun R hR => ?_
  have F1 := hide (fine_any w A n c xs h h32 hc)
  clear h h32
  go_enter Tryz.func100, Tryz.ntmps100
  go_wp2_with fail
  refine F1.out.mono ?_
  rintro e w' ⟨A1, n1, c1, xs1, rfl, rfl, r1, p1, q1, q2⟩
  have M1 := hide (can_of r1.out p1.out.1 p1.out.2.1 q2)
  have S1 : Hid (nv xs < 4294967296 ^ n) := by
    show _ < _
    rw [← p1.out.2.2]
    exact Nat.lt_of_lt_of_le (val_lt p1.out.1) (Nat.pow_le_pow_right (by omega) (by rw [r1.out.1]; exact q1))
  rw [p1.out.2.2] at M1
  clear F1 r1 p1
  generalize nv xs = N at *
  go_wp2
  go_loopg [0, 3, 5] (2 * n) (fun k av lv nv wr => ∃ j, Hid (k + j = 2 * n) ∧ Hid (Can wr av (N / 10 ^ (9 * j))) ∧ Hid (wr.ownsRow w.heap.size 9 1 lv j ((pcs j N).map vstr)) ∧ Hid (Below w.heap.size w wr))
  case atStart => exact ⟨0, hide (by omega), by simpa using M1, World.ownsRow_nil _ _ _ _, Below.refl _ _⟩
  case round =>
    obtain ⟨j, hk, hcan, hown, hbel⟩ := hrel
    clear M1
    have hkj := hk.out
    by_cases hM : N / 10 ^ (9 * j) = 0
    · have hM0 := hide hM
      rw [hM] at hcan
      obtain ⟨A2, c2, rfl, l2, r2⟩ := hcan.out
      clear hM hcan l2 r2
      rw [limbs_zero]
      by_cases h0 : j = 0
      · subst h0
        have e0 : N = 0 := by simpa using hM0.out
        obtain ⟨A3, c3, rfl⟩ := own_slice hown.out
        have C1 := hide (fun w => Tryz.slices_Reverse_string_empty A3 c3 w)
        have C2 := hide (fun w => Tryz.strings_Join_none A3 c3 ⟨#[]⟩ w)
        have C3 := hide (fun w => Tryz.strings_TrimLeft_one ⟨#[]⟩ 48 (by decide) w)
        clear hown hM0 hk
        go_wp2_with fail
        refine (C1.out _).mono ?_
        rintro e w' ⟨rfl, rfl⟩
        go_wp2_with fail
        refine (C2.out _).mono ?_
        rintro e w' ⟨rfl, rfl⟩
        go_wp2_with fail
        refine (C3.out _).mono ?_
        rintro e w' ⟨rfl, rfl⟩
        go_wp2
        exact opq_end hR ⟨by rw [e0]; rfl, hbel.out⟩
      · obtain ⟨g, cap, cur, rfl, hB, hnc, hcm, hblk, hcs, htk⟩ := own_some hown.out (by omega)
        have hlen := pcs_length j N
        have Hl : Hid (Sort.Holds encStr wr g 0 (pcs j N).toArray) := by
          intro q hq
          have hq' : q < j := by simpa [hlen] using hq
          refine ⟨?_, hblk.frozen _⟩
          rw [Nat.zero_add, hblk.cell]
          refine take_get htk ?_
          rw [List.getElem?_map, List.getElem?_eq_getElem (by rw [hlen]; exact hq')]
          simp [encStr, vstr, getElem!_pos, hq', hlen]
        have C1 := hide (Tryz.slices_Reverse_string g 0 cap (pcs j N) wr Hl.out (by omega))
        rw [hlen] at C1
        clear hown hk htk hcs
        go_wp2_with fail
        refine C1.out.mono ?_
        rintro e w1 ⟨rfl, nq, e1⟩
        have B1 : Hid (Below w.heap.size w w1) := by rw [e1]; exact below_putRow hbel.out _ _ _ _ _ hB
        have Hl2 : Hid (Sort.Holds encStr w1 g 0 (pcs j N).reverse.toArray) := by
          rw [e1]
          exact Sort.holds_putRow encStr _ g 0 _ _ (Sort.holds_ahead encStr wr nq g 0 _ Hl.out) (by simp)
        have hg1 : g < w1.heap.size := by
          rw [e1, Sort.size_putRow]
          exact hblk.lt
        have C2 : Hid (∀ (hj : j ≤ 2 * n), Calls Tryz.prog 219 #[.slice (some ⟨g, 0, none⟩) j cap, .string ⟨#[]⟩] w1 fun e w' => e = .returned (.string ⟨((pcs j N).reverse.flatten).toArray⟩) ∧ Below w1.heap.size w1 w') := by
          intro hj
          have em : ((pcs j N).reverse.map fun l => (⟨l.toArray⟩ : ByteArray)).map (·.data.toList) = (pcs j N).reverse := by
            rw [List.map_map]
            conv => rhs; rw [← List.map_id (pcs j N).reverse]
            apply List.map_congr_left
            intro x _
            simp
          have ln : ((pcs j N).reverse.map fun l => (⟨l.toArray⟩ : ByteArray)).length = j := by simp [hlen]
          have J := Tryz.strings_Join g 0 cap ((pcs j N).reverse.map fun l => (⟨l.toArray⟩ : ByteArray)) ⟨#[]⟩ w1 (by
            intro q x hq
            have hq' : q < j := by
              have := (List.getElem?_eq_some_iff.1 hq).1
              rw [ln] at this
              exact this
            have := (Hl2.out q (by simpa [hlen] using hq')).1
            rw [this]
            rw [List.getElem?_map, List.getElem?_eq_getElem (by simpa [hlen] using hq')] at hq
            simp at hq
            rw [← hq]
            simp [encStr, getElem!_pos, hq', hlen]) hg1 (by rw [ln]; omega) (by rw [ln]; exact hnc) (by rw [em]; show (Lib.join _ []).length ≤ _; rw [join_flat, pcs_flat_len]; omega)
          rw [em, ln] at J
          have ej : Lib.join (pcs j N).reverse (⟨#[]⟩ : ByteArray).data.toList = (pcs j N).reverse.flatten := join_flat _
          rw [ej] at J
          exact J
        have tr := pcs_trim hM0.out
        generalize (pcs j N).reverse.flatten = F at *
        have C3 : Hid (∀ w, Calls Tryz.prog 200 #[.string ⟨F.toArray⟩, .string ⟨#[48]⟩] w fun e w' => e = .returned (.string ⟨(bts (decs N)).toArray⟩) ∧ w' = w) := by
          intro w
          have := Tryz.strings_TrimLeft_one ⟨F.toArray⟩ 48 (by decide) w
          rw [show Lib.trimLeftB (⟨F.toArray⟩ : ByteArray).data.toList 48 = bts (decs N) from tr] at this
          exact this
        clear C1 Hl Hl2 hM0 hblk hB hbel e1 tr
        go_wp2_with fail
        refine (C2.out (by omega)).mono ?_
        rintro e w2 ⟨rfl, b2⟩
        have B2 := hide (below_tr B1.out b2)
        go_wp2_with fail
        refine (C3.out _).mono ?_
        rintro e w' ⟨rfl, rfl⟩
        by_cases hN : N = 0
        · subst hN
          rw [decs_zero]
          go_wp2
          exact opq_end hR ⟨rfl, B2.out⟩
        · have t1 : (bts (decs N)).isEmpty = false := by
            have : decs N ≠ [] := fun q => hN (decs_eq_nil.1 q)
            cases h : decs N with
            | nil => exact absurd h this
            | cons a b => rfl
          have e2 : Hid (txt N = decs N) := if_neg hN
          go_wp2
          exact opq_end hR ⟨by rw [e2.out]; rfl, B2.out⟩
    · obtain ⟨A2, c2, rfl, l2, r2⟩ := hcan.out
      have hL : 0 < (limbs (N / 10 ^ (9 * j))).length := by
        rcases Nat.eq_zero_or_pos (limbs (N / 10 ^ (9 * j))).length with q | q
        · exact absurd (is_zero_len.1 q) hM
        · exact q
      have hj : j < 2 * n := by
        rcases Nat.lt_or_ge j (2 * n) with q | q
        · exact q
        · exact absurd (pcs_end S1.out q) hM
      have SM : Hid (Sm (N / 10 ^ (9 * j))) := by
        have a : Sm N := Nat.le_trans (limbs_length_le.2 S1.out) (by omega)
        exact a.mono (Nat.div_le_self _ _)
      obtain ⟨A3, c3, rfl⟩ := own_slice hown.out
      have hz := hbel.out.size
      clear l2 r2 hM hk
      go_wp2_with fail
      refine (short_can 1000000000 hcan.out SM.out (by omega) (by omega)).mono ?_
      rintro e w1 ⟨u1, rfl, N1, B1⟩
      rw [div_nine] at N1
      have b2 := hide (below_tr hbel.out B1.out)
      have O1 := hide (own_below hown.out B1.out)
      have ml : N / 10 ^ (9 * j) % 1000000000 < 1000000000 := Nat.mod_lt _ (by omega)
      have CC : Hid (∀ w, Calls Tryz.prog 217 #[.int .u32 (N / 10 ^ (9 * j) % 1000000000 : Nat)] w fun e w' => e = .returned (vstr (bts (dig 9 (N / 10 ^ (9 * j))))) ∧ Below w.heap.size w w') := by
        intro w
        rw [← piece_mod]
        exact nine_ok w _ ml
      generalize N / 10 ^ (9 * j) % 1000000000 = rr at *
      have ep := pcs_succ j N
      generalize bts (dig 9 (N / 10 ^ (9 * j))) = pc at *
      generalize (limbs (N / 10 ^ (9 * j))).length = L at *
      have hown' := hown
      clear hcan SM hown
      go_wp2_with fail
      refine (CC.out _).mono ?_
      rintro e w2 ⟨rfl, B2⟩
      have b3 := hide (below_tr b2.out B2)
      have O2 := hide ((own_below O1.out B2).alloc (.cells #[vstr pc] 9))
      have b4 := hide (b3.out.alloc b3.out.size (.cells #[vstr pc] 9))
      have K0 := Blk.new w2 9 #[vstr pc]
      have hz2 := b3.out.size
      have N2 := hide ((N1.out.below B2).below ((Below.refl _ w2).alloc (Nat.le_refl _) (.cells #[vstr pc] 9)))
      have OB := hide hown'.out.lt
      have hn1 : ∀ (q : Nat) u, [vstr pc][q]? = some u → (w2.alloc (.cells #[vstr pc] 9)).cell? ((⟨w2.heap.size, 0, none⟩ : Addr).add q) = some u := by
        intro q u hq
        rw [add0, K0.cell]
        simpa using hq
      have HN1 := hide hn1
      clear CC B2 O1 K0 hn1
      go_wp2_with (at_builtin; refine wpList_appv (t := 176) (e := 9) (z := .string ⟨#[]⟩) (size := 1) (b := 16) (by kernel_rfl) infoS rfl (by omega) _ rfl _ _ rfl w.heap.size j _ ((pcs j N).map vstr) rfl O2.out ⟨w2.heap.size, 0, none⟩ 1 1 [vstr pc] rfl rfl HN1.out (by intro u hu; simp at hu; subst hu; rfl) (by omega) (by omega) (by simp; omega) ?_; intro v3 w3 q3 q4)
      have b5 := hide (b4.out.grown q4.out (by simp; omega) (fun k e => own_from O2.out e))
      have N3 : Hid (Can w3 u1 (N / 10 ^ (9 * (j + 1)))) := (N2.out.grown q4.out (fun k e => (OB.out k e).2)).can
      go_roundg (gk - 1)
      case measure => omega
      case rel => exact ⟨j + 1, hide (by omega), N3, by rw [ep, List.map_append]; exact q3, b5⟩
end Go.Proofs.YtkefmeddnncacaaGreatDoor

/- nats: Parse. -/
set_option linter.unusedVariables false
set_option linter.unusedSimpArgs false
set_option maxRecDepth 100000
namespace Go.Proofs.YtkefmeddnncacaaGreatDoor
open Go.RowKit

theorem Add_can {w : World} {v v' : Value} {M N : Nat} (h : Can w v M) (h' : Can w v' N) (s : Sm M) (s' : Sm N) :
    Calls Tryz.prog 278 #[v, v'] w fun e w' => ∃ u, e = .returned u ∧ Hid (NatR (M + N) w.heap.size w' u) ∧ Hid (Below w.heap.size w w') := by
  obtain ⟨A, c, rfl, l, r⟩ := h
  obtain ⟨A', c', rfl, l', r'⟩ := h'
  have s0 : (limbs M).length ≤ 17592186044416 := s
  have s1 : (limbs N).length ≤ 17592186044416 := s'
  have := Add_ok w A A' _ _ c c' _ _ r r' (is32_limbs M) (is32_limbs N) (by omega) (by omega) l l'
  rw [nv_limbs, nv_limbs] at this
  exact this
theorem Mul_can {w : World} {v v' : Value} {M N : Nat} (h : Can w v M) (h' : Can w v' N) (s : Sm M) (s' : Sm N) :
    Calls Tryz.prog 290 #[v, v'] w fun e w' => ∃ u, e = .returned u ∧ Hid (NatR (M * N) w.heap.size w' u) ∧ Hid (Below w.heap.size w w') := by
  obtain ⟨A, c, rfl, l, r⟩ := h
  obtain ⟨A', c', rfl, l', r'⟩ := h'
  have := Mul_ok w A A' _ _ c c' _ _ r r' (is32_limbs M) (is32_limbs N) s s' l l'
  rw [nv_limbs, nv_limbs] at this
  exact this
/-- A number of one part that is written out. -/
theorem can_one (w : World) (x : Nat) (h0 : 0 < x) (h : x < 4294967296) : Can (w.alloc (.cells (cellsOf .u32 [x]) T32)) (.slice (some ⟨w.heap.size, 0, none⟩) 1 1) x := by
  have e := limbs_small h0 h
  refine ⟨_, 1, by rw [e]; rfl, by rw [e]; exact Nat.le_refl _, ?_⟩
  rw [e]
  exact (Blk.new w T32 (cellsOf .u32 [x])).rd 1 (Nat.le_refl _) (by omega)
def byt (s : ByteArray) : List Nat := s.data.toList.map UInt8.toNat
theorem byt_length (s : ByteArray) : (byt s).length = s.size := by rw [byt, List.length_map]; exact Array.length_toList
def digits : ByteArray := ⟨#[48, 49, 50, 51, 52, 53, 54, 55, 56, 57]⟩
theorem trim_digits (s : ByteArray) : Lib.trimS s.data.toList digits.data.toList = [] ↔ ∀ x ∈ byt s, isDig x = true := by
  have hd0 : ∀ k : Fin 256, digits.data.toList.contains (UInt8.ofNat k.val) = isDig (UInt8.ofNat k.val).toNat := by decide
  have hd : ∀ b : UInt8, digits.data.toList.contains b = isDig b.toNat := fun b => by
    have := hd0 ⟨b.toNat, b.toNat_lt⟩
    simpa using this
  have hm : (∀ x ∈ byt s, isDig x = true) ↔ ∀ b ∈ s.data.toList, digits.data.toList.contains b = true := by
    constructor
    · intro h b hb
      rw [hd]
      exact h _ (List.mem_map_of_mem hb)
    · intro h x hx
      obtain ⟨b, hb, rfl⟩ := List.mem_map.1 hx
      rw [← hd]
      exact h b hb
  rw [hm]
  have dw : ∀ (l : List UInt8) (p : UInt8 → Bool), l.dropWhile p = [] ↔ ∀ b ∈ l, p b = true := by
    intro l p
    induction l with
    | nil => simp
    | cons a l ih =>
      rw [List.dropWhile_cons]
      by_cases h : p a = true
      · rw [if_pos h, ih]; simp [h]
      · rw [if_neg h]; simp [h]
  generalize s.data.toList = l
  unfold Lib.trimS
  simp only [Lib.trimLeftS, Lib.trimRightS]
  constructor
  · intro h b hb
    rw [dw] at h
    by_cases hq : ∀ c ∈ l, digits.data.toList.contains c = true
    · exact hq b hb
    · exfalso
      apply hq
      have h2 : (l.reverse.dropWhile (digits.data.toList.contains ·)) = [] := by
        cases hr : l.reverse.dropWhile (digits.data.toList.contains ·) with
        | nil => rfl
        | cons x r =>
          have hx := List.head_dropWhile_not (p := (digits.data.toList.contains ·)) (l := l.reverse) (by rw [hr]; simp)
          simp only [hr, List.head_cons] at hx
          have := h x (by rw [hr]; simp)
          rw [this] at hx
          cases hx
      rw [dw] at h2
      intro c hc
      exact h2 c (List.mem_reverse.2 hc)
  · intro h
    have : l.reverse.dropWhile (digits.data.toList.contains ·) = [] := by
      rw [dw]
      intro b hb
      exact h b (List.mem_reverse.1 hb)
    rw [this]
    rfl
end Go.Proofs.YtkefmeddnncacaaGreatDoor

/- nats: Parse. -/
set_option linter.unusedVariables false
set_option linter.unusedSimpArgs false
set_option maxRecDepth 100000
namespace Go.Proofs.YtkefmeddnncacaaGreatDoor
open Go.RowKit Go.WideShapes

theorem empty_size (s : ByteArray) : s.toList.isEmpty = decide (s.size = 0) := by
  rw [← decide_eq_emptyBytes s, decide_eq_decide]
  constructor
  · intro h; rw [h]; rfl
  · intro h
    refine bytes_inj ?_
    have hd : s.data.toList = [] := List.eq_nil_of_length_eq_zero (by rw [Array.length_toList]; exact h)
    rw [hd]
    rfl
theorem byt_head (s : ByteArray) (h : 0 < s.size) : (byt s).head? = some (s[0]'h).toNat := by
  have e : s.data.toList.head? = some (s[0]'h) := by
    rw [List.head?_eq_getElem?, Array.getElem?_toList, Array.getElem?_eq_getElem h]
    rfl
  rw [byt, List.head?_map, e]
  rfl
theorem isNum_empty {s : ByteArray} (h : s.size = 0) : isNum (byt s) = false := by
  have : byt s = [] := List.eq_nil_of_length_eq_zero (by rw [byt_length]; exact h)
  rw [this]; rfl
theorem isNum_odd {s : ByteArray} (h : ¬ ∀ x ∈ byt s, isDig x = true) : isNum (byt s) = false := by
  have : (byt s).all isDig = false := by rw [Bool.eq_false_iff]; intro q; exact h (List.all_eq_true.1 q)
  simp [isNum, this]
theorem isNum_zero {s : ByteArray} (h : 1 < s.size) (h0 : (s[0]'(by omega)).toNat = 48) : isNum (byt s) = false := by
  have a := byt_head s (by omega)
  have b := byt_length s
  simp [isNum, a, b, h0, h]
theorem isNum_yes {s : ByteArray} (h0 : 0 < s.size) (hd : ∀ x ∈ byt s, isDig x = true) (h : s.size = 1 ∨ (s[0]'h0).toNat ≠ 48) : isNum (byt s) = true := by
  have a := byt_head s h0
  have b := byt_length s
  have c : (byt s).all isDig = true := List.all_eq_true.2 hd
  have d : (byt s).isEmpty = false := by
    cases hb : byt s with
    | nil => rw [hb] at b; simp at b; omega
    | cons x l => rfl
  rw [isNum, c, d, a, b]
  rcases h with h | h
  · simp [h]
  · simp [h]

theorem sm_pow {N k : Nat} (h : N < 10 ^ k) (hk : k ≤ 1000) : Sm N := by
  refine Nat.le_trans (limbs_length_le.2 (Nat.lt_of_lt_of_le h (Nat.pow_le_pow_left (by omega) k)) : _ ≤ k) (by omega)
theorem num_take_lt {l : List Nat} (h : ∀ x ∈ l, isDig x = true) (i : Nat) (hl : l.length ≤ 200) : num (l.take i) < 10 ^ 200 := by
  refine Nat.lt_of_lt_of_le (num_lt _ (fun x hx => ?_)) (Nat.pow_le_pow_right (by omega) (by rw [List.length_take]; omega))
  have := h x (List.mem_of_mem_take hx)
  simp [isDig] at this
  omega
theorem num_step {l : List Nat} {i : Nat} (h : i < l.length) : num (l.take (i + 1)) = num (l.take i) * 10 + (l.getD i 0 - 48) := by
  rw [List.take_succ_eq_append_getElem h, num_snoc, getD_lt h]
theorem dig_at {l : List Nat} (h : ∀ x ∈ l, isDig x = true) {i : Nat} (hi : i < l.length) : 48 ≤ l.getD i 0 ∧ l.getD i 0 < 58 := by
  have := h _ (List.getElem_mem hi)
  rw [getD_lt hi]
  simpa [isDig] using this

set_option maxHeartbeats 2000000 in
theorem Parse_ok (w : World) (s : ByteArray) (hs : s.size ≤ 9223372036854775807) :
    Calls Tryz.prog 201 #[.string s] w fun e w' =>
      (if isNum (byt s) = true then if s.size ≤ 200 then ∃ v, e = .returned (.tuple #[v, .int .i64 0]) ∧ NatR (num (byt s)) w.heap.size w' v else e = .returned (.tuple #[.slice none 0 0, .int .i64 3])
        else e = .returned (.tuple #[.slice none 0 0, .int .i64 4])) ∧ Below w.heap.size w w' := by
  refine opq fun R hR => ?_
  have T := hide (Tryz.strings_Trim_laid s digits w hs (by decide) (ascii_of_all (by decide)))
  have hd := trim_digits s
  generalize Lib.trimS s.data.toList digits.data.toList = tr at *
  unfold digits at T
  have es := empty_size s
  go_enter Tryz.func201, Tryz.ntmps201
  by_cases h0 : s.size = 0
  · have t1 : s.toList.isEmpty = true := by rw [es]; simpa using h0
    have hn := hide (isNum_empty h0)
    clear es T hd
    go_wp2
    exact opq_end hR ⟨by rw [if_neg (by rw [hn.out]; decide)]; rfl, Below.refl _ _⟩
  have t1 : s.toList.isEmpty = false := by rw [es]; simpa using h0
  clear es
  by_cases htr : tr = []
  case neg =>
    have hn := hide (isNum_odd (s := s) (fun q => htr (hd.2 q)))
    clear hd
    rcases tr with _ | ⟨a, tr⟩
    · exact absurd rfl htr
    clear htr
    go_wp2_with fail
    refine T.out.mono ?_
    rintro e w1 ⟨rfl, b1⟩
    have B1 := hide b1
    clear b1 T
    go_wp2
    exact opq_end hR ⟨by rw [if_neg (by rw [hn.out]; decide)]; rfl, B1.out⟩
  have hdig := hide (hd.1 htr)
  subst htr
  clear hd
  have hp : 0 < s.size := by omega
  go_wp2_with fail
  refine T.out.mono ?_
  rintro e w1 ⟨rfl, b1⟩
  have B1 := hide b1
  clear b1 T
  by_cases hz : 1 < s.size ∧ (s[0]'hp).toNat = 48
  · have hn := hide (isNum_zero hz.1 hz.2)
    have h1 := hz.1
    have h2 : (((s[0]'hp).toNat : Int) == 48) = true := by rw [hz.2]; rfl
    go_wp2
    exact opq_end hR ⟨by rw [if_neg (by rw [hn.out]; decide)]; rfl, B1.out⟩
  have hn := hide (isNum_yes hp hdig.out (by by_cases q : s.size = 1; exact .inl q; exact .inr fun q2 => hz ⟨by omega, q2⟩))
  have hx : ¬ 1 < s.size ∨ (1 < s.size ∧ (((s[0]'hp).toNat : Int) == 48) = false) := by
    by_cases q : 1 < s.size
    · refine .inr ⟨q, ?_⟩
      have : (s[0]'hp).toNat ≠ 48 := fun q2 => hz ⟨q, q2⟩
      simp
      omega
    · exact .inl q
  clear hz
  have hsz := B1.out.size
  have C1 := run_bytes_of_string (P := Tryz.prog) w1 9 157 5 s (by kernel_rfl) (by kernel_rfl) (by kernel_rfl)
  have C2 : Hid (∀ i, i < s.size → (w1.drew.alloc (.cells (bytesRow s (grownCap w1 s.size 0 5)) 5 ((bytesRow s (grownCap w1 s.size 0 5)).size, (bytesRow s (grownCap w1 s.size 0 5)).size + 1))).cell? ⟨w1.heap.size, i, none⟩ = some (.int .u8 ((byt s).getD i 0 : Nat))) := by
    intro i hi
    have := World.cell?_alloc_mark w1.drew (bytesRow s (grownCap w1 s.size 0 5)) 5 ((bytesRow s (grownCap w1 s.size 0 5)).size, (bytesRow s (grownCap w1 s.size 0 5)).size + 1) i
    rw [show w1.drew.heap.size = w1.heap.size from rfl] at this
    rw [this, bytesRow_at s _ i hi, getD_lt (by rw [byt_length]; exact hi)]
    simp [byt]
  have B2 := hide (B1.out.drew.alloc B1.out.size (.cells (bytesRow s (grownCap w1 s.size 0 5)) 5 ((bytesRow s (grownCap w1 s.size 0 5)).size, (bytesRow s (grownCap w1 s.size 0 5)).size + 1)))
  have L2 : Hid (w1.heap.size < (w1.drew.alloc (.cells (bytesRow s (grownCap w1 s.size 0 5)) 5 ((bytesRow s (grownCap w1 s.size 0 5)).size, (bytesRow s (grownCap w1 s.size 0 5)).size + 1))).heap.size) := by
    show _ < _
    simp [World.alloc]
  generalize (w1.drew.alloc (.cells (bytesRow s (grownCap w1 s.size 0 5)) 5 ((bytesRow s (grownCap w1 s.size 0 5)).size, (bytesRow s (grownCap w1 s.size 0 5)).size + 1))) = w2 at *
  generalize grownCap w1 s.size 0 5 = cap at *
  by_cases h200 : s.size ≤ 200
  case neg =>
    rcases hx with hx | ⟨hx, h48⟩
    · omega
    · go_wp2
      exact opq_end hR ⟨by rw [if_pos hn.out, if_neg h200]; rfl, B1.out⟩
  have hl : (byt s).length ≤ 200 := by rw [byt_length]; exact h200
  have hl2 := byt_length s
  have HN := hide (fun i => num_take_lt hdig.out i hl)
  have HS := hide (fun i (hi : i < (byt s).length) => num_step hi)
  have HD := hide (fun i (hi : i < (byt s).length) => dig_at hdig.out hi)
  have HE : Hid (num ((byt s).take s.size) = num (byt s)) := by
    show _ = _
    rw [List.take_of_length_le (by rw [hl2]; exact Nat.le_refl _)]
  rw [← HE.out] at hR
  clear hdig HE
  generalize byt s = l at *
  rcases hx with hx | ⟨hx, h48⟩
  all_goals
    go_wp2
    clear C1
    go_loopw [2, 29] (fun av iv wr => ∃ i, i ≤ s.size ∧ iv = .int .i64 (i : Nat) ∧ Hid (NatR (num (l.take i)) w.heap.size wr av) ∧ Hid (Below w.heap.size w wr) ∧ Hid (Below w2.heap.size w2 wr)) (fun _ iv _ => s.size - (intOf iv).toNat)
    case atStart => exact ⟨0, by omega, rfl, NatR.zero _ _, B2, Below.refl _ _⟩
    case round =>
      obtain ⟨i, hi, rfl, hnat, hbel, hb2⟩ := hrel
      by_cases hlt : i < s.size
      · have hc := C2.out i hlt
        have hcell := cell_below hb2.out hc
        have hd := HD.out i (by rw [hl2]; exact hlt)
        have hs1 := hide (HS.out i (by rw [hl2]; exact hlt))
        have hnn := hide (HN.out i)
        clear hc
        generalize l.getD i 0 = x at *
        generalize hN : num (l.take i) = N at *
        have hz := hbel.out.size
        have hz2 := hb2.out.size
        have T1 := can_one wr 10 (by omega) (by omega)
        have T2 := hide T1
        have b1 := hide ((Below.refl wr.heap.size wr).alloc (Nat.le_refl _) (.cells (cellsOf .u32 [10]) T32))
        have sm1 := hide (sm_pow hnn.out (by omega))
        have sm2 : Hid (Sm 10) := by
          refine Nat.le_trans (limbs_length_le.2 (?_ : 10 < 4294967296 ^ 1)) (by omega)
          omega
        clear T1 hN
        go_wp2_with fail
        refine (Mul_can (hnat.out.can.below b1.out) T2.out sm1.out sm2.out).mono ?_
        rintro e w4 ⟨u1, rfl, N1, b2⟩
        have b3 := hide (b1.out.trans (b2.out.mono b1.out.size))
        have CO : Hid (∀ w, Calls Tryz.prog 176 #[.int .u64 ((x : Int) - 48)] w fun e w' => ∃ v, e = .returned v ∧ Hid (NatR (x - 48) w.heap.size w' v) ∧ Hid (Below w.heap.size w w')) := by
          intro w
          have := Of_ok w (x - 48) (by omega)
          rw [show ((x - 48 : Nat) : Int) = (x : Int) - 48 from by omega] at this
          exact this
        go_wp2_with fail
        refine (CO.out w4).mono ?_
        rintro e w5 ⟨u3, rfl, N2, b4⟩
        have sm3 : Hid (Sm (N * 10)) := by
          refine sm_pow (k := 201) ?_ (by omega)
          have := hnn.out
          rw [Nat.pow_succ]
          exact Nat.mul_lt_mul_of_pos_right this (by omega)
        have sm4 : Hid (Sm (x - 48)) := by
          refine Nat.le_trans (limbs_length_le.2 (?_ : x - 48 < 4294967296 ^ 1)) (by omega)
          omega
        clear CO
        go_wp2_with fail
        refine (Add_can (N1.out.can.below b4.out) N2.out.can sm3.out sm4.out).mono ?_
        rintro e w6 ⟨u4, rfl, N3, b5⟩
        have b6 := hide (below_tr (below_tr b3.out b4.out) b5.out)
        have b7 := hide (below_tr hbel.out b6.out)
        have b8 := hide (below_tr hb2.out b6.out)
        have hz3 := (below_tr hbel.out (below_tr b3.out b4.out)).size
        go_wp2
        go_roundw
        case rel => exact ⟨i + 1, by omega, by go_num, by rw [hs1.out]; exact N3.out.mono hz3, b7, b8⟩
        case measure => simp [intOf]; omega
      · obtain rfl : i = s.size := by omega
        go_wp2
        exact opq_end hR ⟨by rw [if_pos hn.out, if_pos h200]; exact ⟨_, rfl, hnat.out⟩, hbel.out⟩
end Go.Proofs.YtkefmeddnncacaaGreatDoor

/- law helpers: SameNat. -/
set_option linter.unusedVariables false
set_option linter.unusedSimpArgs false
set_option maxRecDepth 100000
namespace Go.Proofs.YtkefmeddnncacaaGreatDoor
open Go.RowKit

theorem bel_drewN {B : Nat} {w W : World} (h : Below B w W) (n : Nat) : Below B w (W.drewN n) := ⟨h.os, h.tape, h.output, h.size, h.block⟩
theorem same_step {xs ys : List Nat} {i : Nat} (h : xs.take i = ys.take i) (hx : i < xs.length) (hy : i < ys.length) (e : xs.getD i 0 = ys.getD i 0) : xs.take (i + 1) = ys.take (i + 1) := by
  rw [getD_lt hx, getD_lt hy] at e
  rw [List.take_succ_eq_append_getElem hx, List.take_succ_eq_append_getElem hy, h, e]
theorem same_no {xs ys : List Nat} {i : Nat} (e : xs.getD i 0 ≠ ys.getD i 0) : xs ≠ ys := fun h => e (by rw [h])

theorem SameNat_ok (w : World) (A A' : Option Addr) (n n' c c' : Nat) (xs ys : List Nat) (h : Rd w A n xs) (h' : Rd w A' n' ys) :
    Calls Tryz.prog 96 #[.slice A n c, .slice A' n' c'] w fun e w' => e = .returned (.bool (decide (xs = ys))) ∧ Below w.heap.size w w' := by
  refine opq fun R hR => ?_
  have r1 := hide h
  have r2 := hide h'
  have hm := h.2.1
  clear h h'
  go_enter Tryz.func96, Tryz.ntmps96
  by_cases hn : n = n'
  · subst hn
    go_wp2
    go_loopw [5] (fun iv wr => ∃ i : Nat, i ≤ n ∧ iv = .int .i64 (i : Nat) ∧ Hid (xs.take i = ys.take i) ∧ Hid (Below w.heap.size w wr)) (fun iv _ => n - (intOf iv).toNat)
    case atStart => exact ⟨0, by omega, rfl, rfl, Below.refl _ _⟩
    case round =>
      obtain ⟨i, hi, rfl, hs, hbel⟩ := hrel
      by_cases hlt : i < n
      · obtain ⟨ad, rfl, hb, hc⟩ := (r1.out.below hbel.out).2.2 (by omega)
        obtain ⟨ad', rfl, hb', hc'⟩ := (r2.out.below hbel.out).2.2 (by omega)
        have hx := hc i hlt
        have hy := hc' i hlt
        have S1 := hide (fun e => same_step hs.out (by rw [r1.out.1]; exact hlt) (by rw [r2.out.1]; exact hlt) e)
        have S2 := hide (fun e => same_no (xs := xs) (ys := ys) (i := i) e)
        generalize xs.getD i 0 = x at *
        generalize ys.getD i 0 = y at *
        clear hc hc'
        by_cases e : x = y
        · have S3 := hide (S1.out e)
          subst e
          go_wp2
          go_quiet (fail)
          have B1 := hide (bel_drewN hbel.out nq)
          go_wp2
          go_roundw
          case rel => exact ⟨i + 1, by omega, by go_num, S3, B1⟩
          case measure => simp [intOf]; omega
        · have t : ((x : Int) == (y : Int)) = false := by simp; omega
          go_wp2
          go_quiet (fail)
          have B1 := hide (bel_drewN hbel.out nq)
          go_wp2
          exact opq_end hR ⟨ret_bool (by simpa using S2.out e), B1.out⟩
      · obtain rfl : i = n := by omega
        have e : Hid (xs = ys) := by
          have := hs.out
          rwa [List.take_of_length_le (by rw [r1.out.1]; exact Nat.le_refl _), List.take_of_length_le (by rw [r2.out.1]; exact Nat.le_refl _)] at this
        go_wp2
        exact opq_end hR ⟨ret_bool (by simpa using e.out), hbel.out⟩
  · have t : ((n : Int) == (n' : Int)) = false := by simp; omega
    have e : Hid (xs ≠ ys) := fun q => hn (by rw [← r1.out.1, ← r2.out.1, q])
    go_wp2
    exact opq_end hR ⟨ret_bool (by simpa using e.out), Below.refl _ _⟩
end Go.Proofs.YtkefmeddnncacaaGreatDoor

/- nats: contracts at arguments of whatever kind, and what they answer. -/
set_option linter.unusedVariables false
set_option linter.unusedSimpArgs false
set_option maxRecDepth 100000
namespace Go.Proofs.YtkefmeddnncacaaGreatDoor
open Go.RowKit

/-- A list of parts of whatever kind, not too long, that counts as N. -/
def Arg (w : World) (v : Value) (N : Nat) : Prop := ∃ A n c xs, v = .slice A n c ∧ n ≤ c ∧ n ≤ 4398046511104 ∧ Rd w A n xs ∧ Is32 xs ∧ nv xs = N
theorem Can.arg {w : World} {v : Value} {N : Nat} (h : Can w v N) (hl : L N ≤ 4398046511104) : Arg w v N := by
  obtain ⟨A, c, rfl, l, r⟩ := h
  exact ⟨A, _, c, _, rfl, l, hl, r, is32_limbs N, nv_limbs N⟩
theorem Arg.below {w w' : World} {v : Value} {N : Nat} (h : Arg w v N) (hb : Below w.heap.size w w') : Arg w' v N := by
  obtain ⟨A, n, c, xs, e, h1, h2, h3, h4, h5⟩ := h
  exact ⟨A, n, c, xs, e, h1, h2, h3.below hb, h4, h5⟩
theorem can_nil (w : World) : Can w (.slice none 0 0) 0 := (NatR.zero 0 w).can

theorem Add_arg {w : World} {v v' : Value} {M N : Nat} (h : Arg w v M) (h' : Arg w v' N) :
    Calls Tryz.prog 278 #[v, v'] w fun e w' => ∃ u, e = .returned u ∧ Hid (NatR (M + N) w.heap.size w' u) ∧ Hid (Below w.heap.size w w') := by
  obtain ⟨A, n, c, xs, rfl, h1, h2, h3, h4, rfl⟩ := h
  obtain ⟨A', n', c', xs', rfl, h1', h2', h3', h4', rfl⟩ := h'
  exact Add_ok w A A' n n' c c' xs xs' h3 h3' h4 h4' (by omega) (by omega) h1 h1'
theorem Cmp_arg {w : World} {v v' : Value} {M N : Nat} (h : Arg w v M) (h' : Arg w v' N) :
    Calls Tryz.prog 174 #[v, v'] w fun e w' => e = .returned (.int .i64 (cmpN M N)) ∧ Hid (Below w.heap.size w w') := by
  obtain ⟨A, n, c, xs, rfl, h1, h2, h3, h4, rfl⟩ := h
  obtain ⟨A', n', c', xs', rfl, h1', h2', h3', h4', rfl⟩ := h'
  exact Cmp_ok w A A' n n' c c' xs xs' h3 h3' h4 h4' (by omega) (by omega) h1 h1'
theorem Gcd_arg {w : World} {v v' : Value} {M N : Nat} (h : Arg w v M) (h' : Arg w v' N) (hT : Tab w) :
    Calls Tryz.prog 91 #[v, v'] w fun e w' => ∃ u, e = .returned u ∧ Hid (NatR (Nat.gcd M N) w.heap.size w' u) ∧ Hid (Below w.heap.size w w') := by
  obtain ⟨A, n, c, xs, rfl, h1, h2, h3, h4, rfl⟩ := h
  obtain ⟨A', n', c', xs', rfl, h1', h2', h3', h4', rfl⟩ := h'
  exact Gcd_ok w A A' n n' c c' xs xs' h3 h3' h4 h4' (by omega) (by omega) h1 h1' hT
theorem Text_can {w : World} {v : Value} {M : Nat} (h : Can w v M) (hl : L M ≤ 1000000) :
    Calls Tryz.prog 100 #[v] w fun e w' => e = .returned (vstr (bts (txt M))) ∧ Hid (Below w.heap.size w w') := by
  obtain ⟨A, c, rfl, l, r⟩ := h
  have := Text_ok w A _ c _ r (is32_limbs M) hl l
  rw [nv_limbs] at this
  exact this
theorem Same_can {w : World} {v v' : Value} {M N : Nat} (h : Can w v M) (h' : Can w v' N) :
    Calls Tryz.prog 96 #[v, v'] w fun e w' => e = .returned (.bool (decide (M = N))) ∧ Hid (Below w.heap.size w w') := by
  obtain ⟨A, c, rfl, l, r⟩ := h
  obtain ⟨A', c', rfl, l', r'⟩ := h'
  refine (SameNat_ok w A A' _ _ c c' _ _ r r').mono ?_
  rintro e w' ⟨rfl, h2⟩
  refine ⟨?_, h2⟩
  congr 2
  rw [decide_eq_decide]
  exact ⟨limbs_inj, fun e => by rw [e]⟩
theorem Sub_can {w : World} {v v' : Value} {M N : Nat} (h : Can w v M) (h' : Can w v' N) (s : L M ≤ 4398046511104) (s' : L N ≤ 4398046511104) :
    Calls Tryz.prog 279 #[v, v'] w fun e w' => (if N ≤ M then ∃ u, e = .returned (.tuple #[u, .int .i64 0]) ∧ NatR (M - N) w.heap.size w' u else e = .returned (.tuple #[.slice none 0 0, .int .i64 1])) ∧ Hid (Below w.heap.size w w') := by
  obtain ⟨A, c, rfl, l, r⟩ := h
  obtain ⟨A', c', rfl, l', r'⟩ := h'
  unfold L at s s'
  have := Sub_ok w A A' _ _ c c' _ _ r r' (is32_limbs M) (is32_limbs N) (by omega) (by omega) l l'
  rw [val_limbs, val_limbs, chk_limbs, chk_limbs] at this
  refine this.mono ?_
  rintro e w' ⟨h1, h2⟩
  refine ⟨?_, h2⟩
  by_cases q : N ≤ M
  · rw [if_pos ⟨rfl, rfl, q⟩] at h1
    rw [if_pos q]
    exact h1
  · rw [if_neg (fun z => q z.2.2)] at h1
    rw [if_neg q]
    exact h1
theorem Div_can {w : World} {v v' : Value} {M N : Nat} (h : Can w v M) (h' : Can w v' N) (s : L M ≤ 4398046511104) (s' : L N ≤ 4398046511104) :
    Calls Tryz.prog 70 #[v, v'] w fun e w' => (if N = 0 then e = .returned (.tuple #[.slice none 0 0, .slice none 0 0, .int .i64 10])
      else ∃ q t, e = .returned (.tuple #[q, t, .int .i64 0]) ∧ NatR (M / N) w.heap.size w' q ∧ NatR (M % N) w.heap.size w' t ∧ Sep q t) ∧ Hid (Below w.heap.size w w') := by
  obtain ⟨A, c, rfl, l, r⟩ := h
  obtain ⟨A', c', rfl, l', r'⟩ := h'
  unfold L at s s'
  have := Div_ok w A A' _ _ c c' _ _ r r' (is32_limbs M) (is32_limbs N) (by omega) (by omega) l l'
  rw [val_limbs, val_limbs, chk_limbs, chk_limbs] at this
  refine this.mono ?_
  rintro e w' ⟨h1, h2⟩
  refine ⟨?_, h2⟩
  rw [if_pos ⟨rfl, rfl⟩] at h1
  by_cases q : N = 0
  · rw [if_pos (limbs_eq_nil.2 q)] at h1
    rw [if_pos q]
    exact h1
  · rw [if_neg (fun z => q (limbs_eq_nil.1 z))] at h1
    rw [if_neg q]
    exact h1
/-- Parts that are written out. -/
theorem can_lit (w : World) (xs : List Nat) (h : Is32 xs) (hc : chk xs = true) (hl : xs.length ≤ 1000) : Can (w.alloc (.cells (cellsOf .u32 xs) T32)) (.slice (some ⟨w.heap.size, 0, none⟩) xs.length xs.length) (val xs) := by
  have e := limbs_val_chk h hc
  refine ⟨_, xs.length, by rw [e], by rw [e]; exact Nat.le_refl _, ?_⟩
  rw [e]
  have := (Blk.new w T32 (cellsOf .u32 xs)).rd xs.length (Nat.le_refl _) (by omega)
  rwa [List.take_length] at this
theorem lit (w : World) (xs : List Nat) (N : Nat) (hN : val xs = N) (h : Is32 xs) (hc : chk xs = true) (hl : xs.length ≤ 1000) : Can (w.alloc (.cells (cellsOf .u32 xs) T32)) (.slice (some ⟨w.heap.size, 0, none⟩) xs.length xs.length) N := hN ▸ can_lit w xs h hc hl
theorem Sub_ge {w : World} {v v' : Value} {M N : Nat} (h : Can w v M) (h' : Can w v' N) (s : L M ≤ 4398046511104) (s' : L N ≤ 4398046511104) (hl : N ≤ M) :
    Calls Tryz.prog 279 #[v, v'] w fun e w' => ∃ u, e = .returned (.tuple #[u, .int .i64 0]) ∧ Hid (NatR (M - N) w.heap.size w' u) ∧ Hid (Below w.heap.size w w') :=
  (Sub_can h h' s s').mono fun e w' ⟨h1, h2⟩ => by
    rw [if_pos hl] at h1
    obtain ⟨u, e1, h3⟩ := h1
    exact ⟨u, e1, h3, h2⟩
theorem Div_pos {w : World} {v v' : Value} {M N : Nat} (h : Can w v M) (h' : Can w v' N) (s : L M ≤ 4398046511104) (s' : L N ≤ 4398046511104) (hl : N ≠ 0) :
    Calls Tryz.prog 70 #[v, v'] w fun e w' => ∃ q t, e = .returned (.tuple #[q, t, .int .i64 0]) ∧ Hid (NatR (M / N) w.heap.size w' q) ∧ Hid (NatR (M % N) w.heap.size w' t) ∧ Sep q t ∧ Hid (Below w.heap.size w w') :=
  (Div_can h h' s s').mono fun e w' ⟨h1, h2⟩ => by
    rw [if_neg hl] at h1
    obtain ⟨q, t, e1, h3, h4, h5⟩ := h1
    exact ⟨q, t, e1, h3, h4, h5, h2⟩
/-- Parts of whatever kind, not too many. -/
def Prt (w : World) (v : Value) (xs : List Nat) : Prop := ∃ A n c, v = .slice A n c ∧ n ≤ c ∧ n ≤ 4398046511104 ∧ Rd w A n xs ∧ Is32 xs
theorem Prt.below {w w' : World} {v : Value} {xs : List Nat} (h : Prt w v xs) (hb : Below w.heap.size w w') : Prt w' v xs := by
  obtain ⟨A, n, c, e, h1, h2, h3, h4⟩ := h
  exact ⟨A, n, c, e, h1, h2, h3.below hb, h4⟩
theorem Prt.arg {w : World} {v : Value} {xs : List Nat} (h : Prt w v xs) : Arg w v (nv xs) := by
  obtain ⟨A, n, c, e, h1, h2, h3, h4⟩ := h
  exact ⟨A, n, c, xs, e, h1, h2, h3, h4, rfl⟩
theorem Prt.can {w : World} {v : Value} {xs : List Nat} (h : Prt w v xs) (hc : chk xs = true) : Can w v (val xs) := by
  obtain ⟨A, n, c, rfl, h1, h2, h3, h4⟩ := h
  exact can_of h3 h4 hc h1
theorem Prt.is32 {w : World} {v : Value} {xs : List Nat} (h : Prt w v xs) : Is32 xs := by
  obtain ⟨A, n, c, e, h1, h2, h3, h4⟩ := h
  exact h4
theorem Prt.len {w : World} {v : Value} {xs : List Nat} (h : Prt w v xs) : xs.length ≤ 4398046511104 := by
  obtain ⟨A, n, c, e, h1, h2, h3, h4⟩ := h
  rw [h3.1]; exact h2
theorem Can.prt {w : World} {v : Value} {N : Nat} (h : Can w v N) (hl : L N ≤ 4398046511104) : Prt w v (limbs N) := by
  obtain ⟨A, c, rfl, l, r⟩ := h
  exact ⟨A, _, c, rfl, l, hl, r, is32_limbs N⟩
theorem Check_prt {w : World} {v : Value} {xs : List Nat} (h : Prt w v xs) :
    Calls Tryz.prog 89 #[v] w fun e w' => e = .returned (.bool (chk xs)) ∧ w = w' := by
  obtain ⟨A, n, c, rfl, h1, h2, h3, h4⟩ := h
  exact Check_ok w A n c xs h3
end Go.Proofs.YtkefmeddnncacaaGreatDoor

/- nats: what literals and texts come to. -/
set_option linter.unusedVariables false
set_option linter.unusedSimpArgs false
set_option maxRecDepth 100000
namespace Go.Proofs.YtkefmeddnncacaaGreatDoor
open Go.RowKit

theorem is32d {xs : List Nat} (h : xs.all (fun x => decide (x < 4294967296)) = true) : Is32 xs := by
  intro x hx
  have := List.all_eq_true.1 h x hx
  simpa using this
theorem Parse_yes (w : World) (s : ByteArray) (h : isNum (byt s) = true) (hs : s.size ≤ 200) :
    Calls Tryz.prog 201 #[.string s] w fun e w' => ∃ v, e = .returned (.tuple #[v, .int .i64 0]) ∧ Hid (NatR (num (byt s)) w.heap.size w' v) ∧ Hid (Below w.heap.size w w') :=
  (Parse_ok w s (by omega)).mono fun e w' ⟨h1, h2⟩ => by
    rw [if_pos h, if_pos hs] at h1
    obtain ⟨v, e1, h3⟩ := h1
    exact ⟨v, e1, h3, h2⟩
/-- 2 to the power of 64, as it is written. -/
def two64 : ByteArray := ⟨#[49, 56, 52, 52, 54, 55, 52, 52, 48, 55, 51, 55, 48, 57, 53, 53, 49, 54, 49, 54]⟩
end Go.Proofs.YtkefmeddnncacaaGreatDoor
