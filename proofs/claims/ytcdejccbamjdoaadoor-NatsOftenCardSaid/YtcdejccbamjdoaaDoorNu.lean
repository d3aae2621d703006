/- nats: Parse. -/
import Derived.Test.YtcdejccbamjdoaaDoorNt
import Derived.Laws.IdiomStrings
import Derived.Laws.Closers25
import Derived.WideShapes
set_option linter.unusedVariables false
set_option linter.unusedSimpArgs false
set_option maxRecDepth 100000
namespace Go.Proofs.YtcdejccbamjdoaaDoor
open Go.RowKit Go.WideShapes

theorem empty_size (s : ByteArray) : s.toList.isEmpty = decide (s.size = 0) := by
  rw [← decide_eq_emptyBytes s, decide_eq_decide]
  constructor
  · intro h; rw [h]; rfl
  · intro h
    refine bytes_inj ?_
    have hd : s.data.toList = [] := List.eq_nil_of_length_eq_zero (by rw [Array.length_toList]; exact h)
    rw [hd]
    rfl
theorem byt_head (s : ByteArray) (h : 0 < s.size) : (byt s).head? = some (s[0]'h).toNat := by
  have e : s.data.toList.head? = some (s[0]'h) := by
    rw [List.head?_eq_getElem?, Array.getElem?_toList, Array.getElem?_eq_getElem h]
    rfl
  rw [byt, List.head?_map, e]
  rfl
theorem isNum_empty {s : ByteArray} (h : s.size = 0) : isNum (byt s) = false := by
  have : byt s = [] := List.eq_nil_of_length_eq_zero (by rw [byt_length]; exact h)
  rw [this]; rfl
theorem isNum_odd {s : ByteArray} (h : ¬ ∀ x ∈ byt s, isDig x = true) : isNum (byt s) = false := by
  have : (byt s).all isDig = false := by rw [Bool.eq_false_iff]; intro q; exact h (List.all_eq_true.1 q)
  simp [isNum, this]
theorem isNum_zero {s : ByteArray} (h : 1 < s.size) (h0 : (s[0]'(by omega)).toNat = 48) : isNum (byt s) = false := by
  have a := byt_head s (by omega)
  have b := byt_length s
  simp [isNum, a, b, h0, h]
theorem isNum_yes {s : ByteArray} (h0 : 0 < s.size) (hd : ∀ x ∈ byt s, isDig x = true) (h : s.size = 1 ∨ (s[0]'h0).toNat ≠ 48) : isNum (byt s) = true := by
  have a := byt_head s h0
  have b := byt_length s
  have c : (byt s).all isDig = true := List.all_eq_true.2 hd
  have d : (byt s).isEmpty = false := by
    cases hb : byt s with
    | nil => rw [hb] at b; simp at b; omega
    | cons x l => rfl
  rw [isNum, c, d, a, b]
  rcases h with h | h
  · simp [h]
  · simp [h]

theorem sm_pow {N k : Nat} (h : N < 10 ^ k) (hk : k ≤ 1000) : Sm N := by
  refine Nat.le_trans (limbs_length_le.2 (Nat.lt_of_lt_of_le h (Nat.pow_le_pow_left (by omega) k)) : _ ≤ k) (by omega)
theorem num_take_lt {l : List Nat} (h : ∀ x ∈ l, isDig x = true) (i : Nat) (hl : l.length ≤ 200) : num (l.take i) < 10 ^ 200 := by
  refine Nat.lt_of_lt_of_le (num_lt _ (fun x hx => ?_)) (Nat.pow_le_pow_right (by omega) (by rw [List.length_take]; omega))
  have := h x (List.mem_of_mem_take hx)
  simp [isDig] at this
  omega
theorem num_step {l : List Nat} {i : Nat} (h : i < l.length) : num (l.take (i + 1)) = num (l.take i) * 10 + (l.getD i 0 - 48) := by
  rw [List.take_succ_eq_append_getElem h, num_snoc, getD_lt h]
theorem dig_at {l : List Nat} (h : ∀ x ∈ l, isDig x = true) {i : Nat} (hi : i < l.length) : 48 ≤ l.getD i 0 ∧ l.getD i 0 < 58 := by
  have := h _ (List.getElem_mem hi)
  rw [getD_lt hi]
  simpa [isDig] using this

set_option maxHeartbeats 2000000 in
theorem Parse_ok (w : World) (s : ByteArray) (hs : s.size ≤ 9223372036854775807) :
    Calls Tryd.prog 43 #[.string s] w fun e w' =>
      (if isNum (byt s) = true then if s.size ≤ 200 then ∃ v, e = .returned (.tuple #[v, .int .i64 0]) ∧ NatR (num (byt s)) w.heap.size w' v else e = .returned (.tuple #[.slice none 0 0, .int .i64 3])
        else e = .returned (.tuple #[.slice none 0 0, .int .i64 4])) ∧ Below w.heap.size w w' := by
  refine opq fun R hR => ?_
  have T := hide (Tryd.strings_Trim_laid s digits w hs (by decide) (ascii_of_all (by decide)))
  have hd := trim_digits s
  generalize Lib.trimS s.data.toList digits.data.toList = tr at *
  unfold digits at T
  have es := empty_size s
  go_enter Tryd.func43, Tryd.ntmps43
  by_cases h0 : s.size = 0
  · have t1 : s.toList.isEmpty = true := by rw [es]; simpa using h0
    have hn := hide (isNum_empty h0)
    clear es T hd
    go_wp2
    exact opq_end hR ⟨by rw [if_neg (by rw [hn.out]; decide)]; rfl, Below.refl _ _⟩
  have t1 : s.toList.isEmpty = false := by rw [es]; simpa using h0
  clear es
  by_cases htr : tr = []
  case neg =>
    have hn := hide (isNum_odd (s := s) (fun q => htr (hd.2 q)))
    clear hd
    rcases tr with _ | ⟨a, tr⟩
    · exact absurd rfl htr
    clear htr
    go_wp2_with fail
    refine T.out.mono ?_
    rintro e w1 ⟨rfl, b1⟩
    have B1 := hide b1
    clear b1 T
    go_wp2
    exact opq_end hR ⟨by rw [if_neg (by rw [hn.out]; decide)]; rfl, B1.out⟩
  have hdig := hide (hd.1 htr)
  subst htr
  clear hd
  have hp : 0 < s.size := by omega
  go_wp2_with fail
  refine T.out.mono ?_
  rintro e w1 ⟨rfl, b1⟩
  have B1 := hide b1
  clear b1 T
  by_cases hz : 1 < s.size ∧ (s[0]'hp).toNat = 48
  · have hn := hide (isNum_zero hz.1 hz.2)
    have h1 := hz.1
    have h2 : (((s[0]'hp).toNat : Int) == 48) = true := by rw [hz.2]; rfl
    go_wp2
    exact opq_end hR ⟨by rw [if_neg (by rw [hn.out]; decide)]; rfl, B1.out⟩
  have hn := hide (isNum_yes hp hdig.out (by by_cases q : s.size = 1; exact .inl q; exact .inr fun q2 => hz ⟨by omega, q2⟩))
  have hx : ¬ 1 < s.size ∨ (1 < s.size ∧ (((s[0]'hp).toNat : Int) == 48) = false) := by
    by_cases q : 1 < s.size
    · refine .inr ⟨q, ?_⟩
      have : (s[0]'hp).toNat ≠ 48 := fun q2 => hz ⟨q, q2⟩
      simp
      omega
    · exact .inl q
  clear hz
  have hsz := B1.out.size
  have C1 := run_bytes_of_string (P := Tryd.prog) w1 9 94 5 s (by kernel_rfl) (by kernel_rfl) (by kernel_rfl)
  have C2 : Hid (∀ i, i < s.size → (w1.drew.alloc (.cells (bytesRow s (grownCap w1 s.size 0 5)) 5 ((bytesRow s (grownCap w1 s.size 0 5)).size, (bytesRow s (grownCap w1 s.size 0 5)).size + 1))).cell? ⟨w1.heap.size, i, none⟩ = some (.int .u8 ((byt s).getD i 0 : Nat))) := by
    intro i hi
    have := World.cell?_alloc_mark w1.drew (bytesRow s (grownCap w1 s.size 0 5)) 5 ((bytesRow s (grownCap w1 s.size 0 5)).size, (bytesRow s (grownCap w1 s.size 0 5)).size + 1) i
    rw [show w1.drew.heap.size = w1.heap.size from rfl] at this
    rw [this, bytesRow_at s _ i hi, getD_lt (by rw [byt_length]; exact hi)]
    simp [byt]
  have B2 := hide (B1.out.drew.alloc B1.out.size (.cells (bytesRow s (grownCap w1 s.size 0 5)) 5 ((bytesRow s (grownCap w1 s.size 0 5)).size, (bytesRow s (grownCap w1 s.size 0 5)).size + 1)))
  have L2 : Hid (w1.heap.size < (w1.drew.alloc (.cells (bytesRow s (grownCap w1 s.size 0 5)) 5 ((bytesRow s (grownCap w1 s.size 0 5)).size, (bytesRow s (grownCap w1 s.size 0 5)).size + 1))).heap.size) := by
    show _ < _
    simp [World.alloc]
  generalize (w1.drew.alloc (.cells (bytesRow s (grownCap w1 s.size 0 5)) 5 ((bytesRow s (grownCap w1 s.size 0 5)).size, (bytesRow s (grownCap w1 s.size 0 5)).size + 1))) = w2 at *
  generalize grownCap w1 s.size 0 5 = cap at *
  by_cases h200 : s.size ≤ 200
  case neg =>
    rcases hx with hx | ⟨hx, h48⟩
    · omega
    · go_wp2
      exact opq_end hR ⟨by rw [if_pos hn.out, if_neg h200]; rfl, B1.out⟩
  have hl : (byt s).length ≤ 200 := by rw [byt_length]; exact h200
  have hl2 := byt_length s
  have HN := hide (fun i => num_take_lt hdig.out i hl)
  have HS := hide (fun i (hi : i < (byt s).length) => num_step hi)
  have HD := hide (fun i (hi : i < (byt s).length) => dig_at hdig.out hi)
  have HE : Hid (num ((byt s).take s.size) = num (byt s)) := by
    show _ = _
    rw [List.take_of_length_le (by rw [hl2]; exact Nat.le_refl _)]
  rw [← HE.out] at hR
  clear hdig HE
  generalize byt s = l at *
  rcases hx with hx | ⟨hx, h48⟩
  all_goals
    go_wp2
    clear C1
    go_loopw [2, 29] (fun av iv wr => ∃ i, i ≤ s.size ∧ iv = .int .i64 (i : Nat) ∧ Hid (NatR (num (l.take i)) w.heap.size wr av) ∧ Hid (Below w.heap.size w wr) ∧ Hid (Below w2.heap.size w2 wr)) (fun _ iv _ => s.size - (intOf iv).toNat)
    case atStart => exact ⟨0, by omega, rfl, NatR.zero _ _, B2, Below.refl _ _⟩
    case round =>
      obtain ⟨i, hi, rfl, hnat, hbel, hb2⟩ := hrel
      by_cases hlt : i < s.size
      · have hc := C2.out i hlt
        have hcell := cell_below hb2.out hc
        have hd := HD.out i (by rw [hl2]; exact hlt)
        have hs1 := hide (HS.out i (by rw [hl2]; exact hlt))
        have hnn := hide (HN.out i)
        clear hc
        generalize l.getD i 0 = x at *
        generalize hN : num (l.take i) = N at *
        have hz := hbel.out.size
        have hz2 := hb2.out.size
        have T1 := can_one wr 10 (by omega) (by omega)
        have T2 := hide T1
        have b1 := hide ((Below.refl wr.heap.size wr).alloc (Nat.le_refl _) (.cells (cellsOf .u32 [10]) T32))
        have sm1 := hide (sm_pow hnn.out (by omega))
        have sm2 : Hid (Sm 10) := by
          refine Nat.le_trans (limbs_length_le.2 (?_ : 10 < 4294967296 ^ 1)) (by omega)
          omega
        clear T1 hN
        go_wp2_with fail
        refine (Mul_can (hnat.out.can.below b1.out) T2.out sm1.out sm2.out).mono ?_
        rintro e w4 ⟨u1, rfl, N1, b2⟩
        have b3 := hide (b1.out.trans (b2.out.mono b1.out.size))
        have CO : Hid (∀ w, Calls Tryd.prog 44 #[.int .u64 ((x : Int) - 48)] w fun e w' => ∃ v, e = .returned v ∧ Hid (NatR (x - 48) w.heap.size w' v) ∧ Hid (Below w.heap.size w w')) := by
          intro w
          have := Of_ok w (x - 48) (by omega)
          rw [show ((x - 48 : Nat) : Int) = (x : Int) - 48 from by omega] at this
          exact this
        go_wp2_with fail
        refine (CO.out w4).mono ?_
        rintro e w5 ⟨u3, rfl, N2, b4⟩
        have sm3 : Hid (Sm (N * 10)) := by
          refine sm_pow (k := 201) ?_ (by omega)
          have := hnn.out
          rw [Nat.pow_succ]
          exact Nat.mul_lt_mul_of_pos_right this (by omega)
        have sm4 : Hid (Sm (x - 48)) := by
          refine Nat.le_trans (limbs_length_le.2 (?_ : x - 48 < 4294967296 ^ 1)) (by omega)
          omega
        clear CO
        go_wp2_with fail
        refine (Add_can (N1.out.can.below b4.out) N2.out.can sm3.out sm4.out).mono ?_
        rintro e w6 ⟨u4, rfl, N3, b5⟩
        have b6 := hide (below_tr (below_tr b3.out b4.out) b5.out)
        have b7 := hide (below_tr hbel.out b6.out)
        have b8 := hide (below_tr hb2.out b6.out)
        have hz3 := (below_tr hbel.out (below_tr b3.out b4.out)).size
        go_wp2
        go_roundw
        case rel => exact ⟨i + 1, by omega, by go_num, by rw [hs1.out]; exact N3.out.mono hz3, b7, b8⟩
        case measure => simp [intOf]; omega
      · obtain rfl : i = s.size := by omega
        go_wp2
        exact opq_end hR ⟨by rw [if_pos hn.out, if_pos h200]; exact ⟨_, rfl, hnat.out⟩, hbel.out⟩
end Go.Proofs.YtcdejccbamjdoaaDoor
