/- rats: Parse; contracts in words of the laws. -/
import Derived.Test.YthnhcbdecgkacaaGreatDoorKA
import Derived.Test.YthnhcbdecgkacaaGreatDoorLz
/- rats: digits, plain, number. -/
set_option linter.unusedVariables false
set_option linter.unusedSimpArgs false
set_option maxRecDepth 100000
namespace Go.Proofs.YthnhcbdecgkacaaGreatDoor
open Go.RowKit

theorem byt_nil {s : ByteArray} : byt s = [] ↔ s.size = 0 := by
  rw [← byt_length, List.length_eq_zero_iff]
theorem isDigs_iff (s : ByteArray) : isDigs (byt s) = true ↔ s.size ≠ 0 ∧ ∀ x ∈ byt s, isDig x = true := by
  simp only [isDigs, Bool.and_eq_true, Bool.not_eq_true', List.isEmpty_eq_false_iff, ne_eq, byt_nil, List.all_eq_true]
theorem n_byt_inj' {s t : ByteArray} (h : byt s = byt t) : s = t := by
  have h1 : s.data.toList = t.data.toList := (List.map_inj_right (fun a b e => UInt8.toNat_inj.1 e)).1 h
  cases s; cases t
  simp only [ByteArray.mk.injEq]
  exact Array.toList_inj.1 h1
theorem str_ne {s : ByteArray} {l : List UInt8} : (s.toList == l) = false ↔ s ≠ ⟨l.toArray⟩ := by
  rw [ByteArray.toList_eq, beq_eq_false_iff_ne, ne_eq, ne_eq, not_congr]
  constructor
  · intro h; cases s; simp only [ByteArray.mk.injEq]; rw [← h]
  · intro h; subst h; simp
theorem eq_zero_str (s : ByteArray) (hp : 0 < s.size) : s = ⟨#[48]⟩ ↔ s.size = 1 ∧ (s[0]'hp).toNat = 48 := by
  constructor
  · intro e; subst e; exact ⟨rfl, rfl⟩
  · rintro ⟨h1, h2⟩
    have a := byt_head s hp
    have b := byt_length s
    refine n_byt_inj' ?_
    cases hb : byt s with
    | nil => rw [hb] at b; simp at b; omega
    | cons x l =>
      rw [hb] at a b
      have hl : l = [] := List.eq_nil_of_length_eq_zero (by simp at b; omega)
      subst hl
      simp at a
      rw [a, h2]; rfl
theorem byt_drop0 (s : ByteArray) : ∃ t : ByteArray, (⟨(Lib.trimLeftB s.data.toList 48).toArray⟩ : ByteArray) = t ∧ byt t = (byt s).dropWhile (· == 48) ∧ t.size ≤ s.size := by
  refine ⟨_, rfl, ?_, ?_⟩
  · unfold byt Lib.trimLeftB
    rw [List.toList_toArray, List.dropWhile_map]
    congr 1
    have : ((fun x => x == 48) ∘ UInt8.toNat) = (fun x : UInt8 => x == 48) := by
      funext b
      show (b.toNat == 48) = (b == 48)
      rw [Bool.eq_iff_iff, beq_iff_eq, beq_iff_eq]
      exact ⟨fun h => UInt8.toNat_inj.1 h, fun h => by subst h; rfl⟩
    rw [this]
  · show (Lib.trimLeftB s.data.toList 48).toArray.size ≤ _
    rw [List.size_toArray]
    have := (List.dropWhile_sublist (· == (48 : UInt8)) (l := s.data.toList)).length_le
    rw [Array.length_toList] at this
    exact this
end Go.Proofs.YthnhcbdecgkacaaGreatDoor

/- rats: Parse. -/
set_option linter.unusedVariables false
set_option linter.unusedSimpArgs false
set_option maxRecDepth 100000
namespace Go.Proofs.YthnhcbdecgkacaaGreatDoor
open Go.RowKit

/-- The library's own number of bytes up to which it searches in one go. -/
def MaxL (w : World) : Prop := ∃ m, w.cell? ⟨4, 0, none⟩ = some (.int .i64 m)
theorem MaxL.below {w w' : World} (h : MaxL w) (hb : Below w.heap.size w w') : MaxL w' := by
  obtain ⟨m, h⟩ := h
  exact ⟨m, cell_below hb h⟩
theorem repeatL_one (c : UInt8) : ∀ k, Lib.repeatL [c] k = List.replicate k c
  | 0 => rfl
  | k + 1 => by rw [Lib.repeatL, repeatL_one c k]; rfl
theorem trim_nil (l cs : List UInt8) : Lib.trimS l cs = [] ↔ ∀ b ∈ l, cs.contains b = true := by
  have dw : ∀ (l : List UInt8) (p : UInt8 → Bool), l.dropWhile p = [] ↔ ∀ b ∈ l, p b = true := by
    intro l p
    induction l with
    | nil => simp
    | cons a l ih =>
      rw [List.dropWhile_cons]
      by_cases h : p a = true
      · rw [if_pos h, ih]; simp [h]
      · rw [if_neg h]; simp [h]
  unfold Lib.trimS
  simp only [Lib.trimLeftS, Lib.trimRightS]
  constructor
  · intro h b hb
    rw [dw] at h
    by_cases hq : ∀ c ∈ l, cs.contains c = true
    · exact hq b hb
    · exfalso
      apply hq
      have h2 : (l.reverse.dropWhile (cs.contains ·)) = [] := by
        cases hr : l.reverse.dropWhile (cs.contains ·) with
        | nil => rfl
        | cons x r =>
          have hx := List.head_dropWhile_not (p := (cs.contains ·)) (l := l.reverse) (by rw [hr]; simp)
          simp only [hr, List.head_cons] at hx
          have := h x (by rw [hr]; simp)
          rw [this] at hx
          cases hx
      rw [dw] at h2
      intro c hc
      exact h2 c (List.mem_reverse.2 hc)
  · intro h
    have : l.reverse.dropWhile (cs.contains ·) = [] := by
      rw [dw]
      intro b hb
      exact h b (List.mem_reverse.1 hb)
    rw [this]
    rfl
theorem trim_zero (s : ByteArray) : Lib.trimS s.data.toList [48] = [] ↔ ∀ x ∈ byt s, x = 48 := by
  rw [trim_nil]
  constructor
  · intro h x hx
    obtain ⟨b, hb, rfl⟩ := List.mem_map.1 hx
    have := h b hb
    simp at this
    subst this; rfl
  · intro h b hb
    have := h _ (List.mem_map_of_mem hb)
    have e : b = 48 := UInt8.toNat_inj.1 this
    subst e; rfl
theorem rsplit_A {l a b : List Nat} (h : scut 46 l = (a, b, true)) : rsplit l = if isNum a && isDigs b then some (a ++ b, 49 :: List.replicate (min b.length 200) 48) else none := by
  unfold rsplit; rw [h]; rfl
theorem rsplit_B {l a b x y : List Nat} (h : scut 46 l = (x, y, false)) {p : Bool} (h2 : scut 47 l = (a, b, p)) (d : List Nat) (hd : (if p then b else [49]) = d) : rsplit l = if isNum a && isNum d && !decide (d = [48]) then some (a, d) else none := by
  subst hd
  unfold rsplit; rw [h, h2]; rfl
theorem scut_no {c : Nat} {l a b : List Nat} (h : scut c l = (a, b, false)) : a = l := by
  unfold scut at h
  split at h
  · simp at h
  · simp only [Prod.mk.injEq] at h; exact h.1.symm
/-- What a text comes to. -/
def RPost (r : Rat ⊕ Int) (B : Nat) (e : Ending) (w : World) : Prop :=
  match r with
  | .inl q => ∃ u, e = .returned (.tuple #[u, .int .i64 0]) ∧ RatR q B w u
  | .inr c => e = .returned (.tuple #[.agg #[.bool false, .slice none 0 0, .slice none 0 0], .int .i64 c])
theorem byt_append (a b : ByteArray) : byt (a ++ b) = byt a ++ byt b := by
  unfold byt
  rw [← List.map_append]
  congr 1
theorem clone_P {w : World} {v : Value} {N : Nat} (h : Can w v N) (hl : L N ≤ 4398046511104) :
    Calls Tryz.prog 108 #[v] w fun e w' => ∃ u, e = .returned u ∧ Below w.heap.size w w' ∧ NatR N w.heap.size w' u := clone_F w.heap.size (Nat.le_refl _) h hl
theorem num_L {l : List Nat} (h : ∀ x ∈ l, isDig x = true) (hl : l.length ≤ 200) : L (num l) ≤ 4398046511104 :=
  L_up (L_le.2 (Nat.lt_of_lt_of_le (num_lt l (dig58 h)) (Nat.le_trans (Nat.pow_le_pow_right (by decide) hl) (by decide +kernel : 10 ^ 200 ≤ 4294967296 ^ 200)))) (by decide)
theorem ican_sgn {w : World} {u : Value} {N : Nat} {b : Bool} (h : Can w u N) (hb : b = true → N ≠ 0) : ICan w (.agg #[.bool b, u]) (sgn b N) := by
  refine ⟨u, ?_, by rw [sgn_abs]; exact h⟩
  rw [sgn_neg]
  cases b
  · rfl
  · simp [hb rfl]
end Go.Proofs.YthnhcbdecgkacaaGreatDoor

/- rats: the laws' read; some answers that the document fixes. -/
set_option linter.unusedVariables false
set_option linter.unusedSimpArgs false
set_option maxRecDepth 100000
namespace Go.Proofs.YthnhcbdecgkacaaGreatDoor
open Go.RowKit

theorem H_small {q : Rat} (h1 : q.num.natAbs < 4294967296) (h2 : q.den < 4294967296) : H q 1 := ⟨L_small h1, L_small h2⟩
theorem rText_S {w : World} {v : Value} {q : Rat} (h : RArg w v q) (hl : H q 1000000) (hT : Tab w) (t : ByteArray) (ht : byt t = rtxt q) :
    Calls Tryz.prog 114 #[v] w fun e w' => ∃ u, e = .returned u ∧ Below w.heap.size w w' ∧ u = .string t :=
  (rText_P h hl hT).mono fun e w' ⟨u, h1, h2, h3⟩ => ⟨u, h1, h2, by rw [h3, ← ht]; exact vstr_byt t⟩
theorem nat_one {N B : Nat} {w : World} {A : Option Addr} {n c : Nat} (h : NatR N B w (.slice A n c)) (h0 : 0 < N) (h1 : N < 4294967296) : ∃ g, A = some ⟨g, 0, none⟩ ∧ n = 1 ∧ CellAt w ⟨g, 0, none⟩ (.int .u32 (N : Int)) := by
  obtain ⟨A', c', e, r, f, l⟩ := h
  cases e
  have e := limbs_small h0 h1
  rw [e] at r l ⊢
  rcases f with f | ⟨g, cs, e1, hB, hk, hc⟩
  · simp at l; omega
  · subst e1
    obtain ⟨ad, e2, hl, hcl⟩ := r.2.2 (by simp)
    cases e2
    refine ⟨g, rfl, rfl, ?_⟩
    have := hcl 0 (by simp)
    rw [add0] at this
    exact this
theorem txt_one (l : List Nat) (N : Nat) (h : isNum l = true) (e : num l = N) : txt N = l := by rw [← e, txt_num h]
def s_1_0 : ByteArray := ⟨#[49, 47, 48]⟩
theorem rat_lit {w : World} {u d : Value} {N M : Nat} (h : Can w u N) (h' : Can w d M) (sN : L N ≤ 4398046511104) (sM : L M ≤ 4398046511104) : RPrt w (.agg #[.bool false, u, d]) false (limbs N) (limbs M) := ⟨u, d, rfl, h.prt sN, h'.prt sM⟩
theorem txt_half : byt ⟨#[45, 49, 47, 50]⟩ = rtxt (Rat.divInt (-1) 2) := by
  unfold rtxt itxt
  rw [show (Rat.divInt (-1) 2).num = -1 from by decide +kernel, show (Rat.divInt (-1) 2).den = 2 from by decide +kernel, if_pos (by decide), if_neg (by decide), show (-1 : Int).natAbs = 1 from rfl, txt_one [49] 1 (by decide) rfl, txt_one [50] 2 (by decide) rfl]
  rfl
theorem rok24 : rok false (limbs 2) (limbs 4) = false := by
  unfold rok
  rw [decide_eq_false (show ¬ Nat.gcd (nv (limbs 2)) (nv (limbs 4)) = 1 from by rw [nv_limbs, nv_limbs]; decide), Bool.and_false]
def Fact.prt2 (N M : Nat) : Fact := ⟨fun v w => RPrt w v false (limbs N) (limbs M), fun _ _ _ h hb => h.below hb⟩
theorem ld_u32 {w : World} {g : Nat} {v : Int} (h : CellAt w ⟨g, 0, none⟩ (.int .u32 v)) : (Instr.loadAt 80 (.pointer (some ⟨g, 0, none⟩))).run Tryz.prog w = .ok (.int .u32 v) w := by
  unfold CellAt at h
  simp [go_sem, h]
theorem rAdd_C {w : World} {v v' : Value} {p q : Rat} (h : RArg w v p) (h' : RArg w v' q) (hT : Tab w) :
    Calls Tryz.prog 49 #[v, v'] w fun e w' => ∃ u, e = .returned u ∧ Below w.heap.size w w' ∧ RCan w' u (p + q) :=
  (rAdd_P h h' hT).mono fun e w' ⟨u, h1, h2, h3⟩ => ⟨u, h1, h2, h3.can⟩
theorem rSub_C {w : World} {v v' : Value} {p q : Rat} (h : RArg w v p) (h' : RArg w v' q) (hT : Tab w) :
    Calls Tryz.prog 54 #[v, v'] w fun e w' => ∃ u, e = .returned u ∧ Below w.heap.size w w' ∧ RCan w' u (p - q) :=
  (rSub_P h h' hT).mono fun e w' ⟨u, h1, h2, h3⟩ => ⟨u, h1, h2, h3.can⟩
theorem rMul_C {w : World} {v v' : Value} {p q : Rat} (h : RArg w v p) (h' : RArg w v' q) (hT : Tab w) :
    Calls Tryz.prog 50 #[v, v'] w fun e w' => ∃ u, e = .returned u ∧ Below w.heap.size w w' ∧ RCan w' u (p * q) :=
  (rMul_P h h' hT).mono fun e w' ⟨u, h1, h2, h3⟩ => ⟨u, h1, h2, h3.can⟩
theorem fn_rAdd (args : Array Value) (w : World) : (callFunc 49 args).run Tryz.prog w = .ok (.enter 49 args) w := callFunc_enter Tryz.func49 (by kernel_rfl) rfl args w
theorem fn_rSub (args : Array Value) (w : World) : (callFunc 54 args).run Tryz.prog w = .ok (.enter 54 args) w := callFunc_enter Tryz.func54 (by kernel_rfl) rfl args w
theorem fn_rMul (args : Array Value) (w : World) : (callFunc 50 args).run Tryz.prog w = .ok (.enter 50 args) w := callFunc_enter Tryz.func50 (by kernel_rfl) rfl args w
theorem fn_rText (args : Array Value) (w : World) : (callFunc 114 args).run Tryz.prog w = .ok (.enter 114 args) w := callFunc_enter Tryz.func114 (by kernel_rfl) rfl args w
theorem fn_rCheck (args : Array Value) (w : World) : (callFunc 44 args).run Tryz.prog w = .ok (.enter 44 args) w := callFunc_enter Tryz.func44 (by kernel_rfl) rfl args w
theorem fn_rCmp (args : Array Value) (w : World) : (callFunc 127 args).run Tryz.prog w = .ok (.enter 127 args) w := callFunc_enter Tryz.func127 (by kernel_rfl) rfl args w
theorem fn_rSign (args : Array Value) (w : World) : (callFunc 52 args).run Tryz.prog w = .ok (.enter 52 args) w := callFunc_enter Tryz.func52 (by kernel_rfl) rfl args w
end Go.Proofs.YthnhcbdecgkacaaGreatDoor

/- the laws of rats: contracts as their walks ask. -/
set_option linter.unusedVariables false
set_option linter.unusedSimpArgs false
set_option maxRecDepth 100000
namespace Go.Proofs.YthnhcbdecgkacaaGreatDoor
open Go.RowKit

theorem rCheck_can {w : World} {v : Value} {q : Rat} (h : RCan w v q) (hl : H q 100000000000) (hT : Tab w) :
    Calls Tryz.prog 44 #[v] w fun e w' => ∃ u, e = .returned u ∧ Below w.heap.size w w' ∧ u = .bool true := rCheck_P (h.prt (hl.up (by decide))) hT true (rok_self q)
theorem rCmp_eq {w : World} {v v' : Value} {p q : Rat} (h : RArg w v p) (h' : RArg w v' q) (hT : Tab w) (r : Int) (hr : cmpQ p q = r) :
    Calls Tryz.prog 127 #[v, v'] w fun e w' => ∃ u, e = .returned u ∧ Below w.heap.size w w' ∧ u = .int .i64 r :=
  (rCmp_P h h' hT).mono fun e w' ⟨u, h1, h2, h3⟩ => ⟨u, h1, h2, by rw [h3, hr]⟩
theorem rSign_eq {w : World} {v : Value} {q : Rat} (h : RArg w v q) (hT : Tab w) (r : Int) (hr : cmpQ q 0 = r) :
    Calls Tryz.prog 52 #[v] w fun e w' => ∃ u, e = .returned u ∧ Below w.heap.size w w' ∧ u = .int .i64 r :=
  (rSign_P h hT).mono fun e w' ⟨u, h1, h2, h3⟩ => ⟨u, h1, h2, by rw [h3, hr]⟩
/-- The parts of an argument. -/
theorem rprt_of {w : World} {A D : Option Addr} {n c m k : Nat} {xs ys : List Nat} (b : Bool) (h : Rd w A n xs) (h32 : Is32 xs) (hc : n ≤ c) (hn : n ≤ 4398046511104) (h' : Rd w D m ys) (h32' : Is32 ys) (hk : m ≤ k) (hm : m ≤ 4398046511104) : RPrt w (.agg #[.bool b, .slice A n c, .slice D m k]) b xs ys :=
  ⟨_, _, rfl, ⟨A, n, c, rfl, hc, hn, h, h32⟩, ⟨D, m, k, rfl, hk, hm, h', h32'⟩⟩
theorem RPrt.arg {w : World} {v : Value} {b : Bool} {xs ys : List Nat} (h : RPrt w v b xs ys) (l1 : xs.length ≤ 100000000000) (l2 : ys.length ≤ 100000000000) : RArg w v (rv b xs ys) := ⟨b, xs, ys, h, l1, l2, rfl⟩
theorem mul_cancel_r {a b : Rat} (h : b ≠ 0) : a * b / b = a := Rat.mul_div_cancel h
theorem cmpQ_congr {a b c d : Rat} (h1 : a < b ↔ c < d) (h2 : a = b ↔ c = d) : cmpQ a b = cmpQ c d := by
  unfold cmpQ
  simp only [h1, h2]
theorem cmpQ_e {a b : Rat} (h : a = b) : cmpQ a b = 0 := by rw [h]; exact cmpQ_eq b
theorem mul_lt_pos {x y z : Rat} (h : x < y) (hz : 0 < z) : x * z < y * z := Rat.mul_lt_mul_of_pos_right h hz
theorem mul_lt_neg {x y z : Rat} (h : x < y) (hz : z < 0) : y * z < x * z := by
  have : 0 < (y - x) * (-z) := Rat.mul_pos (by grind) (by grind)
  grind
theorem cmpQ3 (z : Rat) : ∃ s : Int, Hid (cmpQ z 0 = s) ∧ (s = -1 ∨ s = 0 ∨ s = 1) := by
  refine ⟨_, rfl, ?_⟩
  rcases rat_tri z 0 with h | h | h
  · exact .inl (cmpQ_lt h)
  · exact .inr (.inl (cmpQ_e h))
  · exact .inr (.inr (cmpQ_gt h))
theorem cmpQ_mul_lt {x y z : Rat} (h : x < y) : cmpQ (x * z) (y * z) = -1 * cmpQ z 0 := by
  rcases rat_tri z 0 with hz | hz | hz
  · rw [cmpQ_lt hz, cmpQ_gt (mul_lt_neg h hz)]; rfl
  · rw [cmpQ_e hz, cmpQ_e (by rw [hz, Rat.mul_zero, Rat.mul_zero])]; rfl
  · rw [cmpQ_gt hz, cmpQ_lt (mul_lt_pos h hz)]; rfl
theorem cmpQ_mul_gt {x y z : Rat} (h : y < x) : cmpQ (x * z) (y * z) = 1 * cmpQ z 0 := by
  rcases rat_tri z 0 with hz | hz | hz
  · rw [cmpQ_lt hz, cmpQ_lt (mul_lt_neg h hz)]; rfl
  · rw [cmpQ_e hz, cmpQ_e (by rw [hz, Rat.mul_zero, Rat.mul_zero])]; rfl
  · rw [cmpQ_gt hz, cmpQ_gt (mul_lt_pos h hz)]; rfl
theorem cmpQ_mul_eq {x y z : Rat} (h : x = y) : cmpQ (x * z) (y * z) = 0 * cmpQ z 0 := by
  rw [cmpQ_e (by rw [h]), Int.zero_mul]
end Go.Proofs.YthnhcbdecgkacaaGreatDoor

/- What stands behind a region that makes a variable: its store. -/
set_option linter.unusedVariables false
set_option linter.unusedSimpArgs false
set_option maxRecDepth 100000
namespace Go.Proofs.YthnhcbdecgkacaaGreatDoor
open Go.RowKit

/-- What one gives, beside something that is known. -/
def Fact.tupE (f : Fact) (c : Value) : Fact := ⟨fun v w => ∃ u, v = .tuple #[u, c] ∧ f.holds u w, fun _ w w' ⟨u, h1, h2⟩ hb => ⟨u, h1, f.stable _ w w' h2 hb⟩⟩
section
variable {V w : World} {g : Nat} {ops : Array Oper} {Q : Exit → Act → World → Prop} {o : Oper} {rest : List Oper} {a : Act} {p x : Operand}
theorem wpList_storeR {c0 c1 c2 : Value} {b : Bool} {A D : Option Addr} {n c m k : Nat} (hC : Below V.heap.size V w) (lp : V.heap.size ≤ g) (kp : Blk w g TR #[c0, c1, c2]) (hgd : o.guard = none) (hd : o.dst = none) (ho : o.op = .store TR p x) (hp : a.eval p = .pointer (some ⟨g, 0, none⟩)) (hx : a.eval x = .agg #[.bool b, .slice A n c, .slice D m k])
    (h : ∀ W', Below V.heap.size V W' → Hid (Blk W' g TR #[.bool b, .slice A n c, .slice D m k]) → Hid (Only g w W') → wpList Tryz.prog ops Q rest a W') : wpList Tryz.prog ops Q (o :: rest) a w := by
  refine wpList_plain hgd fun K hK => ?_
  have q0 : w.cell? ⟨g, 0, none⟩ = some c0 := kp.at_ 0 rfl
  have p0 : w.frozen? ⟨g, 0, none⟩ = false := kp.frozen 0
  have q1 : w.cell? ⟨g, 1, none⟩ = some c1 := kp.at_ 1 rfl
  have p1 : w.frozen? ⟨g, 1, none⟩ = false := kp.frozen 1
  have q2 : w.cell? ⟨g, 2, none⟩ = some c2 := kp.at_ 2 rfl
  have p2 : w.frozen? ⟨g, 2, none⟩ = false := kp.frozen 2
  have e : (execOp a.eval o).run Tryz.prog w = .ok .skip (((w.setCell ⟨g, 0, none⟩ (.bool b)).setCell ⟨g, 1, none⟩ (.slice A n c)).setCell ⟨g, 2, none⟩ (.slice D m k)) := by
    simp only [execOp, ho, hp, hx]
    simp [go_sem, q0, p0, q1, p1, q2, p2]
  unfold Oper.wp
  rw [e]
  refine hK _ _ ?_
  rw [hd]
  exact h _ (((hC.setCell (p := ⟨g, 0, none⟩) lp (.bool b)).setCell (p := ⟨g, 1, none⟩) lp (.slice A n c)).setCell (p := ⟨g, 2, none⟩) lp (.slice D m k)) (((kp.set_ 0 (.bool b)).set_ 1 (.slice A n c)).set_ 2 (.slice D m k)) ((((Only.refl _ _).set _ _).set _ _).set _ _)
theorem wpList_storeI {c0 c1 : Value} {b : Bool} {A D : Option Addr} {n c m k : Nat} (hC : Below V.heap.size V w) (lp : V.heap.size ≤ g) (kp : Blk w g 50 #[c0, c1]) (hgd : o.guard = none) (hd : o.dst = none) (ho : o.op = .store 50 p x) (hp : a.eval p = .pointer (some ⟨g, 0, none⟩)) (hx : a.eval x = .agg #[.bool b, .slice A n c])
    (h : ∀ W', Below V.heap.size V W' → Hid (Blk W' g 50 #[.bool b, .slice A n c]) → Hid (Only g w W') → wpList Tryz.prog ops Q rest a W') : wpList Tryz.prog ops Q (o :: rest) a w := by
  refine wpList_plain hgd fun K hK => ?_
  have q0 : w.cell? ⟨g, 0, none⟩ = some c0 := kp.at_ 0 rfl
  have p0 : w.frozen? ⟨g, 0, none⟩ = false := kp.frozen 0
  have q1 : w.cell? ⟨g, 1, none⟩ = some c1 := kp.at_ 1 rfl
  have p1 : w.frozen? ⟨g, 1, none⟩ = false := kp.frozen 1
  have e : (execOp a.eval o).run Tryz.prog w = .ok .skip ((w.setCell ⟨g, 0, none⟩ (.bool b)).setCell ⟨g, 1, none⟩ (.slice A n c)) := by
    simp only [execOp, ho, hp, hx]
    simp [go_sem, q0, p0, q1, p1]
  unfold Oper.wp
  rw [e]
  refine hK _ _ ?_
  rw [hd]
  exact h _ ((hC.setCell (p := ⟨g, 0, none⟩) lp (.bool b)).setCell (p := ⟨g, 1, none⟩) lp (.slice A n c)) ((kp.set_ 0 (.bool b)).set_ 1 (.slice A n c)) (((Only.refl _ _).set _ _).set _ _)
end
theorem run_alloc_Rat (w : World) (a : Act) (d : Option Tmp) (t : TypeId) (p : String) (e : Array Edge) (gd : Option (Nat × Bool)) : (execOp a.eval ⟨d, .alloc TR, t, p, e, gd⟩).run Tryz.prog w = .ok (.value (.pointer (some ⟨w.heap.size, 0, none⟩))) (w.alloc (.cells (Value.agg #[.bool false, .slice none 0 0, .slice none 0 0]).cells TR)) := by
  simp [execOp, go_sem, Value.cells]
theorem run_alloc_Int_ (w : World) (a : Act) (d : Option Tmp) (t : TypeId) (p : String) (e : Array Edge) (gd : Option (Nat × Bool)) : (execOp a.eval ⟨d, .alloc 50, t, p, e, gd⟩).run Tryz.prog w = .ok (.value (.pointer (some ⟨w.heap.size, 0, none⟩))) (w.alloc (.cells (Value.agg #[.bool false, .slice none 0 0]).cells 50)) := by
  simp [execOp, go_sem, Value.cells]
theorem rAdd_R {w : World} {v v' : Value} {p q : Rat} (B : Nat) (hB : B ≤ w.heap.size) (h : RArg w v p) (h' : RArg w v' q) (hT : Tab w) :
    Calls Tryz.prog 49 #[v, v'] w fun e w' => ∃ u, e = .returned u ∧ Below w.heap.size w w' ∧ RatR (p + q) B w' u :=
  (rAdd_P h h' hT).mono fun e w' ⟨u, h1, h2, h3⟩ => ⟨u, h1, h2, h3.mono hB⟩
theorem rMul_R {w : World} {v v' : Value} {p q : Rat} (B : Nat) (hB : B ≤ w.heap.size) (h : RArg w v p) (h' : RArg w v' q) (hT : Tab w) :
    Calls Tryz.prog 50 #[v, v'] w fun e w' => ∃ u, e = .returned u ∧ Below w.heap.size w w' ∧ RatR (p * q) B w' u :=
  (rMul_P h h' hT).mono fun e w' ⟨u, h1, h2, h3⟩ => ⟨u, h1, h2, h3.mono hB⟩
end Go.Proofs.YthnhcbdecgkacaaGreatDoor
