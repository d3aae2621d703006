/- References of ints and fractions; the laws' Book of one number, of whole numbers, of fractions. -/
import Derived.Test.YtfpnhggbfakdkaaDoorIA
import Derived.Test.YtfpnhggbfakdkaaDoorRN
import Derived.Test.YtfpnhggbfakdkaaDoorLa
import Derived.Test.YtfpnhggbfakdkaaDoorBK
import Derived.Test.YtfpnhggbfakdkaaDoorND
import Derived.Test.YtfpnhggbfakdkaaDoorNC
import Derived.Deep.RegionHeld3
import Derived.Test.YtfpnhggbfakdkaaDoorJA
import Derived.Test.YtfpnhggbfakdkaaDoorLz
import Derived.Test.YtfpnhggbfakdkaaDoorKA
import Derived.Test.YtfpnhggbfakdkaaDoorKB
/- the reference of ints: Check, fit, Signed. -/
set_option linter.unusedVariables false
set_option linter.unusedSimpArgs false
set_option maxRecDepth 100000
namespace Go.Proofs.YtfpnhggbfakdkaaDoor
open Go.RowKit

end Go.Proofs.YtfpnhggbfakdkaaDoor

/- Plain lemmas: division by more parts, as the document's answer does it. No program in sight. -/
set_option linter.unusedVariables false
set_option linter.unusedSimpArgs false
namespace Go.Proofs.YtfpnhggbfakdkaaDoor

section
variable {i g o : Nat} {xs bs rs zs rs2 : List Nat}
end
theorem GSet.E0 {U V E top u0 h l : Nat} (S : GSet U V E top u0 h l) : 0 < E := by
  have a := S.u1
  have b := S.u2
  omega
/-- The top is less than what the uppermost part could make, and one part more. -/
theorem GSet.top {U V E top u0 h l : Nat} (S : GSet U V E top u0 h l) : top < h * 4294967296 + 4294967296 := by
  have e0 := S.E0
  have a := S.u1
  have b := S.v2
  have c := S.lt
  have l32 := S.l32
  have d : V + E * 0 ≤ E * (4294967296 * h + 4294967296) := by
    have : E * (l + 4294967296 * h) + E = E * (l + 4294967296 * h + 1) := (Nat.mul_add_one _ _).symm
    have : E * (l + 4294967296 * h + 1) ≤ E * (4294967296 * h + 4294967296) := Nat.mul_le_mul_left _ (by omega)
    omega
  have f : E * (4294967296 * top) < E * (4294967296 * (4294967296 * h + 4294967296)) := by
    have h1 : E * (4294967296 * top) ≤ E * (u0 + 4294967296 * top) := Nat.mul_le_mul_left _ (by omega)
    have h2 : 4294967296 * V ≤ E * (4294967296 * (4294967296 * h + 4294967296)) := by
      rw [Nat.mul_left_comm E]
      exact Nat.mul_le_mul_left _ (by omega)
    omega
  have := Nat.lt_of_mul_lt_mul_left f
  omega
/-- A guess that is too great for a part leaves little. -/
theorem GSet.over {U V E top u0 h l : Nat} (S : GSet U V E top u0 h l) {g over : Nat} (ho : top = over + g * h) (hg : 4294967296 ≤ g) : over < 4294967296 := by
  have a := S.top
  have : 4294967296 * h ≤ g * h := Nat.mul_le_mul_right _ hg
  omega
end Go.Proofs.YtfpnhggbfakdkaaDoor

/- laws of nats that compare with the document's answer: words. -/
set_option linter.unusedVariables false
set_option linter.unusedSimpArgs false
set_option maxRecDepth 100000
namespace Go.Proofs.YtfpnhggbfakdkaaDoor
open Go.RowKit


/-- Lists that are held, the last of them newest. -/
def HW (B : Nat) (w : World) (es : List Ent) : Prop := HB B w.heap.size w es
theorem HW.nil (B : Nat) (w : World) : HW B w [] := HB.nil _ _ _
theorem HB.up {B hi hi' : Nat} {w : World} {es : List Ent} (h : HB B hi w es) (hh : hi ≤ hi') : HB B hi' w es := by
  obtain ⟨X, Y, h1, h2, h3⟩ := h
  exact ⟨X, Y, h1, fun i e g he hg => Nat.lt_of_lt_of_le (h2 i e g he hg) hh, h3⟩
theorem HW.below {B : Nat} {w w' : World} {es : List Ent} (h : HW B w es) (k : Below w.heap.size w w') : HW B w' es := (HB.bel h k).up k.size
theorem HW.snoc {B B' : Nat} {w : World} {es : List Ent} (h : HB B B' w es) {A : Option Addr} {n c : Nat} {xs : List Value} (l : LRow B' w A n c xs) (hB : B ≤ B') (hw : B' ≤ w.heap.size) (hn : n ≤ 500000) {k : Nat} (hk : k ≤ 100000) : HW B w (es ++ [⟨A, n, c, none, 0, 0, k⟩]) :=
  HB.snoc h l rfl hB hw hn hk
theorem HW.next {B : Nat} {w w' : World} {es : List Ent} (h : HW B w es) (k : Below w.heap.size w w') {A : Option Addr} {n c : Nat} {xs : List Value} (l : LRow w.heap.size w' A n c xs) (hB : B ≤ w.heap.size) (hn : n ≤ 500000) {i : Nat} (hk : i ≤ 100000) : HW B w' (es ++ [⟨A, n, c, none, 0, 0, i⟩]) :=
  HW.snoc (HB.bel h k) l hB k.size hn hk
/-- A twin: a list of the law's own with a mark behind it. -/
structure Tw (B : Nat) (w : World) (A : Option Addr) (n c : Nat) (xs : List Nat) : Prop where
  rd : Rd w A (n + 1) (xs ++ [77])
  fr : Fr T32 B w A c
  lt : n < c
  is : Is32 xs
  len : n ≤ 100000
theorem Tw.below {B : Nat} {w w' : World} {A : Option Addr} {n c : Nat} {xs : List Nat} (h : Tw B w A n c xs) (k : Below w.heap.size w w') : Tw B w' A n c xs := ⟨h.rd.below k, h.fr.below k, h.lt, h.is, h.len⟩
theorem Tw.prt {B : Nat} {w : World} {A : Option Addr} {n c : Nat} {xs : List Nat} (h : Tw B w A n c xs) : Prt w (.slice A n c) xs := by
  have h1 := h.rd.take n (by omega)
  have hl : xs.length = n := by have := h.rd.1; simp at this; omega
  rw [List.take_append_of_le_length (by omega), List.take_of_length_le (by omega)] at h1
  exact ⟨A, n, c, rfl, Nat.le_of_lt h.lt, by have := h.len; omega, h1, h.is⟩
theorem Tw.lrow {B : Nat} {w : World} {A : Option Addr} {n c : Nat} {xs : List Nat} (h : Tw B w A n c xs) : ∃ ys, LRow B w A n c ys := h.fr.lrow (Nat.le_of_lt h.lt)
def subD (xs ys : List Nat) : Nat := if chk xs = true ∧ chk ys = true ∧ val ys ≤ val xs then val xs - val ys else 0
def subK (xs ys : List Nat) : Int := if chk xs = true ∧ chk ys = true ∧ val ys ≤ val xs then 0 else 1
theorem natR_len {N B : Nat} {w : World} {A : Option Addr} {n c : Nat} (h : NatR N B w (.slice A n c)) : n = L N := by
  obtain ⟨A', c', e, _⟩ := h
  cases e
  rfl
end Go.Proofs.YtfpnhggbfakdkaaDoor

/- the document's answer for nats: small, up, down, Of. -/
set_option linter.unusedVariables false
set_option linter.unusedSimpArgs false
set_option maxRecDepth 100000
namespace Go.Proofs.YtfpnhggbfakdkaaDoor
open Go.RowKit

/-- By one part, in place: the parts below i are as they were. -/
structure RShort (i r b : Nat) (xs zs : List Nat) : Prop where
  s : ShortInv i r b xs zs
  low : ∀ j, j < i → zs.getD j 0 = xs.getD j 0
theorem RShort.start {b : Nat} {xs : List Nat} (h : Is32 xs) (hb : 0 < b) : RShort xs.length 0 b xs xs :=
  ⟨⟨rfl, h, hb, by rw [List.drop_length]; simp [val]⟩, fun _ _ => rfl⟩
theorem RShort.step {i r b : Nat} {xs zs : List Nat} (H : RShort (i + 1) r b xs zs) (hi : i < xs.length) (hx : Is32 xs) : RShort i ((r * 4294967296 + xs.getD i 0) % b) b xs (zs.set i ((r * 4294967296 + xs.getD i 0) / b)) :=
  ⟨H.s.step hi hx, fun j hj => by rw [bel_getD_set _ _ _ _ (by omega)]; exact H.low j (by omega)⟩
/-- A shift to the right in place. -/
structure RDn (k s : Nat) (xs zs : List Nat) : Prop where
  len : zs.length = xs.length
  far : ∀ j, k ≤ j → zs.getD j 0 = xs.getD j 0
  inv : BkInv xs.length k s xs (zs.take k ++ List.replicate (xs.length - k) 0)
theorem RDn.start (s : Nat) (xs : List Nat) : RDn 0 s xs xs := ⟨rfl, fun _ _ => rfl, by simpa using BkInv.start xs.length s xs⟩
theorem take_set_succ {zs : List Nat} {k v : Nat} (h : k < zs.length) : (zs.set k v).take (k + 1) = zs.take k ++ [v] := by
  rw [List.take_add_one, List.take_set_of_le (Nat.le_refl _), List.getElem?_set_self h]
  rfl
theorem RDn.step {k s c : Nat} {xs zs : List Nat} (H : RDn k s xs zs) (hk : k < xs.length) (hx : Is32 xs) (hs : 0 < s) (hsc : s * c = 4294967296) :
    RDn (k + 1) s xs (zs.set k (bkd (xs.getD k 0) (xs.getD (k + 1) 0) s)) := by
  have hl := H.len
  refine ⟨by rw [List.length_set, hl], fun j hj => by rw [bel_getD_set _ _ _ _ (by omega)]; exact H.far j (by omega), ?_⟩
  rw [take_set_succ (by omega)]
  have h := H.inv.step hk hx hs hsc
  have e : (zs.take k ++ List.replicate (xs.length - k) 0).set k (bkd (xs.getD k 0) (xs.getD (k + 1) 0) s) = zs.take k ++ [bkd (xs.getD k 0) (xs.getD (k + 1) 0) s] ++ List.replicate (xs.length - (k + 1)) 0 := by
    rw [show xs.length - k = xs.length - (k + 1) + 1 by omega]
    exact set_at _ _ _ _ (by rw [List.length_take]; omega)
  rw [e] at h
  exact h
theorem RDn.fin {s : Nat} {xs zs : List Nat} (H : RDn xs.length s xs zs) : Is32 zs ∧ val zs = val xs / s := by
  have h := H.inv.fin
  rw [Nat.sub_self, List.replicate_zero, List.append_nil, List.take_of_length_le (by rw [H.len]; exact Nat.le_refl _)] at h
  exact h
end Go.Proofs.YtfpnhggbfakdkaaDoor

/- the reference of ints: Sign, Neg. -/
set_option linter.unusedVariables false
set_option linter.unusedSimpArgs false
set_option maxRecDepth 100000
namespace Go.Proofs.YtfpnhggbfakdkaaDoor
open Go.RowKit

end Go.Proofs.YtfpnhggbfakdkaaDoor

/- the document's answer for nats: guess, takes, gives. -/
set_option linter.unusedVariables false
set_option linter.unusedSimpArgs false
set_option maxRecDepth 100000
namespace Go.Proofs.YtfpnhggbfakdkaaDoor
open Go.RowKit

theorem Only.drewN {g : Nat} {w W : World} (h : Only g w W) (n : Nat) : Only g w (W.drewN n) := ⟨h.size, h.block⟩
theorem Only.rd {g : Nat} {w W : World} (h : Only g w W) {k : IntKind} {A : Option Addr} {n : Nat} {xs : List Nat} (r : Rdk k w A n xs) (hne : ∀ ad, A = some ad → ad.block ≠ g) : Rdk k W A n xs :=
  ⟨r.1, r.2.1, fun h0 => by
    obtain ⟨ad, e, hl, hc⟩ := r.2.2 h0
    exact ⟨ad, e, by rw [h.size]; exact hl, fun j hj => by
      have hb : (ad.add j).block = ad.block := by unfold Addr.add; split <;> rfl
      rw [h.cell (by rw [hb]; exact hne ad e)]
      exact hc j hj⟩⟩
theorem Only.blk {g g' : Nat} {w W : World} (h : Only g w W) {t : TypeId} {cs : Array Value} (k : Blk w g' t cs) (hne : g' ≠ g) : Blk W g' t cs := k.keep (h.block g' hne)
end Go.Proofs.YtfpnhggbfakdkaaDoor

/- the reference of ints: Mul, Add, Sub, Cmp. -/
set_option linter.unusedVariables false
set_option linter.unusedSimpArgs false
set_option maxRecDepth 100000
namespace Go.Proofs.YtfpnhggbfakdkaaDoor
open Go.RowKit

end Go.Proofs.YtfpnhggbfakdkaaDoor

/- the document's answer for nats: Div. -/
set_option linter.unusedVariables false
set_option linter.unusedSimpArgs false
set_option maxRecDepth 100000
namespace Go.Proofs.YtfpnhggbfakdkaaDoor
open Go.RowKit

end Go.Proofs.YtfpnhggbfakdkaaDoor

/- the document's answer for nats: Gcd, Back. -/
set_option linter.unusedVariables false
set_option linter.unusedSimpArgs false
set_option maxRecDepth 100000
namespace Go.Proofs.YtfpnhggbfakdkaaDoor
open Go.RowKit

end Go.Proofs.YtfpnhggbfakdkaaDoor

/- laws of ints that compare with the document's answer: words. -/
set_option linter.unusedVariables false
set_option linter.unusedSimpArgs false
set_option maxRecDepth 100000
namespace Go.Proofs.YtfpnhggbfakdkaaDoor
open Go.RowKit

theorem Tw.only {B g B' : Nat} {w W : World} {A : Option Addr} {n c : Nat} {xs : List Nat} {t : TypeId} {cs : Array Value} (h : Tw B' w A n c xs) (hB : B ≤ B') (hb : Blk w g t cs) (ht : T32 ≠ t) (F : Only g w W) : Tw B W A n c xs := by
  obtain ⟨h1, h2, h3, h4, h5⟩ := h
  rcases h2 with h2 | ⟨ga, ca, rfl, hg, hk, hc⟩
  · omega
  · have hne : ga ≠ g := fun e => by subst e; exact hk.type_ne hb ht rfl
    have hk' : Blk W ga T32 ca := hk.keep (F.block ga hne)
    refine ⟨⟨h1.1, h1.2.1, fun hn => ?_⟩, .inr ⟨ga, ca, rfl, Nat.le_trans hB hg, hk', hc⟩, h3, h4, h5⟩
    obtain ⟨ad, e, hl, hcl⟩ := h1.2.2 hn
    cases e
    refine ⟨_, rfl, hk'.lt, fun j hj => ?_⟩
    have := hcl j hj
    rw [add0, hk.cell] at this
    rw [add0, hk'.cell]
    exact this
theorem IntR.lrow {z : Int} {B : Nat} {w : World} {s : Bool} {A : Option Addr} {n c : Nat} (h : IntR z B w (.agg #[.bool s, .slice A n c])) : ∃ xs, LRow B w A n c xs := by
  obtain ⟨u, e1, r⟩ := h
  have : u = .slice A n c := by simp at e1; exact e1.2.symm
  subst this
  exact r.lrow
theorem intR_len {z : Int} {B : Nat} {w : World} {s : Bool} {A : Option Addr} {n c : Nat} (h : IntR z B w (.agg #[.bool s, .slice A n c])) : n = L z.natAbs := by
  obtain ⟨u, e1, r⟩ := h
  have : u = .slice A n c := by simp at e1; exact e1.2.symm
  subst this
  exact natR_len r
end Go.Proofs.YtfpnhggbfakdkaaDoor

/- the document's answer for nats: Digits, Number, Parse, Text. -/
set_option linter.unusedVariables false
set_option linter.unusedSimpArgs false
set_option maxRecDepth 100000
namespace Go.Proofs.YtfpnhggbfakdkaaDoor
open Go.RowKit

end Go.Proofs.YtfpnhggbfakdkaaDoor

/- laws of ints that compare: contracts as their regions ask. -/
set_option linter.unusedVariables false
set_option linter.unusedSimpArgs false
set_option maxRecDepth 100000
namespace Go.Proofs.YtfpnhggbfakdkaaDoor
open Go.RowKit

end Go.Proofs.YtfpnhggbfakdkaaDoor

/- the laws' Book: two lists that one call answered; laws of nats that divide: words. -/
set_option linter.unusedVariables false
set_option linter.unusedSimpArgs false
set_option maxRecDepth 100000
namespace Go.Proofs.YtfpnhggbfakdkaaDoor
open Go.RowKit

theorem blkOf_eq {A : Option Addr} {c g : Nat} (h : blkOf A c = some g) : c ≠ 0 ∧ ∃ a, A = some a ∧ a.block = g := by
  unfold blkOf at h
  split at h
  · cases h
  · next hc =>
    refine ⟨hc, ?_⟩
    cases A with
    | none => cases h
    | some a => exact ⟨a, rfl, by simpa using h⟩
theorem HB.snocA {B hi B' : Nat} {w : World} {es : List Ent} (h : HB B hi w es) {A : Option Addr} {n c : Nat} {xs : List Value} (l : LRow B' w A n c xs) (hB : B ≤ B') (hh : hi ≤ w.heap.size) (hap : ∀ (i : Nat) (e : Ent) g, es[i]? = some e → e.has g → blkOf A c ≠ some g) (hn : n ≤ 500000) {k : Nat} (hk : k ≤ 100000) : HB B w.heap.size w (es ++ [⟨A, n, c, none, 0, 0, k⟩]) := by
  obtain ⟨X, Y, h1, h2, h3⟩ := h
  have hl : ∀ g, blkOf A c = some g → g < w.heap.size := fun g hg => by
    obtain ⟨cs, _, e1, e2, _⟩ := l.blk hg
    exact e2.lt
  have hcase : ∀ (i : Nat) (e : Ent), (es ++ [⟨A, n, c, none, 0, 0, k⟩])[i]? = some e → (es[i]? = some e ∧ i < es.length) ∨ (i = es.length ∧ e = ⟨A, n, c, none, 0, 0, k⟩) := fun i e he => by
    by_cases hi : i < es.length
    · rw [List.getElem?_append_left hi] at he
      exact .inl ⟨he, hi⟩
    · rw [List.getElem?_append_right (by omega)] at he
      have := (List.getElem?_eq_some_iff.1 he).1
      simp at this
      obtain rfl : i = es.length := by omega
      simp at he
      exact .inr ⟨rfl, he.symm⟩
  have hnew : ∀ g, Ent.has ⟨A, n, c, none, 0, 0, k⟩ g → blkOf A c = some g := fun g hg => by
    rcases hg with x | x
    · exact x
    · simp [blkOf] at x
  refine ⟨upd X es.length xs, upd Y es.length [], ⟨fun i e he => ?_, fun i e he => ?_, fun i j e e' hne he he' g hg hg' => ?_, fun i e he => ?_⟩, fun i e g he hg => ?_, fun e he => ?_⟩
  · rcases hcase i e he with ⟨x, y⟩ | ⟨rfl, rfl⟩
    · rw [upd_ne _ _ (by omega)]; exact h1.a _ _ x
    · rw [upd_same]
      refine ⟨l.len, l.le, ?_⟩
      rcases l.own with z | ⟨g, cs, z1, z2, z3⟩
      · exact .inl z
      · exact .inr ⟨g, cs, z1, Nat.le_trans hB z2, z3⟩
  · rcases hcase i e he with ⟨x, y⟩ | ⟨rfl, rfl⟩
    · rw [upd_ne _ _ (by omega)]; exact h1.l _ _ x
    · rw [upd_same]; exact ⟨rfl, Nat.le_refl _, .inl rfl⟩
  · rcases hcase i e he with ⟨x, y⟩ | ⟨rfl, rfl⟩ <;> rcases hcase j e' he' with ⟨x', y'⟩ | ⟨rfl, rfl⟩
    · exact h1.apart _ _ _ _ hne x x' g hg hg'
    · exact hap _ _ _ x hg (hnew g hg')
    · exact hap _ _ _ x' hg' (hnew g hg)
    · exact hne rfl
  · rcases hcase i e he with ⟨x, y⟩ | ⟨rfl, rfl⟩
    · exact h1.two _ _ x
    · exact .inr fun g hg => by simp [blkOf] at hg
  · rcases hcase i e he with ⟨x, y⟩ | ⟨rfl, rfl⟩
    · have := h2 _ _ _ x hg
      omega
    · exact hl g (hnew g hg)
  · rcases List.mem_append.1 he with x | x
    · exact h3 e x
    · simp at x
      subst x
      exact ⟨hk, hn, rfl⟩
/-- Two lists that one call answered, apart from each other. -/
theorem HW.next2 {B : Nat} {w w' : World} {es : List Ent} (h : HW B w es) (k : Below w.heap.size w w') {A : Option Addr} {n c : Nat} {xs : List Value} (l : LRow w.heap.size w' A n c xs) {A' : Option Addr} {n' c' : Nat} {xs' : List Value} (l' : LRow w.heap.size w' A' n' c' xs')
    (hs : Sep (.slice A n c) (.slice A' n' c')) (hB : B ≤ w.heap.size) (hn : n ≤ 500000) (hn' : n' ≤ 500000) {i i' : Nat} (hk : i ≤ 100000) (hk' : i' ≤ 100000) : HW B w' (es ++ [⟨A, n, c, none, 0, 0, i⟩] ++ [⟨A', n', c', none, 0, 0, i'⟩]) := by
  have h1 := HW.next h k l hB hn hk
  obtain ⟨X0, Y0, _, h0, _⟩ := id h
  refine HB.snocA (hi := w'.heap.size) h1 l' hB (Nat.le_refl _) (fun j e g he hg hg' => ?_) hn' hk'
  obtain ⟨cs, _, e1, e2, _⟩ := l'.blk hg'
  by_cases hj : j < es.length
  · rw [List.getElem?_append_left hj] at he
    have := h0 j e g he hg
    omega
  · rw [List.getElem?_append_right (by omega)] at he
    have hlt := (List.getElem?_eq_some_iff.1 he).1
    simp at hlt
    obtain rfl : j = es.length := by omega
    simp at he
    subst he
    have hg2 : blkOf A c = some g := by
      rcases hg with x | x
      · exact x
      · simp [blkOf] at x
    obtain ⟨c0, a, rfl, ha⟩ := blkOf_eq hg2
    obtain ⟨c0', a', rfl, ha'⟩ := blkOf_eq hg'
    rcases hs _ _ _ _ _ _ rfl rfl with z | z | ⟨b, b', z1, z2, z3⟩
    · exact c0 z
    · exact c0' z
    · cases z1; cases z2
      exact z3 (ha.trans ha'.symm)
/-! ### what a division answers -/
def divQ (xs ys : List Nat) : Nat := if chk xs = true ∧ chk ys = true ∧ ys ≠ [] then val xs / val ys else 0
def divR (xs ys : List Nat) : Nat := if chk xs = true ∧ chk ys = true ∧ ys ≠ [] then val xs % val ys else 0
def divK (xs ys : List Nat) : Int := if chk xs = true ∧ chk ys = true then if ys = [] then 10 else 0 else 1
end Go.Proofs.YtfpnhggbfakdkaaDoor

/- the document's answer for rats: Check, Fit, lowest, Of, times, Neg, Add, Sub, Mul, Sign, Cmp, Whole. -/
set_option linter.unusedVariables false
set_option linter.unusedSimpArgs false
set_option maxRecDepth 100000
namespace Go.Proofs.YtfpnhggbfakdkaaDoor
open Go.RowKit

end Go.Proofs.YtfpnhggbfakdkaaDoor

/- the document's answer for rats: Of, Neg, Sub, Sign, Whole, Div, Make. -/
set_option linter.unusedVariables false
set_option linter.unusedSimpArgs false
set_option maxRecDepth 100000
namespace Go.Proofs.YtfpnhggbfakdkaaDoor
open Go.RowKit

def Fact.negR (p : Rat) (B : Nat) : Fact := ⟨fun v w => ∃ b A n c D m k, v = .agg #[.bool b, .slice A n c, .slice D m k] ∧ IntR (-p.num) B w (.agg #[.bool b, .slice A n c]) ∧ NatR p.den B w (.slice D m k), fun _ _ _ ⟨b, A, n, c, D, m, k, h1, h2, h3⟩ hb => ⟨b, A, n, c, D, m, k, h1, h2.below hb, h3.below hb⟩⟩
theorem ICan.sign {w : World} {b : Bool} {u : Value} {z : Int} (h : ICan w (.agg #[.bool b, u]) z) : decide (z < 0) = b := h.nat.2
end Go.Proofs.YtfpnhggbfakdkaaDoor

/- rats: Div and Make of what may not be; the document's Make. -/
set_option linter.unusedVariables false
set_option linter.unusedSimpArgs false
set_option maxRecDepth 100000
namespace Go.Proofs.YtfpnhggbfakdkaaDoor
open Go.RowKit

end Go.Proofs.YtfpnhggbfakdkaaDoor

/- laws of rats that compare: a fraction's twin, what is left of it, the Book of fractions. -/
set_option linter.unusedVariables false
set_option linter.unusedSimpArgs false
set_option maxRecDepth 100000
namespace Go.Proofs.YtfpnhggbfakdkaaDoor
open Go.RowKit

end Go.Proofs.YtfpnhggbfakdkaaDoor

/- laws of rats that compare: what a call answers, by its parts. -/
set_option linter.unusedVariables false
set_option linter.unusedSimpArgs false
set_option maxRecDepth 100000
namespace Go.Proofs.YtfpnhggbfakdkaaDoor
open Go.RowKit

/-- A whole number above, and one below, in memory of their own. -/
structure PR (z : Int) (N B : Nat) (w : World) (s : Bool) (A : Option Addr) (n c : Nat) (D : Option Addr) (m k : Nat) : Prop where
  i : IntR z B w (.agg #[.bool s, .slice A n c])
  d : NatR N B w (.slice D m k)
  sp : Sep (.slice A n c) (.slice D m k)
theorem PR.below {z : Int} {N B : Nat} {w w' : World} {s : Bool} {A D : Option Addr} {n c m k : Nat} (h : PR z N B w s A n c D m k) (hb : Below w.heap.size w w') : PR z N B w' s A n c D m k := ⟨h.i.below hb, h.d.below hb, h.sp⟩
theorem PR.of {q : Rat} {B : Nat} {w : World} {s : Bool} {A D : Option Addr} {n c m k : Nat} (h : RatR q B w (.agg #[.bool s, .slice A n c, .slice D m k])) : PR q.num q.den B w s A n c D m k := by
  obtain ⟨u, d, e, h1, h2, h3⟩ := h
  cases e
  exact ⟨⟨_, rfl, h1⟩, h2, h3⟩
theorem PR.zero (B : Nat) (w : World) : PR 0 0 B w false none 0 0 none 0 0 := ⟨⟨_, rfl, NatR.zero _ _⟩, NatR.zero _ _, Sep.nil _⟩
theorem PR.len {z : Int} {N B : Nat} {w : World} {s : Bool} {A D : Option Addr} {n c m k : Nat} (h : PR z N B w s A n c D m k) : n = L z.natAbs ∧ m = L N := ⟨intR_len h.i, natR_len h.d⟩
theorem PR.next {B : Nat} {w w' : World} {es : List Ent} {z : Int} {N : Nat} {s : Bool} {A D : Option Addr} {n c m k : Nat} (h : HW B w es) (kb : Below w.heap.size w w') (r : PR z N w.heap.size w' s A n c D m k) (hB : B ≤ w.heap.size) (l1 : L z.natAbs ≤ 500000) (l2 : L N ≤ 500000) {i i' : Nat} (hk : i ≤ 100000) (hk' : i' ≤ 100000) :
    HW B w' (es ++ [⟨A, n, c, none, 0, 0, i⟩] ++ [⟨D, m, k, none, 0, 0, i'⟩]) := by
  obtain ⟨_, e1⟩ := r.i.lrow
  obtain ⟨_, e2⟩ := r.d.lrow
  exact HW.next2 h kb e1 e2 r.sp hB (by rw [r.len.1]; exact l1) (by rw [r.len.2]; exact l2) hk hk'
theorem Tw.next {B : Nat} {w w' : World} {es : List Ent} {xs ys : List Nat} {X Y : Option Addr} {n c m k : Nat} (h : HW B w es) (kb : Below w.heap.size w w') (t1 : Tw w.heap.size w' X n c xs) (t2 : Tw w.heap.size w' Y m k ys) (sp : Sep (.slice X n c) (.slice Y m k)) (hB : B ≤ w.heap.size) {i i' : Nat} (hk : i ≤ 100000) (hk' : i' ≤ 100000) :
    HW B w' (es ++ [⟨X, n, c, none, 0, 0, i⟩] ++ [⟨Y, m, k, none, 0, 0, i'⟩]) := by
  obtain ⟨_, e1⟩ := t1.lrow
  obtain ⟨_, e2⟩ := t2.lrow
  exact HW.next2 h kb e1 e2 sp hB (by have := t1.len; omega) (by have := t2.len; omega) hk hk'
/-! ### a quotient -/
def dvZ (b1 : Bool) (xs1 ys1 : List Nat) (b2 : Bool) (xs2 ys2 : List Nat) : Int := if (rok b1 xs1 ys1 && rok b2 xs2 ys2) = true then if rv b2 xs2 ys2 = 0 then 0 else (rv b1 xs1 ys1 / rv b2 xs2 ys2).num else 0
def dvN (b1 : Bool) (xs1 ys1 : List Nat) (b2 : Bool) (xs2 ys2 : List Nat) : Nat := if (rok b1 xs1 ys1 && rok b2 xs2 ys2) = true then if rv b2 xs2 ys2 = 0 then 0 else (rv b1 xs1 ys1 / rv b2 xs2 ys2).den else 0
def dvK (b1 : Bool) (xs1 ys1 : List Nat) (b2 : Bool) (xs2 ys2 : List Nat) : Int := if (rok b1 xs1 ys1 && rok b2 xs2 ys2) = true then if rv b2 xs2 ys2 = 0 then 10 else 0 else 1
section
variable {w : World} {v v' : Value} {b1 b2 : Bool} {xs1 ys1 xs2 ys2 : List Nat}
end
end Go.Proofs.YtfpnhggbfakdkaaDoor

/- laws of rats that compare: Make, Of. -/
set_option linter.unusedVariables false
set_option linter.unusedSimpArgs false
set_option maxRecDepth 100000
namespace Go.Proofs.YtfpnhggbfakdkaaDoor
open Go.RowKit

def mkZ (b1 : Bool) (xs1 : List Nat) (b2 : Bool) (xs2 : List Nat) : Int := if (iok b1 xs1 && iok b2 xs2) = true then if iv b2 xs2 = 0 then 0 else (Rat.divInt (iv b1 xs1) (iv b2 xs2)).num else 0
def mkN (b1 : Bool) (xs1 : List Nat) (b2 : Bool) (xs2 : List Nat) : Nat := if (iok b1 xs1 && iok b2 xs2) = true then if iv b2 xs2 = 0 then 0 else (Rat.divInt (iv b1 xs1) (iv b2 xs2)).den else 0
def mkK (b1 : Bool) (xs1 : List Nat) (b2 : Bool) (xs2 : List Nat) : Int := if (iok b1 xs1 && iok b2 xs2) = true then if iv b2 xs2 = 0 then 10 else 0 else 1
section
variable {w : World} {v v' : Value} {b1 b2 : Bool} {xs1 xs2 : List Nat}
end
end Go.Proofs.YtfpnhggbfakdkaaDoor
