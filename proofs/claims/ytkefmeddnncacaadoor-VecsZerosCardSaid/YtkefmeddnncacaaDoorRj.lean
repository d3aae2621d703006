/- the document's answer for nats: small, up, down, Of. -/
import Derived.Test.YtkefmeddnncacaaDoorRN
import Derived.Test.YtkefmeddnncacaaDoorLi
import Derived.Test.YtkefmeddnncacaaDoorNC
set_option linter.unusedVariables false
set_option linter.unusedSimpArgs false
set_option maxRecDepth 100000
namespace Go.Proofs.YtkefmeddnncacaaDoor
open Go.RowKit

/-- By one part, in place: the parts below i are as they were. -/
structure RShort (i r b : Nat) (xs zs : List Nat) : Prop where
  s : ShortInv i r b xs zs
  low : ∀ j, j < i → zs.getD j 0 = xs.getD j 0
theorem RShort.start {b : Nat} {xs : List Nat} (h : Is32 xs) (hb : 0 < b) : RShort xs.length 0 b xs xs :=
  ⟨⟨rfl, h, hb, by rw [List.drop_length]; simp [val]⟩, fun _ _ => rfl⟩
theorem RShort.step {i r b : Nat} {xs zs : List Nat} (H : RShort (i + 1) r b xs zs) (hi : i < xs.length) (hx : Is32 xs) : RShort i ((r * 4294967296 + xs.getD i 0) % b) b xs (zs.set i ((r * 4294967296 + xs.getD i 0) / b)) :=
  ⟨H.s.step hi hx, fun j hj => by rw [bel_getD_set _ _ _ _ (by omega)]; exact H.low j (by omega)⟩
/-- A shift to the right in place. -/
structure RDn (k s : Nat) (xs zs : List Nat) : Prop where
  len : zs.length = xs.length
  far : ∀ j, k ≤ j → zs.getD j 0 = xs.getD j 0
  inv : BkInv xs.length k s xs (zs.take k ++ List.replicate (xs.length - k) 0)
theorem RDn.start (s : Nat) (xs : List Nat) : RDn 0 s xs xs := ⟨rfl, fun _ _ => rfl, by simpa using BkInv.start xs.length s xs⟩
theorem take_set_succ {zs : List Nat} {k v : Nat} (h : k < zs.length) : (zs.set k v).take (k + 1) = zs.take k ++ [v] := by
  rw [List.take_add_one, List.take_set_of_le (Nat.le_refl _), List.getElem?_set_self h]
  rfl
theorem RDn.step {k s c : Nat} {xs zs : List Nat} (H : RDn k s xs zs) (hk : k < xs.length) (hx : Is32 xs) (hs : 0 < s) (hsc : s * c = 4294967296) :
    RDn (k + 1) s xs (zs.set k (bkd (xs.getD k 0) (xs.getD (k + 1) 0) s)) := by
  have hl := H.len
  refine ⟨by rw [List.length_set, hl], fun j hj => by rw [bel_getD_set _ _ _ _ (by omega)]; exact H.far j (by omega), ?_⟩
  rw [take_set_succ (by omega)]
  have h := H.inv.step hk hx hs hsc
  have e : (zs.take k ++ List.replicate (xs.length - k) 0).set k (bkd (xs.getD k 0) (xs.getD (k + 1) 0) s) = zs.take k ++ [bkd (xs.getD k 0) (xs.getD (k + 1) 0) s] ++ List.replicate (xs.length - (k + 1)) 0 := by
    rw [show xs.length - k = xs.length - (k + 1) + 1 by omega]
    exact set_at _ _ _ _ (by rw [List.length_take]; omega)
  rw [e] at h
  exact h
theorem RDn.fin {s : Nat} {xs zs : List Nat} (H : RDn xs.length s xs zs) : Is32 zs ∧ val zs = val xs / s := by
  have h := H.inv.fin
  rw [Nat.sub_self, List.replicate_zero, List.append_nil, List.take_of_length_le (by rw [H.len]; exact Nat.le_refl _)] at h
  exact h
set_option maxHeartbeats 1000000 in
theorem kOf_ok (w : World) (n : Nat) (hn : n < 18446744073709551616) :
    Calls Tryd.prog 181 #[.int .u64 (n : Nat)] w fun e w' => ∃ v, e = .returned v ∧ NatR n w.heap.size w' v ∧ Below w.heap.size w w' := by
  refine opq fun R hR => ?_
  have K := hide (Blk.new w T32 (cellsOf .u32 [n % 4294967296, n / 4294967296]))
  have h32 : Hid (Is32 [n % 4294967296, n / 4294967296]) := is32_cons.2 ⟨Nat.mod_lt _ (by omega), is32_cons.2 ⟨by omega, is32_nil⟩⟩
  have C := hide (rtrim_ok (w.alloc (.cells (cellsOf .u32 [n % 4294967296, n / 4294967296]) T32)) (some ⟨w.heap.size, 0, none⟩) 2 2 _ (K.out.rd 2 (by simp) (by omega)) (Nat.le_refl _))
  have N := hide (natR_trim K.out h32.out (Nat.le_refl _) (n := 2) rfl (by omega))
  have ev : val [n % 4294967296, n / 4294967296] = n := by rw [val_cons, val_cons, val_nil]; omega
  rw [ev] at N
  have B := hide ((Below.refl w.heap.size w).alloc (Nat.le_refl _) (.cells (cellsOf .u32 [n % 4294967296, n / 4294967296]) T32))
  clear K h32 ev
  go_enter Tryd.func181, Tryd.ntmps181
  go_wp2_with fail
  refine C.out.mono ?_
  rintro e w' ⟨rfl, rfl⟩
  go_wp2
  exact opq_end hR ⟨_, rfl, N.out, B.out⟩
end Go.Proofs.YtkefmeddnncacaaDoor
