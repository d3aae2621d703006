/- Some answers that the document fixes (nats). -/
import Derived.Test.YtnpfochbpdfcmaaDoorND
import Derived.OwnWalk
/- the laws of nats: some answers that the document fixes. -/
set_option linter.unusedVariables false
set_option linter.unusedSimpArgs false
set_option maxRecDepth 100000
namespace Go.Proofs.YtnpfochbpdfcmaaDoor
open Go.RowKit

set_option maxHeartbeats 8000000 in
theorem alive_ok (w : World) (hT : Tab w) :
    Calls Tryd.prog 11 #[] w fun e w' => e = .returned (.bool true) ∧ Hid (Below w.heap.size w w') := by
  refine opq fun R hR => ?_
  have T := hide hT
  have b0 := hide (Below.refl w.heap.size w)
  clear hT
  go_enter Tryd.func11, Tryd.ntmps11
  have x0 := hide (lit w [0, 1] 4294967296 rfl (is32d (by decide)) (by decide) (by decide))
  have y0 := hide ((Below.refl w.heap.size w))
  have y1 := hide (y0.out.alloc y0.out.size (.cells (cellsOf .u32 [0, 1]) T32))
  go_wp2_with fail
  refine (Back_lt x0.out (by decide)).mono ?_
  rintro e w1 ⟨rfl, d1⟩
  have b1 := hide (below_tr (below_tr b0.out y1.out) d1.out)
  clear x0 y0 y1 b0
  have x0 := hide (lit w1 [0, 0, 1] 18446744073709551616 rfl (is32d (by decide)) (by decide) (by decide))
  have y0 := hide ((Below.refl w1.heap.size w1))
  have y1 := hide (y0.out.alloc y0.out.size (.cells (cellsOf .u32 [0, 0, 1]) T32))
  go_wp2_with fail
  refine (Back_ge x0.out (by decide)).mono ?_
  rintro e w2 ⟨rfl, d1⟩
  have b2 := hide (below_tr (below_tr b1.out y1.out) d1.out)
  clear x0 y0 y1 b1
  have x0 := hide ((lit w2 [1] 1 rfl (is32d (by decide)) (by decide) (by decide)).below ((Below.refl _ _).alloc (Nat.le_refl _) (.cells (cellsOf .u32 [2]) T32)))
  have x1 := hide (lit1 w2 (.cells (cellsOf .u32 [1]) T32) [2] 2 rfl (is32d (by decide)) (by decide) (by decide))
  have y0 := hide ((Below.refl w2.heap.size w2))
  have y1 := hide (y0.out.alloc y0.out.size (.cells (cellsOf .u32 [1]) T32))
  have y2 := hide (y1.out.alloc y1.out.size (.cells (cellsOf .u32 [2]) T32))
  go_wp2_with fail
  refine (Sub_lt x0.out x1.out (Nat.le_trans (L_small (by decide)) (by decide)) (Nat.le_trans (L_small (by decide)) (by decide)) (by decide)).mono ?_
  rintro e w3 ⟨rfl, d1⟩
  have b3 := hide (below_tr (below_tr b2.out y2.out) d1.out)
  clear x0 x1 y0 y1 y2 b2
  have x0 := hide ((lit w3 [7] 7 rfl (is32d (by decide)) (by decide) (by decide)).below ((Below.refl _ _).alloc (Nat.le_refl _) (.cells (cellsOf .u32 [2]) T32)))
  have x1 := hide (lit1 w3 (.cells (cellsOf .u32 [7]) T32) [2] 2 rfl (is32d (by decide)) (by decide) (by decide))
  have y0 := hide ((Below.refl w3.heap.size w3))
  have y1 := hide (y0.out.alloc y0.out.size (.cells (cellsOf .u32 [7]) T32))
  have y2 := hide (y1.out.alloc y1.out.size (.cells (cellsOf .u32 [2]) T32))
  go_wp2_with fail
  refine (Div_pos x0.out x1.out (Nat.le_trans (L_small (by decide)) (by decide)) (Nat.le_trans (L_small (by decide)) (by decide)) (by decide)).mono ?_
  rintro e w4 ⟨q, r, rfl, q1, r1, _, d1⟩
  have b4 := hide (below_tr (below_tr b3.out y2.out) d1.out)
  clear x0 x1 y0 y1 y2 b3
  have q0 := hide q1.out.can
  have r0 := hide r1.out.can
  clear q1 r1
  have x0 := hide (lit w4 [7] 7 rfl (is32d (by decide)) (by decide) (by decide))
  have y0 := hide ((Below.refl w4.heap.size w4))
  have y1 := hide (y0.out.alloc y0.out.size (.cells (cellsOf .u32 [7]) T32))
  have q0' := hide (q0.out.below y1.out)
  have r0' := hide (r0.out.below y1.out)
  go_wp2_with fail
  refine (Div_zero x0.out (can_nil _) (Nat.le_trans (L_small (by decide)) (by decide)) (Nat.le_trans (L_small (by decide)) (by decide)) rfl).mono ?_
  rintro e w5 ⟨rfl, d1⟩
  have b5 := hide (below_tr (below_tr b4.out y1.out) d1.out)
  have q02 := hide (q0'.out.below d1.out)
  have r02 := hide (r0'.out.below d1.out)
  clear q0 q0'
  have q0 := q02
  clear q02
  clear r0 r0'
  have r0 := r02
  clear r02
  clear x0 y0 y1 b4
  have y0 := hide ((Below.refl w5.heap.size w5))
  have q0' := hide (q0.out.below y0.out)
  have r0' := hide (r0.out.below y0.out)
  go_wp2_with fail
  refine (Parse_yes w5 two64 (by decide) (by decide)).mono ?_
  rintro e w6 ⟨p, rfl, p1, d1⟩
  have b6 := hide (below_tr (below_tr b5.out y0.out) d1.out)
  have q02 := hide (q0'.out.below d1.out)
  have r02 := hide (r0'.out.below d1.out)
  clear q0 q0'
  have q0 := q02
  clear q02
  clear r0 r0'
  have r0 := r02
  clear r02
  clear y0 b5
  have p0 := hide p1.out.can
  clear p1
  have y0 := hide ((Below.refl w6.heap.size w6))
  have q0' := hide (q0.out.below y0.out)
  have r0' := hide (r0.out.below y0.out)
  have p0' := hide (p0.out.below y0.out)
  go_wp2_with fail
  refine (Parse_form w6 ⟨#[48, 49]⟩ (by decide) (by decide)).mono ?_
  rintro e w7 ⟨rfl, d1⟩
  have b7 := hide (below_tr (below_tr b6.out y0.out) d1.out)
  have q02 := hide (q0'.out.below d1.out)
  have r02 := hide (r0'.out.below d1.out)
  have p02 := hide (p0'.out.below d1.out)
  clear q0 q0'
  have q0 := q02
  clear q02
  clear r0 r0'
  have r0 := r02
  clear r02
  clear p0 p0'
  have p0 := p02
  clear p02
  clear y0 b6
  have x0 := hide (lit w7 [3] 3 rfl (is32d (by decide)) (by decide) (by decide))
  have y0 := hide ((Below.refl w7.heap.size w7))
  have y1 := hide (y0.out.alloc y0.out.size (.cells (cellsOf .u32 [3]) T32))
  have q0' := hide (q0.out.below y1.out)
  have r0' := hide (r0.out.below y1.out)
  have p0' := hide (p0.out.below y1.out)
  go_wp2_with fail
  refine (Same_yes q0'.out x0.out (by decide)).mono ?_
  rintro e w8 ⟨rfl, d1⟩
  have b8 := hide (below_tr (below_tr b7.out y1.out) d1.out)
  have q02 := hide (q0'.out.below d1.out)
  have r02 := hide (r0'.out.below d1.out)
  have p02 := hide (p0'.out.below d1.out)
  clear q0 q0'
  have q0 := q02
  clear q02
  clear r0 r0'
  have r0 := r02
  clear r02
  clear p0 p0'
  have p0 := p02
  clear p02
  clear x0 y0 y1 b7
  have x0 := hide (lit w8 [1] 1 rfl (is32d (by decide)) (by decide) (by decide))
  have y0 := hide ((Below.refl w8.heap.size w8))
  have y1 := hide (y0.out.alloc y0.out.size (.cells (cellsOf .u32 [1]) T32))
  have q0' := hide (q0.out.below y1.out)
  have r0' := hide (r0.out.below y1.out)
  have p0' := hide (p0.out.below y1.out)
  go_wp2_with fail
  refine (Same_yes r0'.out x0.out (by decide)).mono ?_
  rintro e w9 ⟨rfl, d1⟩
  have b9 := hide (below_tr (below_tr b8.out y1.out) d1.out)
  have q02 := hide (q0'.out.below d1.out)
  have r02 := hide (r0'.out.below d1.out)
  have p02 := hide (p0'.out.below d1.out)
  clear q0 q0'
  have q0 := q02
  clear q02
  clear r0 r0'
  have r0 := r02
  clear r02
  clear p0 p0'
  have p0 := p02
  clear p02
  clear x0 y0 y1 b8
  have x0 := hide (lit w9 [0, 0, 1] 18446744073709551616 rfl (is32d (by decide)) (by decide) (by decide))
  have y0 := hide ((Below.refl w9.heap.size w9))
  have y1 := hide (y0.out.alloc y0.out.size (.cells (cellsOf .u32 [0, 0, 1]) T32))
  have q0' := hide (q0.out.below y1.out)
  have r0' := hide (r0.out.below y1.out)
  have p0' := hide (p0.out.below y1.out)
  go_wp2_with fail
  refine (Same_yes p0'.out x0.out (by decide)).mono ?_
  rintro e w10 ⟨rfl, d1⟩
  have b10 := hide (below_tr (below_tr b9.out y1.out) d1.out)
  have q02 := hide (q0'.out.below d1.out)
  have r02 := hide (r0'.out.below d1.out)
  have p02 := hide (p0'.out.below d1.out)
  clear q0 q0'
  have q0 := q02
  clear q02
  clear r0 r0'
  have r0 := r02
  clear r02
  clear p0 p0'
  have p0 := p02
  clear p02
  clear x0 y0 y1 b9
  have y0 := hide ((Below.refl w10.heap.size w10))
  have q0' := hide (q0.out.below y0.out)
  have r0' := hide (r0.out.below y0.out)
  have p0' := hide (p0.out.below y0.out)
  go_wp2_with fail
  refine (Text_can p0'.out (Nat.le_trans (L_le.2 (show num (byt two64) < 4294967296 ^ 3 by decide)) (by decide))).mono ?_
  rintro e w11 ⟨rfl, d1⟩
  have b11 := hide (below_tr (below_tr b10.out y0.out) d1.out)
  have q02 := hide (q0'.out.below d1.out)
  have r02 := hide (r0'.out.below d1.out)
  have p02 := hide (p0'.out.below d1.out)
  clear q0 q0'
  have q0 := q02
  clear q02
  clear r0 r0'
  have r0 := r02
  clear r02
  clear p0 p0'
  have p0 := p02
  clear p02
  clear y0 b10
  rw [txt_num (l := byt two64) (by decide), vstr_byt]
  unfold two64
  clear p0 q0 r0
  have x0 := hide ((lit w11 [4294967295] 4294967295 rfl (is32d (by decide)) (by decide) (by decide)).below ((Below.refl _ _).alloc (Nat.le_refl _) (.cells (cellsOf .u32 [1]) T32)))
  have x1 := hide (lit1 w11 (.cells (cellsOf .u32 [4294967295]) T32) [1] 1 rfl (is32d (by decide)) (by decide) (by decide))
  have y0 := hide ((Below.refl w11.heap.size w11))
  have y1 := hide (y0.out.alloc y0.out.size (.cells (cellsOf .u32 [4294967295]) T32))
  have y2 := hide (y1.out.alloc y1.out.size (.cells (cellsOf .u32 [1]) T32))
  go_wp2_with fail
  refine (Add_arg (x0.out.arg (Nat.le_trans (L_small (by decide)) (by decide))) (x1.out.arg (Nat.le_trans (L_small (by decide)) (by decide)))).mono ?_
  rintro e w12 ⟨u, rfl, u1, d1⟩
  have b12 := hide (below_tr (below_tr b11.out y2.out) d1.out)
  clear x0 x1 y0 y1 y2 b11
  have u0 := hide u1.out.can
  clear u1
  have x0 := hide (lit w12 [0, 1] 4294967296 rfl (is32d (by decide)) (by decide) (by decide))
  have y0 := hide ((Below.refl w12.heap.size w12))
  have y1 := hide (y0.out.alloc y0.out.size (.cells (cellsOf .u32 [0, 1]) T32))
  have u0' := hide (u0.out.below y1.out)
  go_wp2_with fail
  refine (Same_yes u0'.out x0.out (by decide)).mono ?_
  rintro e w13 ⟨rfl, d1⟩
  have b13 := hide (below_tr (below_tr b12.out y1.out) d1.out)
  have u02 := hide (u0'.out.below d1.out)
  clear u0 u0'
  have u0 := u02
  clear u02
  clear x0 y0 y1 b12
  clear u0
  have x0 := hide ((lit w13 [4294967295] 4294967295 rfl (is32d (by decide)) (by decide) (by decide)).below ((Below.refl _ _).alloc (Nat.le_refl _) (.cells (cellsOf .u32 [4294967295]) T32)))
  have x1 := hide (lit1 w13 (.cells (cellsOf .u32 [4294967295]) T32) [4294967295] 4294967295 rfl (is32d (by decide)) (by decide) (by decide))
  have y0 := hide ((Below.refl w13.heap.size w13))
  have y1 := hide (y0.out.alloc y0.out.size (.cells (cellsOf .u32 [4294967295]) T32))
  have y2 := hide (y1.out.alloc y1.out.size (.cells (cellsOf .u32 [4294967295]) T32))
  go_wp2_with fail
  refine (Mul_arg (x0.out.arg (Nat.le_trans (L_small (by decide)) (by decide))) (x1.out.arg (Nat.le_trans (L_small (by decide)) (by decide)))).mono ?_
  rintro e w14 ⟨u, rfl, u1, d1⟩
  have b14 := hide (below_tr (below_tr b13.out y2.out) d1.out)
  clear x0 x1 y0 y1 y2 b13
  have u0 := hide u1.out.can
  clear u1
  have x0 := hide (lit w14 [1, 4294967294] 18446744065119617025 rfl (is32d (by decide)) (by decide) (by decide))
  have y0 := hide ((Below.refl w14.heap.size w14))
  have y1 := hide (y0.out.alloc y0.out.size (.cells (cellsOf .u32 [1, 4294967294]) T32))
  have u0' := hide (u0.out.below y1.out)
  go_wp2_with fail
  refine (Same_yes u0'.out x0.out (by decide)).mono ?_
  rintro e w15 ⟨rfl, d1⟩
  have b15 := hide (below_tr (below_tr b14.out y1.out) d1.out)
  have u02 := hide (u0'.out.below d1.out)
  clear u0 u0'
  have u0 := u02
  clear u02
  clear x0 y0 y1 b14
  clear u0
  have x0 := hide ((lit w15 [12] 12 rfl (is32d (by decide)) (by decide) (by decide)).below ((Below.refl _ _).alloc (Nat.le_refl _) (.cells (cellsOf .u32 [18]) T32)))
  have x1 := hide (lit1 w15 (.cells (cellsOf .u32 [12]) T32) [18] 18 rfl (is32d (by decide)) (by decide) (by decide))
  have y0 := hide ((Below.refl w15.heap.size w15))
  have y1 := hide (y0.out.alloc y0.out.size (.cells (cellsOf .u32 [12]) T32))
  have y2 := hide (y1.out.alloc y1.out.size (.cells (cellsOf .u32 [18]) T32))
  go_wp2_with fail
  refine (Gcd_arg (x0.out.arg (Nat.le_trans (L_small (by decide)) (by decide))) (x1.out.arg (Nat.le_trans (L_small (by decide)) (by decide))) ((T.out.below b15.out).below y2.out)).mono ?_
  rintro e w16 ⟨u, rfl, u1, d1⟩
  have b16 := hide (below_tr (below_tr b15.out y2.out) d1.out)
  clear x0 x1 y0 y1 y2 b15
  have u0 := hide u1.out.can
  clear u1
  have x0 := hide (lit w16 [6] 6 rfl (is32d (by decide)) (by decide) (by decide))
  have y0 := hide ((Below.refl w16.heap.size w16))
  have y1 := hide (y0.out.alloc y0.out.size (.cells (cellsOf .u32 [6]) T32))
  have u0' := hide (u0.out.below y1.out)
  go_wp2_with fail
  refine (Same_yes u0'.out x0.out (by decide)).mono ?_
  rintro e w17 ⟨rfl, d1⟩
  have b17 := hide (below_tr (below_tr b16.out y1.out) d1.out)
  have u02 := hide (u0'.out.below d1.out)
  clear u0 u0'
  have u0 := u02
  clear u02
  clear x0 y0 y1 b16
  clear u0
  have y0 := hide ((Below.refl w17.heap.size w17))
  go_wp2_with fail
  refine (Gcd_arg (arg_nil _) (arg_nil _) (T.out.below b17.out)).mono ?_
  rintro e w18 ⟨u, rfl, u1, d1⟩
  have b18 := hide (below_tr (below_tr b17.out y0.out) d1.out)
  clear y0 b17
  have e0 : Nat.gcd 0 0 = 0 := rfl
  rw [e0] at u1
  obtain ⟨A0, c0, rfl, _⟩ := u1.out
  rw [limbs_zero]
  clear u1
  have x0 := hide (Check_ok (w18.alloc (.cells (cellsOf .u32 [0]) T32)) _ 1 1 [0] ((Blk.new w18 T32 (cellsOf .u32 [0])).rd 1 (by decide) (by decide)))
  go_wp2_with fail
  refine x0.out.mono ?_
  rintro e w' ⟨rfl, rfl⟩
  have y1 := hide (b18.out.alloc b18.out.size (.cells (cellsOf .u32 [0]) T32))
  go_wp2
  exact opq_end hR ⟨rfl, y1⟩
end Go.Proofs.YtnpfochbpdfcmaaDoor
