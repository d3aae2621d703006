/- The library's contracts at this program (laid by the kit's tools). -/
import Derived.Shelf.Strings.OnBuilder
import Derived.Shelf.Strings.Trim
import Derived.Ground.Names2Prog
import Derived.Shelf.Slices.ReverseS
import Derived.Test.YthnhcbdecgkacaaDoorProg
namespace Go.Proofs
open Go.Shelf
def Tryd.lays156_ren : Go.Shelf.Ren := ⟨fun | 156 => 215 | 165 => 236 | 166 => 237 | 169 => 238 | 240 => 252 | 241 => 253 | 276 => 265 | 277 => 266 | n => n, fun | 31 => 159 | 9 => 9 | 3 => 3 | 4 => 4 | 0 => 0 | 20 => 20 | 72 => 259 | 76 => 262 | 70 => 257 | 37 => 146 | 75 => 261 | 127 => 271 | 164 => 277 | 5 => 5 | 80 => 264 | n => n, fun | n => n⟩
theorem Tryd.lays156 : Go.Proofs.Lays.n156 Tryd.prog Tryd.lays156_ren := {
  mixed := by kernel_rfl
  f156 := Tryd.func215.trans (congrArg some (by kernel_rfl))
  f165 := Tryd.func236.trans (congrArg some (by kernel_rfl))
  f166 := Tryd.func237.trans (congrArg some (by kernel_rfl))
  f169 := Tryd.func238.trans (congrArg some (by kernel_rfl))
  f240 := Tryd.func252.trans (congrArg some (by kernel_rfl))
  f241 := Tryd.func253.trans (congrArg some (by kernel_rfl))
  f276 := Tryd.func265.trans (congrArg some (by kernel_rfl))
  f277 := Tryd.func266.trans (congrArg some (by kernel_rfl))
  t0 := Tryd.underlying0
  a0 := Tryd.isAgg0
  z0 := Tryd.sizeOf0
  v0 := Tryd.zeroValue0
  t3 := Tryd.underlying3
  a3 := Tryd.isAgg3
  z3 := Tryd.sizeOf3
  v3 := Tryd.zeroValue3
  t4 := Tryd.underlying4
  a4 := Tryd.isAgg4
  z4 := Tryd.sizeOf4
  v4 := Tryd.zeroValue4
  t9 := Tryd.underlying9
  a9 := Tryd.isAgg9
  z9 := Tryd.sizeOf9
  v9 := Tryd.zeroValue9
  t20 := Tryd.underlying20
  a20 := Tryd.isAgg20
  z20 := Tryd.sizeOf20
  v20 := Tryd.zeroValue20
  t31 := Tryd.underlying159
  a31 := Tryd.isAgg159
  z31 := Tryd.sizeOf159
  v31 := Tryd.zeroValue159
  t37 := Tryd.underlying146
  a37 := Tryd.isAgg146
  z37 := Tryd.sizeOf146
  v37 := Tryd.zeroValue146
  t70 := Tryd.underlying257
  a70 := Tryd.isAgg257
  z70 := Tryd.sizeOf257
  v70 := Tryd.zeroValue257
  t72 := Tryd.underlying259
  a72 := Tryd.isAgg259
  z72 := Tryd.sizeOf259
  v72 := Tryd.zeroValue259
  t75 := Tryd.underlying261
  a75 := Tryd.isAgg261
  z75 := Tryd.sizeOf261
  v75 := Tryd.zeroValue261
  t76 := Tryd.underlying262
  a76 := Tryd.isAgg262
  z76 := Tryd.sizeOf262
  v76 := Tryd.zeroValue262
  t127 := Tryd.underlying271
  a127 := Tryd.isAgg271
  z127 := Tryd.sizeOf271
  v127 := Tryd.zeroValue271
  t164 := Tryd.underlying277
  a164 := Tryd.isAgg277
  z164 := Tryd.sizeOf277
  v164 := Tryd.zeroValue277 }
theorem Tryd.Builder_Extra_156 : Builder.Extra Tryd.prog Tryd.lays156_ren := {
  sizeBuilder := by kernel_rfl
  liesBuilder := by kernel_rfl
  t5 := Tryd.underlying5
  a5 := Tryd.isAgg5
  z5 := Tryd.sizeOf5
  v5 := Tryd.zeroValue5
  infoByte := by kernel_rfl
  cellsByte := by kernel_rfl
  sizeByte := by kernel_rfl
  neB5 := by decide }
open Go.RowKit in
/-- No element: the empty string; the world is as it was. (Whatever the slice's address and capacity: a nil slice too.) (LAID: no walk: one application.) -/
theorem Tryd.strings_Join_none (a : Option Addr) (c : Nat) (sep : ByteArray) (w : World) :
    Calls Tryd.prog 215 #[.slice a 0 c, .string sep] w fun e w' => e = .returned (.string ⟨#[]⟩) ∧ w' = w := Any.strings_Join_none Tryd.lays156 Tryd.Builder_Extra_156 a c sep w
open Go.RowKit in
/-- strings.Join: "Join concatenates the elements of its first argument to create a single string. The separator string sep is placed between elements in the resulting string.": HOWEVER MANY ELEMENTS. Below the heap's end the world is as it was. (LAID: no walk: one application.) -/
theorem Tryd.strings_Join (bk o c : Nat) (xs : List ByteArray) (sep : ByteArray) (w : World) (hcells : ∀ (j : Nat) x, xs[j]? = some x → w.cell? ⟨bk, o + j, none⟩ = some (.string x)) (hbk : bk < w.heap.size) (hN : xs.length ≤ 140737488355328) (hcap : xs.length ≤ c) (hlen : (Lib.join (xs.map (·.data.toList)) sep.data.toList).length ≤ 140737488355328) :
    Calls Tryd.prog 215 #[.slice (some ⟨bk, o, none⟩) xs.length c, .string sep] w fun e w' => e = .returned (.string ⟨(Lib.join (xs.map (·.data.toList)) sep.data.toList).toArray⟩) ∧ Below w.heap.size w w' := Any.strings_Join Tryd.lays156 Tryd.Builder_Extra_156 bk o c xs sep w hcells hbk hN hcap hlen
def Tryd.lays161_ren : Go.Shelf.Ren := ⟨fun | 161 => 214 | 231 => 232 | 227 => 233 | 233 => 234 | 235 => 235 | 228 => 249 | 197 => 250 | 151 => 251 | 260 => 263 | 152 => 264 | 137 => 271 | 119 => 272 | 224 => 273 | 225 => 274 | 217 => 280 | 266 => 282 | n => n, fun | 9 => 9 | 4 => 4 | 3 => 3 | 5 => 5 | 117 => 253 | 116 => 252 | 0 => 0 | 124 => 256 | 105 => 268 | 21 => 21 | 119 => 285 | 46 => 216 | 139 => 288 | 138 => 287 | n => n, fun | 3 => 2 | 4 => 3 | n => n⟩
theorem Tryd.lays161 : Go.Proofs.Lays.n161 Tryd.prog Tryd.lays161_ren := {
  mixed := by kernel_rfl
  f119 := Tryd.func272.trans (congrArg some (by kernel_rfl))
  f137 := Tryd.func271.trans (congrArg some (by kernel_rfl))
  f151 := Tryd.func251.trans (congrArg some (by kernel_rfl))
  f152 := Tryd.func264.trans (congrArg some (by kernel_rfl))
  f161 := Tryd.func214.trans (congrArg some (by kernel_rfl))
  f197 := Tryd.func250.trans (congrArg some (by kernel_rfl))
  f217 := Tryd.func280.trans (congrArg some (by kernel_rfl))
  f224 := Tryd.func273.trans (congrArg some (by kernel_rfl))
  f225 := Tryd.func274.trans (congrArg some (by kernel_rfl))
  f227 := Tryd.func233.trans (congrArg some (by kernel_rfl))
  f228 := Tryd.func249.trans (congrArg some (by kernel_rfl))
  f231 := Tryd.func232.trans (congrArg some (by kernel_rfl))
  f233 := Tryd.func234.trans (congrArg some (by kernel_rfl))
  f235 := Tryd.func235.trans (congrArg some (by kernel_rfl))
  f260 := Tryd.func263.trans (congrArg some (by kernel_rfl))
  f266 := Tryd.func282.trans (congrArg some (by kernel_rfl))
  t0 := Tryd.underlying0
  a0 := Tryd.isAgg0
  z0 := Tryd.sizeOf0
  v0 := Tryd.zeroValue0
  t3 := Tryd.underlying3
  a3 := Tryd.isAgg3
  z3 := Tryd.sizeOf3
  v3 := Tryd.zeroValue3
  t4 := Tryd.underlying4
  a4 := Tryd.isAgg4
  z4 := Tryd.sizeOf4
  v4 := Tryd.zeroValue4
  t5 := Tryd.underlying5
  a5 := Tryd.isAgg5
  z5 := Tryd.sizeOf5
  v5 := Tryd.zeroValue5
  t9 := Tryd.underlying9
  a9 := Tryd.isAgg9
  z9 := Tryd.sizeOf9
  v9 := Tryd.zeroValue9
  t21 := Tryd.underlying21
  a21 := Tryd.isAgg21
  z21 := Tryd.sizeOf21
  v21 := Tryd.zeroValue21
  t46 := Tryd.underlying216
  a46 := Tryd.isAgg216
  z46 := Tryd.sizeOf216
  v46 := Tryd.zeroValue216
  t105 := Tryd.underlying268
  a105 := Tryd.isAgg268
  z105 := Tryd.sizeOf268
  v105 := Tryd.zeroValue268
  t116 := Tryd.underlying252
  a116 := Tryd.isAgg252
  z116 := Tryd.sizeOf252
  t117 := Tryd.underlying253
  a117 := Tryd.isAgg253
  z117 := Tryd.sizeOf253
  v117 := Tryd.zeroValue253
  t119 := Tryd.underlying285
  a119 := Tryd.isAgg285
  z119 := Tryd.sizeOf285
  t124 := Tryd.underlying256
  a124 := Tryd.isAgg256
  z124 := Tryd.sizeOf256
  v124 := Tryd.zeroValue256
  t138 := Tryd.underlying287
  a138 := Tryd.isAgg287
  z138 := Tryd.sizeOf287
  v138 := Tryd.zeroValue287
  t139 := Tryd.underlying288
  a139 := Tryd.isAgg288
  z139 := Tryd.sizeOf288
  v139 := Tryd.zeroValue288
  g3 := by kernel_rfl
  g4 := by kernel_rfl }
open Go.RowKit in
/-- strings.TrimLeft: "TrimLeft returns a slice of the string s with all leading Unicode code points contained in cutset removed.": AT A cutset OF ONE ASCII BYTE. The world is as it was. (LAID: no walk: one application.) -/
theorem Tryd.strings_TrimLeft_one (s : ByteArray) (c : UInt8) (hc : c.toNat < 128) (w : World) :
    Calls Tryd.prog 214 #[.string s, .string ⟨#[c]⟩] w fun e w' => e = .returned (.string ⟨(Lib.trimLeftB s.data.toList c).toArray⟩) ∧ w' = w := Any.strings_TrimLeft_one Tryd.lays161 s c hc w
def Tryd.laysNm217_ren : Go.Shelf.Ren := ⟨fun | 17 => 213 | n => n, fun | 24 => 159 | 9 => 9 | 3 => 3 | 4 => 4 | 0 => 0 | n => n, fun | n => n⟩
theorem Tryd.laysNm217 : Go.Proofs.Lays2.n17 Tryd.prog Tryd.laysNm217_ren := {
  mixed := by kernel_rfl
  f17 := Tryd.func213.trans (congrArg some (by kernel_rfl))
  t0 := Tryd.underlying0
  a0 := Tryd.isAgg0
  z0 := Tryd.sizeOf0
  v0 := Tryd.zeroValue0
  t3 := Tryd.underlying3
  a3 := Tryd.isAgg3
  z3 := Tryd.sizeOf3
  v3 := Tryd.zeroValue3
  t4 := Tryd.underlying4
  a4 := Tryd.isAgg4
  z4 := Tryd.sizeOf4
  v4 := Tryd.zeroValue4
  t9 := Tryd.underlying9
  a9 := Tryd.isAgg9
  z9 := Tryd.sizeOf9
  v9 := Tryd.zeroValue9
  t24 := Tryd.underlying159
  a24 := Tryd.isAgg159
  z24 := Tryd.sizeOf159
  v24 := Tryd.zeroValue159 }
open Go.RowKit Go.Lib Go.Sort in
/-- slices.Reverse at []string: "Reverse reverses the elements of the slice in place.": THE SLICE's CELLS HOLD 'zs.reverse' BEHIND THE CALL; all else is as it was, but for the count of draws (the exchange 's[i], s[j] = s[j], s[i]' draws its order, once a round). IN THE WORDS OF slices.Sort's CONTRACT: 'Holds': the cells hold zs and none is frozen; 'putRow': the world with those cells holding another array. A slice of length 0 that is not nil is among them ('zs = []'); nil: '.._nil'. (LAID: no walk: one application.) -/
theorem Tryd.slices_Reverse_string (blk off cap : Nat) (zs : List (List UInt8)) (w : World) (hH : Holds encStr w blk off zs.toArray) (hsz : zs.length ≤ 9223372036854775807) :
    Calls Tryd.prog 213 #[.slice (some ⟨blk, off, none⟩) zs.length cap] w fun e w' => e = .returned (.tuple #[]) ∧ ∃ n, w' = putRow encStr (Sort.ahead w n) blk off zs.reverse.toArray := Any.slices_Reverse_string Tryd.laysNm217 blk off cap zs w hH hsz
open Go.RowKit Go.Lib Go.Sort in
/-- The same at a slice of length 0, a nil one too: nothing is read, nothing written, nothing drawn. (LAID: no walk: one application.) -/
theorem Tryd.slices_Reverse_string_empty (a : Option Addr) (cap : Nat) (w : World) :
    Calls Tryd.prog 213 #[.slice a 0 cap] w fun e w' => e = .returned (.tuple #[]) ∧ w' = w := Any.slices_Reverse_string_empty Tryd.laysNm217 a cap w
end Go.Proofs
