/- Several texts in one (wip/gen/pack.py): Shelf Oct Bytes DigL SixNV X0 Num Given Str X2 SixStrict SixNT SixNP Ext Tail SixBox App SixScan SixWhole SixRefParse StShelf SixSt. -/
import Derived.Shelf.Bits.Mul64
import Derived.Shelf.LaysM
import Derived.Shelf.Small.Bits
import Derived.Shelf.Small.Strs
import Derived.Shelf.Strconv.Itoa0
import Derived.Shelf.Strconv.Itoa1
import Derived.Shelf.Strconv.Itoa2
import Derived.Shelf.Strconv.Itoa3
import Derived.Shelf.Strings.Builder1
import Derived.Shelf.Strings.Builder2
import Derived.Shelf.Strings.BuilderF
import Derived.Shelf.Strings.Count
import Derived.Shelf.Strings.Cut
import Derived.Shelf.Strings.OnBuilder
import Derived.Shelf.Strings.Prefix
import Derived.Shelf.Strings.Repeat
import Derived.Shelf.Strings.Replace
import Derived.Shelf.Strings.RuneCount
import Derived.Shelf.Strings.Search1
import Derived.Shelf.Strings.Search2
import Derived.Shelf.Strings.Search3
import Derived.Shelf.Strings.Shaped
import Derived.Shelf.Strings.Split
import Derived.Shelf.Strings.SplitShaped
import Derived.Shelf.Unicode.DecodeSlow
import Derived.Test.YtcgdjnmfeibnoaaDoorProg
import Derived.Test.YtcgdjnmfeibnoaaDoorWWords
import Derived.WalkLawsBesides
import Derived.WalkSpells
import Derived.IntWalk
import Derived.Lib.IndexMore
import Derived.Lib.SlTrimSet
import Derived.Lib.SplitLaws
import Derived.ArgAppend
import Derived.Below
import Derived.BigQuiet
import Derived.Deep.AppendLies
import Derived.Deep.CutBlock
import Derived.Deep.DeepCutAuto
import Derived.Deep.Draws
import Derived.Deep.LoopGhost
import Derived.Deep.OwnRows
import Derived.Deep.QuietTactic
import Derived.Deep.RegionHeld3
import Derived.Handy
import Derived.KernelRfl
import Derived.Laws.BitsLemmas
import Derived.Laws.BytesArg
import Derived.Laws.IdiomCopy
import Derived.Laws.MakeOwn
import Derived.Laws.OwnMore
import Derived.Laws.Rows
import Derived.Laws.Slices
import Derived.Lib.AppendStr
import Derived.Lib.ConvBytes
import Derived.Maps.AppendAt
import Derived.OrdersHeld
import Derived.OwnWalk
import Derived.ProofKit
import Derived.RowKit
import Derived.RowKit3
import Derived.Tactics
import Derived.Test.YtcgdjnmfeibnoaaDoorWApart
import Derived.Test.YtcgdjnmfeibnoaaDoorWArr
import Derived.Test.YtcgdjnmfeibnoaaDoorWAt
import Derived.Test.YtcgdjnmfeibnoaaDoorWEqStruct
import Derived.Test.YtcgdjnmfeibnoaaDoorWFoot
import Derived.Test.YtcgdjnmfeibnoaaDoorWFootNe
import Derived.Test.YtcgdjnmfeibnoaaDoorWFour
import Derived.Test.YtcgdjnmfeibnoaaDoorWGuard
import Derived.Test.YtcgdjnmfeibnoaaDoorWInv
import Derived.Test.YtcgdjnmfeibnoaaDoorWInvWords
import Derived.Test.YtcgdjnmfeibnoaaDoorWKept
import Derived.Test.YtcgdjnmfeibnoaaDoorWLast
import Derived.Test.YtcgdjnmfeibnoaaDoorWMore
import Derived.Test.YtcgdjnmfeibnoaaDoorWN
import Derived.Test.YtcgdjnmfeibnoaaDoorWNEv
import Derived.Test.YtcgdjnmfeibnoaaDoorWQPut
import Derived.Test.YtcgdjnmfeibnoaaDoorWRepsOne
import Derived.Test.YtcgdjnmfeibnoaaDoorWShare
import Derived.Test.YtcgdjnmfeibnoaaDoorWTab
import Derived.Test.YtcgdjnmfeibnoaaDoorWZeros
import Derived.WalkKit
import Derived.WideLaws
import Derived.Laws.Externs
import Derived.Outline
import Derived.Lib.AppendIntMem
import Derived.Lib.OwnBridge
import Derived.Lib.TrailingZeros
import Derived.Shelf.RegionOpenPlain
import Derived.Shelf.Strings.SlTrimAscii
import Derived.Laws.BitsAllLaws
import Derived.Test.YtcgdjnmfeibnoaaDoorRows
import Derived.Deep.Quiet
import Derived.StillTail
import Derived.Deep.WholeRow
import Derived.Lib.Builder
import Derived.Shelf.SlicesQ.IndexFunc
/-! Shelf -/
namespace Go.Proofs
open Go.Shelf
def Tryd.lays156_ren : Go.Shelf.Ren := ⟨fun | 156 => 70 | 165 => 107 | 166 => 97 | 169 => 78 | 240 => 113 | 241 => 137 | 276 => 142 | 277 => 153 | n => n, fun | 31 => 70 | 9 => 9 | 3 => 3 | 4 => 4 | 0 => 0 | 20 => 20 | 72 => 126 | 76 => 148 | 70 => 123 | 37 => 124 | 75 => 128 | 127 => 165 | 164 => 186 | 5 => 5 | 80 => 130 | n => n, fun | n => n⟩
theorem Tryd.lays156 : Go.Proofs.Lays.n156 Tryd.prog Tryd.lays156_ren := {
  mixed := by kernel_rfl
  f156 := Tryd.func70.trans (congrArg some (by kernel_rfl))
  f165 := Tryd.func107.trans (congrArg some (by kernel_rfl))
  f166 := Tryd.func97.trans (congrArg some (by kernel_rfl))
  f169 := Tryd.func78.trans (congrArg some (by kernel_rfl))
  f240 := Tryd.func113.trans (congrArg some (by kernel_rfl))
  f241 := Tryd.func137.trans (congrArg some (by kernel_rfl))
  f276 := Tryd.func142.trans (congrArg some (by kernel_rfl))
  f277 := Tryd.func153.trans (congrArg some (by kernel_rfl))
  t0 := Tryd.underlying0
  a0 := Tryd.isAgg0
  z0 := Tryd.sizeOf0
  v0 := Tryd.zeroValue0
  t3 := Tryd.underlying3
  a3 := Tryd.isAgg3
  z3 := Tryd.sizeOf3
  v3 := Tryd.zeroValue3
  t4 := Tryd.underlying4
  a4 := Tryd.isAgg4
  z4 := Tryd.sizeOf4
  v4 := Tryd.zeroValue4
  t9 := Tryd.underlying9
  a9 := Tryd.isAgg9
  z9 := Tryd.sizeOf9
  v9 := Tryd.zeroValue9
  t20 := Tryd.underlying20
  a20 := Tryd.isAgg20
  z20 := Tryd.sizeOf20
  v20 := Tryd.zeroValue20
  t31 := Tryd.underlying70
  a31 := Tryd.isAgg70
  z31 := Tryd.sizeOf70
  v31 := Tryd.zeroValue70
  t37 := Tryd.underlying124
  a37 := Tryd.isAgg124
  z37 := Tryd.sizeOf124
  v37 := Tryd.zeroValue124
  t70 := Tryd.underlying123
  a70 := Tryd.isAgg123
  z70 := Tryd.sizeOf123
  v70 := Tryd.zeroValue123
  t72 := Tryd.underlying126
  a72 := Tryd.isAgg126
  z72 := Tryd.sizeOf126
  v72 := Tryd.zeroValue126
  t75 := Tryd.underlying128
  a75 := Tryd.isAgg128
  z75 := Tryd.sizeOf128
  v75 := Tryd.zeroValue128
  t76 := Tryd.underlying148
  a76 := Tryd.isAgg148
  z76 := Tryd.sizeOf148
  v76 := Tryd.zeroValue148
  t127 := Tryd.underlying165
  a127 := Tryd.isAgg165
  z127 := Tryd.sizeOf165
  v127 := Tryd.zeroValue165
  t164 := Tryd.underlying186
  a164 := Tryd.isAgg186
  z164 := Tryd.sizeOf186
  v164 := Tryd.zeroValue186 }
theorem Tryd.Builder_Extra_156 : Builder.Extra Tryd.prog Tryd.lays156_ren := {
  sizeBuilder := by kernel_rfl
  liesBuilder := by kernel_rfl
  t5 := Tryd.underlying5
  a5 := Tryd.isAgg5
  z5 := Tryd.sizeOf5
  v5 := Tryd.zeroValue5
  infoByte := by kernel_rfl
  cellsByte := by kernel_rfl
  sizeByte := by kernel_rfl
  neB5 := by decide }
open Go.RowKit in
/-- No element: the empty string; the world is as it was. (Whatever the slice's address and capacity: a nil slice too.) (LAID: no walk: one application.) -/
theorem Tryd.strings_Join_none (a : Option Addr) (c : Nat) (sep : ByteArray) (w : World) :
    Calls Tryd.prog 70 #[.slice a 0 c, .string sep] w fun e w' => e = .returned (.string ⟨#[]⟩) ∧ w' = w := Any.strings_Join_none Tryd.lays156 Tryd.Builder_Extra_156 a c sep w
open Go.RowKit in
/-- strings.Join: "Join concatenates the elements of its first argument to create a single string. The separator string sep is placed between elements in the resulting string.": HOWEVER MANY ELEMENTS. Below the heap's end the world is as it was. (LAID: no walk: one application.) -/
theorem Tryd.strings_Join (bk o c : Nat) (xs : List ByteArray) (sep : ByteArray) (w : World) (hcells : ∀ (j : Nat) x, xs[j]? = some x → w.cell? ⟨bk, o + j, none⟩ = some (.string x)) (hbk : bk < w.heap.size) (hN : xs.length ≤ 140737488355328) (hcap : xs.length ≤ c) (hlen : (Lib.join (xs.map (·.data.toList)) sep.data.toList).length ≤ 140737488355328) :
    Calls Tryd.prog 70 #[.slice (some ⟨bk, o, none⟩) xs.length c, .string sep] w fun e w' => e = .returned (.string ⟨(Lib.join (xs.map (·.data.toList)) sep.data.toList).toArray⟩) ∧ Below w.heap.size w w' := Any.strings_Join Tryd.lays156 Tryd.Builder_Extra_156 bk o c xs sep w hcells hbk hN hcap hlen
def Tryd.lays137_ren : Go.Shelf.Ren := ⟨fun | 137 => 119 | 217 => 143 | 266 => 158 | n => n, fun | 9 => 9 | 5 => 5 | 3 => 3 | n => n, fun | n => n⟩
theorem Tryd.lays137 : Go.Proofs.Lays.n137 Tryd.prog Tryd.lays137_ren := {
  mixed := by kernel_rfl
  f137 := Tryd.func119.trans (congrArg some (by kernel_rfl))
  f217 := Tryd.func143.trans (congrArg some (by kernel_rfl))
  f266 := Tryd.func158.trans (congrArg some (by kernel_rfl))
  t3 := Tryd.underlying3
  a3 := Tryd.isAgg3
  z3 := Tryd.sizeOf3
  v3 := Tryd.zeroValue3
  t5 := Tryd.underlying5
  a5 := Tryd.isAgg5
  z5 := Tryd.sizeOf5
  v5 := Tryd.zeroValue5
  t9 := Tryd.underlying9
  a9 := Tryd.isAgg9
  z9 := Tryd.sizeOf9
  v9 := Tryd.zeroValue9 }
open Go.RowKit in
/-- strings.IndexByte: "IndexByte returns the index of the first instance of c in s, or -1 if c is not present in s.": IT RETURNS 'Lib.indexByte s c'; the world is as it was. (LAID: no walk: one application.) -/
theorem Tryd.strings_IndexByte (s : ByteArray) (c : Int) (w : World) :
    Calls Tryd.prog 119 #[.string s, .int .u8 c] w fun e w' => e = .returned (.int .i64 (Lib.indexByte s.data.toList c.toNat.toUInt8)) ∧ w' = w := Any.strings_IndexByte Tryd.lays137 s c w
def Tryd.laysM171_ren : Go.Shelf.Ren := ⟨fun | 171 => 111 | 243 => 138 | 246 => 154 | 283 => 161 | 284 => 162 | 285 => 163 | 286 => 164 | 129 => 133 | 317 => 165 | 318 => 166 | 319 => 167 | 320 => 168 | 337 => 169 | 338 => 116 | n => n, fun | 3 => 3 | 9 => 9 | 2 => 2 | 4 => 4 | 171 => 203 | 0 => 0 | 53 => 72 | 37 => 124 | 5 => 5 | 173 => 205 | 212 => 212 | 51 => 119 | 20 => 20 | 213 => 213 | 46 => 138 | 232 => 214 | 233 => 188 | n => n, fun | 17 => 4 | 18 => 5 | 19 => 0 | n => n⟩
theorem Tryd.laysM171 : Go.Proofs.LaysM.n171 Tryd.prog Tryd.laysM171_ren := {
  mixed := by kernel_rfl
  f129 := Tryd.func133.trans (congrArg some (by kernel_rfl))
  f171 := Tryd.func111.trans (congrArg some (by kernel_rfl))
  f243 := Tryd.func138.trans (congrArg some (by kernel_rfl))
  f246 := Tryd.func154.trans (congrArg some (by kernel_rfl))
  f283 := Tryd.func161.trans (congrArg some (by kernel_rfl))
  f284 := Tryd.func162.trans (congrArg some (by kernel_rfl))
  f285 := Tryd.func163.trans (congrArg some (by kernel_rfl))
  f286 := Tryd.func164.trans (congrArg some (by kernel_rfl))
  f317 := Tryd.func165.trans (congrArg some (by kernel_rfl))
  f318 := Tryd.func166.trans (congrArg some (by kernel_rfl))
  f319 := Tryd.func167.trans (congrArg some (by kernel_rfl))
  f320 := Tryd.func168.trans (congrArg some (by kernel_rfl))
  f337 := Tryd.func169.trans (congrArg some (by kernel_rfl))
  f338 := Tryd.func116.trans (congrArg some (by kernel_rfl))
  t0 := Tryd.underlying0
  a0 := Tryd.isAgg0
  z0 := Tryd.sizeOf0
  v0 := Tryd.zeroValue0
  t2 := Tryd.underlying2
  a2 := Tryd.isAgg2
  z2 := Tryd.sizeOf2
  v2 := Tryd.zeroValue2
  t3 := Tryd.underlying3
  a3 := Tryd.isAgg3
  z3 := Tryd.sizeOf3
  v3 := Tryd.zeroValue3
  t4 := Tryd.underlying4
  a4 := Tryd.isAgg4
  z4 := Tryd.sizeOf4
  v4 := Tryd.zeroValue4
  t5 := Tryd.underlying5
  a5 := Tryd.isAgg5
  z5 := Tryd.sizeOf5
  v5 := Tryd.zeroValue5
  t9 := Tryd.underlying9
  a9 := Tryd.isAgg9
  z9 := Tryd.sizeOf9
  v9 := Tryd.zeroValue9
  t20 := Tryd.underlying20
  a20 := Tryd.isAgg20
  z20 := Tryd.sizeOf20
  v20 := Tryd.zeroValue20
  t37 := Tryd.underlying124
  a37 := Tryd.isAgg124
  z37 := Tryd.sizeOf124
  v37 := Tryd.zeroValue124
  t46 := Tryd.underlying138
  a46 := Tryd.isAgg138
  z46 := Tryd.sizeOf138
  v46 := Tryd.zeroValue138
  t51 := Tryd.underlying119
  a51 := Tryd.isAgg119
  z51 := Tryd.sizeOf119
  v51 := Tryd.zeroValue119
  t53 := Tryd.underlying72
  a53 := Tryd.isAgg72
  z53 := Tryd.sizeOf72
  v53 := Tryd.zeroValue72
  t171 := Tryd.underlying203
  a171 := Tryd.isAgg203
  z171 := Tryd.sizeOf203
  v171 := Tryd.zeroValue203
  t173 := Tryd.underlying205
  a173 := Tryd.isAgg205
  z173 := Tryd.sizeOf205
  v173 := Tryd.zeroValue205
  t212 := Tryd.underlying212
  a212 := Tryd.isAgg212
  z212 := Tryd.sizeOf212
  v212 := Tryd.zeroValue212
  t213 := Tryd.underlying213
  a213 := Tryd.isAgg213
  z213 := Tryd.sizeOf213
  t232 := Tryd.underlying214
  a232 := Tryd.isAgg214
  z232 := Tryd.sizeOf214
  v232 := Tryd.zeroValue214
  t233 := Tryd.underlying188
  a233 := Tryd.isAgg188
  z233 := Tryd.sizeOf188
  v233 := Tryd.zeroValue188
  g17 := by kernel_rfl
  g18 := by kernel_rfl
  g19 := by kernel_rfl
  i0 := by kernel_rfl
  i2 := by kernel_rfl
  i3 := by kernel_rfl
  i4 := by kernel_rfl
  i5 := by kernel_rfl
  i9 := by kernel_rfl
  i20 := by kernel_rfl
  i37 := by kernel_rfl
  i46 := by kernel_rfl
  i51 := by kernel_rfl
  i53 := by kernel_rfl
  i171 := by kernel_rfl
  i173 := by kernel_rfl
  i212 := by kernel_rfl
  i232 := by kernel_rfl
  i233 := by kernel_rfl
  m17 := by kernel_rfl
  m18 := by kernel_rfl
  m19 := by kernel_rfl }
open Go.RowKit Go.Sort Go.Lib in
/-- strconv.Itoa: "Itoa is equivalent to FormatInt(int64(i), 10).": i's DECIMAL NUMERAL ('Lib.itoa': a '-' where i is negative, then the digits), FOR EVERY int. The world behind the call: the world before it, new blocks behind the heap (the library's 'var a [24]byte'), draws. (LAID: no walk: one application.) -/
theorem Tryd.strconv_Itoa (n : Int) (h0 : -9223372036854775808 ≤ n) (h1 : n ≤ 9223372036854775807) (w : World) (htab : Lib.TabIs Tryd.prog w "internal/strconv.uint64pow10" .u64 Lib.pow10Tab) :
    Calls Tryd.prog 111 #[.int .i64 n] w fun e w' => e = .returned (.string ⟨(Lib.itoa n).toArray⟩) ∧ ∃ k os, w' = grow (w.drewN k) os := Any.strconv_Itoa Tryd.laysM171 n h0 h1 w htab
def Tryd.lays219_ren : Go.Shelf.Ren := ⟨fun | 219 => 120 | 217 => 143 | 225 => 144 | 224 => 145 | 267 => 146 | 266 => 158 | 314 => 159 | n => n, fun | 9 => 9 | 3 => 3 | 4 => 4 | 5 => 5 | 46 => 138 | 146 => 182 | 51 => 119 | n => n, fun | 1 => 1 | n => n⟩
theorem Tryd.lays219 : Go.Proofs.Lays.n219 Tryd.prog Tryd.lays219_ren := {
  mixed := by kernel_rfl
  f217 := Tryd.func143.trans (congrArg some (by kernel_rfl))
  f219 := Tryd.func120.trans (congrArg some (by kernel_rfl))
  f224 := Tryd.func145.trans (congrArg some (by kernel_rfl))
  f225 := Tryd.func144.trans (congrArg some (by kernel_rfl))
  f266 := Tryd.func158.trans (congrArg some (by kernel_rfl))
  f267 := Tryd.func146.trans (congrArg some (by kernel_rfl))
  f314 := Tryd.func159.trans (congrArg some (by kernel_rfl))
  t3 := Tryd.underlying3
  a3 := Tryd.isAgg3
  z3 := Tryd.sizeOf3
  v3 := Tryd.zeroValue3
  t4 := Tryd.underlying4
  a4 := Tryd.isAgg4
  z4 := Tryd.sizeOf4
  v4 := Tryd.zeroValue4
  t5 := Tryd.underlying5
  a5 := Tryd.isAgg5
  z5 := Tryd.sizeOf5
  v5 := Tryd.zeroValue5
  t9 := Tryd.underlying9
  a9 := Tryd.isAgg9
  z9 := Tryd.sizeOf9
  v9 := Tryd.zeroValue9
  t46 := Tryd.underlying138
  a46 := Tryd.isAgg138
  z46 := Tryd.sizeOf138
  v46 := Tryd.zeroValue138
  t51 := Tryd.underlying119
  a51 := Tryd.isAgg119
  z51 := Tryd.sizeOf119
  v51 := Tryd.zeroValue119
  t146 := Tryd.underlying182
  a146 := Tryd.isAgg182
  z146 := Tryd.sizeOf182
  v146 := Tryd.zeroValue182
  g1 := by kernel_rfl }
open Go.RowKit Go.Lib in
/-- internal/stringslite.Index (what strings.Index calls) AT A substr OF ONE BYTE c: IT RETURNS 'Lib.indexByte s c'; the world is as it was. (LAID: no walk: one application.) -/
theorem Tryd.stringslite_Index_one (s : ByteArray) (c : UInt8) (w : World) :
    Calls Tryd.prog 120 #[.string s, .string ⟨#[c]⟩] w fun e w' => e = .returned (.int .i64 (Lib.indexByte s.data.toList c)) ∧ w' = w := Any.stringslite_Index_one Tryd.lays219 s c w
def Tryd.lays145_ren : Go.Shelf.Ren := ⟨fun | 145 => 45 | 220 => 88 | 219 => 120 | 217 => 143 | 225 => 144 | 224 => 145 | 267 => 146 | 266 => 158 | 314 => 159 | n => n, fun | 9 => 9 | 4 => 4 | 59 => 85 | 3 => 3 | 5 => 5 | 46 => 138 | 146 => 182 | 51 => 119 | n => n, fun | 1 => 1 | n => n⟩
theorem Tryd.lays145 : Go.Proofs.Lays.n145 Tryd.prog Tryd.lays145_ren := {
  mixed := by kernel_rfl
  f145 := Tryd.func45.trans (congrArg some (by kernel_rfl))
  f217 := Tryd.func143.trans (congrArg some (by kernel_rfl))
  f219 := Tryd.func120.trans (congrArg some (by kernel_rfl))
  f220 := Tryd.func88.trans (congrArg some (by kernel_rfl))
  f224 := Tryd.func145.trans (congrArg some (by kernel_rfl))
  f225 := Tryd.func144.trans (congrArg some (by kernel_rfl))
  f266 := Tryd.func158.trans (congrArg some (by kernel_rfl))
  f267 := Tryd.func146.trans (congrArg some (by kernel_rfl))
  f314 := Tryd.func159.trans (congrArg some (by kernel_rfl))
  t3 := Tryd.underlying3
  a3 := Tryd.isAgg3
  z3 := Tryd.sizeOf3
  v3 := Tryd.zeroValue3
  t4 := Tryd.underlying4
  a4 := Tryd.isAgg4
  z4 := Tryd.sizeOf4
  v4 := Tryd.zeroValue4
  t5 := Tryd.underlying5
  a5 := Tryd.isAgg5
  z5 := Tryd.sizeOf5
  v5 := Tryd.zeroValue5
  t9 := Tryd.underlying9
  a9 := Tryd.isAgg9
  z9 := Tryd.sizeOf9
  v9 := Tryd.zeroValue9
  t46 := Tryd.underlying138
  a46 := Tryd.isAgg138
  z46 := Tryd.sizeOf138
  v46 := Tryd.zeroValue138
  t51 := Tryd.underlying119
  a51 := Tryd.isAgg119
  z51 := Tryd.sizeOf119
  v51 := Tryd.zeroValue119
  t59 := Tryd.underlying85
  a59 := Tryd.isAgg85
  z59 := Tryd.sizeOf85
  v59 := Tryd.zeroValue85
  t146 := Tryd.underlying182
  a146 := Tryd.isAgg182
  z146 := Tryd.sizeOf182
  v146 := Tryd.zeroValue182
  g1 := by kernel_rfl }
open Go.RowKit Go.Lib in
/-- strings.Cut: "Cut slices s around the first instance of sep, returning the text before and after sep. The found result reports whether sep appears in s. If sep does not appear in s, cut returns s, "", false.": IT RETURNS 'Lib.cut s sep'; the world is as it was but for the count of draws. (LAID: no walk: one application.) -/
theorem Tryd.strings_Cut (s sep : ByteArray) (m : Int) (w : World) (hs : s.size < 4294967281) (hm : w.cell? ⟨1, 0, none⟩ = some (.int .i64 m)) :
    Calls Tryd.prog 45 #[.string s, .string sep] w fun e w' => e = .returned (.tuple #[.string ⟨(Lib.cut s.data.toList sep.data.toList).1.toArray⟩, .string ⟨(Lib.cut s.data.toList sep.data.toList).2.1.toArray⟩, .bool (Lib.cut s.data.toList sep.data.toList).2.2]) ∧ ∃ n, w' = w.drewN n := Any.strings_Cut Tryd.lays145 s sep m w hs hm
def Tryd.laysM219_ren : Go.Shelf.Ren := ⟨fun | 219 => 120 | 217 => 143 | 225 => 144 | 224 => 145 | 267 => 146 | 266 => 158 | 314 => 159 | n => n, fun | 9 => 9 | 3 => 3 | 4 => 4 | 5 => 5 | 46 => 138 | 146 => 182 | 51 => 119 | n => n, fun | 1 => 1 | n => n⟩
theorem Tryd.laysM219 : Go.Proofs.LaysM.n219 Tryd.prog Tryd.laysM219_ren := {
  mixed := by kernel_rfl
  f217 := Tryd.func143.trans (congrArg some (by kernel_rfl))
  f219 := Tryd.func120.trans (congrArg some (by kernel_rfl))
  f224 := Tryd.func145.trans (congrArg some (by kernel_rfl))
  f225 := Tryd.func144.trans (congrArg some (by kernel_rfl))
  f266 := Tryd.func158.trans (congrArg some (by kernel_rfl))
  f267 := Tryd.func146.trans (congrArg some (by kernel_rfl))
  f314 := Tryd.func159.trans (congrArg some (by kernel_rfl))
  t3 := Tryd.underlying3
  a3 := Tryd.isAgg3
  z3 := Tryd.sizeOf3
  v3 := Tryd.zeroValue3
  t4 := Tryd.underlying4
  a4 := Tryd.isAgg4
  z4 := Tryd.sizeOf4
  v4 := Tryd.zeroValue4
  t5 := Tryd.underlying5
  a5 := Tryd.isAgg5
  z5 := Tryd.sizeOf5
  v5 := Tryd.zeroValue5
  t9 := Tryd.underlying9
  a9 := Tryd.isAgg9
  z9 := Tryd.sizeOf9
  v9 := Tryd.zeroValue9
  t46 := Tryd.underlying138
  a46 := Tryd.isAgg138
  z46 := Tryd.sizeOf138
  v46 := Tryd.zeroValue138
  t51 := Tryd.underlying119
  a51 := Tryd.isAgg119
  z51 := Tryd.sizeOf119
  v51 := Tryd.zeroValue119
  t146 := Tryd.underlying182
  a146 := Tryd.isAgg182
  z146 := Tryd.sizeOf182
  v146 := Tryd.zeroValue182
  g1 := by kernel_rfl
  i3 := by kernel_rfl
  i4 := by kernel_rfl
  i5 := by kernel_rfl
  i9 := by kernel_rfl
  i46 := by kernel_rfl
  i51 := by kernel_rfl
  i146 := by kernel_rfl
  m1 := by kernel_rfl
  s1_3 := fun w h => Go.Proofs.cell_of_shapedOpen_int (zero := #[.int .i64 0]) (t := 3) h (of_decide_eq_true (by kernel_rfl)) (by kernel_rfl) rfl (by kernel_rfl) (by kernel_rfl) Tryd.underlying3 }
def Tryd.lays146_ren : Go.Shelf.Ren := ⟨fun | 146 => 89 | 221 => 121 | 268 => 147 | 138 => 139 | 143 => 140 | 195 => 155 | 197 => 141 | 218 => 156 | 219 => 120 | 260 => 157 | 217 => 143 | 225 => 144 | 224 => 145 | 267 => 146 | 266 => 158 | 314 => 159 | n => n, fun | 9 => 9 | 31 => 70 | 3 => 3 | 4 => 4 | 0 => 0 | 105 => 184 | 21 => 21 | 5 => 5 | 46 => 138 | 119 => 207 | 139 => 210 | 138 => 209 | 146 => 182 | 51 => 119 | n => n, fun | 1 => 1 | 3 => 2 | 4 => 3 | n => n⟩
theorem Tryd.lays146 : Go.Proofs.Lays.n146 Tryd.prog Tryd.lays146_ren := {
  mixed := by kernel_rfl
  f138 := Tryd.func139.trans (congrArg some (by kernel_rfl))
  f143 := Tryd.func140.trans (congrArg some (by kernel_rfl))
  f146 := Tryd.func89.trans (congrArg some (by kernel_rfl))
  f195 := Tryd.func155.trans (congrArg some (by kernel_rfl))
  f197 := Tryd.func141.trans (congrArg some (by kernel_rfl))
  f217 := Tryd.func143.trans (congrArg some (by kernel_rfl))
  f218 := Tryd.func156.trans (congrArg some (by kernel_rfl))
  f219 := Tryd.func120.trans (congrArg some (by kernel_rfl))
  f221 := Tryd.func121.trans (congrArg some (by kernel_rfl))
  f224 := Tryd.func145.trans (congrArg some (by kernel_rfl))
  f225 := Tryd.func144.trans (congrArg some (by kernel_rfl))
  f260 := Tryd.func157.trans (congrArg some (by kernel_rfl))
  f266 := Tryd.func158.trans (congrArg some (by kernel_rfl))
  f267 := Tryd.func146.trans (congrArg some (by kernel_rfl))
  f268 := Tryd.func147.trans (congrArg some (by kernel_rfl))
  f314 := Tryd.func159.trans (congrArg some (by kernel_rfl))
  t0 := Tryd.underlying0
  a0 := Tryd.isAgg0
  z0 := Tryd.sizeOf0
  v0 := Tryd.zeroValue0
  t3 := Tryd.underlying3
  a3 := Tryd.isAgg3
  z3 := Tryd.sizeOf3
  v3 := Tryd.zeroValue3
  t4 := Tryd.underlying4
  a4 := Tryd.isAgg4
  z4 := Tryd.sizeOf4
  v4 := Tryd.zeroValue4
  t5 := Tryd.underlying5
  a5 := Tryd.isAgg5
  z5 := Tryd.sizeOf5
  v5 := Tryd.zeroValue5
  t9 := Tryd.underlying9
  a9 := Tryd.isAgg9
  z9 := Tryd.sizeOf9
  v9 := Tryd.zeroValue9
  t21 := Tryd.underlying21
  a21 := Tryd.isAgg21
  z21 := Tryd.sizeOf21
  v21 := Tryd.zeroValue21
  t31 := Tryd.underlying70
  a31 := Tryd.isAgg70
  z31 := Tryd.sizeOf70
  v31 := Tryd.zeroValue70
  t46 := Tryd.underlying138
  a46 := Tryd.isAgg138
  z46 := Tryd.sizeOf138
  v46 := Tryd.zeroValue138
  t51 := Tryd.underlying119
  a51 := Tryd.isAgg119
  z51 := Tryd.sizeOf119
  v51 := Tryd.zeroValue119
  t105 := Tryd.underlying184
  a105 := Tryd.isAgg184
  z105 := Tryd.sizeOf184
  v105 := Tryd.zeroValue184
  t119 := Tryd.underlying207
  a119 := Tryd.isAgg207
  z119 := Tryd.sizeOf207
  t138 := Tryd.underlying209
  a138 := Tryd.isAgg209
  z138 := Tryd.sizeOf209
  v138 := Tryd.zeroValue209
  t139 := Tryd.underlying210
  a139 := Tryd.isAgg210
  z139 := Tryd.sizeOf210
  v139 := Tryd.zeroValue210
  t146 := Tryd.underlying182
  a146 := Tryd.isAgg182
  z146 := Tryd.sizeOf182
  v146 := Tryd.zeroValue182
  g1 := by kernel_rfl
  g3 := by kernel_rfl
  g4 := by kernel_rfl }
open Go.RowKit Go.Lib in
/-- strings.Split. (LAID: no walk: one application.) -/
theorem Tryd.strings_Split (s sep : ByteArray) (m : Int) (w : World) (hs : s.size < 4294967281) (hm : w.cell? ⟨1, 0, none⟩ = some (.int .i64 m)) (h1 : 1 ≤ sep.size) :
    Calls Tryd.prog 89 #[.string s, .string sep] w fun e w' =>
      e = .returned (.slice (some ⟨w.heap.size, 0, none⟩) (Lib.countB s sep + 1) (Lib.countB s sep + 1)) ∧ w' = w.alloc (.cells ((Lib.splitB sep 0 (Lib.countB s sep) s).map Value.string).toArray 9) := Any.strings_Split Tryd.lays146 (by kernel_rfl) s sep m w hs hm h1
def Tryd.lays264_ren : Go.Shelf.Ren := ⟨fun | 264 => 122 | n => n, fun | 53 => 72 | 46 => 138 | n => n, fun | n => n⟩
theorem Tryd.lays264 : Go.Proofs.Lays.n264 Tryd.prog Tryd.lays264_ren := {
  mixed := by kernel_rfl
  f264 := Tryd.func122.trans (congrArg some (by kernel_rfl))
  t46 := Tryd.underlying138
  a46 := Tryd.isAgg138
  z46 := Tryd.sizeOf138
  v46 := Tryd.zeroValue138
  t53 := Tryd.underlying72
  a53 := Tryd.isAgg72
  z53 := Tryd.sizeOf72
  v53 := Tryd.zeroValue72 }
open Go.RowKit Go.Lib in
theorem Tryd.bits_Mul64 (x y : Nat) (hx : x < 18446744073709551616) (hy : y < 18446744073709551616) (w : World) :
    Calls Tryd.prog 122 #[.int .u64 x, .int .u64 y] w fun e w' => e = .returned (.tuple #[.int .u64 ((x * y / 18446744073709551616 : Nat) : Int), .int .u64 ((x * y % 18446744073709551616 : Nat) : Int)]) ∧ w' = w := Any.bits_Mul64 Tryd.lays264 x y hx hy w
def Tryd.lays105_ren : Go.Shelf.Ren := ⟨fun | 105 => 69 | 212 => 105 | 99 => 106 | 165 => 107 | 166 => 97 | 170 => 108 | 169 => 78 | 263 => 135 | 264 => 122 | 206 => 136 | 240 => 113 | 241 => 137 | 276 => 142 | 277 => 153 | n => n, fun | 9 => 9 | 3 => 3 | 4 => 4 | 20 => 20 | 0 => 0 | 46 => 138 | 109 => 159 | 5 => 5 | 72 => 126 | 76 => 148 | 51 => 119 | 146 => 182 | 53 => 72 | 148 => 154 | 70 => 123 | 37 => 124 | 75 => 128 | 127 => 165 | 164 => 186 | 80 => 130 | n => n, fun | n => n⟩
theorem Tryd.lays105 : Go.Proofs.Lays.n105 Tryd.prog Tryd.lays105_ren := {
  mixed := by kernel_rfl
  f99 := Tryd.func106.trans (congrArg some (by kernel_rfl))
  f105 := Tryd.func69.trans (congrArg some (by kernel_rfl))
  f165 := Tryd.func107.trans (congrArg some (by kernel_rfl))
  f166 := Tryd.func97.trans (congrArg some (by kernel_rfl))
  f169 := Tryd.func78.trans (congrArg some (by kernel_rfl))
  f170 := Tryd.func108.trans (congrArg some (by kernel_rfl))
  f206 := Tryd.func136.trans (congrArg some (by kernel_rfl))
  f212 := Tryd.func105.trans (congrArg some (by kernel_rfl))
  f240 := Tryd.func113.trans (congrArg some (by kernel_rfl))
  f241 := Tryd.func137.trans (congrArg some (by kernel_rfl))
  f263 := Tryd.func135.trans (congrArg some (by kernel_rfl))
  f264 := Tryd.func122.trans (congrArg some (by kernel_rfl))
  f276 := Tryd.func142.trans (congrArg some (by kernel_rfl))
  f277 := Tryd.func153.trans (congrArg some (by kernel_rfl))
  t0 := Tryd.underlying0
  a0 := Tryd.isAgg0
  z0 := Tryd.sizeOf0
  v0 := Tryd.zeroValue0
  t3 := Tryd.underlying3
  a3 := Tryd.isAgg3
  z3 := Tryd.sizeOf3
  v3 := Tryd.zeroValue3
  t4 := Tryd.underlying4
  a4 := Tryd.isAgg4
  z4 := Tryd.sizeOf4
  v4 := Tryd.zeroValue4
  t5 := Tryd.underlying5
  a5 := Tryd.isAgg5
  z5 := Tryd.sizeOf5
  v5 := Tryd.zeroValue5
  t9 := Tryd.underlying9
  a9 := Tryd.isAgg9
  z9 := Tryd.sizeOf9
  v9 := Tryd.zeroValue9
  t20 := Tryd.underlying20
  a20 := Tryd.isAgg20
  z20 := Tryd.sizeOf20
  v20 := Tryd.zeroValue20
  t37 := Tryd.underlying124
  a37 := Tryd.isAgg124
  z37 := Tryd.sizeOf124
  v37 := Tryd.zeroValue124
  t46 := Tryd.underlying138
  a46 := Tryd.isAgg138
  z46 := Tryd.sizeOf138
  v46 := Tryd.zeroValue138
  t51 := Tryd.underlying119
  a51 := Tryd.isAgg119
  z51 := Tryd.sizeOf119
  v51 := Tryd.zeroValue119
  t53 := Tryd.underlying72
  a53 := Tryd.isAgg72
  z53 := Tryd.sizeOf72
  v53 := Tryd.zeroValue72
  t70 := Tryd.underlying123
  a70 := Tryd.isAgg123
  z70 := Tryd.sizeOf123
  v70 := Tryd.zeroValue123
  t72 := Tryd.underlying126
  a72 := Tryd.isAgg126
  z72 := Tryd.sizeOf126
  v72 := Tryd.zeroValue126
  t75 := Tryd.underlying128
  a75 := Tryd.isAgg128
  z75 := Tryd.sizeOf128
  v75 := Tryd.zeroValue128
  t76 := Tryd.underlying148
  a76 := Tryd.isAgg148
  z76 := Tryd.sizeOf148
  v76 := Tryd.zeroValue148
  t109 := Tryd.underlying159
  a109 := Tryd.isAgg159
  z109 := Tryd.sizeOf159
  v109 := Tryd.zeroValue159
  t127 := Tryd.underlying165
  a127 := Tryd.isAgg165
  z127 := Tryd.sizeOf165
  v127 := Tryd.zeroValue165
  t146 := Tryd.underlying182
  a146 := Tryd.isAgg182
  z146 := Tryd.sizeOf182
  v146 := Tryd.zeroValue182
  t148 := Tryd.underlying154
  a148 := Tryd.isAgg154
  z148 := Tryd.sizeOf154
  v148 := Tryd.zeroValue154
  t164 := Tryd.underlying186
  a164 := Tryd.isAgg186
  z164 := Tryd.sizeOf186
  v164 := Tryd.zeroValue186 }
theorem Tryd.Builder_Extra_105 : Builder.Extra Tryd.prog Tryd.lays105_ren := {
  sizeBuilder := by kernel_rfl
  liesBuilder := by kernel_rfl
  t5 := Tryd.underlying5
  a5 := Tryd.isAgg5
  z5 := Tryd.sizeOf5
  v5 := Tryd.zeroValue5
  infoByte := by kernel_rfl
  cellsByte := by kernel_rfl
  sizeByte := by kernel_rfl
  neB5 := by decide }
open Go.RowKit Go.Lib in
/-- **strings.Repeat: count ≥ 0, the result within one allocation: count copies of s.** (LAID: no walk: one application.) -/
theorem Tryd.strings_Repeat (s : ByteArray) (c : Nat) (w : World) (hc : c ≤ 9223372036854775807) (hlen : s.size * c ≤ 140737488355328) :
    Calls Tryd.prog 69 #[.string s, .int .i64 c] w fun e w' => e = .returned (.string ⟨(Lib.repeatL s.data.toList c).toArray⟩) ∧ Below w.heap.size w w' := Any.strings_Repeat Tryd.lays105 Tryd.Builder_Extra_105 s c w hc hlen
end Go.Proofs
/-! Oct -/
namespace Go.Proofs.YtcgdjnmfeibnoaaDoor
open Go.RowKit Go.Proofs.YtcgdjnmfeibnoaaDoorW.PrintWords
set_option linter.unusedVariables false
set_option linter.unusedSimpArgs false
theorem ret_int {k : IntKind} {a b : Int} (h : a = b) : Ending.returned (.int k a) = .returned (.int k b) := by rw [h]
theorem drawn_same {w w' : World} (h : w = w') : Drawn0 w w' := h ▸ Drawn0.refl w
/-- The digits to the base 36. -/
def digs : List UInt8 := [48, 49, 50, 51, 52, 53, 54, 55, 56, 57, 97, 98, 99, 100, 101, 102, 103, 104, 105, 106, 107, 108, 109, 110, 111, 112, 113, 114, 115, 116, 117, 118, 119, 120, 121, 122]
/-- What a byte says. -/
def digN (b : Int) : Int := if 48 ≤ b ∧ b ≤ 57 then b - 48 else if 65 ≤ b ∧ b ≤ 90 then b - 55 else if 97 ≤ b ∧ b ≤ 122 then b - 87 else -1
/-- .. to a base. -/
def digV (b base : Int) : Int := if base < 2 ∨ 36 < base then -1 else if digN b < base then digN b else -1
theorem idx_digs : ∀ n : Fin 256, Lib.indexByte digs (n.val.toUInt8) = digN (if 65 ≤ (n.val : Int) ∧ (n.val : Int) ≤ 90 then -1 else n.val) := by decide +kernel
theorem idx_of (b : Int) (h0 : 0 ≤ b) (h1 : b < 256) (h2 : ¬ (65 ≤ b ∧ b ≤ 90)) : Lib.indexByte digs b.toNat.toUInt8 = digN b := by
  obtain ⟨n, rfl⟩ := Int.eq_ofNat_of_zero_le h0
  have := idx_digs ⟨n, by omega⟩
  rw [if_neg (by simpa using h2)] at this
  simpa using this
theorem idx_up (b : Int) (h0 : 65 ≤ b) (h1 : b ≤ 90) : Lib.indexByte digs (b + 32).toNat.toUInt8 = digN b := by
  rw [idx_of (b + 32) (by omega) (by omega) (by omega)]
  unfold digN
  rw [if_neg (by omega), if_neg (by omega), if_pos (by omega), if_neg (by omega), if_pos (by omega)]
  omega
/-- The class of a byte. -/
def classV (b : Int) : Int :=
  if 48 ≤ b ∧ b ≤ 57 then 9 else if 65 ≤ b ∧ b ≤ 70 then 10 else if 97 ≤ b ∧ b ≤ 102 then 12 else if 65 ≤ b ∧ b ≤ 90 then 2 else if 97 ≤ b ∧ b ≤ 122 then 4 else if b < 32 ∨ b = 127 then 16 else if 127 < b then 32 else if b = 32 then 128 else 64
set_option maxHeartbeats 4000000 in
set_option maxRecDepth 100000 in
theorem class_walk (b : Int) (h0 : 0 ≤ b) (h1 : b < 256) (w : World) : Calls Tryd.prog 118 #[.int .u8 b] w fun e w' => e = .returned (.int .i64 (classV b)) ∧ w = w' := by
  go_enter Tryd.func118, Tryd.ntmps118
  go_wp2
  all_goals go_ret
  all_goals refine ⟨ret_int ?_, rfl⟩
  all_goals (try simp only [beq_iff_eq, beq_eq_false_iff_ne, ne_eq] at *)
  all_goals unfold classV
  all_goals (repeat' split)
  all_goals omega
theorem class_bits (b : Int) : (bits BinOp.and IntKind.i64 (classV b) 2 != 0) = decide (65 ≤ b ∧ b ≤ 90) := by
  unfold classV
  (repeat' split) <;> rw [eq_comm] <;> first
    | (rw [decide_eq_true (by omega)]; rfl)
    | (rw [decide_eq_false (by omega)]; rfl)
theorem digV_of {b base : Int} (h : ¬ (base < 2 ∨ 36 < base)) : digV b base = if digN b < base then digN b else -1 := if_neg h
theorem dig_case {b base i : Int} (h : ¬ (base < 2 ∨ 36 < base)) (hi : i = digN b) : (base ≤ i → digV b base = -1) ∧ (i < base → digV b base = i) := by
  rw [digV_of h, hi]
  exact ⟨fun h => if_neg (by omega), fun h => if_pos h⟩
theorem idx_up' (b : Int) (h : 65 ≤ b ∧ b ≤ 90) : Lib.indexByte [48, 49, 50, 51, 52, 53, 54, 55, 56, 57, 97, 98, 99, 100, 101, 102, 103, 104, 105, 106, 107, 108, 109, 110, 111, 112, 113, 114, 115, 116, 117, 118, 119, 120, 121, 122] (UInt8.ofNat ((b + 32) % 256).toNat) = digN b := by
  rw [show (b + 32) % 256 = b + 32 by omega]
  exact idx_up b h.1 h.2
theorem idx_lo' (b : Int) (h0 : 0 ≤ b) (h1 : b < 256) (h : ¬ (65 ≤ b ∧ b ≤ 90)) : Lib.indexByte [48, 49, 50, 51, 52, 53, 54, 55, 56, 57, 97, 98, 99, 100, 101, 102, 103, 104, 105, 106, 107, 108, 109, 110, 111, 112, 113, 114, 115, 116, 117, 118, 119, 120, 121, 122] (UInt8.ofNat b.toNat) = digN b :=
  idx_of b h0 h1 h
set_option maxHeartbeats 4000000 in
set_option maxRecDepth 100000 in
theorem digit_walk (b base : Int) (h0 : 0 ≤ b) (h1 : b < 256) (w : World) : Calls Tryd.prog 86 #[.int .u8 b, .int .i64 base] w fun e w' => e = .returned (.int .i64 (digV b base)) ∧ w = w' := by
  have HB := class_bits b
  have HC := Aside0.mk HB
  clear HB
  go_enter Tryd.func86, Tryd.ntmps86
  go_wp2_with (first | (go_at_call 118; refine (class_walk b h0 h1 _).mono ?_; rintro e w' ⟨rfl, rfl⟩) | (go_at_call 119; refine (Tryd.strings_IndexByte _ _ _).mono ?_; rintro e w' ⟨rfl, rfl⟩))
  all_goals go_ret
  all_goals refine ⟨ret_int ?_, rfl⟩
  all_goals go_tidy
  all_goals have hB := HC.out
  all_goals clear HC
  all_goals first
    | (rw [show digV b base = -1 from if_pos (by omega)])
    | (rw [‹(bits BinOp.and IntKind.i64 (classV b) 2 != 0) = true›] at hB
       have hu := of_decide_eq_true hB.symm
       have e := idx_up' b hu
       simp only [e] at *
       first | exact ((dig_case (by omega) rfl).1 (by omega)).symm | exact ((dig_case (by omega) rfl).2 (by omega)).symm)
    | (rw [‹(bits BinOp.and IntKind.i64 (classV b) 2 != 0) = false›] at hB
       have hu := of_decide_eq_false hB.symm
       have e := idx_lo' b h0 h1 hu
       simp only [e] at *
       first | exact ((dig_case (by omega) rfl).1 (by omega)).symm | exact ((dig_case (by omega) rfl).2 (by omega)).symm)
    | trace_state
end Go.Proofs.YtcgdjnmfeibnoaaDoor
/-! Bytes -/
namespace Go.Proofs.YtcgdjnmfeibnoaaDoor
open Go.RowKit Go.Proofs.YtcgdjnmfeibnoaaDoorW.PrintWords
set_option linter.unusedVariables false
set_option linter.unusedSimpArgs false
/-- A list of bytes as a text. -/
def BA (l : List UInt8) : ByteArray := ⟨l.toArray⟩
theorem ba_list (l : List UInt8) : (BA l).data.toList = l := rfl
theorem ba_of (s : ByteArray) : BA s.data.toList = s := Lib.mk_data s
theorem ba_size (l : List UInt8) : (BA l).size = l.length := rfl
theorem ba_ext {a b : ByteArray} (h : a.data.toList = b.data.toList) : a = b := by rw [← ba_of a, ← ba_of b, h]
theorem extract_tail (s : ByteArray) (a : Nat) : s.extract a s.size = BA (s.data.toList.drop a) := ba_ext (Lib.extract_to_end s a)
theorem toList_data (s : ByteArray) : s.toList = s.data.toList := ByteArray.toList_eq s
theorem bt_get (s : ByteArray) (k : Nat) (h : k < s.data.toList.length) : bt s (k : Int) = ((s.data.toList[k]'h).toNat : Int) := by
  have hk : k < s.size := by rw [Lib.size_eq]; exact h
  have := bt_at s (k : Int) (by simpa using hk)
  rw [← this]
  rfl
theorem size_len (s : ByteArray) : s.size = s.data.toList.length := Lib.size_eq s
theorem byte_eq (a b : UInt8) : ((a.toNat : Int) = (b.toNat : Int)) ↔ a = b := by
  rw [Int.natCast_inj]
  exact UInt8.toNat_inj
/-- A list cut at each byte c. -/
def splitC (c : UInt8) : List UInt8 → List (List UInt8)
  | [] => [[]]
  | b :: l => if b = c then [] :: splitC c l else
    match splitC c l with
    | [] => [[b]]
    | p :: ps => (b :: p) :: ps
/-- p ahead of the first piece. -/
def ahead1 (p : List UInt8) : List (List UInt8) → List (List UInt8)
  | [] => [p]
  | q :: qs => (p ++ q) :: qs
theorem splitC_ne (c : UInt8) (l : List UInt8) : splitC c l ≠ [] := by
  cases l with
  | nil => simp [splitC]
  | cons b l =>
    unfold splitC
    split
    · simp
    · split <;> simp
theorem splitC_eq (c : UInt8) (l : List UInt8) : splitC c (c :: l) = [] :: splitC c l := by rw [splitC, if_pos rfl]
theorem splitC_cons {c b : UInt8} (h : b ≠ c) (l : List UInt8) : splitC c (b :: l) = ahead1 [b] (splitC c l) := by
  rw [splitC, if_neg h]
  cases splitC c l <;> rfl
theorem splitC_len (c : UInt8) (l : List UInt8) : (splitC c l).length ≤ l.length + 1 := by
  induction l with
  | nil => simp [splitC]
  | cons b l ih =>
    unfold splitC
    split
    · simp; omega
    · split
      · simp
      · rename_i h; rw [h] at ih; simp at *; omega
theorem split_one (c : UInt8) : ∀ l : List UInt8, Lib.split l [c] = splitC c l
  | [] => by simp [Lib.split, Lib.count_one, Lib.splitK, splitC]
  | b :: l => by
    have ih := split_one c l
    unfold Lib.split at *
    by_cases h : b = c
    · subst h
      rw [Lib.count_cons_eq, Nat.add_comm, Lib.splitK, splitC_eq, ← ih]
      have : Lib.index (b :: l) [b] = 0 := by rw [Lib.index]; simp [List.isPrefixOf]
      rw [this]
      simp
    · rw [Lib.count_cons_ne b c l h, splitC_cons h, ← ih]
      have hix : Lib.index (b :: l) [c] = if Lib.index l [c] == -1 then -1 else Lib.index l [c] + 1 := by
        rw [Lib.index]
        simp [List.isPrefixOf, Ne.symm h]
      generalize hk : Lib.count l [c] = k
      cases k with
      | zero => rfl
      | succ k =>
        rw [Lib.splitK, Lib.splitK, hix]
        have hge := Lib.index_ge l [c]
        by_cases hm : Lib.index l [c] = -1
        · simp [hm, ahead1]
        · rw [if_neg (by simp; omega), if_neg (by simpa using hm), if_neg (by simpa using hm)]
          have e : (Lib.index l [c] + 1).toNat = (Lib.index l [c]).toNat + 1 := by omega
          rw [e]
          simp [ahead1]
/-- The library's split at one byte. -/
theorem splitB_one (s : ByteArray) (c : UInt8) : Lib.splitB (BA [c]) 0 (Lib.countB s (BA [c])) s = (splitC c s.data.toList).map BA := by
  have h : (Lib.splitB (BA [c]) 0 (Lib.countB s (BA [c])) s).map (fun x => x.data.toList) = Lib.split s.data.toList [c] := Lib.splitB_data (BA [c]) 0 (Lib.countB s (BA [c])) s
  rw [← split_one, ← h, List.map_map]
  rw [show (BA ∘ fun x => x.data.toList) = id from funext fun x => ba_of x, List.map_id]
theorem rd_map (L : List (List UInt8)) (i : Nat) (hi : i < L.length) : rdOf ByteArray.empty (L.map BA) (i : Int) = BA L[i] := by
  unfold rdOf
  rw [Int.toNat_natCast, List.getD_eq_getElem?_getD, List.getElem?_map, List.getElem?_eq_getElem hi]
  rfl
theorem splitC_part (c : UInt8) (l : List UInt8) : ∀ w ∈ splitC c l, w.length ≤ l.length := by
  induction l with
  | nil => intro w hw; simp [splitC] at hw; simp [hw]
  | cons b l ih =>
    intro w hw
    by_cases hb : b = c
    · subst hb
      rw [splitC_eq] at hw
      rcases List.mem_cons.1 hw with rfl | hw
      · simp
      · have := ih w hw; simp; omega
    · rw [splitC_cons hb] at hw
      cases hL : splitC c l with
      | nil => exact absurd hL (splitC_ne c l)
      | cons p ps =>
        rw [hL] at hw ih
        simp only [ahead1] at hw
        rcases List.mem_cons.1 hw with rfl | hw
        · have := ih p (by simp); simp at *; omega
        · have := ih w (by simp [hw]); simp; omega
end Go.Proofs.YtcgdjnmfeibnoaaDoor
/-! DigL -/
namespace Go.Proofs.YtcgdjnmfeibnoaaDoor
open Go.RowKit Go.Proofs.YtcgdjnmfeibnoaaDoorW.PrintWords
set_option linter.unusedVariables false
set_option linter.unusedSimpArgs false
theorem digV_lt {b base : Int} (h : 2 ≤ base) : digV b base < base := by
  unfold digV
  repeat' split
  all_goals omega
end Go.Proofs.YtcgdjnmfeibnoaaDoor
/-! SixNV -/
namespace Go.Proofs.YtcgdjnmfeibnoaaDoor
open Go.RowKit Go.Proofs.YtcgdjnmfeibnoaaDoorW.PrintWords
set_option linter.unusedVariables false
set_option linter.unusedSimpArgs false
/-- Where a reader of the program may stand. -/
structure St where
  wh : Int
  pc : Int
  gap : Bool
  dg : Int
  nu : Int
  va : Int
def moreP (x : St) : Bool := if x.gap then decide (x.pc < 7) else decide (x.pc < 8)
def mayP (x : St) : Bool := if x.gap then decide (x.pc ≤ 5) else decide (x.pc = 6)
def beginP (x : St) (c : Int) : List St :=
  (if 0 ≤ digV c 16 ∧ moreP x = true then [{ x with wh := 4, dg := 1 }] else []) ++ (if 0 ≤ digV c 10 ∧ mayP x = true then [{ x with wh := 5, va := digV c 10 }] else [])
def nextP (x : St) (c : Int) : List St :=
  if x.wh = 0 ∧ c = 58 then [{ x with wh := 1 }]
  else if (x.wh = 1 ∨ x.wh = 2 ∧ x.gap = false) ∧ c = 58 then [{ x with wh := 3, gap := true }]
  else if x.wh = 0 ∨ x.wh = 2 ∨ x.wh = 3 then beginP x c
  else if x.wh = 4 ∧ c = 58 then (if moreP { x with wh := 2, pc := x.pc + 1 } = true then [{ x with wh := 2, pc := x.pc + 1 }] else [])
  else if x.wh = 4 ∧ 0 ≤ digV c 16 ∧ x.dg < 4 then [{ x with dg := x.dg + 1 }]
  else if x.wh = 5 ∧ c = 46 ∧ x.nu < 3 then [{ x with wh := 6, nu := x.nu + 1 }]
  else if x.wh = 6 ∧ 0 ≤ digV c 10 then [{ x with wh := 5, va := digV c 10 }]
  else if x.wh = 5 ∧ 0 ≤ digV c 10 ∧ 0 < x.va ∧ 10 * x.va + digV c 10 ≤ 255 then [{ x with va := 10 * x.va + digV c 10 }]
  else []
def endsP (x : St) : Bool := if x.wh = 3 then true else if x.wh = 4 then (x.gap || decide (x.pc = 7)) else if x.wh = 5 then decide (x.nu = 3) else false
/-- The document's scan so far. -/
structure Sc where
  L : Nat → Int
  N : Int
  skip : Int
  st : Int
  digs : Int
  val : Int
  ten : Int
  parts : Int
  four : Int
def Sc.bad (x : Sc) : Sc := { x with st := 7 }
def Sc.room (x : Sc) : Int := if 0 ≤ x.skip then 7 - x.N else 8 - x.N
def Sc.more (x : Sc) (b : Int) : Sc :=
  { x with ten := if b < 48 ∨ 57 < b ∨ (0 < x.digs ∧ x.ten = 0) ∨ x.ten < 0 ∨ 255 < 10 * x.ten + (b - 48) then -1 else 10 * x.ten + (b - 48), digs := x.digs + 1, val := 16 * x.val + digV b 16 }
def Sc.first (x : Sc) (b : Int) : Sc :=
  if digV b 16 < 0 ∨ x.room < 1 then { x with st := 7, digs := 0, val := 0, ten := 0 } else { x with st := 4, digs := 0, val := 0, ten := 0 : Sc }.more b
def Sc.closed (x : Sc) : Sc := { x with L := fun j => if (j : Int) = x.N then x.val % 65536 else x.L j, N := x.N + 1 }
def Sc.fits (x : Sc) : Bool := decide (x.N = 6 ∧ x.skip < 0 ∨ x.N ≤ 5 ∧ 0 ≤ x.skip)
def Sc.dotted (x : Sc) : Sc := if x.ten < 0 ∨ x.fits = false then { x with st := 7 } else { x with four := x.ten, parts := 1, st := 5 }
def Sc.step (x : Sc) (b : Int) : Sc :=
  if x.st = 0 then (if b = 58 then { x with st := 1 } else x.first b)
  else if x.st = 1 then (if b = 58 then { x with skip := 0, st := 3 } else x.bad)
  else if x.st = 2 then (if b = 58 ∧ x.skip < 0 ∧ x.N ≤ 7 then { x with skip := x.N, st := 3 } else x.first b)
  else if x.st = 3 then x.first b
  else if x.st = 4 then
    (if 0 ≤ digV b 16 then (if x.digs = 4 then x.bad else x.more b)
     else if b = 58 ∧ x.parts = 0 then (if x.N + 1 = 8 ∨ (0 ≤ x.skip ∧ x.N + 1 = 7) then x.bad else { x.closed with st := 2 })
     else if b = 46 then x.dotted else x.bad)
  else if x.st = 5 then (if 48 ≤ b ∧ b ≤ 57 then { x with st := 6, digs := 1, ten := b - 48 } else x.bad)
  else if x.st = 6 then
    (if 48 ≤ b ∧ b ≤ 57 ∧ 0 < x.digs ∧ 0 < x.ten ∧ 10 * x.ten + (b - 48) ≤ 255 then { x with digs := x.digs + 1, ten := 10 * x.ten + (b - 48) }
     else if b = 46 ∧ x.parts < 3 then { x with four := 256 * x.four + x.ten, parts := x.parts + 1, st := 5 } else x.bad)
  else x.bad
/-- The bounds of a scan. -/
structure Inv (x : Sc) : Prop where
  k0 : -1 ≤ x.skip
  n0 : 0 ≤ x.N
  n7 : x.N ≤ 7
  kn : x.skip ≤ x.N
structure Com (x : Sc) (s : St) : Prop where
  pc : s.pc = x.N
  gap : s.gap = decide (0 ≤ x.skip)
/-- What digits say to the base 10. -/
def TenOk (digs ten : Int) : Prop := ten = -1 ∨ (0 ≤ ten ∧ ten ≤ 255 ∧ (digs = 1 ∧ ten ≤ 9 ∨ digs = 2 ∧ 10 ≤ ten ∨ digs = 3 ∧ 100 ≤ ten))
/-- A scan and the program's states say the same. -/
inductive Sim : Sc → List St → Prop
  | ahead {x : Sc} {s : St} (h : x.st = 0 ∨ x.st = 1 ∨ x.st = 2 ∨ x.st = 3) (hi : Inv x) (hc : Com x s) (hw : s.wh = x.st) (hn : s.nu = 0) (hp : x.parts = 0) (h1 : x.st ≤ 1 → x.skip = -1 ∧ x.N = 0) (h3 : x.st = 3 → 0 ≤ x.skip) (h2 : x.st = 2 → 0 ≤ x.skip → x.N ≤ 6) : Sim x [s]
  | piece {x : Sc} {s : St} (h : x.st = 4) (hi : Inv x) (hr : 1 ≤ x.room) (hp : x.parts = 0) (d1 : 1 ≤ x.digs) (d4 : x.digs ≤ 4) (ht : TenOk x.digs x.ten) (hc : Com x s) (hw : s.wh = 4) (hd : s.dg = x.digs) (hn : s.nu = 0) (hno : x.ten < 0 ∨ x.fits = false) : Sim x [s]
  | both {x : Sc} {s t : St} (h : x.st = 4) (hi : Inv x) (hr : 1 ≤ x.room) (hp : x.parts = 0) (d1 : 1 ≤ x.digs) (d4 : x.digs ≤ 4) (ht : TenOk x.digs x.ten) (hc : Com x s) (hw : s.wh = 4) (hd : s.dg = x.digs) (hn : s.nu = 0) (t0 : 0 ≤ x.ten) (hf : x.fits = true)
      (kc : Com x t) (kw : t.wh = 5) (kn : t.nu = 0) (kv : t.va = x.ten) : Sim x [s, t]
  | stop {x : Sc} {s : St} (h : x.st = 5) (hi : Inv x) (hf : x.fits = true) (p1 : 1 ≤ x.parts) (p3 : x.parts ≤ 3) (hc : Com x s) (hw : s.wh = 6) (hn : s.nu = x.parts) : Sim x [s]
  | part {x : Sc} {s : St} (h : x.st = 6) (hi : Inv x) (hf : x.fits = true) (p1 : 1 ≤ x.parts) (p3 : x.parts ≤ 3) (d1 : 1 ≤ x.digs) (ht : TenOk x.digs x.ten) (t0 : 0 ≤ x.ten) (t1 : x.ten ≤ 255) (hc : Com x s) (hw : s.wh = 5) (hn : s.nu = x.parts) (hv : s.va = x.ten) : Sim x [s]
theorem digV10 (c : Int) : digV c 10 = if 48 ≤ c ∧ c ≤ 57 then c - 48 else -1 := by
  unfold digV digN
  repeat' split
  all_goals omega
theorem digV16 (c : Int) : digV c 16 = if 48 ≤ c ∧ c ≤ 57 then c - 48 else if 65 ≤ c ∧ c ≤ 70 then c - 55 else if 97 ≤ c ∧ c ≤ 102 then c - 87 else -1 := by
  unfold digV digN
  repeat' split
  all_goals omega
theorem more_com {x : Sc} {s : St} (h : Com x s) : moreP s = decide (1 ≤ x.room) := by
  unfold moreP Sc.room
  rw [h.gap, h.pc]
  by_cases hk : 0 ≤ x.skip
  · rw [decide_eq_true hk, if_pos rfl, if_pos hk]; exact decide_eq_decide.2 (by omega)
  · rw [decide_eq_false hk, if_neg (by simp), if_neg hk]; exact decide_eq_decide.2 (by omega)
theorem may_com {x : Sc} {s : St} (h : Com x s) : mayP s = x.fits := by
  unfold mayP Sc.fits
  rw [h.gap, h.pc]
  by_cases hk : 0 ≤ x.skip
  · rw [decide_eq_true hk, if_pos rfl]; exact decide_eq_decide.2 (by omega)
  · rw [decide_eq_false hk, if_neg (by simp)]; exact decide_eq_decide.2 (by omega)
theorem fits_room {x : Sc} (h : x.fits = true) : 1 ≤ x.room := by
  unfold Sc.fits at h
  unfold Sc.room
  have := of_decide_eq_true h
  split <;> omega
/-- The first byte of a piece. -/
theorem first_sim {x : Sc} {s : St} (hi : Inv x) (hc : Com x s) (hn : s.nu = 0) (hp : x.parts = 0) (c : Int) :
    ((x.first c).st = 7 ∧ beginP s c = []) ∨ ((x.first c).st = 4 ∧ Sim (x.first c) (beginP s c)) := by
  unfold Sc.first beginP
  rw [more_com hc, may_com hc]
  by_cases hd : digV c 16 < 0 ∨ x.room < 1
  · rw [if_pos hd]
    refine .inl ⟨rfl, ?_⟩
    have hm : ¬ (0 ≤ digV c 10 ∧ x.fits = true) := by
      rintro ⟨a, b⟩
      have := fits_room b
      rw [digV10] at a
      rw [digV16] at hd
      split at a
      · rename_i h; rw [if_pos h] at hd; omega
      · omega
    rw [if_neg (by simp; omega), if_neg hm]
    rfl
  · rw [if_neg hd]
    refine .inr ⟨rfl, ?_⟩
    rw [if_pos ⟨by omega, by simp; omega⟩]
    by_cases hm : 0 ≤ digV c 10 ∧ x.fits = true
    · rw [if_pos hm]
      have h10 := hm.1
      rw [digV10] at h10
      have hr : 48 ≤ c ∧ c ≤ 57 := by by_cases h : 48 ≤ c ∧ c ≤ 57; exact h; rw [if_neg h] at h10; omega
      have ht : ({ x with st := 4, digs := 0, val := 0, ten := 0 : Sc }.more c).ten = c - 48 := by
        unfold Sc.more
        show (if _ then _ else _) = _
        rw [if_neg (by show ¬ (c < 48 ∨ 57 < c ∨ ((0 : Int) < 0 ∧ (0 : Int) = 0) ∨ (0 : Int) < 0 ∨ 255 < 10 * (0 : Int) + (c - 48)); omega)]
        show 10 * (0 : Int) + (c - 48) = _
        omega
      refine Sim.both rfl ⟨hi.k0, hi.n0, hi.n7, hi.kn⟩ (fits_room hm.2) hp (by show 1 ≤ (0 : Int) + 1; omega) (by show (0 : Int) + 1 ≤ 4; omega) ?_ ⟨hc.pc, hc.gap⟩ rfl rfl hn (by rw [ht]; omega) hm.2 ⟨hc.pc, hc.gap⟩ rfl hn (by rw [ht]; show digV c 10 = _; rw [digV10, if_pos hr])
      rw [ht]
      exact .inr ⟨by omega, by omega, .inl ⟨rfl, by omega⟩⟩
    · rw [if_neg hm]
      have hr : ¬ (48 ≤ c ∧ c ≤ 57) ∨ x.fits = false := by
        by_cases hf : x.fits = true
        · left
          intro h
          exact hm ⟨by rw [digV10, if_pos h]; omega, hf⟩
        · right; simpa using hf
      refine Sim.piece rfl ⟨hi.k0, hi.n0, hi.n7, hi.kn⟩ (by show 1 ≤ x.room; omega) hp (by show 1 ≤ (0 : Int) + 1; omega) (by show (0 : Int) + 1 ≤ 4; omega) ?_ ⟨hc.pc, hc.gap⟩ rfl rfl hn ?_
      · show TenOk 1 (if c < 48 ∨ 57 < c ∨ ((0 : Int) < 0 ∧ (0 : Int) = 0) ∨ (0 : Int) < 0 ∨ 255 < 10 * (0 : Int) + (c - 48) then -1 else 10 * 0 + (c - 48))
        split
        · exact .inl rfl
        · exact .inr ⟨by omega, by omega, .inl ⟨rfl, by omega⟩⟩
      · rcases hr with h | h
        · left
          show (if c < 48 ∨ 57 < c ∨ ((0 : Int) < 0 ∧ (0 : Int) = 0) ∨ (0 : Int) < 0 ∨ 255 < 10 * (0 : Int) + (c - 48) then -1 else 10 * 0 + (c - 48)) < 0
          rw [if_pos (by omega)]; omega
        · exact .inr h
/-- What a digit more says to the base 10. -/
theorem ten_more {x : Sc} (ht : TenOk x.digs x.ten) (d1 : 1 ≤ x.digs) (c : Int) : TenOk (x.more c).digs (x.more c).ten := by
  show TenOk (x.digs + 1) (if c < 48 ∨ 57 < c ∨ (0 < x.digs ∧ x.ten = 0) ∨ x.ten < 0 ∨ 255 < 10 * x.ten + (c - 48) then -1 else 10 * x.ten + (c - 48))
  split
  · exact .inl rfl
  · rename_i h
    rcases ht with h' | h'
    · omega
    · exact .inr ⟨by omega, by omega, by omega⟩
theorem more_ten_lt {x : Sc} {c : Int} (h : c < 48 ∨ 57 < c ∨ x.ten < 0) : (x.more c).ten < 0 := by
  show (if c < 48 ∨ 57 < c ∨ (0 < x.digs ∧ x.ten = 0) ∨ x.ten < 0 ∨ 255 < 10 * x.ten + (c - 48) then -1 else 10 * x.ten + (c - 48)) < 0
  rw [if_pos (by omega)]; decide
/-- What the state in a piece does. -/
theorem next_piece {x : Sc} {s : St} (hc : Com x s) (hw : s.wh = 4) (hd : s.dg = x.digs) (c : Int) :
    nextP s c = if c = 58 then (if 2 ≤ x.room then [{ s with wh := 2, pc := s.pc + 1 }] else []) else if 0 ≤ digV c 16 ∧ x.digs < 4 then [{ s with dg := s.dg + 1 }] else [] := by
  unfold nextP
  rw [if_neg (by omega), if_neg (by omega), if_neg (by omega)]
  have hm : moreP { s with wh := 2, pc := s.pc + 1 } = decide (2 ≤ x.room) := by
    have hcom : Com { x with N := x.N + 1 } { s with wh := 2, pc := s.pc + 1 } := ⟨by show s.pc + 1 = x.N + 1; rw [hc.pc], hc.gap⟩
    rw [more_com hcom]
    unfold Sc.room
    show decide (1 ≤ if 0 ≤ x.skip then 7 - (x.N + 1) else 8 - (x.N + 1)) = _
    split <;> exact decide_eq_decide.2 (by omega)
  by_cases h : c = 58
  · rw [if_pos ⟨hw, h⟩, if_pos h, hm]
    simp only [decide_eq_true_eq]
  · rw [if_neg (fun q => h q.2), if_neg h]
    by_cases hd' : 0 ≤ digV c 16 ∧ x.digs < 4
    · rw [if_pos ⟨hw, hd'.1, by omega⟩, if_pos hd']
    · rw [if_neg (by omega), if_neg hd', if_neg (by omega), if_neg (by omega), if_neg (by omega)]
/-- What the document does behind a piece. -/
theorem step_colon {x : Sc} (h : x.st = 4) (hp : x.parts = 0) (hr : 1 ≤ x.room) (hi : Inv x) : x.step 58 = if 2 ≤ x.room then { x.closed with st := 2 } else x.bad := by
  unfold Sc.step
  rw [if_neg (by omega), if_neg (by omega), if_neg (by omega), if_neg (by omega), if_pos h, if_neg (by rw [digV16]; decide), if_pos ⟨rfl, hp⟩]
  unfold Sc.room at hr ⊢
  have := hi.n7
  by_cases hk : 0 ≤ x.skip
  · rw [if_pos hk] at hr ⊢
    by_cases h2 : 2 ≤ 7 - x.N
    · rw [if_pos h2, if_neg (by omega)]
    · rw [if_neg h2, if_pos (by omega)]
  · rw [if_neg hk] at hr ⊢
    by_cases h2 : 2 ≤ 8 - x.N
    · rw [if_pos h2, if_neg (by omega)]
    · rw [if_neg h2, if_pos (by omega)]
theorem colon_sim {x : Sc} {s : St} (h : x.st = 4) (hi : Inv x) (hr : 2 ≤ x.room) (hp : x.parts = 0) (hc : Com x s) (hn : s.nu = 0) : Sim { x.closed with st := 2 } [{ s with wh := 2, pc := s.pc + 1 }] := by
  have hr' : x.N ≤ 6 ∧ (0 ≤ x.skip → x.N + 1 ≤ 6) := by
    unfold Sc.room at hr
    split at hr <;> omega
  refine Sim.ahead (.inr (.inr (.inl rfl))) ⟨hi.k0, by have := hi.n0; show 0 ≤ x.N + 1; omega, by show x.N + 1 ≤ 7; omega, by have := hi.kn; show x.skip ≤ x.N + 1; omega⟩ ⟨by show s.pc + 1 = x.N + 1; rw [hc.pc], hc.gap⟩ rfl hn hp (fun h => absurd (show (2 : Int) ≤ 1 from h) (by decide)) (fun h => absurd (show (2 : Int) = 3 from h) (by decide)) (fun _ hk => hr'.2 hk)
/-- One byte more: both refuse, or both go on. -/
theorem step_sim {x : Sc} {l : List St} (h : Sim x l) (c : Int) :
    ((x.step c).st = 7 ∧ l.flatMap (nextP · c) = []) ∨ ((x.step c).st ≠ 7 ∧ Sim (x.step c) (l.flatMap (nextP · c))) := by
  cases h with
  | @ahead s h hi hc hw hn hp h1 h3 h2 =>
    simp only [List.flatMap_cons, List.flatMap_nil, List.append_nil]
    rcases h with h | h | h | h
    · obtain ⟨e1, e2⟩ := h1 (by omega)
      unfold Sc.step nextP
      rw [if_pos h]
      by_cases hb : c = 58
      · rw [if_pos hb, if_pos ⟨by omega, hb⟩]
        exact .inr ⟨by show (1 : Int) ≠ 7; decide, Sim.ahead (.inr (.inl rfl)) ⟨hi.k0, hi.n0, hi.n7, hi.kn⟩ ⟨hc.pc, hc.gap⟩ rfl hn hp (fun _ => ⟨e1, e2⟩) (fun h => absurd (show (1 : Int) = 3 from h) (by decide)) (fun h => absurd (show (1 : Int) = 2 from h) (by decide))⟩
      · rw [if_neg hb, if_neg (by omega), if_neg (by omega), if_pos (by omega)]
        rcases first_sim hi hc hn hp c with ⟨a, b⟩ | ⟨a, b⟩
        · exact .inl ⟨a, b⟩
        · exact .inr ⟨by omega, b⟩
    · obtain ⟨e1, e2⟩ := h1 (by omega)
      unfold Sc.step nextP
      rw [if_neg (by omega), if_pos h]
      by_cases hb : c = 58
      · rw [if_pos hb, if_neg (by omega), if_pos ⟨.inl (by omega), hb⟩]
        exact .inr ⟨by show (3 : Int) ≠ 7; decide, Sim.ahead (.inr (.inr (.inr rfl))) ⟨by show (-1 : Int) ≤ 0; decide, hi.n0, hi.n7, hi.n0⟩ ⟨hc.pc, rfl⟩ rfl hn hp (fun h => absurd (show (3 : Int) ≤ 1 from h) (by decide)) (fun _ => Int.le_refl 0) (fun h => absurd (show (3 : Int) = 2 from h) (by decide))⟩
      · rw [if_neg hb, if_neg (by omega), if_neg (by omega), if_neg (by omega), if_neg (by omega), if_neg (by omega), if_neg (by omega), if_neg (by omega), if_neg (by omega)]
        exact .inl ⟨rfl, rfl⟩
    · unfold Sc.step nextP
      rw [if_neg (by omega), if_neg (by omega), if_pos h]
      have hg : s.gap = false ↔ x.skip < 0 := by rw [hc.gap]; simp
      by_cases hb : c = 58 ∧ x.skip < 0
      · rw [if_pos ⟨hb.1, hb.2, hi.n7⟩, if_neg (by omega), if_pos ⟨.inr ⟨by omega, hg.2 hb.2⟩, hb.1⟩]
        exact .inr ⟨by show (3 : Int) ≠ 7; decide, Sim.ahead (.inr (.inr (.inr rfl))) ⟨by have := hi.n0; show -1 ≤ x.N; omega, hi.n0, hi.n7, Int.le_refl _⟩ ⟨hc.pc, (decide_eq_true hi.n0).symm⟩ rfl hn hp (fun h => absurd (show (3 : Int) ≤ 1 from h) (by decide)) (fun _ => hi.n0) (fun h => absurd (show (3 : Int) = 2 from h) (by decide))⟩
      · rw [if_neg (fun q => hb ⟨q.1, q.2.1⟩), if_neg (by omega), if_neg (by rintro ⟨q | q, e⟩; omega; exact hb ⟨e, hg.1 q.2⟩), if_pos (by omega)]
        rcases first_sim hi hc hn hp c with ⟨a, b⟩ | ⟨a, b⟩
        · exact .inl ⟨a, b⟩
        · exact .inr ⟨by omega, b⟩
    · unfold Sc.step nextP
      rw [if_neg (by omega), if_neg (by omega), if_neg (by omega), if_pos h]
      rw [if_neg (by omega), if_neg (by omega), if_pos (by omega)]
      rcases first_sim hi hc hn hp c with ⟨a, b⟩ | ⟨a, b⟩
      · exact .inl ⟨a, b⟩
      · exact .inr ⟨by omega, b⟩
  | @piece s h hi hr hp d1 d4 ht hc hw hd hn hno =>
    simp only [List.flatMap_cons, List.flatMap_nil, List.append_nil]
    rw [next_piece hc hw hd]
    by_cases h58 : c = 58
    · subst h58
      rw [if_pos rfl, step_colon h hp hr hi]
      by_cases h2 : 2 ≤ x.room
      · rw [if_pos h2, if_pos h2]
        exact .inr ⟨by show (2 : Int) ≠ 7; decide, colon_sim h hi h2 hp hc hn⟩
      · rw [if_neg h2, if_neg h2]
        exact .inl ⟨rfl, rfl⟩
    · rw [if_neg h58]
      unfold Sc.step
      rw [if_neg (by omega), if_neg (by omega), if_neg (by omega), if_neg (by omega), if_pos h]
      by_cases hx : 0 ≤ digV c 16
      · rw [if_pos hx]
        by_cases h4 : x.digs = 4
        · rw [if_pos h4, if_neg (by omega)]
          exact .inl ⟨rfl, rfl⟩
        · rw [if_neg h4, if_pos ⟨hx, by omega⟩]
          refine .inr ⟨by show x.st ≠ 7; omega, Sim.piece h ⟨hi.k0, hi.n0, hi.n7, hi.kn⟩ hr hp (by show 1 ≤ x.digs + 1; omega) (by show x.digs + 1 ≤ 4; omega) (ten_more ht d1 c) ⟨hc.pc, hc.gap⟩ hw (by show s.dg + 1 = x.digs + 1; omega) hn ?_⟩
          rcases hno with h' | h'
          · exact .inl (more_ten_lt (.inr (.inr h')))
          · exact .inr h'
      · rw [if_neg hx, if_neg (fun q : c = 58 ∧ x.parts = 0 => h58 q.1), if_neg (fun q : 0 ≤ digV c 16 ∧ x.digs < 4 => hx q.1)]
        by_cases hs : c = 46
        · rw [if_pos hs]
          unfold Sc.dotted
          rw [if_pos hno]
          exact .inl ⟨rfl, rfl⟩
        · rw [if_neg hs]
          exact .inl ⟨rfl, rfl⟩
  | @both s t h hi hr hp d1 d4 ht hc hw hd hn t0 hf kc kw kn kv =>
    simp only [List.flatMap_cons, List.flatMap_nil, List.append_nil]
    rw [next_piece hc hw hd]
    have h3 : x.digs ≤ 3 := by unfold TenOk at ht; omega
    have hN : nextP t c = if c = 46 then [{ t with wh := 6, nu := t.nu + 1 }] else if 0 ≤ digV c 10 ∧ 0 < x.ten ∧ 10 * x.ten + digV c 10 ≤ 255 then [{ t with va := 10 * t.va + digV c 10 }] else [] := by
      unfold nextP
      rw [if_neg (by omega), if_neg (by omega), if_neg (by omega), if_neg (by omega), if_neg (by omega)]
      by_cases hs : c = 46
      · rw [if_pos ⟨kw, hs, by omega⟩, if_pos hs]
      · rw [if_neg (by omega), if_neg (by omega), if_neg hs, kv]
        by_cases q : 0 ≤ digV c 10 ∧ 0 < x.ten ∧ 10 * x.ten + digV c 10 ≤ 255
        · rw [if_pos ⟨kw, q⟩, if_pos q]
        · rw [if_neg (fun z => q z.2), if_neg q]
    rw [hN]
    clear hN
    have e := digV10 c
    by_cases h58 : c = 58
    · subst h58
      rw [if_pos rfl, step_colon h hp hr hi, if_neg (show ¬ (58 : Int) = 46 by decide), if_neg (show ¬ (0 ≤ digV 58 10 ∧ 0 < x.ten ∧ 10 * x.ten + digV 58 10 ≤ 255) by rw [e]; rintro ⟨q, _⟩; exact absurd q (by decide)), List.append_nil]
      by_cases h2 : 2 ≤ x.room
      · rw [if_pos h2, if_pos h2]
        exact .inr ⟨by show (2 : Int) ≠ 7; decide, colon_sim h hi h2 hp hc hn⟩
      · rw [if_neg h2, if_neg h2]
        exact .inl ⟨rfl, rfl⟩
    · rw [if_neg h58]
      unfold Sc.step
      rw [if_neg (by omega), if_neg (by omega), if_neg (by omega), if_neg (by omega), if_pos h]
      by_cases hx : 0 ≤ digV c 16
      · have h46 : c ≠ 46 := by
          rintro rfl
          rw [digV16] at hx
          exact absurd hx (by decide)
        rw [if_pos hx, if_neg (by omega), if_pos ⟨hx, by omega⟩, if_neg h46]
        by_cases hq : 0 ≤ digV c 10 ∧ 0 < x.ten ∧ 10 * x.ten + digV c 10 ≤ 255
        · rw [if_pos hq]
          have hr' : 48 ≤ c ∧ c ≤ 57 := by
            by_cases z : 48 ≤ c ∧ c ≤ 57
            · exact z
            · rw [if_neg z] at e; omega
          rw [if_pos hr'] at e
          have hm : (x.more c).ten = 10 * x.ten + (c - 48) := by
            show (if c < 48 ∨ 57 < c ∨ (0 < x.digs ∧ x.ten = 0) ∨ x.ten < 0 ∨ 255 < 10 * x.ten + (c - 48) then -1 else 10 * x.ten + (c - 48)) = _
            rw [if_neg (by omega)]
          exact .inr ⟨by show x.st ≠ 7; omega, Sim.both h ⟨hi.k0, hi.n0, hi.n7, hi.kn⟩ hr hp (by show 1 ≤ x.digs + 1; omega) (by show x.digs + 1 ≤ 4; omega) (ten_more ht d1 c) ⟨hc.pc, hc.gap⟩ hw (by show s.dg + 1 = x.digs + 1; omega) hn (by rw [hm]; omega) hf ⟨kc.pc, kc.gap⟩ kw kn (by rw [hm]; show 10 * t.va + digV c 10 = _; rw [kv, e])⟩
        · rw [if_neg hq, List.append_nil]
          refine .inr ⟨by show x.st ≠ 7; omega, Sim.piece h ⟨hi.k0, hi.n0, hi.n7, hi.kn⟩ hr hp (by show 1 ≤ x.digs + 1; omega) (by show x.digs + 1 ≤ 4; omega) (ten_more ht d1 c) ⟨hc.pc, hc.gap⟩ hw (by show s.dg + 1 = x.digs + 1; omega) hn (.inl ?_)⟩
          show (if c < 48 ∨ 57 < c ∨ (0 < x.digs ∧ x.ten = 0) ∨ x.ten < 0 ∨ 255 < 10 * x.ten + (c - 48) then -1 else 10 * x.ten + (c - 48)) < 0
          rw [if_pos]
          · decide
          · by_cases z : 48 ≤ c ∧ c ≤ 57
            · rw [if_pos z] at e
              omega
            · omega
      · have hd : ¬ (48 ≤ c ∧ c ≤ 57) := by
          intro z
          rw [digV16, if_pos z] at hx
          omega
        rw [if_neg hd] at e
        rw [if_neg hx, if_neg (fun q : c = 58 ∧ x.parts = 0 => h58 q.1), if_neg (fun q : 0 ≤ digV c 16 ∧ x.digs < 4 => hx q.1)]
        by_cases hs : c = 46
        · rw [if_pos hs, if_pos hs]
          unfold Sc.dotted
          rw [if_neg (by rintro (q | q); omega; rw [hf] at q; cases q)]
          exact .inr ⟨by show (5 : Int) ≠ 7; decide, Sim.stop rfl ⟨hi.k0, hi.n0, hi.n7, hi.kn⟩ hf (Int.le_refl 1) (by show (1 : Int) ≤ 3; decide) ⟨kc.pc, kc.gap⟩ rfl (by show t.nu + 1 = 1; omega)⟩
        · rw [if_neg hs, if_neg hs, if_neg (by omega)]
          exact .inl ⟨rfl, rfl⟩
  | @stop s h hi hf p1 p3 hc hw hn =>
    simp only [List.flatMap_cons, List.flatMap_nil, List.append_nil]
    have hN : nextP s c = if 0 ≤ digV c 10 then [{ s with wh := 5, va := digV c 10 }] else [] := by
      unfold nextP
      rw [if_neg (by omega), if_neg (by omega), if_neg (by omega), if_neg (by omega), if_neg (by omega), if_neg (by omega)]
      by_cases q : 0 ≤ digV c 10
      · rw [if_pos ⟨hw, q⟩, if_pos q]
      · rw [if_neg (fun z => q z.2), if_neg q, if_neg (by omega)]
    rw [hN]
    clear hN
    unfold Sc.step
    rw [if_neg (by omega), if_neg (by omega), if_neg (by omega), if_neg (by omega), if_neg (by omega), if_pos h]
    have e := digV10 c
    by_cases hb : 48 ≤ c ∧ c ≤ 57
    · rw [if_pos hb] at e
      rw [if_pos hb, if_pos (show 0 ≤ digV c 10 by omega)]
      exact .inr ⟨by show (6 : Int) ≠ 7; decide, Sim.part rfl ⟨hi.k0, hi.n0, hi.n7, hi.kn⟩ hf p1 p3 (by show (1 : Int) ≤ 1; decide) (.inr ⟨by show 0 ≤ c - 48; omega, by show c - 48 ≤ 255; omega, .inl ⟨rfl, by show c - 48 ≤ 9; omega⟩⟩) (by show 0 ≤ c - 48; omega) (by show c - 48 ≤ 255; omega) ⟨hc.pc, hc.gap⟩ rfl hn e⟩
    · rw [if_neg hb] at e
      rw [if_neg hb, if_neg (show ¬ 0 ≤ digV c 10 by omega)]
      exact .inl ⟨rfl, rfl⟩
  | @part s h hi hf p1 p3 d1 ht t0 t1 hc hw hn hv =>
    simp only [List.flatMap_cons, List.flatMap_nil, List.append_nil]
    have hN : nextP s c = if c = 46 ∧ x.parts < 3 then [{ s with wh := 6, nu := s.nu + 1 }] else if 0 ≤ digV c 10 ∧ 0 < x.ten ∧ 10 * x.ten + digV c 10 ≤ 255 then [{ s with va := 10 * s.va + digV c 10 }] else [] := by
      unfold nextP
      rw [if_neg (by omega), if_neg (by omega), if_neg (by omega), if_neg (by omega), if_neg (by omega), hn, hv]
      by_cases q : c = 46 ∧ x.parts < 3
      · rw [if_pos ⟨hw, q⟩, if_pos q]
      · rw [if_neg (fun z => q z.2), if_neg q, if_neg (by omega)]
        by_cases q' : 0 ≤ digV c 10 ∧ 0 < x.ten ∧ 10 * x.ten + digV c 10 ≤ 255
        · rw [if_pos ⟨hw, q'⟩, if_pos q']
        · rw [if_neg (fun z => q' z.2), if_neg q']
    rw [hN]
    clear hN
    unfold Sc.step
    rw [if_neg (by omega), if_neg (by omega), if_neg (by omega), if_neg (by omega), if_neg (by omega), if_neg (by omega), if_pos h]
    have e := digV10 c
    by_cases hb : 48 ≤ c ∧ c ≤ 57 ∧ 0 < x.digs ∧ 0 < x.ten ∧ 10 * x.ten + (c - 48) ≤ 255
    · rw [if_pos ⟨hb.1, hb.2.1⟩] at e
      rw [if_pos hb, if_neg (show ¬ (c = 46 ∧ x.parts < 3) by omega), if_pos (show 0 ≤ digV c 10 ∧ 0 < x.ten ∧ 10 * x.ten + digV c 10 ≤ 255 from ⟨by omega, by omega, by rw [e]; omega⟩)]
      exact .inr ⟨by show x.st ≠ 7; omega, Sim.part h ⟨hi.k0, hi.n0, hi.n7, hi.kn⟩ hf p1 p3 (by show 1 ≤ x.digs + 1; omega) (by show TenOk (x.digs + 1) (10 * x.ten + (c - 48)); unfold TenOk at ht ⊢; omega) (by show 0 ≤ 10 * x.ten + (c - 48); omega) hb.2.2.2.2 ⟨hc.pc, hc.gap⟩ hw hn (by show 10 * s.va + digV c 10 = 10 * x.ten + (c - 48); rw [hv, e])⟩
    · rw [if_neg hb]
      by_cases hs : c = 46 ∧ x.parts < 3
      · rw [if_pos hs, if_pos hs]
        exact .inr ⟨by show (5 : Int) ≠ 7; decide, Sim.stop rfl ⟨hi.k0, hi.n0, hi.n7, hi.kn⟩ hf (by show 1 ≤ x.parts + 1; omega) (by show x.parts + 1 ≤ 3; omega) ⟨hc.pc, hc.gap⟩ rfl (by show s.nu + 1 = x.parts + 1; omega)⟩
      · rw [if_neg hs, if_neg hs, if_neg]
        · exact .inl ⟨rfl, rfl⟩
        · rintro ⟨q2, q3, q4⟩
          by_cases hd : 48 ≤ c ∧ c ≤ 57
          · rw [if_pos hd] at e
            exact hb ⟨hd.1, hd.2, by omega, by omega, by omega⟩
          · rw [if_neg hd] at e
            omega
end Go.Proofs.YtcgdjnmfeibnoaaDoor
/-! X0 -/
namespace Go.Proofs.YtcgdjnmfeibnoaaDoor.X
open Go.RowKit Go.Proofs.YtcgdjnmfeibnoaaDoorW.PrintWords Go.Proofs.YtcgdjnmfeibnoaaDoorW.PrintLast Go.Proofs.YtcgdjnmfeibnoaaDoorW.PrintMore
attribute [local go_sem] max2_int min2_int max_two min_two max_three min_three max_four min_four
set_option linter.unusedVariables false
set_option linter.unusedSimpArgs false
def errW : Option Int → Value
  | none => .nilIface
  | some c => .iface 0 (.int .i64 c)
theorem errW_none : errW none = .nilIface := rfl
theorem errW_some (c : Int) : errW (some c) = .iface 0 (.int .i64 c) := rfl
theorem info22 : (Tryd.prog.info? 22).map (fun i => (i.zero, i.size, i.bytes)) = some (some (.int .u16 0), 1, 2) := by kernel_rfl
end Go.Proofs.YtcgdjnmfeibnoaaDoor.X
/-! Num -/
namespace Go.Proofs.YtcgdjnmfeibnoaaDoor
open Go.RowKit Go.Proofs.YtcgdjnmfeibnoaaDoorW.PrintWords
set_option linter.unusedVariables false
set_option linter.unusedSimpArgs false
/-- What is read of digits to a base: n so far, at place i. -/
def numL (base : Int) : List UInt8 → Int → Int → Int × Int × Int
  | [], n, _ => if 18446744073709551616 ≤ n then (0, 0, 13) else (n, 0, 0)
  | c :: l, n, i => if digV (c.toNat : Int) base < 0 then (0, i, 12) else numL base l (n * base + digV (c.toNat : Int) base) (i + 1)
def numV (l : List UInt8) (base : Int) : Int × Int × Int := if base < 2 ∨ 36 < base then (0, 0, 11) else if l = [] then (0, 0, 12) else numL base l 0 0
def hiM (x y : Int) : Int := x * y / 18446744073709551616
def loM (x y : Int) : Int := x * y % 18446744073709551616
def sumA (x y : Int) : Int := (x + y) % 18446744073709551616
def carA (x y : Int) : Int := (x + y) / 18446744073709551616
theorem mul64_walk (x y : Int) (hx0 : 0 ≤ x) (hx : x < 18446744073709551616) (hy0 : 0 ≤ y) (hy : y < 18446744073709551616) (w : World) :
    Calls Tryd.prog 122 #[.int .u64 x, .int .u64 y] w fun e w' => e = .returned (.tuple #[.int .u64 (hiM x y), .int .u64 (loM x y)]) ∧ w = w' := by
  obtain ⟨a, rfl⟩ := Int.eq_ofNat_of_zero_le hx0
  obtain ⟨b, rfl⟩ := Int.eq_ofNat_of_zero_le hy0
  refine (Tryd.bits_Mul64 a b (by omega) (by omega) w).mono ?_
  rintro e w' ⟨rfl, rfl⟩
  exact ⟨by unfold hiM loM; simp, rfl⟩
theorem add64_0 (x y : Int) (hx : 0 ≤ x) (hy : 0 ≤ y) (w : World) : (callFunc 102 #[.int .u64 x, .int .u64 y, .int .u64 0]).run Tryd.prog w =
    .ok (.value (.tuple #[.int .u64 (sumA x y), .int .u64 (carA x y)])) w := by
  rw [run_callFunc_extern Tryd.func102 (by kernel_rfl) (by kernel_rfl) (by kernel_rfl) (e := add64Entry) (by kernel_rfl), run_add64 x y 0 hx hy (Int.le_refl 0) (by decide)]
  unfold sumA carA
  simp
theorem add64_at (x y : Int) (hx : 0 ≤ x) (hy : 0 ≤ y) : ∀ w : World, (callFunc 102 #[.int .u64 x, .int .u64 y, .int .u64 0]).run Tryd.prog w =
    .ok (.value (.tuple #[.int .u64 (sumA x y), .int .u64 (carA x y)])) w := add64_0 x y hx hy
/-- What a round does, in numbers. -/
theorem num_step {N base d : Int} (h0 : 0 ≤ N) (hb : 2 ≤ base) (hb' : base ≤ 36) (hd : 0 ≤ d) (hd' : d < base) :
    0 ≤ hiM (N % 18446744073709551616) base ∧ hiM (N % 18446744073709551616) base ≤ 36 ∧ 0 ≤ loM (N % 18446744073709551616) base ∧ loM (N % 18446744073709551616) base < 18446744073709551616 ∧
    0 ≤ carA (loM (N % 18446744073709551616) base) d ∧ carA (loM (N % 18446744073709551616) base) d ≤ 1 ∧ sumA (loM (N % 18446744073709551616) base) d = (N * base + d) % 18446744073709551616 ∧ 0 ≤ N * base + d ∧
    (18446744073709551616 ≤ N → 18446744073709551616 ≤ N * base + d) ∧ (N < 18446744073709551616 → (0 < hiM (N % 18446744073709551616) base + carA (loM (N % 18446744073709551616) base) d ↔ 18446744073709551616 ≤ N * base + d)) := by
  have hNb : N ≤ N * base := by have := Int.mul_le_mul_of_nonneg_left (show (1 : Int) ≤ base by omega) h0; omega
  have hm : N % 18446744073709551616 * base % 18446744073709551616 = N * base % 18446744073709551616 := by rw [Int.mul_emod, Int.emod_emod, ← Int.mul_emod]
  have h1 : 0 ≤ N % 18446744073709551616 * base := Int.mul_nonneg (by omega) (by omega)
  have h2 : N % 18446744073709551616 * base ≤ 18446744073709551615 * 36 := by
    have a : N % 18446744073709551616 * base ≤ 18446744073709551615 * base := Int.mul_le_mul_of_nonneg_right (by omega) (by omega)
    omega
  unfold hiM loM carA sumA
  have h3 : N < 18446744073709551616 → N % 18446744073709551616 * base = N * base := fun h => by rw [Int.emod_eq_of_lt h0 h]
  generalize N % 18446744073709551616 * base = p at *
  generalize N * base = q at *
  refine ⟨by omega, by omega, by omega, by omega, by omega, by omega, by omega, by omega, fun h => by omega, fun h => ?_⟩
  have := h3 h
  subst this
  constructor <;> intro h <;> omega
theorem numL_neg {base : Int} {c : UInt8} {l : List UInt8} {n i : Int} (h : digV (c.toNat : Int) base < 0) : numL base (c :: l) n i = (0, i, 12) := by rw [numL, if_pos h]
theorem numL_pos {base : Int} {c : UInt8} {l : List UInt8} {n i : Int} (h : ¬ digV (c.toNat : Int) base < 0) : numL base (c :: l) n i = numL base l (n * base + digV (c.toNat : Int) base) (i + 1) := by rw [numL, if_neg h]
theorem drop_at (s : ByteArray) (k : Nat) (h : k < s.size) : s.data.toList.drop k = s[k] :: s.data.toList.drop (k + 1) := by
  rw [List.drop_eq_getElem_cons (by simpa using h)]
  rfl
/-- A post that the walk does not look into. -/
def Num3 (r : Int × Int × Int) (w : World) (e : Ending) (w' : World) : Prop := e = .returned (.tuple #[.int .u64 r.1, .int .i64 r.2.1, .int .i64 r.2.2]) ∧ w = w'
theorem num3_mk {r : Int × Int × Int} {w : World} {a b c : Int} (h : r = (a, b, c)) : Num3 r w (.returned (.tuple #[.int .u64 a, .int .i64 b, .int .i64 c])) w := by
  subst h
  exact ⟨rfl, rfl⟩
set_option maxHeartbeats 4000000 in
set_option maxRecDepth 100000 in
theorem number_walk (s : ByteArray) (base : Int) (hs : s.size ≤ 9223372036854775807) (w : World) : Calls Tryd.prog 91 #[.string s, .int .i64 base] w (Num3 (numV s.data.toList base) w) := by
  by_cases hb : base < 2 ∨ 36 < base
  · have hv : numV s.data.toList base = (0, 0, 11) := if_pos hb
    have HV := Aside0.mk hv
    clear hv
    rcases hb with hb | hb
    · go_enter Tryd.func91, Tryd.ntmps91
      go_wp2_with fail
      all_goals go_ret3
      all_goals exact num3_mk HV.out
    · have hb2 : ¬ base < 2 := by omega
      go_enter Tryd.func91, Tryd.ntmps91
      go_wp2_with fail
      all_goals go_ret3
      all_goals exact num3_mk HV.out
  · have h2 : 2 ≤ base := by omega
    have h3 : base ≤ 36 := by omega
    by_cases hnil : s.data.toList = []
    · have hv : numV s.data.toList base = (0, 0, 12) := by rw [numV, if_neg hb, if_pos hnil]
      have HV := Aside0.mk hv
      clear hv hb
      have he : s.toList.isEmpty = true := by rw [ByteArray.toList_eq]; simp [hnil]
      go_enter Tryd.func91, Tryd.ntmps91
      go_wp2_with fail
      all_goals go_tidy
      all_goals go_ret3
      all_goals exact num3_mk HV.out
    · have hv : numV s.data.toList base = numL base s.data.toList 0 0 := by rw [numV, if_neg hb, if_neg hnil]
      have HV := Aside0.mk hv
      clear hv hb
      have he : s.toList.isEmpty = false := by rw [ByteArray.toList_eq]; simpa using hnil
      go_enter Tryd.func91, Tryd.ntmps91
      go_wp2_with fail
      go_loop [7, 8, 27] (fun n g i => ∃ (k : Nat) (N : Int), k ≤ s.size ∧ 0 ≤ N ∧ n = .int .u64 (N % 18446744073709551616) ∧ g = .bool (decide (18446744073709551616 ≤ N)) ∧ i = .int .i64 k ∧ Aside0 (numL base s.data.toList 0 0 = numL base (s.data.toList.drop k) N k)) (fun _ _ i => s.size - (intOf i).toNat)
      case atStart => exact ⟨0, 0, Nat.zero_le _, Int.le_refl 0, rfl, rfl, rfl, ⟨rfl⟩⟩
      case round =>
        obtain ⟨k, N, hk, hN, rfl, rfl, rfl, HL⟩ := hrel
        by_cases hlt : k < s.size
        · obtain ⟨d, hd⟩ : ∃ d, d = digV (s[k].toNat : Int) base := ⟨_, rfl⟩
          have hD := fun w => digit_walk (s[k].toNat : Int) base (by omega) (by have := s[k].toNat_lt; omega) w
          have hdlt : d < base := hd ▸ digV_lt h2
          rw [← hd] at hD
          have hdrop := drop_at s k hlt
          have HD := Aside0.mk hdrop
          have HE := Aside0.mk hd
          have HDW := Aside0.mk hD
          clear hdrop hd hD
          by_cases hneg : d < 0
          · go_wp2_with (go_at_call 86; refine (HDW.out _).mono ?_; rintro e w' ⟨rfl, rfl⟩)
            all_goals go_tidy
            all_goals go_ret3
            all_goals exact num3_mk (by rw [HV.out, HL.out, HD.out]; exact numL_neg (by rw [← HE.out]; exact hneg))
          · have hd0 : 0 ≤ d := by omega
            obtain ⟨s1, s2, s3, s4, s5, s6, s7, s8, s9, s10⟩ := num_step hN h2 h3 hd0 hdlt
            have S9 := Aside0.mk s9
            have S10 := Aside0.mk s10
            clear s9 s10
            have hnb : N % 18446744073709551616 < 18446744073709551616 := by omega
            have hnb0 : 0 ≤ N % 18446744073709551616 := by omega
            go_wp2_with (first | (go_at_call 86; refine (HDW.out _).mono ?_; rintro e w' ⟨rfl, rfl⟩) | (go_at_call 122; refine (mul64_walk _ _ (by omega) (by omega) (by omega) (by omega) _).mono ?_; rintro e w' ⟨rfl, rfl⟩) | simp only [add64_at _ d s3 hd0])
            all_goals go_tidy
            all_goals refine ⟨⟨k + 1, N * base + d, by omega, s8, by first | rfl | rw [s7], ?_, by go_num, ⟨by rw [HL.out, HD.out, numL_pos (by rw [← HE.out]; exact hneg), ← HE.out]; rfl⟩⟩, by simp [intOf]; omega⟩
            · rw [decide_eq_false (show ¬ 18446744073709551616 ≤ N by omega), Bool.false_or]
              congr 1
              rw [decide_eq_decide]
              exact S10.out (by omega)
            · rw [decide_eq_true (S9.out (by omega))]
        · obtain rfl : k = s.size := by omega
          have hL : numL base s.data.toList 0 0 = numL base [] N s.size := by rw [HL.out, List.drop_of_length_le (by simp)]
          by_cases hbig : 18446744073709551616 ≤ N
          · have hf : numV s.data.toList base = (0, 0, 13) := by rw [HV.out, hL, numL, if_pos hbig]
            have HF := Aside0.mk hf
            clear hL hf
            go_wp2_with fail
            all_goals go_tidy
            all_goals go_ret3
            all_goals exact num3_mk HF.out
          · have hf : numV s.data.toList base = (N % 18446744073709551616, 0, 0) := by rw [HV.out, hL, numL, if_neg hbig, Int.emod_eq_of_lt hN (by omega)]
            have HF := Aside0.mk hf
            clear hL hf
            go_wp2_with fail
            all_goals go_tidy
            all_goals go_ret3
            all_goals exact num3_mk HF.out
end Go.Proofs.YtcgdjnmfeibnoaaDoor
/-! Given -/
namespace Go.Proofs.YtcgdjnmfeibnoaaDoor
open Go.RowKit Go.Proofs.YtcgdjnmfeibnoaaDoorW.PrintWords
set_option linter.unusedVariables false
def octet_Number.f (a0 : ByteArray) (a1 : Int) : Option (Int × Int × Int) := if a0.size ≤ 9223372036854775807 then some (numV a0.data.toList a1) else none
theorem octet_Number.calls (a0 : ByteArray) (a1 : Int) (r1 r2 r3 : Int) (w : World) (h : octet_Number.f a0 a1 = some (r1, r2, r3)) :
    Calls Tryd.prog 91 #[.string a0, .int .i64 a1] w fun e w' => e = .returned (.tuple #[.int .u64 r1, .int .i64 r2, .int .i64 r3]) ∧ Drawn0 w w' := by
  unfold octet_Number.f at h
  by_cases hs : a0.size ≤ 9223372036854775807
  · rw [if_pos hs] at h
    have h := Option.some.inj h
    refine (number_walk a0 a1 hs w).mono fun e w' ⟨he, hw⟩ => ⟨?_, drawn_same hw⟩
    rw [he, h]
  · rw [if_neg hs] at h
    cases h
end Go.Proofs.YtcgdjnmfeibnoaaDoor
/-! Str -/
namespace Go.Proofs.YtcgdjnmfeibnoaaDoor
open Go.RowKit Go.Proofs.YtcgdjnmfeibnoaaDoorW.PrintWords
set_option linter.unusedVariables false
set_option linter.unusedSimpArgs false
/-- What is asked of the library's variables: bytealg.MaxLen is a number. -/
structure GW (w : World) : Prop where
  maxLen : ∃ m : Int, w.cell? ⟨1, 0, none⟩ = some (.int .i64 m)
theorem maxLen_keep {w w' : World} (h : ∃ m : Int, w.cell? ⟨1, 0, none⟩ = some (.int .i64 m)) (hb : Below w.heap.size w w') : ∃ m : Int, w'.cell? ⟨1, 0, none⟩ = some (.int .i64 m) := by
  obtain ⟨m, hm⟩ := h
  refine ⟨m, ?_⟩
  rw [hb.cell (p := ⟨1, 0, none⟩) (World.block_lt_of_cell? w _ hm)]
  exact hm
theorem tab_keep {w w' : World} {name : String} {k : IntKind} {l : List Int} (h : Lib.TabIs Tryd.prog w name k l) (hb : Below w.heap.size w w') : Lib.TabIs Tryd.prog w' name k l := Lib.tabBelow_of_tabIs h w' hb
theorem GW.keep {w w' : World} (h : GW w) (hb : Below w.heap.size w w') : GW w' where
  maxLen := maxLen_keep h.maxLen hb
set_option maxHeartbeats 1000000 in
set_option maxRecDepth 100000 in
theorem lite_cut_one (s : ByteArray) (c : UInt8) (hs : s.size ≤ 9223372036854775807) (w : World) :
    Calls Tryd.prog 88 #[.string s, .string ⟨#[c]⟩] w fun e w' => e = .returned (.tuple #[.string ⟨(Lib.cut s.data.toList [c]).1.toArray⟩, .string ⟨(Lib.cut s.data.toList [c]).2.1.toArray⟩, .bool (Lib.cut s.data.toList [c]).2.2]) ∧ ∃ n, w' = w.drewN n := by
  have hI := Tryd.stringslite_Index_one s c
  rw [← Lib.index_one] at hI
  have HI := Aside0.mk hI
  clear hI
  rcases Lib.indexB_cases s ⟨#[c]⟩ with hix | ⟨i, hix, hroom⟩
  · obtain ⟨e1, e2, e3⟩ := Lib.cutB_miss s ⟨#[c]⟩ hix
    rw [show ([c] : List UInt8) = (⟨#[c]⟩ : ByteArray).data.toList from rfl, e1, e2, e3]
    have hix' : Lib.index s.data.toList [c] = _ := hix
    rw [hix'] at HI
    clear hix hix' e1 e2 e3
    go_enter Tryd.func88, Tryd.ntmps88
    go_wp2_with (go_at_call 120; refine (HI.out _).mono ?_; rintro e w' ⟨rfl, rfl⟩)
    go_ret3
    exact ⟨rfl, 0, rfl⟩
  · obtain ⟨e1, e2, e3⟩ := Lib.cutB_hit s ⟨#[c]⟩ i hix
    rw [show ([c] : List UInt8) = (⟨#[c]⟩ : ByteArray).data.toList from rfl, e1, e2, e3]
    have hix' : Lib.index s.data.toList [c] = _ := hix
    rw [hix'] at HI
    have hr : i + 1 ≤ s.size := hroom
    have c1 : (0 : Int) ≤ ↑i := by omega
    have c2 : (↑i : Int) ≤ ↑s.size := by omega
    have c3 : (0 : Int) ≤ ↑i + 1 := by omega
    have c4 : (↑i + 1 : Int) ≤ ↑s.size := by omega
    clear hix hix' e1 e2 e3
    go_enter Tryd.func88, Tryd.ntmps88
    go_wp2_with (go_at_call 120; refine (HI.out _).mono ?_; rintro e w' ⟨rfl, rfl⟩)
    go_region
    all_goals go_wp2_with fail
    go_ret3
    exact ⟨rfl, 1, rfl⟩
set_option maxHeartbeats 1000000 in
set_option maxRecDepth 100000 in
theorem cut_one (s : ByteArray) (c : UInt8) (hs : s.size ≤ 9223372036854775807) (w : World) :
    Calls Tryd.prog 45 #[.string s, .string ⟨#[c]⟩] w fun e w' => e = .returned (.tuple #[.string ⟨(Lib.cut s.data.toList [c]).1.toArray⟩, .string ⟨(Lib.cut s.data.toList [c]).2.1.toArray⟩, .bool (Lib.cut s.data.toList [c]).2.2]) ∧ ∃ n, w' = w.drewN n := by
  have HC := Aside0.mk (lite_cut_one s c hs)
  generalize Lib.cut s.data.toList [c] = r at HC ⊢
  go_enter Tryd.func45, Tryd.ntmps45
  go_wp2_with (go_at_call 88; refine (HC.out _).mono ?_; rintro e w' ⟨rfl, n, rfl⟩)
  go_ret3
  exact ⟨rfl, _, rfl⟩
def strings_Cut.f (a0 a1 : ByteArray) : Option (ByteArray × ByteArray × Bool) :=
  if a0.size < 4294967281 ∨ a1.size = 1 ∧ a0.size ≤ 9223372036854775807 then some (⟨(Lib.cut a0.data.toList a1.data.toList).1.toArray⟩, ⟨(Lib.cut a0.data.toList a1.data.toList).2.1.toArray⟩, (Lib.cut a0.data.toList a1.data.toList).2.2) else none
theorem strings_Cut.calls (a0 a1 : ByteArray) (r1 r2 : ByteArray) (r3 : Bool) (w : World) (hG : GW w) (h : strings_Cut.f a0 a1 = some (r1, r2, r3)) :
    Calls Tryd.prog 45 #[.string a0, .string a1] w fun e w' => e = .returned (.tuple #[.string r1, .string r2, .bool r3]) ∧ Drawn0 w w' := by
  unfold strings_Cut.f at h
  by_cases hs : a0.size < 4294967281 ∨ a1.size = 1 ∧ a0.size ≤ 9223372036854775807
  · rw [if_pos hs] at h
    injection h with h
    injection h with h1 h2
    injection h2 with h2 h3
    subst h1 h2 h3
    rcases hs with hs | ⟨h1, hs⟩
    · obtain ⟨m, hm⟩ := hG.maxLen
      refine (Tryd.strings_Cut a0 a1 m w hs hm).mono ?_
      rintro e w' ⟨rfl, hw⟩
      exact ⟨rfl, ⟨hw⟩⟩
    · obtain ⟨⟨l⟩⟩ := a1
      match l, h1 with
      | [c], _ =>
        refine (cut_one a0 c hs w).mono ?_
        rintro e w' ⟨rfl, hw⟩
        exact ⟨rfl, ⟨hw⟩⟩
  · rw [if_neg hs] at h
    cases h
/-- A row of strings of the call's own. -/
theorem kd_strings {w : World} {base : Nat} {e : TypeId} {v : Value} {n : Nat} {xs : List ByteArray} (h : w.ownsRow base e 1 v n (xs.map Value.string)) : Kd.R Kd.string e w base (fun _ => True) v xs := by
  have hn : n = xs.length := by simpa using h.1.symm
  subst hn
  refine ⟨fun _ _ => trivial, xs.map Value.string, h, by show (xs.map Value.string).length = xs.length * 1; simp, fun j p hj => ?_⟩
  show ((xs.map Value.string).drop (j * 1)).take 1 = [Value.string p]
  have hj' : j < xs.length := by
    rcases Nat.lt_or_ge j xs.length with h | h
    · exact h
    · rw [List.getElem?_eq_none h] at hj; cases hj
  rw [List.getElem?_eq_getElem hj'] at hj
  obtain rfl := Option.some.inj hj
  rw [Nat.mul_one, List.drop_eq_getElem_cons (by simpa using hj')]
  simp
/-- A block that was just made, whole. -/
theorem own_made (w : World) (base : Nat) (e : TypeId) (cs : List Value) (h : cs.length ≤ maxLen) (hb : base ≤ w.heap.size) : (w.alloc (.cells cs.toArray e)).ownsRow base e 1 (.slice (some ⟨w.heap.size, 0, none⟩) cs.length cs.length) cs.length cs :=
  ⟨by simp, .inr ⟨w.heap.size, cs.length, cs.toArray, rfl, hb, by simpa using heap_alloc_new w _, Nat.le_refl _, h, by simp, by simp⟩⟩
def strings_Split.f (a0 a1 : ByteArray) : Option (List ByteArray) :=
  if a0.size < 4294967281 ∧ 1 ≤ a1.size then some (Lib.splitB a1 0 (Lib.countB a0 a1) a0) else none
theorem strings_Split.calls (a0 a1 : ByteArray) (r : List ByteArray) (w : World) (hG : GW w) (h : strings_Split.f a0 a1 = some r) :
    Calls Tryd.prog 89 #[.string a0, .string a1] w fun e w' => ∃ v0_ : Value, e = .returned v0_ ∧ Kd.R Kd.string 9 w' w.heap.size (fun _ => True) v0_ r ∧ Below w.heap.size w w' := by
  unfold strings_Split.f at h
  by_cases hs : a0.size < 4294967281 ∧ 1 ≤ a1.size
  · rw [if_pos hs] at h
    obtain rfl := Option.some.inj h
    obtain ⟨m, hm⟩ := hG.maxLen
    refine (Tryd.strings_Split a0 a1 m w hs.1 hm hs.2).mono ?_
    rintro e w' ⟨rfl, rfl⟩
    have hl := Lib.splitB_all a1 hs.2 0 _ a0 rfl
    have hc := Lib.countB_le a1 hs.2 _ a0 (Nat.le_refl _)
    refine ⟨_, rfl, kd_strings (n := Lib.countB a0 a1 + 1) ?_, (Below.refl _ _).alloc (Nat.le_refl _) _⟩
    have := own_made w w.heap.size 9 ((Lib.splitB a1 0 (Lib.countB a0 a1) a0).map Value.string) (by rw [List.length_map, hl]; unfold maxLen; omega) (Nat.le_refl _)
    rw [List.length_map, hl] at this
    exact this
  · rw [if_neg hs] at h
    cases h
end Go.Proofs.YtcgdjnmfeibnoaaDoor
/-! X2 -/
namespace Go.Proofs.YtcgdjnmfeibnoaaDoor.X
open Go.RowKit Go.Proofs.YtcgdjnmfeibnoaaDoorW.PrintWords Go.Proofs.YtcgdjnmfeibnoaaDoorW.PrintLast Go.Proofs.YtcgdjnmfeibnoaaDoorW.PrintMore
attribute [local go_sem] max2_int min2_int max_two min_two max_three min_three max_four min_four
set_option linter.unusedVariables false
set_option linter.unusedSimpArgs false
mutual
def four_Strict.l0 : Nat → ByteArray → Int → Int → Int → Option (Int × Int × Int)
  | 0, _, _, _, _ => none
  | k + 1, x0, x5, x6, x11 => if x11 < 4 then (four_Strict.l1 k x0 x5 x6 x11 0 x6 x11) else (if x6 < (x0.size : Int) then (some (0, x6, 203)) else (some (x5, 0, 0)))
def four_Strict.l1 : Nat → ByteArray → Int → Int → Int → Int → Int → Int → Option (Int × Int × Int)
  | 0, _, _, _, _, _, _, _ => none
  | k + 1, x0, x5, x6, x7, x8, x9, x11 => if x6 < (x0.size : Int) then (if 0 ≤ x6 then (if (bt x0 x6) ≥ 48 then (four_Strict.j2 k x0 x5 x6 x7 x8 x9 x11 (decide ((bt x0 x6) ≤ 57))) else (four_Strict.j2 k x0 x5 x6 x7 x8 x9 x11 false)) else (none)) else (four_Strict.j2 k x0 x5 x6 x7 x8 x9 x11 false)
def four_Strict.j2 : Nat → ByteArray → Int → Int → Int → Int → Int → Int → Bool → Option (Int × Int × Int)
  | 0, _, _, _, _, _, _, _, _ => none
  | k + 1, x0, x5, x6, x7, x8, x9, x11, x30 => if x30 = true then (if 0 ≤ x6 then (if x6 < (x0.size : Int) then (if (wrap64 ((wrap64 (10 * x8)) + (((bt x0 x6) - 48) % 256))) > 255 then (some (0, x6, 203)) else (if x6 > x9 then (if x8 = 0 then (some (0, x6, 203)) else (four_Strict.l1 k x0 x5 (wrap64 (x6 + 1)) x7 (wrap64 ((wrap64 (10 * x8)) + (((bt x0 x6) - 48) % 256))) x9 x11)) else (four_Strict.l1 k x0 x5 (wrap64 (x6 + 1)) x7 (wrap64 ((wrap64 (10 * x8)) + (((bt x0 x6) - 48) % 256))) x9 x11))) else (none)) else (none)) else (if x6 = x9 then (some (0, x6, 203)) else (if x7 = 3 then (if x6 < (x0.size : Int) then (some (0, x6, 203)) else (some (Go.bits .or .u32 ((x5 * 256) % 4294967296) ((x8) % 4294967296), 0, 0))) else (if x6 = (x0.size : Int) then (some (0, x6, 203)) else (if 0 ≤ x6 then (if x6 < (x0.size : Int) then (if (bt x0 x6) = 46 then (four_Strict.l0 k x0 (Go.bits .or .u32 ((x5 * 256) % 4294967296) ((x8) % 4294967296)) (wrap64 (x6 + 1)) (wrap64 (x11 + 1))) else (some (0, x6, 203))) else (none)) else (none)))))
end
def four_Strict.f (k : Nat) (a0 : ByteArray) : Option (Int × Int × Int) := four_Strict.l0 k a0 0 0 0
set_option maxHeartbeats 8000000 in
set_option maxRecDepth 100000 in
theorem four_Strict.calls (k : Nat) (a0 : ByteArray) (r1 : Int) (r2 : Int) (r3 : Int) (w : World) (h : four_Strict.f k a0 = some (r1, r2, r3)) :
    Calls Tryd.prog 90 #[.string a0] w fun e w' => e = .returned (.tuple #[.int .u32 r1, .int .i64 r2, .int .i64 r3]) ∧ Drawn0 w w' := by
  have H : (four_Strict.l0 k a0 0 0 0) = some (r1, r2, r3) := h
  clear h
  have H' := Aside0.mk H
  clear H
  go_enter Tryd.func90, Tryd.ntmps90
  go_wp2
  go_loopg [5, 6, 11] k (fun kq v5 v6 v11 w' => ∃ (x5_1 : Int) (x6_1 : Int) (x11_1 : Int), v5 = .int .u32 x5_1 ∧ v6 = .int .i64 x6_1 ∧ v11 = .int .i64 x11_1 ∧ Aside0 (four_Strict.l0 kq a0 x5_1 x6_1 x11_1 = some (r1, r2, r3)) ∧ Aside0 (kq ≤ k) ∧ Drawn0 w w')
  case atStart => exact ⟨(0), (0), (0), (by first | rfl | (simp; done) | (simp [*]; done)), (by first | rfl | (simp; done) | (simp [*]; done)), (by first | rfl | (simp; done) | (simp [*]; done)), H', ⟨Nat.le_refl _⟩, by repeat (first | exact Drawn0.refl _ | apply Drawn0.step)⟩
  case round =>
    clear H'
    obtain ⟨x5_1, x6_1, x11_1, rfl, rfl, rfl, HA, HK1, ⟨m1, rfl⟩⟩ := hrel
    cases gk with
    | zero => exact absurd HA.out (by simp [four_Strict.l0])
    | succ k1 =>
      have H := HA.out
      clear HA
      simp only [four_Strict.l0] at H
      by_cases c2 : x11_1 < 4
      · rw [if_pos c2] at H
        have c2b0 : decide (x11_1 < 4) = true := decide_eq_true c2
        clear c2
        have H' := Aside0.mk H
        clear H
        go_wp2
        go_loopg [6, 8] k1 (fun kq v6 v8 w' => ∃ (x6_2 : Int) (x8_2 : Int), v6 = .int .i64 x6_2 ∧ v8 = .int .i64 x8_2 ∧ Aside0 (four_Strict.l1 kq a0 x5_1 x6_2 x11_1 x8_2 x6_1 x11_1 = some (r1, r2, r3)) ∧ Aside0 (kq ≤ k1) ∧ Drawn0 w w')
        case atStart => exact ⟨(x6_1), (0), (by first | rfl | (simp; done) | (simp [*]; done)), (by first | rfl | (simp; done) | (simp [*]; done)), H', ⟨Nat.le_refl _⟩, by repeat (first | exact Drawn0.refl _ | apply Drawn0.step)⟩
        case round =>
          clear H'
          try clear c2
          try clear c2b0
          try clear p2
          obtain ⟨x6_2, x8_2, rfl, rfl, HA, HK2, ⟨m2, rfl⟩⟩ := hrel
          cases gk with
          | zero => exact absurd HA.out (by simp [four_Strict.l1])
          | succ k2 =>
            have H := HA.out
            clear HA
            simp only [four_Strict.l1] at H
            have HC3 := Aside0.mk H
            clear H
            go_upto_region 6 with (fail)
            go_cut [30] (fun v30 wc => ∃ (kq : Nat) (x30_2 : Bool), v30 = .bool x30_2 ∧ Aside0 (four_Strict.j2 kq a0 x5_1 x6_2 x11_1 x8_2 x6_1 x11_1 x30_2 = some (r1, r2, r3)) ∧ Aside0 (kq ≤ k2) ∧ Drawn0 w wc)
            case first =>
              have H := HC3.out
              clear HC3
              by_cases c4 : x6_2 < (a0.size : Int)
              · rw [if_pos c4] at H
                have c4b0 : decide (x6_2 < (a0.size : Int)) = true := decide_eq_true c4
                clear c4
                (first | rw [c4b0] | (simp only [i64_w, i32_w]; rw [c4b0]) | skip)
                by_cases c5 : 0 ≤ x6_2
                · rw [if_pos c5] at H
                  have c5b0 : decide (0 ≤ x6_2) = true := decide_eq_true c5
                  clear c5
                  by_cases c7 : (bt a0 x6_2) ≥ 48
                  · rw [if_pos c7] at H
                    have c7b0 : decide (48 ≤ (bt a0 x6_2)) = true := decide_eq_true c7
                    clear c7
                    have H' := Aside0.mk H
                    clear H
                    have p6 : 0 ≤ (x6_2 : Int) := of_decide_eq_true (by first | (with_reducible assumption) | assumption)
                    have q6 : x6_2 < (a0.size : Int) := of_decide_eq_true (by first | (with_reducible assumption) | assumption)
                    have hx6 := bt_at a0 x6_2
                    replace p6 := eq_true p6
                    replace q6 := eq_true q6
                    have p8 : 0 ≤ (x6_2 : Int) := of_decide_eq_true (by first | (with_reducible assumption) | assumption)
                    have q8 : x6_2 < (a0.size : Int) := of_decide_eq_true (by first | (with_reducible assumption) | assumption)
                    have hx8 := bt_at a0 x6_2
                    replace p8 := eq_true p8
                    replace q8 := eq_true q8
                    go_wp2
                    go_meet
                    case rel => exact ⟨_, (decide ((bt a0 x6_2) ≤ 57)), (by first | rfl | (simp; done) | (simp [*]; done)), H', ⟨by have := HK1.out; have := HK2.out; first | omega | exact Nat.le_refl _⟩, by repeat (first | exact Drawn0.refl _ | apply Drawn0.step)⟩
                  · rw [if_neg c7] at H
                    have c7b0 : decide (48 ≤ (bt a0 x6_2)) = false := decide_eq_false c7
                    clear c7
                    have H' := Aside0.mk H
                    clear H
                    have p6 : 0 ≤ (x6_2 : Int) := of_decide_eq_true (by first | (with_reducible assumption) | assumption)
                    have q6 : x6_2 < (a0.size : Int) := of_decide_eq_true (by first | (with_reducible assumption) | assumption)
                    have hx6 := bt_at a0 x6_2
                    replace p6 := eq_true p6
                    replace q6 := eq_true q6
                    go_wp2
                    go_meet
                    case rel => exact ⟨_, (false), (by first | rfl | (simp; done) | (simp [*]; done)), H', ⟨by have := HK1.out; have := HK2.out; first | omega | exact Nat.le_refl _⟩, by repeat (first | exact Drawn0.refl _ | apply Drawn0.step)⟩
                · rw [if_neg c5] at H
                  exact absurd H (by simp)
              · rw [if_neg c4] at H
                have c4b0 : decide (x6_2 < (a0.size : Int)) = false := decide_eq_false c4
                clear c4
                (first | rw [c4b0] | (simp only [i64_w, i32_w]; rw [c4b0]) | skip)
                have H' := Aside0.mk H
                clear H
                go_wp2
                go_meet
                case rel => exact ⟨_, (false), (by first | rfl | (simp; done) | (simp [*]; done)), H', ⟨by have := HK1.out; have := HK2.out; first | omega | exact Nat.le_refl _⟩, by repeat (first | exact Drawn0.refl _ | apply Drawn0.step)⟩
            case rest =>
              clear HC3
              try clear c2
              try clear c2b0
              try clear p2
              try clear c4
              try clear c4b0
              try clear c5
              try clear c5b0
              try clear p6
              try clear q6
              try clear hx6
              try clear c7
              try clear c7b0
              try clear p8
              try clear q8
              try clear hx8
              try clear p2
              try clear p6
              try clear p8
              try clear q6
              try clear q8
              obtain ⟨kq, x30_2, rfl, HA, HJ2, ⟨mc2, rfl⟩⟩ := hcut
              cases kq with
              | zero => exact absurd HA.out (by simp [four_Strict.j2])
              | succ kj2 =>
                have H := HA.out
                clear HA
                simp only [four_Strict.j2] at H
                by_cases c9 : x30_2 = true
                · subst c9
                  have H1 : (if 0 ≤ x6_2 then (if x6_2 < (a0.size : Int) then (if (wrap64 ((wrap64 (10 * x8_2)) + (((bt a0 x6_2) - 48) % 256))) > 255 then (some (0, x6_2, 203)) else (if x6_2 > x6_1 then (if x8_2 = 0 then (some (0, x6_2, 203)) else (four_Strict.l1 kj2 a0 x5_1 (wrap64 (x6_2 + 1)) x11_1 (wrap64 ((wrap64 (10 * x8_2)) + (((bt a0 x6_2) - 48) % 256))) x6_1 x11_1)) else (four_Strict.l1 kj2 a0 x5_1 (wrap64 (x6_2 + 1)) x11_1 (wrap64 ((wrap64 (10 * x8_2)) + (((bt a0 x6_2) - 48) % 256))) x6_1 x11_1))) else (none)) else (none)) = some (r1, r2, r3) := by rw [if_pos rfl] at H; exact H
                  clear H
                  have H := H1
                  clear H1
                  by_cases c10 : 0 ≤ x6_2
                  · rw [if_pos c10] at H
                    have c10b0 : decide (0 ≤ x6_2) = true := decide_eq_true c10
                    clear c10
                    by_cases c11 : x6_2 < (a0.size : Int)
                    · rw [if_pos c11] at H
                      have c11b0 : decide (x6_2 < (a0.size : Int)) = true := decide_eq_true c11
                      clear c11
                      by_cases c13 : (wrap64 ((wrap64 (10 * x8_2)) + (((bt a0 x6_2) - 48) % 256))) > 255
                      · rw [if_pos c13] at H
                        have c13b0 : decide (255 < (wrap64 ((wrap64 (10 * x8_2)) + (((bt a0 x6_2) - 48) % 256)))) = true := decide_eq_true c13
                        clear c13
                        simp only [Option.some.injEq, Prod.mk.injEq] at H
                        obtain ⟨rfl, rfl, rfl⟩ := H
                        have p12 : 0 ≤ (x6_2 : Int) := of_decide_eq_true (by first | (with_reducible assumption) | assumption)
                        have q12 : x6_2 < (a0.size : Int) := of_decide_eq_true (by first | (with_reducible assumption) | assumption)
                        have hx12 := bt_at a0 x6_2
                        replace p12 := eq_true p12
                        replace q12 := eq_true q12
                        go_wp2
                        go_ret3
                        exact ⟨by first | rfl | (simp; done) | (simp [*]; done), by repeat (first | exact Drawn0.refl _ | apply Drawn0.step)⟩
                      · rw [if_neg c13] at H
                        have c13b0 : decide (255 < (wrap64 ((wrap64 (10 * x8_2)) + (((bt a0 x6_2) - 48) % 256)))) = false := decide_eq_false c13
                        clear c13
                        by_cases c14 : x6_2 > x6_1
                        · rw [if_pos c14] at H
                          have c14b0 : decide (x6_1 < x6_2) = true := decide_eq_true c14
                          clear c14
                          by_cases c15 : x8_2 = 0
                          · rw [if_pos c15] at H
                            have c15b0 : (x8_2 == 0) = true := beq_iff_eq.mpr c15
                            have c15b1 : (x8_2 != 0) = false := bne_eq_false_iff_eq.mpr c15
                            clear c15
                            simp only [Option.some.injEq, Prod.mk.injEq] at H
                            obtain ⟨rfl, rfl, rfl⟩ := H
                            have p12 : 0 ≤ (x6_2 : Int) := of_decide_eq_true (by first | (with_reducible assumption) | assumption)
                            have q12 : x6_2 < (a0.size : Int) := of_decide_eq_true (by first | (with_reducible assumption) | assumption)
                            have hx12 := bt_at a0 x6_2
                            replace p12 := eq_true p12
                            replace q12 := eq_true q12
                            go_wp2
                            go_ret3
                            exact ⟨by first | rfl | (simp; done) | (simp [*]; done), by repeat (first | exact Drawn0.refl _ | apply Drawn0.step)⟩
                          · rw [if_neg c15] at H
                            have c15b0 : (x8_2 == 0) = false := beq_eq_false_iff_ne.mpr c15
                            have c15b1 : (x8_2 != 0) = true := bne_iff_ne.mpr c15
                            have H' := Aside0.mk H
                            clear H
                            have p12 : 0 ≤ (x6_2 : Int) := of_decide_eq_true (by first | (with_reducible assumption) | assumption)
                            have q12 : x6_2 < (a0.size : Int) := of_decide_eq_true (by first | (with_reducible assumption) | assumption)
                            have hx12 := bt_at a0 x6_2
                            replace p12 := eq_true p12
                            replace q12 := eq_true q12
                            go_wp2
                            go_roundg kj2
                            case measure => have := HK1.out; have := HK2.out; have := HJ2.out; omega
                            case rel => exact ⟨(wrap64 (x6_2 + 1)), (wrap64 ((wrap64 (10 * x8_2)) + (((bt a0 x6_2) - 48) % 256))), (by first | rfl | (simp; done) | (simp [*]; done)), (by first | rfl | (simp; done) | (simp [*]; done)), H', ⟨by have := HK1.out; have := HK2.out; have := HJ2.out; omega⟩, by repeat (first | exact Drawn0.refl _ | apply Drawn0.step)⟩
                        · rw [if_neg c14] at H
                          have c14b0 : decide (x6_1 < x6_2) = false := decide_eq_false c14
                          clear c14
                          have H' := Aside0.mk H
                          clear H
                          have p12 : 0 ≤ (x6_2 : Int) := of_decide_eq_true (by first | (with_reducible assumption) | assumption)
                          have q12 : x6_2 < (a0.size : Int) := of_decide_eq_true (by first | (with_reducible assumption) | assumption)
                          have hx12 := bt_at a0 x6_2
                          replace p12 := eq_true p12
                          replace q12 := eq_true q12
                          go_wp2
                          go_roundg kj2
                          case measure => have := HK1.out; have := HK2.out; have := HJ2.out; omega
                          case rel => exact ⟨(wrap64 (x6_2 + 1)), (wrap64 ((wrap64 (10 * x8_2)) + (((bt a0 x6_2) - 48) % 256))), (by first | rfl | (simp; done) | (simp [*]; done)), (by first | rfl | (simp; done) | (simp [*]; done)), H', ⟨by have := HK1.out; have := HK2.out; have := HJ2.out; omega⟩, by repeat (first | exact Drawn0.refl _ | apply Drawn0.step)⟩
                    · rw [if_neg c11] at H
                      exact absurd H (by simp)
                  · rw [if_neg c10] at H
                    exact absurd H (by simp)
                · replace c9 := Bool.eq_false_iff.mpr c9
                  subst c9
                  have H1 : (if x6_2 = x6_1 then (some (0, x6_2, 203)) else (if x11_1 = 3 then (if x6_2 < (a0.size : Int) then (some (0, x6_2, 203)) else (some (Go.bits .or .u32 ((x5_1 * 256) % 4294967296) ((x8_2) % 4294967296), 0, 0))) else (if x6_2 = (a0.size : Int) then (some (0, x6_2, 203)) else (if 0 ≤ x6_2 then (if x6_2 < (a0.size : Int) then (if (bt a0 x6_2) = 46 then (four_Strict.l0 kj2 a0 (Go.bits .or .u32 ((x5_1 * 256) % 4294967296) ((x8_2) % 4294967296)) (wrap64 (x6_2 + 1)) (wrap64 (x11_1 + 1))) else (some (0, x6_2, 203))) else (none)) else (none))))) = some (r1, r2, r3) := by rw [if_neg (show ¬ (false = true) by decide)] at H; exact H
                  clear H
                  have H := H1
                  clear H1
                  by_cases c16 : x6_2 = x6_1
                  · rw [if_pos c16] at H
                    have c16b0 : (x6_2 == x6_1) = true := beq_iff_eq.mpr c16
                    have c16b1 : (x6_2 != x6_1) = false := bne_eq_false_iff_eq.mpr c16
                    clear c16
                    simp only [Option.some.injEq, Prod.mk.injEq] at H
                    obtain ⟨rfl, rfl, rfl⟩ := H
                    go_wp2
                    go_ret3
                    exact ⟨by first | rfl | (simp; done) | (simp [*]; done), by repeat (first | exact Drawn0.refl _ | apply Drawn0.step)⟩
                  · rw [if_neg c16] at H
                    have c16b0 : (x6_2 == x6_1) = false := beq_eq_false_iff_ne.mpr c16
                    have c16b1 : (x6_2 != x6_1) = true := bne_iff_ne.mpr c16
                    by_cases c17 : x11_1 = 3
                    · rw [if_pos c17] at H
                      have c17b0 : (x11_1 == 3) = true := beq_iff_eq.mpr c17
                      have c17b1 : (x11_1 != 3) = false := bne_eq_false_iff_eq.mpr c17
                      clear c17
                      by_cases c18 : x6_2 < (a0.size : Int)
                      · rw [if_pos c18] at H
                        have c18b0 : decide (x6_2 < (a0.size : Int)) = true := decide_eq_true c18
                        clear c18
                        simp only [Option.some.injEq, Prod.mk.injEq] at H
                        obtain ⟨rfl, rfl, rfl⟩ := H
                        go_wp2
                        go_ret3
                        exact ⟨by first | rfl | (simp; done) | (simp [*]; done), by repeat (first | exact Drawn0.refl _ | apply Drawn0.step)⟩
                      · rw [if_neg c18] at H
                        have c18b0 : decide (x6_2 < (a0.size : Int)) = false := decide_eq_false c18
                        clear c18
                        simp only [Option.some.injEq, Prod.mk.injEq] at H
                        obtain ⟨rfl, rfl, rfl⟩ := H
                        go_wp2
                        go_ret3
                        exact ⟨by first | rfl | (simp; done) | (simp [*]; done), by repeat (first | exact Drawn0.refl _ | apply Drawn0.step)⟩
                    · rw [if_neg c17] at H
                      have c17b0 : (x11_1 == 3) = false := beq_eq_false_iff_ne.mpr c17
                      have c17b1 : (x11_1 != 3) = true := bne_iff_ne.mpr c17
                      by_cases c19 : x6_2 = (a0.size : Int)
                      · rw [if_pos c19] at H
                        have c19b0 : (x6_2 == (a0.size : Int)) = true := beq_iff_eq.mpr c19
                        have c19b1 : (x6_2 != (a0.size : Int)) = false := bne_eq_false_iff_eq.mpr c19
                        clear c19
                        simp only [Option.some.injEq, Prod.mk.injEq] at H
                        obtain ⟨rfl, rfl, rfl⟩ := H
                        go_wp2
                        go_ret3
                        exact ⟨by first | rfl | (simp; done) | (simp [*]; done), by repeat (first | exact Drawn0.refl _ | apply Drawn0.step)⟩
                      · rw [if_neg c19] at H
                        have c19b0 : (x6_2 == (a0.size : Int)) = false := beq_eq_false_iff_ne.mpr c19
                        have c19b1 : (x6_2 != (a0.size : Int)) = true := bne_iff_ne.mpr c19
                        by_cases c20 : 0 ≤ x6_2
                        · rw [if_pos c20] at H
                          have c20b0 : decide (0 ≤ x6_2) = true := decide_eq_true c20
                          clear c20
                          by_cases c21 : x6_2 < (a0.size : Int)
                          · rw [if_pos c21] at H
                            have c21b0 : decide (x6_2 < (a0.size : Int)) = true := decide_eq_true c21
                            clear c21
                            by_cases c23 : (bt a0 x6_2) = 46
                            · rw [if_pos c23] at H
                              have c23b0 : ((bt a0 x6_2) == 46) = true := beq_iff_eq.mpr c23
                              have c23b1 : ((bt a0 x6_2) != 46) = false := bne_eq_false_iff_eq.mpr c23
                              clear c23
                              have H' := Aside0.mk H
                              clear H
                              have p22 : 0 ≤ (x6_2 : Int) := of_decide_eq_true (by first | (with_reducible assumption) | assumption)
                              have q22 : x6_2 < (a0.size : Int) := of_decide_eq_true (by first | (with_reducible assumption) | assumption)
                              have hx22 := bt_at a0 x6_2
                              replace p22 := eq_true p22
                              replace q22 := eq_true q22
                              go_wp2
                              go_roundg kj2
                              case measure => have := HK1.out; have := HK2.out; have := HJ2.out; omega
                              case rel => exact ⟨(Go.bits .or .u32 ((x5_1 * 256) % 4294967296) ((x8_2) % 4294967296)), (wrap64 (x6_2 + 1)), (wrap64 (x11_1 + 1)), (by first | rfl | (simp; done) | (simp [*]; done)), (by first | rfl | (simp; done) | (simp [*]; done)), (by first | rfl | (simp; done) | (simp [*]; done)), H', ⟨by have := HK1.out; have := HK2.out; have := HJ2.out; omega⟩, by repeat (first | exact Drawn0.refl _ | apply Drawn0.step)⟩
                            · rw [if_neg c23] at H
                              have c23b0 : ((bt a0 x6_2) == 46) = false := beq_eq_false_iff_ne.mpr c23
                              have c23b1 : ((bt a0 x6_2) != 46) = true := bne_iff_ne.mpr c23
                              simp only [Option.some.injEq, Prod.mk.injEq] at H
                              obtain ⟨rfl, rfl, rfl⟩ := H
                              have p22 : 0 ≤ (x6_2 : Int) := of_decide_eq_true (by first | (with_reducible assumption) | assumption)
                              have q22 : x6_2 < (a0.size : Int) := of_decide_eq_true (by first | (with_reducible assumption) | assumption)
                              have hx22 := bt_at a0 x6_2
                              replace p22 := eq_true p22
                              replace q22 := eq_true q22
                              go_wp2
                              go_ret3
                              exact ⟨by first | rfl | (simp; done) | (simp [*]; done), by repeat (first | exact Drawn0.refl _ | apply Drawn0.step)⟩
                          · rw [if_neg c21] at H
                            exact absurd H (by simp)
                        · rw [if_neg c20] at H
                          exact absurd H (by simp)
      · rw [if_neg c2] at H
        have c2b0 : decide (x11_1 < 4) = false := decide_eq_false c2
        clear c2
        by_cases c24 : x6_1 < (a0.size : Int)
        · rw [if_pos c24] at H
          have c24b0 : decide (x6_1 < (a0.size : Int)) = true := decide_eq_true c24
          clear c24
          simp only [Option.some.injEq, Prod.mk.injEq] at H
          obtain ⟨rfl, rfl, rfl⟩ := H
          go_wp2
          go_ret3
          exact ⟨by first | rfl | (simp; done) | (simp [*]; done), by repeat (first | exact Drawn0.refl _ | apply Drawn0.step)⟩
        · rw [if_neg c24] at H
          have c24b0 : decide (x6_1 < (a0.size : Int)) = false := decide_eq_false c24
          clear c24
          simp only [Option.some.injEq, Prod.mk.injEq] at H
          obtain ⟨rfl, rfl, rfl⟩ := H
          go_wp2
          go_ret3
          exact ⟨by first | rfl | (simp; done) | (simp [*]; done), by repeat (first | exact Drawn0.refl _ | apply Drawn0.step)⟩
def six_written.l0 : Nat → List Int → List ByteArray → Int → Int → Option (List Int)
  | 0, _, _, _, _ => none
  | k + 1, x3, x15, x16, x17 => if x17 < x16 then (if 0 ≤ x17 then (if x17 < (x15.length : Int) then ((four_Strict.f k (rdOf ByteArray.empty x15 x17)).bind fun bt119 => (if bt119.2.2 = 0 then ((some (([IntKind.u16.wrap (bt119.1 / 65536), IntKind.u16.wrap (bt119.1)] : List Int) : List Int)).bind fun y122 => (if x3.length + y122.length < 70368744177664 then (six_written.l0 k (x3 ++ y122) x15 x16 (wrap64 (x17 + 1))) else (none))) else ((octet_Number.f (rdOf ByteArray.empty x15 x17) 16).bind fun bt128 => (if x3.length < 70368744177664 then (six_written.l0 k (x3 ++ [IntKind.u16.wrap (bt128.1)]) x15 x16 (wrap64 (x17 + 1))) else (none))))) else (none)) else (none)) else (some x3)
def six_written.f (k : Nat) (a0 : ByteArray) : Option (List Int) := if a0.toList = ([] : List UInt8) then (some ([] : List Int)) else ((strings_Split.f a0 (⟨#[58]⟩ : ByteArray)).bind fun t115 => (six_written.l0 k ([] : List Int) t115 (t115.length : Int) 0))
set_option maxHeartbeats 8000000 in
set_option maxRecDepth 100000 in
theorem six_written.calls (k : Nat) (a0 : ByteArray) (r : List Int) (w : World) (hG : GW w) (h : six_written.f k a0 = some r) :
    Calls Tryd.prog 46 #[.string a0] w fun e w' => ∃ v0_ : Value, e = .returned (v0_) ∧ Kd.R (Kd.int .u16) 22 w' w.heap.size (fun _ => True) v0_ r ∧ Below w.heap.size w w' := by
  have HG := Aside0.mk hG
  clear hG
  have HB := Aside0.mk (Below.refl w.heap.size w)
  have H : (if a0.toList = ([] : List UInt8) then (some ([] : List Int)) else ((strings_Split.f a0 (⟨#[58]⟩ : ByteArray)).bind fun t115 => (six_written.l0 k ([] : List Int) t115 (t115.length : Int) 0))) = some r := h
  clear h
  by_cases c2 : a0.toList = ([] : List UInt8)
  · rw [if_pos c2] at H
    have c2b0 : (a0.toList == ([] : List UInt8)) = true := beq_iff_eq.mpr c2
    have c2b1 : (a0.toList != ([] : List UInt8)) = false := bne_eq_false_iff_eq.mpr c2
    clear c2
    obtain rfl := Option.some.inj H
    go_enter Tryd.func46, Tryd.ntmps46
    go_wp2
    go_ret
    exact ⟨_, by first | rfl | (simp [errW_none, errW_some] <;> rfl) | (simp [*, errW_none, errW_some] <;> rfl), by first | exact Kd.R_nil _ _ _ _ _ | exact Kd.N_nil _ _ _ _ _ | exact Kd.V_nil _ _ _ _ _ | exact Kd.Q_nil _ _ _ _ _ | exact Kd.S_nil _ _ _ _ _, by repeat (first | (with_reducible first | exact HB.out | apply below_alloc | apply pw_below_drewN | apply below_drew1) | exact HB.out)⟩
  · rw [if_neg c2] at H
    have c2b0 : (a0.toList == ([] : List UInt8)) = false := beq_eq_false_iff_ne.mpr c2
    have c2b1 : (a0.toList != ([] : List UInt8)) = true := bne_iff_ne.mpr c2
    replace H := Option.bind_eq_some_iff.mp H
    obtain ⟨t115, A30, H⟩ := H
    replace H : (six_written.l0 k ([] : List Int) t115 (t115.length : Int) 0) = some r := H
    have A3 := Aside0.mk A30
    clear A30
    have H' := Aside0.mk H
    clear H
    go_enter Tryd.func46, Tryd.ntmps46
    go_wp2_with (first | ((with_reducible refine gate_callee (f := 89) rfl ?_); refine goesL_ (some 15) rfl rfl Tryd.func89 (by kernel_rfl) rfl #[.string a0, .string (⟨#[58]⟩ : ByteArray)] rfl (by (try simp only [List.map_toArray, List.map_cons, List.map_nil]); first | done | rfl | (simp only [List.length_drop, List.length_take]; rfl)) ?_; (with_reducible refine (strings_Split.calls a0 (⟨#[58]⟩ : ByteArray) t115 _ (GW.keep HG.out (by repeat (first | (with_reducible first | exact HB.out | apply below_alloc | apply pw_below_drewN | apply below_drew1) | exact HB.out | exact Below.refl _ _))) A3.out).mono ?_); rintro e w4 ⟨v116, rfl, ho0, hb⟩; refine ⟨_, rfl, ?_⟩; have n0_ := Aside0.mk (Kd.R_lower ho0 (below_size (by repeat (first | (with_reducible first | exact HB.out | apply below_alloc | apply pw_below_drewN | apply below_drew1) | exact HB.out)))); have n1_ := Aside0.mk (below_step (by repeat (first | (with_reducible first | exact HB.out | apply below_alloc | apply pw_below_drewN | apply below_drew1) | exact HB.out)) hb); clear HB; have HO117 := n0_; have HB := n1_; clear n0_ n1_; (try clear hb); (try clear hb2); (try clear hk); (try clear hi); (try clear ho0); obtain ⟨Ao5, co5, eo5⟩ := Kd.R_slice HO117.out; subst eo5))
    go_loopg [3, 17] k (fun kq v3 v17 w' => ∃ (x3_1 : List Int) (x17_1 : Int), v17 = .int .i64 x17_1 ∧ Aside0 (six_written.l0 kq x3_1 t115 (t115.length : Int) x17_1 = some r) ∧ Aside0 (kq ≤ k) ∧ Aside0 (Kd.R (Kd.int .u16) 22 w' w.heap.size (fun _ => True) v3 x3_1) ∧ Aside0 (Kd.R Kd.string 9 w' w.heap.size (fun _ => True) (.slice Ao5 t115.length co5) t115) ∧ Aside0 (Below w.heap.size w w'))
    case atStart => exact ⟨(([] : List Int)), (0), (by first | rfl | (simp; done) | (simp [*]; done)), H', ⟨Nat.le_refl _⟩, ⟨by first | exact Kd.R_nil _ _ _ _ _ | exact Kd.N_nil _ _ _ _ _ | exact Kd.V_nil _ _ _ _ _ | exact Kd.Q_nil _ _ _ _ _ | exact Kd.S_nil _ _ _ _ _⟩, ⟨by (with_reducible repeat (first | apply Kd.R_alloc | apply Kd.R_drewN | apply Kd.R_drew)); exact HO117.out⟩, ⟨by repeat (first | (with_reducible first | exact HB.out | apply below_alloc | apply pw_below_drewN | apply below_drew1) | exact HB.out)⟩⟩
    case round =>
      clear H'
      try clear c2
      try clear c2b0
      try clear c2b1
      try clear p2
      try clear c4
      obtain ⟨x3_1, x17_1, rfl, HA, HK1, HO_3, HO_15, HB⟩ := hrel
      cases gk with
      | zero => exact absurd HA.out (by simp [six_written.l0])
      | succ k1 =>
        have H := HA.out
        clear HA
        simp only [six_written.l0] at H
        by_cases c6 : x17_1 < (t115.length : Int)
        · rw [if_pos c6] at H
          have c6b0 : decide (x17_1 < (t115.length : Int)) = true := decide_eq_true c6
          clear c6
          by_cases c7 : 0 ≤ x17_1
          · rw [if_pos c7] at H
            have c7b0 : decide (0 ≤ x17_1) = true := decide_eq_true c7
            clear c7
            by_cases c8 : x17_1 < (t115.length : Int)
            · rw [if_pos c8] at H
              have c8b0 : decide (x17_1 < (t115.length : Int)) = true := decide_eq_true c8
              clear c8
              replace H := Option.bind_eq_some_iff.mp H
              obtain ⟨⟨t119, t120, t121⟩, A90, H⟩ := H
              replace H : (if t121 = 0 then ((some (([IntKind.u16.wrap (t119 / 65536), IntKind.u16.wrap (t119)] : List Int) : List Int)).bind fun y122 => (if x3_1.length + y122.length < 70368744177664 then (six_written.l0 k1 (x3_1 ++ y122) t115 (t115.length : Int) (wrap64 (x17_1 + 1))) else (none))) else ((octet_Number.f (rdOf ByteArray.empty t115 x17_1) 16).bind fun bt128 => (if x3_1.length < 70368744177664 then (six_written.l0 k1 (x3_1 ++ [IntKind.u16.wrap (bt128.1)]) t115 (t115.length : Int) (wrap64 (x17_1 + 1))) else (none)))) = some r := H
              have A9 := Aside0.mk A90
              clear A90
              by_cases c10 : t121 = 0
              · rw [if_pos c10] at H
                have c10b0 : (t121 == 0) = true := beq_iff_eq.mpr c10
                have c10b1 : (t121 != 0) = false := bne_eq_false_iff_eq.mpr c10
                clear c10
                obtain ⟨y122, hy122⟩ : ∃ y_ : List Int, y_ = (([IntKind.u16.wrap (t119 / 65536), IntKind.u16.wrap (t119)] : List Int)) := ⟨_, rfl⟩
                replace H : (if x3_1.length + y122.length < 70368744177664 then (six_written.l0 k1 (x3_1 ++ y122) t115 (t115.length : Int) (wrap64 (x17_1 + 1))) else (none)) = some r := by first | (rw [hy122]; with_reducible exact H) | (have H2_ := (Option.bind_some _ _).symm.trans H; rw [hy122]; with_reducible exact H2_) | (have H2_ := (Option.bind_some _ _).symm.trans H; with_reducible exact H2_) | with_reducible exact H | (rw [hy122]; exact H) | exact H
                have Ny122 := Aside0.mk hy122
                clear hy122
                by_cases c11 : x3_1.length + y122.length < 70368744177664
                · rw [if_pos c11] at H
                  have LMc11 := Aside0.mk c11
                  clear c11
                  obtain ⟨y125, hy125⟩ : ∃ y_ : List Int, y_ = (x3_1 ++ y122) := ⟨_, rfl⟩
                  replace H : (six_written.l0 k1 y125 t115 (t115.length : Int) (wrap64 (x17_1 + 1))) = some r := by first | (rw [hy125]; with_reducible exact H) | (have H2_ := (Option.bind_some _ _).symm.trans H; rw [hy125]; with_reducible exact H2_) | (have H2_ := (Option.bind_some _ _).symm.trans H; with_reducible exact H2_) | with_reducible exact H | (rw [hy125]; exact H) | exact H
                  have Ny125 := Aside0.mk hy125
                  clear hy125
                  have H' := Aside0.mk H
                  clear H
                  have p118 : 0 ≤ (x17_1 : Int) := of_decide_eq_true (by first | (with_reducible assumption) | assumption)
                  have q118 : x17_1 < (t115.length : Int) := of_decide_eq_true (by first | (with_reducible assumption) | assumption)
                  obtain ⟨ad118, e118, hx118_0⟩ := Kd.at_string (Kd.R_reads' HO_15.out).2.2 x17_1 p118 q118
                  cases e118
                  replace p118 := eq_true p118
                  replace q118 := eq_true q118
                  go_wp2_with (first | ((with_reducible refine gate_callee (f := 90) rfl ?_); refine goesL_ (some 23) rfl rfl Tryd.func90 (by kernel_rfl) rfl #[.string (rdOf ByteArray.empty t115 x17_1)] rfl (by (try simp only [List.map_toArray, List.map_cons, List.map_nil]); first | done | rfl | (simp only [List.length_drop, List.length_take]; rfl)) ?_; (with_reducible refine (four_Strict.calls k1 (rdOf ByteArray.empty t115 x17_1) t119 t120 t121 _ A9.out).mono ?_); rintro e w' ⟨rfl, ⟨nd, rfl⟩⟩; refine ⟨_, rfl, ?_⟩) | ((with_reducible refine gate_dst (N := 35) rfl ?_); refine Kd.R_lit (Kd.int .u16) _ 22 ?hg (N := 35) ?hd (xs := ([IntKind.u16.wrap (t119 / 65536), IntKind.u16.wrap (t119)] : List Int)) (inner := [.int .u16 (IntKind.u16.wrap (t119 / 65536)), .int .u16 (IntKind.u16.wrap (t119))]) (ok := fun _ => True) (okp := fun _ => True) ?hr ?hp (fun _ hk => hk) trivial (Below.refl _ _) (Nat.le_refl _) (by simp) ?_; (case hd => rfl); (case hg => rfl); (case hr => first | (go_simp; done) | (go_simp; rfl)); (case hp => exact (Reps.one (show Kd.M (Kd.int .u16) _ _ _ (IntKind.u16.wrap (t119 / 65536)) [.int .u16 (IntKind.u16.wrap (t119 / 65536))] from rfl) (Reps.one (show Kd.M (Kd.int .u16) _ _ _ (IntKind.u16.wrap (t119)) [.int .u16 (IntKind.u16.wrap (t119))] from rfl) (Reps.none _ _)))); intro v123 w12 ho13 hb hg_ hnew_; clear hg_ hnew_; (first | rw [← Ny122.out] at ho13 | (simp only [Int.reduceToNat] at ho13; rw [← Ny122.out] at ho13)); have n0_ := Aside0.mk (Kd.R_elder' (by (with_reducible repeat (first | apply Kd.R_alloc | apply Kd.R_drewN | apply Kd.R_drew)); exact HO_3.out) (Kd.R_base ho13) hb); have n1_ := Aside0.mk (Kd.R_below (by (with_reducible repeat (first | apply Kd.R_alloc | apply Kd.R_drewN | apply Kd.R_drew)); exact HO_15.out) hb); have n2_ := Aside0.mk (Kd.R_lower (Kd.R_new' ho13 (Kd.R_lt (by (with_reducible repeat (first | apply Kd.R_alloc | apply Kd.R_drewN | apply Kd.R_drew)); exact HO_3.out))) (below_size (by repeat (first | (with_reducible first | exact HB.out | apply below_alloc | apply pw_below_drewN | apply below_drew1) | exact HB.out)))); have n3_ := Aside0.mk (below_step (by repeat (first | (with_reducible first | exact HB.out | apply below_alloc | apply pw_below_drewN | apply below_drew1) | exact HB.out)) hb); clear HO_3; clear HO_15; clear HB; have HO_3 := n0_; have HO_15 := n1_; have HO124 := n2_; have HB := n3_; clear n0_ n1_ n2_ n3_; clear hb ho13; obtain ⟨Ao15, co15, eo15⟩ := Kd.R_slice HO124.out; subst eo15) | ((with_reducible refine gate_builtin (b := .append) (xs := #[.tmp 29, .tmp 35]) rfl ?_); at_builtin; refine Kd.R_append_rows (Kd.int .u16) (w0 := w) w.heap.size rfl (.tmp 29) (.tmp 35) 87 22 (.int .u16 0) 2 rfl Tryd.underlying87 info22 rfl (by decide) (by omega) u3 x3_1 y122 _ _ _ (fun k_ => some k_ ≠ (.slice Ao15 y122.length co15 : Value).ownBlock) (fun _ => False) rfl rfl ?aO ?aR (fun _ _ h => h) (fun _ h => h.elim) ?aF ?aB ?aS ?aL ?_; (case aR => repeat (first | exact (Kd.R_reads' HO124.out).2.2 | (with_reducible refine Kd.C_alloc ?_ _) | (with_reducible refine Kd.C_drewN ?_ _) | (with_reducible refine Kd.C_drew ?_))); (case aB => exact (by repeat (first | (with_reducible first | exact HB.out | apply below_alloc | apply pw_below_drewN | apply below_drew1) | exact HB.out))); (case aF => exact (fun k_ hk => Kd.fresh' (Kd.R_lt (by (with_reducible repeat (first | apply Kd.R_alloc | apply Kd.R_drewN | apply Kd.R_drew)); exact HO124.out)) k_ hk)); (case aO => exact (by (with_reducible repeat (first | apply Kd.R_alloc | apply Kd.R_drewN | apply Kd.R_drew)); exact Kd.R_mono HO_3.out (fun _ hk => hk.2))); (case aS => exact (below_size (by repeat (first | (with_reducible first | exact HB.out | apply below_alloc | apply pw_below_drewN | apply below_drew1) | exact HB.out)))); (case aL => have := LMc11.out; omega); intro v126 w14 ho hb hg hat; rw [← Ny125.out] at ho; have n0_ := Aside0.mk (Kd.R_over' (by (with_reducible repeat (first | apply Kd.R_alloc | apply Kd.R_drewN | apply Kd.R_drew)); exact HO_15.out) (Kd.R_typed (by (with_reducible repeat (first | apply Kd.R_alloc | apply Kd.R_drewN | apply Kd.R_drew)); exact HO_3.out)) (by decide) hg); have n1_ := Aside0.mk (Kd.R_after (ok := (fun _ => True)) (by (with_reducible repeat (first | apply Kd.R_alloc | apply Kd.R_drewN | apply Kd.R_drew)); exact HO124.out) hg hat); have n2_ := Aside0.mk (hb); have n3_ := Aside0.mk (ho); clear HO_15; clear HO124; clear HB; clear HO_3; have HO_15 := n0_; have HO124 := n1_; have HB := n2_; have HO127 := n3_; clear n0_ n1_ n2_ n3_; clear ho hb hg hat))
                  go_roundg k1
                  case measure => have := HK1.out; omega
                  case rel => exact ⟨(y125), (wrap64 (x17_1 + 1)), (by first | rfl | (simp; done) | (simp [*]; done)), H', ⟨by have := HK1.out; omega⟩, ⟨by (with_reducible repeat (first | apply Kd.R_alloc | apply Kd.R_drewN | apply Kd.R_drew)); exact Kd.R_mono HO127.out (fun _ hk => trivial)⟩, ⟨by (with_reducible repeat (first | apply Kd.R_alloc | apply Kd.R_drewN | apply Kd.R_drew)); exact HO_15.out⟩, ⟨by repeat (first | (with_reducible first | exact HB.out | apply below_alloc | apply pw_below_drewN | apply below_drew1) | exact HB.out)⟩⟩
                · rw [if_neg c11] at H
                  exact absurd H (by simp)
              · rw [if_neg c10] at H
                have c10b0 : (t121 == 0) = false := beq_eq_false_iff_ne.mpr c10
                have c10b1 : (t121 != 0) = true := bne_iff_ne.mpr c10
                replace H := Option.bind_eq_some_iff.mp H
                obtain ⟨⟨t128, t129, t130⟩, A160, H⟩ := H
                replace H : (if x3_1.length < 70368744177664 then (six_written.l0 k1 (x3_1 ++ [IntKind.u16.wrap (t128)]) t115 (t115.length : Int) (wrap64 (x17_1 + 1))) else (none)) = some r := H
                have A16 := Aside0.mk A160
                clear A160
                by_cases c17 : x3_1.length < 70368744177664
                · rw [if_pos c17] at H
                  have LMc17 := Aside0.mk c17
                  clear c17
                  obtain ⟨y131, hy131⟩ : ∃ y_ : List Int, y_ = (x3_1 ++ [IntKind.u16.wrap (t128)]) := ⟨_, rfl⟩
                  replace H : (six_written.l0 k1 y131 t115 (t115.length : Int) (wrap64 (x17_1 + 1))) = some r := by first | (rw [hy131]; with_reducible exact H) | (have H2_ := (Option.bind_some _ _).symm.trans H; rw [hy131]; with_reducible exact H2_) | (have H2_ := (Option.bind_some _ _).symm.trans H; with_reducible exact H2_) | with_reducible exact H | (rw [hy131]; exact H) | exact H
                  have Ny131 := Aside0.mk hy131
                  clear hy131
                  have H' := Aside0.mk H
                  clear H
                  have p118 : 0 ≤ (x17_1 : Int) := of_decide_eq_true (by first | (with_reducible assumption) | assumption)
                  have q118 : x17_1 < (t115.length : Int) := of_decide_eq_true (by first | (with_reducible assumption) | assumption)
                  obtain ⟨ad118, e118, hx118_0⟩ := Kd.at_string (Kd.R_reads' HO_15.out).2.2 x17_1 p118 q118
                  cases e118
                  replace p118 := eq_true p118
                  replace q118 := eq_true q118
                  go_wp2_with (first | ((with_reducible refine gate_callee (f := 90) rfl ?_); refine goesL_ (some 23) rfl rfl Tryd.func90 (by kernel_rfl) rfl #[.string (rdOf ByteArray.empty t115 x17_1)] rfl (by (try simp only [List.map_toArray, List.map_cons, List.map_nil]); first | done | rfl | (simp only [List.length_drop, List.length_take]; rfl)) ?_; (with_reducible refine (four_Strict.calls k1 (rdOf ByteArray.empty t115 x17_1) t119 t120 t121 _ A9.out).mono ?_); rintro e w' ⟨rfl, ⟨nd, rfl⟩⟩; refine ⟨_, rfl, ?_⟩) | ((with_reducible refine gate_callee (f := 91) rfl ?_); refine goesL_ (some 39) rfl rfl Tryd.func91 (by kernel_rfl) rfl #[.string (rdOf ByteArray.empty t115 x17_1), .int .i64 16] rfl (by (try simp only [List.map_toArray, List.map_cons, List.map_nil]); first | done | rfl | (simp only [List.length_drop, List.length_take]; rfl)) ?_; (with_reducible refine (octet_Number.calls (rdOf ByteArray.empty t115 x17_1) 16 t128 t129 t130 _ A16.out).mono ?_); rintro e w' ⟨rfl, ⟨nd, rfl⟩⟩; refine ⟨_, rfl, ?_⟩) | ((with_reducible refine gate_builtin (b := .append) (xs := #[.tmp 43, .tmp 46]) rfl ?_); at_builtin; refine Kd.R_append (Kd.int .u16) (w0 := w) w.heap.size rfl (.tmp 43) (.tmp 46) 87 22 (.int .u16 0) 2 rfl Tryd.underlying87 info22 rfl (by decide) (by omega) u3 x3_1 (IntKind.u16.wrap (t128)) [.int .u16 (IntKind.u16.wrap (t128))] (fun _ => True) (fun _ => False) rfl rfl ?aP (fun _ hk => hk.elim) ?aF ?aO ?aB ?aS ?aL ?_; (case aP => exact rfl); (case aB => exact (by repeat (first | (with_reducible first | exact HB.out | apply below_alloc | apply pw_below_drewN | apply below_drew1) | exact HB.out))); (case aF => exact (fun _ _ => trivial)); (case aO => exact (by (with_reducible repeat (first | apply Kd.R_alloc | apply Kd.R_drewN | apply Kd.R_drew)); exact HO_3.out)); (case aS => exact (below_size (by repeat (first | (with_reducible first | exact HB.out | apply below_alloc | apply pw_below_drewN | apply below_drew1) | exact HB.out)))); (case aL => have := LMc17.out; omega); intro v132 w18 ho hb hg hat; rw [← Ny131.out] at ho; have n0_ := Aside0.mk (Kd.R_over' (by (with_reducible repeat (first | apply Kd.R_alloc | apply Kd.R_drewN | apply Kd.R_drew)); exact HO_15.out) (Kd.R_typed (by (with_reducible repeat (first | apply Kd.R_alloc | apply Kd.R_drewN | apply Kd.R_drew)); exact HO_3.out)) (by decide) hg); have n1_ := Aside0.mk (hb); have n2_ := Aside0.mk (ho); clear HO_15; clear HB; clear HO_3; have HO_15 := n0_; have HB := n1_; have HO133 := n2_; clear n0_ n1_ n2_; clear ho hb hg hat))
                  go_roundg k1
                  case measure => have := HK1.out; omega
                  case rel => exact ⟨(y131), (wrap64 (x17_1 + 1)), (by first | rfl | (simp; done) | (simp [*]; done)), H', ⟨by have := HK1.out; omega⟩, ⟨by (with_reducible repeat (first | apply Kd.R_alloc | apply Kd.R_drewN | apply Kd.R_drew)); exact HO133.out⟩, ⟨by (with_reducible repeat (first | apply Kd.R_alloc | apply Kd.R_drewN | apply Kd.R_drew)); exact HO_15.out⟩, ⟨by repeat (first | (with_reducible first | exact HB.out | apply below_alloc | apply pw_below_drewN | apply below_drew1) | exact HB.out)⟩⟩
                · rw [if_neg c17] at H
                  exact absurd H (by simp)
            · rw [if_neg c8] at H
              exact absurd H (by simp)
          · rw [if_neg c7] at H
            exact absurd H (by simp)
        · rw [if_neg c6] at H
          have c6b0 : decide (x17_1 < (t115.length : Int)) = false := decide_eq_false c6
          clear c6
          obtain rfl := Option.some.inj H
          go_wp2
          go_ret
          exact ⟨_, by first | rfl | (simp [errW_none, errW_some] <;> rfl) | (simp [*, errW_none, errW_some] <;> rfl), by (with_reducible repeat (first | apply Kd.R_alloc | apply Kd.R_drewN | apply Kd.R_drew)); exact HO_3.out, by repeat (first | (with_reducible first | exact HB.out | apply below_alloc | apply pw_below_drewN | apply below_drew1) | exact HB.out)⟩
def stringslite_HasSuffix.f (a0 : ByteArray) (a1 : ByteArray) : Option (Bool) := if (a0.size : Int) ≥ (a1.size : Int) then (if 0 ≤ (wrap64 ((a0.size : Int) - (a1.size : Int))) then (if (wrap64 ((a0.size : Int) - (a1.size : Int))) ≤ (a0.size : Int) then (some ((a0.extract ((wrap64 ((a0.size : Int) - (a1.size : Int))) : Int).toNat a0.size).toList == a1.toList)) else (none)) else (none)) else (some false)
set_option maxHeartbeats 8000000 in
set_option maxRecDepth 100000 in
theorem stringslite_HasSuffix.calls (a0 : ByteArray) (a1 : ByteArray) (r : Bool) (w : World) (h : stringslite_HasSuffix.f a0 a1 = some r) :
    Calls Tryd.prog 109 #[.string a0, .string a1] w fun e w' => e = .returned (.bool r) ∧ Drawn0 w w' := by
  have H : (if (a0.size : Int) ≥ (a1.size : Int) then (if 0 ≤ (wrap64 ((a0.size : Int) - (a1.size : Int))) then (if (wrap64 ((a0.size : Int) - (a1.size : Int))) ≤ (a0.size : Int) then (some ((a0.extract ((wrap64 ((a0.size : Int) - (a1.size : Int))) : Int).toNat a0.size).toList == a1.toList)) else (none)) else (none)) else (some false)) = some r := h
  clear h
  by_cases c3 : (a0.size : Int) ≥ (a1.size : Int)
  · rw [if_pos c3] at H
    have c3b0 : decide ((a1.size : Int) ≤ (a0.size : Int)) = true := decide_eq_true c3
    have c3b1 : decide (a1.size ≤ a0.size) = true := decide_eq_true (Int.ofNat_le.mp c3)
    clear c3
    obtain ⟨ji4, hji4⟩ : ∃ j_ : Int, (wrap64 ((a0.size : Int) - (a1.size : Int))) = j_ := ⟨_, rfl⟩
    replace H : (if 0 ≤ (ji4) then (if (ji4) ≤ (a0.size : Int) then (some ((a0.extract ((ji4) : Int).toNat a0.size).toList == a1.toList)) else (none)) else (none)) = some r := by first | (rw [hji4] at H; exact H) | (simp only [hji4] at H ⊢; exact H)
    have hji4w : (IntKind.i64.wrap ((a0.size : Int) - (a1.size : Int))) = ji4 := (i64_w _).trans hji4
    by_cases c5 : 0 ≤ (ji4)
    · rw [if_pos c5] at H
      have c5b0 := eq_true c5
      have c5b1 : decide (0 ≤ (ji4)) = true := decide_eq_true c5
      clear c5
      by_cases c6 : (ji4) ≤ (a0.size : Int)
      · rw [if_pos c6] at H
        have c6b0 := eq_true c6
        have c6b1 : decide ((ji4) ≤ (a0.size : Int)) = true := decide_eq_true c6
        clear c6
        obtain rfl := Option.some.inj H
        go_enter Tryd.func109, Tryd.ntmps109
        go_wp2
        go_ret
        exact ⟨by first | rfl | (simp; done) | (simp only [← hji4] <;> (first | rfl | simp)) | (simp [*]; done), by repeat (first | exact Drawn0.refl _ | apply Drawn0.step)⟩
      · rw [if_neg c6] at H
        exact absurd H (by simp)
    · rw [if_neg c5] at H
      exact absurd H (by simp)
  · rw [if_neg c3] at H
    have c3b0 : decide ((a1.size : Int) ≤ (a0.size : Int)) = false := decide_eq_false c3
    have c3b1 : decide (a1.size ≤ a0.size) = false := decide_eq_false (fun h => c3 (Int.ofNat_le.mpr h))
    clear c3
    obtain rfl := Option.some.inj H
    go_enter Tryd.func109, Tryd.ntmps109
    go_wp2
    go_ret
    exact ⟨by first | rfl | (simp; done) | (simp [*]; done), by repeat (first | exact Drawn0.refl _ | apply Drawn0.step)⟩
end Go.Proofs.YtcgdjnmfeibnoaaDoor.X
/-! SixStrict -/
namespace Go.Proofs.YtcgdjnmfeibnoaaDoor
open Go.RowKit Go.Proofs.YtcgdjnmfeibnoaaDoorW.PrintWords Go.Proofs.YtcgdjnmfeibnoaaDoor.X Go.IntWalk
set_option linter.unusedVariables false
set_option linter.unusedSimpArgs false
/-- The address of what is left: the place, the number and the count of the parts behind, the digits and the number of this part. -/
def strictL : List UInt8 → Nat → Int → Nat → Nat → Int → Int × Int × Int
  | [], i, n, part, size, x => if part < 3 ∨ size = 0 then (0, i, 203) else ((256 * n + x) % 4294967296, 0, 0)
  | c :: l, i, n, part, size, x => if 48 ≤ (c.toNat : Int) ∧ (c.toNat : Int) ≤ 57 ∧ (size = 0 ∨ 0 < x) ∧ 10 * x + ((c.toNat : Int) - 48) ≤ 255 then strictL l (i + 1) n part (size + 1) (10 * x + ((c.toNat : Int) - 48))
    else if c = 46 ∧ 0 < size ∧ part < 3 then strictL l (i + 1) ((256 * n + x) % 4294967296) (part + 1) 0 0 else (0, i, 203)
def strictV (l : List UInt8) : Int × Int × Int := strictL l 0 0 0 0 0
theorem or_part (n x : Int) (h0 : 0 ≤ n) (h1 : n < 4294967296) (k0 : 0 ≤ x) (k1 : x ≤ 255) : Go.bits .or .u32 ((n * 256) % 4294967296) (x % 4294967296) = (256 * n + x) % 4294967296 := by
  rw [Int.emod_eq_of_lt k0 (by omega)]
  obtain ⟨a, rfl⟩ := Int.eq_ofNat_of_zero_le h0
  obtain ⟨b, rfl⟩ := Int.eq_ofNat_of_zero_le k0
  rw [u32_or _ _ (by omega) (by omega) (by omega) (by omega)]
  have e : ((a : Int) * 256 % 4294967296).toNat = 2 ^ 8 * (a % 16777216) := by omega
  rw [e, Int.toNat_natCast, ← Nat.two_pow_add_eq_or_of_lt (show b < 2 ^ 8 by omega)]
  omega
theorem wdig (x c : Int) (x0 : 0 ≤ x) (x1 : x ≤ 255) (d0 : 48 ≤ c) (d1 : c ≤ 57) : wrap64 (wrap64 (10 * x) + (c - 48)) = 10 * x + (c - 48) := by
  rw [wrap64_in (10 * x) (by omega), wrap64_in _ (by omega)]
theorem wdigm (x c : Int) (x0 : 0 ≤ x) (x1 : x ≤ 255) (d0 : 48 ≤ c) (d1 : c ≤ 57) : wrap64 (wrap64 (10 * x) + (c - 48) % 256) = 10 * x + (c - 48) := by
  rw [show (c - 48) % 256 = c - 48 by omega, wdig x c x0 x1 d0 d1]
theorem wsucc (j : Nat) (h : j < 9223372036854775807) : wrap64 ((j : Int) + 1) = ((j + 1 : Nat) : Int) := by rw [wrap64_in _ (by omega)]; omega
theorem strict_l1 (s : ByteArray) (hs : s.size ≤ 9223372036854775807) : ∀ (m i : Nat) (n x : Int) (part start : Nat), i + m = s.data.toList.length → start ≤ i → part ≤ 3 → 0 ≤ x → x ≤ 255 → 0 ≤ n → n < 4294967296 →
    Ev (fun k => four_Strict.l1 k s n (i : Int) (part : Int) x (start : Int) (part : Int)) (strictL (s.data.toList.drop i) i n part (i - start) x) := by
  have hz := size_len s
  intro m
  induction m with
  | zero =>
    intro i n x part start hm hst hp x0 x1 n0 n1
    rw [List.drop_of_length_le (by omega)]
    refine Ev.step (f := fun k => four_Strict.j2 k s n (i : Int) (part : Int) x (start : Int) (part : Int) false) (fun k => ?_) ?_
    · simp only [four_Strict.l1]
      rw [if_neg (by omega)]
    · refine Ev.step (f := fun k => some (strictL [] i n part (i - start) x)) (fun k => ?_) (Ev.now _)
      simp only [four_Strict.j2, strictL]
      rw [if_neg (by simp)]
      by_cases h1 : i = start
      · rw [if_pos (by omega), if_pos (.inr (by omega))]
      · rw [if_neg (by omega)]
        by_cases h3 : part = 3
        · rw [if_pos (by omega), if_neg (by omega), if_neg (by omega), or_part n x n0 n1 x0 x1]
        · rw [if_neg (by omega), if_pos (by omega), if_pos (.inl (by omega))]
  | succ m ih =>
    intro i n x part start hm hst hp x0 x1 n0 n1
    have hi : i < s.data.toList.length := by omega
    have hb := bt_get s i hi
    have hlt := s.data.toList[i].toNat_lt
    rw [List.drop_eq_getElem_cons hi]
    have c46 := byte_eq s.data.toList[i] 46
    rw [show (((46 : UInt8).toNat : Nat) : Int) = 46 from rfl] at c46
    generalize s.data.toList[i] = c at *
    rw [strictL]
    refine Ev.step (f := fun k => four_Strict.j2 k s n (i : Int) (part : Int) x (start : Int) (part : Int) (decide (48 ≤ (c.toNat : Int)) && decide ((c.toNat : Int) ≤ 57))) (fun k => ?_) ?_
    · simp only [four_Strict.l1]
      rw [if_pos (by omega), if_pos (by omega), hb]
      by_cases h : (c.toNat : Int) ≥ 48
      · rw [if_pos h, decide_eq_true (show 48 ≤ (c.toNat : Int) from h), Bool.true_and]
      · rw [if_neg h, decide_eq_false (show ¬ 48 ≤ (c.toNat : Int) from h), Bool.false_and]
    · by_cases hd : 48 ≤ (c.toNat : Int) ∧ (c.toNat : Int) ≤ 57
      · obtain ⟨d0, d1⟩ := hd
        rw [decide_eq_true d0, decide_eq_true d1, Bool.and_true]
        have hc : ¬ c = 46 := fun e => by have := c46.2 e; omega
        by_cases hok : (i - start = 0 ∨ 0 < x) ∧ 10 * x + ((c.toNat : Int) - 48) ≤ 255
        · rw [if_pos ⟨d0, d1, hok⟩]
          have e := ih (i + 1) n (10 * x + ((c.toNat : Int) - 48)) part start (by omega) (by omega) hp (by omega) (by omega) n0 n1
          rw [show i + 1 - start = i - start + 1 by omega] at e
          refine Ev.step (fun k => ?_) e
          simp only [four_Strict.j2]
          rw [if_pos trivial, if_pos (by omega), if_pos (by omega), hb, wdigm x c.toNat x0 x1 d0 d1, if_neg (by omega), wsucc i (by omega)]
          by_cases h2 : (i : Int) > (start : Int)
          · rw [if_pos h2, if_neg (by omega)]
          · rw [if_neg h2]
        · rw [if_neg (fun h => hok h.2.2), if_neg (fun h => hc h.1)]
          refine Ev.step (f := fun k => some (0, (i : Int), 203)) (fun k => ?_) (Ev.now _)
          simp only [four_Strict.j2]
          rw [if_pos trivial, if_pos (by omega), if_pos (by omega), hb, wdigm x c.toNat x0 x1 d0 d1]
          by_cases h2 : 10 * x + ((c.toNat : Int) - 48) > 255
          · rw [if_pos h2]
          · rw [if_neg h2, if_pos (by omega), if_pos (by omega)]
      · rw [if_neg (fun h => hd ⟨h.1, h.2.1⟩)]
        have hf : (decide (48 ≤ (c.toNat : Int)) && decide ((c.toNat : Int) ≤ 57)) = false := by
          rw [Bool.and_eq_false_iff, decide_eq_false_iff_not, decide_eq_false_iff_not]
          omega
        rw [hf]
        by_cases hok : c = 46 ∧ 0 < i - start ∧ part < 3
        · rw [if_pos hok]
          have e := ih (i + 1) ((256 * n + x) % 4294967296) 0 (part + 1) (i + 1) (by omega) (by omega) (by omega) (by omega) (by omega) (by omega) (by omega)
          rw [show i + 1 - (i + 1) = 0 by omega] at e
          refine Ev.step (f := fun k => four_Strict.l0 k s ((256 * n + x) % 4294967296) ((i + 1 : Nat) : Int) ((part + 1 : Nat) : Int)) (fun k => ?_) (Ev.step (fun k => ?_) e)
          · simp only [four_Strict.j2]
            rw [if_neg (by simp), if_neg (by omega), if_neg (by omega), if_neg (by omega), if_pos (by omega), if_pos (by omega), hb, if_pos (c46.2 hok.1), or_part n x n0 n1 x0 x1, wsucc i (by omega), wsucc part (by omega)]
          · simp only [four_Strict.l0]
            rw [if_pos (by omega)]
        · rw [if_neg hok]
          refine Ev.step (f := fun k => some (0, (i : Int), 203)) (fun k => ?_) (Ev.now _)
          simp only [four_Strict.j2]
          rw [if_neg (by simp)]
          by_cases h1 : (i : Int) = (start : Int)
          · rw [if_pos h1]
          · rw [if_neg h1]
            by_cases h3 : (part : Int) = 3
            · rw [if_pos h3, if_pos (by omega)]
            · rw [if_neg h3, if_neg (by omega), if_pos (by omega), if_pos (by omega), hb, if_neg (fun e => hok ⟨c46.1 e, by omega, by omega⟩)]
theorem strict_ev (s : ByteArray) (hs : s.size ≤ 9223372036854775807) : Ev (fun k => four_Strict.f k s) (strictV s.data.toList) := by
  have e := strict_l1 s hs s.data.toList.length 0 0 0 0 0 (by omega) (by omega) (by omega) (by omega) (by omega) (by omega) (by omega)
  refine Ev.congr (f := fun k => four_Strict.l0 k s 0 0 0) (fun k => rfl) (Ev.step (fun k => ?_) e)
  simp only [four_Strict.l0]
  rw [if_pos (by decide)]
  rfl
end Go.Proofs.YtcgdjnmfeibnoaaDoor
/-! SixNT -/
namespace Go.Proofs.YtcgdjnmfeibnoaaDoor
open Go.RowKit Go.Proofs.YtcgdjnmfeibnoaaDoorW.PrintWords
set_option linter.unusedVariables false
set_option linter.unusedSimpArgs false
/-- A piece of a text. -/
structure Pc (t : List UInt8) : Prop where
  l1 : 1 ≤ t.length
  l4 : t.length ≤ 4
  hex : ∀ c ∈ t, 0 ≤ digV (c.toNat : Int) 16
/-- What digits say to the base 16, behind a number. -/
def hexF (n : Int) (t : List UInt8) : Int := t.foldl (fun n c => 16 * n + digV (c.toNat : Int) 16) n
def pcV (t : List UInt8) : Int := hexF 0 t
/-- Parts, a colon behind each. -/
def endC : List (List UInt8) → List UInt8
  | [] => []
  | p :: r => p ++ 58 :: endC r
/-- Parts, colons between them. -/
def joinC : List (List UInt8) → List UInt8
  | [] => []
  | [p] => p
  | p :: q :: r => p ++ 58 :: joinC (q :: r)
def headC (fs : List (List UInt8)) : List UInt8 := if fs = [] then [58] else endC fs
theorem endC_app (a b : List (List UInt8)) : endC (a ++ b) = endC a ++ endC b := by
  induction a with
  | nil => rfl
  | cons p r ih => rw [List.cons_append, endC, endC, ih]; simp
theorem endC_join {fs : List (List UInt8)} (h : fs ≠ []) : endC fs = joinC fs ++ [58] := by
  induction fs with
  | nil => exact absurd rfl h
  | cons p r ih =>
    cases r with
    | nil => rfl
    | cons q r => rw [endC, ih (by simp), joinC]; simp
theorem joinC_last (fs : List (List UInt8)) (cur : List UInt8) : joinC (fs ++ [cur]) = endC fs ++ cur := by
  induction fs with
  | nil => rfl
  | cons p r ih =>
    cases r with
    | nil => rw [endC, endC]; simp [joinC]
    | cons q r =>
      rw [List.cons_append, List.cons_append, joinC, endC, ← List.cons_append, ih]; simp
theorem hex_58 : digV 58 16 = -1 := by decide
theorem hex_46 : digV 46 16 = -1 := by decide
theorem Pc.no58 {t : List UInt8} (h : Pc t) : (58 : UInt8) ∉ t := fun q => by
  have := h.hex 58 q
  rw [show (((58 : UInt8).toNat : Nat) : Int) = 58 from rfl, hex_58] at this
  omega
theorem Pc.no46 {t : List UInt8} (h : Pc t) : (46 : UInt8) ∉ t := fun q => by
  have := h.hex 46 q
  rw [show (((46 : UInt8).toNat : Nat) : Int) = 46 from rfl, hex_46] at this
  omega
theorem Pc.ne {t : List UInt8} (h : Pc t) : t ≠ [] := by
  have := h.l1
  intro e
  rw [e] at this
  simp at this
theorem hexF_app (n : Int) (a b : List UInt8) : hexF n (a ++ b) = hexF (hexF n a) b := by unfold hexF; rw [List.foldl_append]
theorem hexF_bound : ∀ (t : List UInt8) (n : Int), (∀ c ∈ t, 0 ≤ digV (c.toNat : Int) 16) → 0 ≤ n → 0 ≤ hexF n t ∧ hexF n t + 1 ≤ (n + 1) * 16 ^ t.length
  | [], n, _, h0 => by simp [hexF]; exact h0
  | c :: t, n, h, h0 => by
    have hc := h c (by simp)
    have hl := digV_lt (b := (c.toNat : Int)) (base := 16) (by decide)
    obtain ⟨a, b⟩ := hexF_bound t (16 * n + digV (c.toNat : Int) 16) (fun x hx => h x (List.mem_cons_of_mem _ hx)) (by omega)
    refine ⟨a, Int.le_trans b ?_⟩
    rw [List.length_cons, Int.pow_succ, Int.mul_comm (16 ^ t.length) 16, ← Int.mul_assoc]
    exact Int.mul_le_mul_of_nonneg_right (by omega) (Int.pow_nonneg (by decide))
theorem pcV_bound {t : List UInt8} (h : Pc t) : 0 ≤ pcV t ∧ pcV t ≤ 65535 := by
  obtain ⟨a, b⟩ := hexF_bound t 0 h.hex (Int.le_refl 0)
  refine ⟨a, ?_⟩
  have h1 : (16 : Int) ^ t.length ≤ 16 ^ 4 := by
    have := Nat.pow_le_pow_right (n := 16) (by decide) h.l4
    exact_mod_cast this
  unfold pcV
  have : (16 : Int) ^ 4 = 65536 := by decide
  omega
theorem numL_hex : ∀ (t : List UInt8) (n i : Int), (∀ c ∈ t, 0 ≤ digV (c.toNat : Int) 16) → numL 16 t n i = if 18446744073709551616 ≤ hexF n t then (0, 0, 13) else (hexF n t, 0, 0)
  | [], n, i, _ => rfl
  | c :: t, n, i, h => by
    have hc := h c (by simp)
    rw [numL_pos (by omega), numL_hex t _ _ (fun x hx => h x (List.mem_cons_of_mem _ hx))]
    rw [show hexF (n * 16 + digV (c.toNat : Int) 16) t = hexF n (c :: t) from by unfold hexF; rw [List.foldl_cons, Int.mul_comm]]
theorem numV_pc {t : List UInt8} (h : Pc t) : numV t 16 = (pcV t, 0, 0) := by
  unfold numV
  have := pcV_bound h
  rw [if_neg (by decide), if_neg h.ne, numL_hex t 0 0 h.hex, if_neg (by unfold pcV at this; omega)]
  rfl
/-- A text without a stop is no IPv4 address. -/
theorem strictL_no : ∀ (l : List UInt8) (i : Nat) (n : Int) (part size : Nat) (x : Int), (46 : UInt8) ∉ l → part < 3 → (strictL l i n part size x).2.2 = 203
  | [], i, n, part, size, x, _, hp => by rw [strictL, if_pos (.inl hp)]
  | c :: l, i, n, part, size, x, h, hp => by
    rw [strictL]
    split
    · exact strictL_no l _ _ _ _ _ (fun q => h (List.mem_cons_of_mem _ q)) hp
    · rw [if_neg (by rintro ⟨rfl, _⟩; exact h (by simp))]
/-- The pieces that a part says. -/
def grpV (p : List UInt8) : List Int := if (strictV p).2.2 = 0 then [(strictV p).1 / 65536 % 65536, (strictV p).1 % 65536] else [(numV p 16).1 % 65536]
/-- What the program writes of a text. -/
def writtenV (t : List UInt8) : List Int := if t = [] then [] else (splitC 58 t).flatMap grpV
theorem grpV_pc {t : List UInt8} (h : Pc t) : grpV t = [pcV t] := by
  unfold grpV
  have := pcV_bound h
  rw [if_neg (by unfold strictV; rw [strictL_no t _ _ _ _ _ h.no46 (by decide)]; decide), numV_pc h]
  show [pcV t % 65536] = _
  rw [Int.emod_eq_of_lt this.1 (by omega)]
theorem flatMap_pc {fs : List (List UInt8)} (h : ∀ p ∈ fs, Pc p) : fs.flatMap grpV = fs.map pcV := by
  induction fs with
  | nil => rfl
  | cons p r ih => rw [List.flatMap_cons, grpV_pc (h p (by simp)), ih (fun q hq => h q (List.mem_cons_of_mem _ hq))]; rfl
/-- Cut at the first '::'. -/
def cut2 : List UInt8 → List UInt8 × List UInt8 × Bool
  | [] => ([], [], false)
  | a :: l => if a = 58 ∧ l.head? = some 58 then ([], l.tail, true) else (a :: (cut2 l).1, (cut2 l).2.1, (cut2 l).2.2)
theorem cut2_cons {a : UInt8} {l : List UInt8} (h : a ≠ 58 ∨ l.head? ≠ some 58) : cut2 (a :: l) = (a :: (cut2 l).1, (cut2 l).2.1, (cut2 l).2.2) := by
  rw [cut2, if_neg]
  rintro ⟨p, q⟩
  rcases h with h | h
  · exact h p
  · exact h q
theorem cut2_app : ∀ (p l : List UInt8), (58 : UInt8) ∉ p → cut2 (p ++ l) = (p ++ (cut2 l).1, (cut2 l).2.1, (cut2 l).2.2)
  | [], l, _ => rfl
  | a :: p, l, h => by
    have ha : a ≠ 58 := fun e => h (by simp [e])
    rw [List.cons_append, cut2_cons (.inl ha), cut2_app p l (fun q => h (List.mem_cons_of_mem _ q))]
    rfl
theorem cut2_no (p : List UInt8) (h : (58 : UInt8) ∉ p) : cut2 p = (p, [], false) := by
  have := cut2_app p [] h
  rw [List.append_nil] at this
  rw [this, cut2, List.append_nil]
/-- A part: not empty, without a colon. -/
structure Pt (t : List UInt8) : Prop where
  ne : t ≠ []
  no : (58 : UInt8) ∉ t
theorem Pc.pt {t : List UInt8} (h : Pc t) : Pt t := ⟨h.ne, h.no58⟩
theorem Pt.head {t : List UInt8} (h : Pt t) (l : List UInt8) : (t ++ l).head? ≠ some 58 := by
  obtain ⟨a, b⟩ := h
  cases t with
  | nil => exact absurd rfl a
  | cons c t =>
    intro e
    simp at e
    exact b (by simp [e])
theorem joinC_head {fs : List (List UInt8)} (h : ∀ p ∈ fs, Pt p) (hn : fs ≠ []) (l : List UInt8) : (joinC fs ++ l).head? ≠ some 58 := by
  cases fs with
  | nil => exact absurd rfl hn
  | cons p r =>
    have hp := h p (by simp)
    cases r with
    | nil => exact hp.head l
    | cons q r => rw [joinC, List.append_assoc]; exact hp.head _
theorem cut2_join : ∀ (fs : List (List UInt8)), (∀ p ∈ fs, Pt p) → fs ≠ [] → cut2 (joinC fs) = (joinC fs, [], false)
  | [], _, h => absurd rfl h
  | [p], h, _ => cut2_no p (h p (by simp)).no
  | p :: q :: r, h, _ => by
    have ih := cut2_join (q :: r) (fun x hx => h x (List.mem_cons_of_mem _ hx)) (by simp)
    have hd := joinC_head (fs := q :: r) (fun x hx => h x (List.mem_cons_of_mem _ hx)) (by simp) []
    rw [List.append_nil] at hd
    rw [joinC, cut2_app p _ (h p (by simp)).no, cut2_cons (.inr hd), ih]
theorem cut2_gap : ∀ (fs : List (List UInt8)) (l : List UInt8), (∀ p ∈ fs, Pt p) → cut2 (joinC fs ++ 58 :: 58 :: l) = (joinC fs, l, true)
  | [], l, _ => by rw [joinC, List.nil_append, cut2, if_pos ⟨rfl, rfl⟩]; rfl
  | [p], l, h => by rw [joinC, cut2_app p _ (h p (by simp)).no, cut2, if_pos ⟨rfl, rfl⟩]; simp
  | p :: q :: r, l, h => by
    have ih := cut2_gap (q :: r) l (fun x hx => h x (List.mem_cons_of_mem _ hx))
    have hd := joinC_head (fs := q :: r) (fun x hx => h x (List.mem_cons_of_mem _ hx)) (by simp) (58 :: 58 :: l)
    rw [joinC, List.append_assoc, List.cons_append, cut2_app p _ (h p (by simp)).no, cut2_cons (.inr hd), ih]
theorem splitC_pt {p : List UInt8} (h : (58 : UInt8) ∉ p) (l : List UInt8) : splitC 58 (p ++ 58 :: l) = p :: splitC 58 l := by
  induction p with
  | nil => rw [List.nil_append, splitC_eq]
  | cons a p ih =>
    rw [List.cons_append, splitC_cons (fun e => h (by simp [e])), ih (fun q => h (List.mem_cons_of_mem _ q))]
    rfl
theorem splitC_no {p : List UInt8} (h : (58 : UInt8) ∉ p) : splitC 58 p = [p] := by
  induction p with
  | nil => rfl
  | cons a p ih => rw [splitC_cons (fun e => h (by simp [e])), ih (fun q => h (List.mem_cons_of_mem _ q))]; rfl
theorem splitC_join : ∀ (fs : List (List UInt8)), (∀ p ∈ fs, Pt p) → fs ≠ [] → splitC 58 (joinC fs) = fs
  | [], _, h => absurd rfl h
  | [p], h, _ => splitC_no (h p (by simp)).no
  | p :: q :: r, h, _ => by
    rw [joinC, splitC_pt (h p (by simp)).no, splitC_join (q :: r) (fun x hx => h x (List.mem_cons_of_mem _ hx)) (by simp)]
theorem joinC_ne {fs : List (List UInt8)} (h : ∀ p ∈ fs, Pt p) (hn : fs ≠ []) : joinC fs ≠ [] := by
  cases fs with
  | nil => exact absurd rfl hn
  | cons p r =>
    have hp := (h p (by simp)).ne
    cases r with
    | nil => exact hp
    | cons q r => rw [joinC]; simp
theorem writtenV_join {fs : List (List UInt8)} (h : ∀ p ∈ fs, Pt p) : writtenV (joinC fs) = fs.flatMap grpV := by
  by_cases hn : fs = []
  · rw [hn]; rfl
  · unfold writtenV
    rw [if_neg (joinC_ne h hn), splitC_join fs h hn]
end Go.Proofs.YtcgdjnmfeibnoaaDoor
/-! SixNP -/
namespace Go.Proofs.YtcgdjnmfeibnoaaDoor
open Go.RowKit Go.Proofs.YtcgdjnmfeibnoaaDoorW.PrintWords
set_option linter.unusedVariables false
set_option linter.unusedSimpArgs false
/-- What a part that may be of an IPv4 address says so far. -/
def DotRun (cur : List UInt8) (n : Int) (part size : Nat) (x : Int) : Prop := ∀ rest, strictL (cur ++ rest) 0 0 0 0 0 = strictL rest cur.length n part size x
theorem DotRun.nil : DotRun [] 0 0 0 0 := fun rest => rfl
theorem DotRun.digit {cur : List UInt8} {n : Int} {part size : Nat} {x : Int} (h : DotRun cur n part size x) {c : UInt8} (hc : 48 ≤ (c.toNat : Int) ∧ (c.toNat : Int) ≤ 57) (hs : size = 0 ∨ 0 < x) (hm : 10 * x + ((c.toNat : Int) - 48) ≤ 255) :
    DotRun (cur ++ [c]) n part (size + 1) (10 * x + ((c.toNat : Int) - 48)) := fun rest => by
  rw [List.append_assoc, h ([c] ++ rest), List.singleton_append, strictL, if_pos ⟨hc.1, hc.2, hs, hm⟩, List.length_append]
  rfl
theorem DotRun.dot {cur : List UInt8} {n : Int} {part size : Nat} {x : Int} (h : DotRun cur n part size x) (hs : 0 < size) (hp : part < 3) : DotRun (cur ++ [46]) ((256 * n + x) % 4294967296) (part + 1) 0 0 := fun rest => by
  rw [List.append_assoc, h ([46] ++ rest), List.singleton_append, strictL, if_neg (by rintro ⟨a, _⟩; exact absurd a (by decide)), if_pos ⟨rfl, hs, hp⟩, List.length_append]
  rfl
theorem DotRun.whole {cur : List UInt8} {n : Int} {size : Nat} {x : Int} (h : DotRun cur n 3 size x) (hs : 0 < size) : strictV cur = ((256 * n + x) % 4294967296, 0, 0) := by
  have := h []
  rw [List.append_nil] at this
  unfold strictV
  rw [this, strictL, if_neg (by omega)]
/-- The parts that a scan has read. -/
structure Base (x : Sc) (fs bs : List (List UInt8)) : Prop where
  pf : ∀ p ∈ fs, Pc p
  pb : ∀ p ∈ bs, Pc p
  n : x.N = ((fs ++ bs).length : Nat)
  L : ∀ (j : Nat) (p : List UInt8), (fs ++ bs)[j]? = some p → x.L j = pcV p
  neg : x.skip < 0 → bs = []
  pos : 0 ≤ x.skip → x.skip = (fs.length : Nat)
def preT (x : Sc) (fs bs : List (List UInt8)) : List UInt8 := if 0 ≤ x.skip then headC fs ++ 58 :: endC bs else endC fs
/-- The text that a scan has read. -/
inductive TI : Sc → List UInt8 → Prop
  | start {x : Sc} (h : x.st = 0) (hb : Base x [] []) (hk : x.skip < 0) : TI x []
  | colon {x : Sc} (h : x.st = 1) (hb : Base x [] []) (hk : x.skip < 0) : TI x [58]
  | single {x : Sc} {fs bs : List (List UInt8)} (h : x.st = 2 ∨ x.st = 3) (hb : Base x fs bs) (hf : x.skip < 0 → fs ≠ []) (h3 : x.st = 3 → bs = []) : TI x (preT x fs bs)
  | piece {x : Sc} {fs bs : List (List UInt8)} {cur : List UInt8} (h : x.st = 4) (hb : Base x fs bs) (hc : Pc cur) (hd : x.digs = (cur.length : Nat)) (hv : x.val = pcV cur) (ht : 0 ≤ x.ten → DotRun cur 0 0 cur.length x.ten) : TI x (preT x fs bs ++ cur)
  | stop {x : Sc} {fs bs : List (List UInt8)} {cur : List UInt8} (h : x.st = 5) (hb : Base x fs bs) (hn : cur ≠ []) (hno : (58 : UInt8) ∉ cur) (hr : DotRun cur x.four x.parts.toNat 0 0) (f0 : 0 ≤ x.four) (f1 : x.parts = 1 ∧ x.four ≤ 255 ∨ x.parts = 2 ∧ x.four ≤ 65535 ∨ x.parts = 3 ∧ x.four ≤ 16777215) : TI x (preT x fs bs ++ cur)
  | part {x : Sc} {fs bs : List (List UInt8)} {cur : List UInt8} (h : x.st = 6) (hb : Base x fs bs) (hn : cur ≠ []) (hno : (58 : UInt8) ∉ cur) (hr : DotRun cur x.four x.parts.toNat x.digs.toNat x.ten) (f0 : 0 ≤ x.four) (f1 : x.parts = 1 ∧ x.four ≤ 255 ∨ x.parts = 2 ∧ x.four ≤ 65535 ∨ x.parts = 3 ∧ x.four ≤ 16777215) : TI x (preT x fs bs ++ cur)
theorem first_ti {x : Sc} {fs bs : List (List UInt8)} (hb : Base x fs bs) (c : UInt8) (h : (x.first (c.toNat : Int)).st ≠ 7) : TI (x.first (c.toNat : Int)) (preT x fs bs ++ [c]) := by
  unfold Sc.first at h ⊢
  by_cases hd : digV (c.toNat : Int) 16 < 0 ∨ x.room < 1
  · rw [if_pos hd] at h
    exact absurd rfl h
  · rw [if_neg hd]
    refine TI.piece (fs := fs) (bs := bs) (cur := [c]) rfl ⟨hb.pf, hb.pb, hb.n, hb.L, hb.neg, hb.pos⟩ ⟨by simp, by simp, fun q hq => by simp at hq; rw [hq]; omega⟩ rfl rfl ?_
    intro h0
    have hq : 48 ≤ (c.toNat : Int) ∧ (c.toNat : Int) ≤ 57 := by
      by_cases hq : 48 ≤ (c.toNat : Int) ∧ (c.toNat : Int) ≤ 57
      · exact hq
      · exfalso
        have : ({ x with st := 4, digs := 0, val := 0, ten := 0 : Sc }.more (c.toNat : Int)).ten < 0 := more_ten_lt (by omega)
        omega
    have e : ({ x with st := 4, digs := 0, val := 0, ten := 0 : Sc }.more (c.toNat : Int)).ten = 10 * 0 + ((c.toNat : Int) - 48) := by
      show (if _ then _ else _) = _
      rw [if_neg (by show ¬ ((c.toNat : Int) < 48 ∨ 57 < (c.toNat : Int) ∨ ((0 : Int) < 0 ∧ (0 : Int) = 0) ∨ (0 : Int) < 0 ∨ 255 < 10 * (0 : Int) + ((c.toNat : Int) - 48)); omega)]
    rw [e]
    exact DotRun.nil.digit hq (.inl rfl) (by omega)
theorem closed_base {x : Sc} {fs bs : List (List UInt8)} {cur : List UInt8} (hb : Base x fs bs) (hc : Pc cur) (hv : x.val = pcV cur) :
    Base x.closed (if x.skip < 0 then fs ++ [cur] else fs) (if x.skip < 0 then [] else bs ++ [cur]) := by
  have hall : (if x.skip < 0 then fs ++ [cur] else fs) ++ (if x.skip < 0 then [] else bs ++ [cur]) = fs ++ bs ++ [cur] := by
    by_cases hk : x.skip < 0
    · rw [if_pos hk, if_pos hk, hb.neg hk]; simp
    · rw [if_neg hk, if_neg hk]; simp
  refine ⟨?_, ?_, ?_, ?_, ?_, ?_⟩
  · intro p hp
    split at hp
    · rcases List.mem_append.1 hp with h | h
      · exact hb.pf p h
      · simp at h; rw [h]; exact hc
    · exact hb.pf p hp
  · intro p hp
    split at hp
    · cases hp
    · rcases List.mem_append.1 hp with h | h
      · exact hb.pb p h
      · simp at h; rw [h]; exact hc
  · rw [hall, List.length_append]
    show x.N + 1 = _
    rw [hb.n]
    simp
  · intro j p hp
    rw [hall] at hp
    show (if (j : Int) = x.N then x.val % 65536 else x.L j) = _
    have hn := hb.n
    by_cases hj : j < (fs ++ bs).length
    · rw [if_neg (by omega)]
      rw [List.getElem?_append_left hj] at hp
      exact hb.L j p hp
    · have hl := (List.getElem?_eq_some_iff.1 hp).1
      rw [List.length_append] at hl
      have hj' : j = (fs ++ bs).length := by simp at hl hj ⊢; omega
      rw [if_pos (by omega), hv]
      rw [hj', List.getElem?_append_right (Nat.le_refl _), Nat.sub_self] at hp
      obtain rfl := Option.some.inj hp
      have := pcV_bound hc
      exact Int.emod_eq_of_lt this.1 (by omega)
  · intro hk
    have hk' : x.skip < 0 := hk
    rw [if_pos hk']
  · intro hk
    have hk' : ¬ x.skip < 0 := Int.not_lt.2 hk
    rw [if_neg hk']
    exact hb.pos hk
theorem closed_pre {x : Sc} {fs bs : List (List UInt8)} {cur : List UInt8} : preT x.closed (if x.skip < 0 then fs ++ [cur] else fs) (if x.skip < 0 then [] else bs ++ [cur]) = preT x fs bs ++ cur ++ [58] := by
  unfold preT
  show (if 0 ≤ x.skip then _ else _) = _
  by_cases hk : x.skip < 0
  · rw [if_neg (show ¬ 0 ≤ x.skip by omega), if_neg (show ¬ 0 ≤ x.skip by omega), if_pos hk, endC_app]
    simp [endC]
  · rw [if_pos (show 0 ≤ x.skip by omega), if_pos (show 0 ≤ x.skip by omega), if_neg hk, if_neg hk, endC_app]
    simp [endC]
/-- One byte more. -/
theorem step_ti {x : Sc} {l : List St} {t : List UInt8} (hs : Sim x l) (h : TI x t) (c : UInt8) (hg : (x.step (c.toNat : Int)).st ≠ 7) : TI (x.step (c.toNat : Int)) (t ++ [c]) := by
  have c58 := byte_eq c 58
  rw [show (((58 : UInt8).toNat : Nat) : Int) = 58 from rfl] at c58
  have c46 := byte_eq c 46
  rw [show (((46 : UInt8).toNat : Nat) : Int) = 46 from rfl] at c46
  have hlt := c.toNat_lt
  have hd0 : Inv x := by cases hs <;> assumption
  have hd10 := digV16 (c.toNat : Int)
  cases h with
  | start h hb hk =>
    unfold Sc.step at hg ⊢
    rw [if_pos h] at hg ⊢
    by_cases e : (c.toNat : Int) = 58
    · rw [if_pos e]
      rw [c58.1 e]
      exact TI.colon rfl ⟨hb.pf, hb.pb, hb.n, hb.L, hb.neg, hb.pos⟩ hk
    · rw [if_neg e] at hg ⊢
      have := first_ti hb c hg
      unfold preT at this
      rw [if_neg (by omega)] at this
      exact this
  | colon h hb hk =>
    unfold Sc.step at hg ⊢
    rw [if_neg (by omega), if_pos h] at hg ⊢
    by_cases e : (c.toNat : Int) = 58
    · rw [if_pos e]
      rw [c58.1 e]
      exact TI.single (fs := []) (bs := []) (x := { x with skip := 0, st := 3 }) (.inr rfl) ⟨hb.pf, hb.pb, hb.n, hb.L, fun _ => rfl, fun _ => rfl⟩ (fun q => absurd q (by show ¬ (0 : Int) < 0; decide)) (fun _ => rfl)
    · rw [if_neg e] at hg
      exact absurd rfl hg
  | @single fs bs h hb hf h3 =>
    unfold Sc.step at hg ⊢
    rw [if_neg (by omega), if_neg (by omega)] at hg ⊢
    by_cases h2 : x.st = 2
    · rw [if_pos h2] at hg ⊢
      by_cases e : (c.toNat : Int) = 58 ∧ x.skip < 0 ∧ x.N ≤ 7
      · rw [if_pos e, c58.1 e.1]
        have hbs := hb.neg e.2.1
        subst hbs
        have ht : preT x fs [] ++ [58] = preT { x with skip := x.N, st := 3 } fs [] := by
          unfold preT
          rw [if_neg (by omega)]
          show _ = if 0 ≤ x.N then _ else _
          rw [if_pos hd0.n0]
          unfold headC
          rw [if_neg (hf e.2.1)]
          rfl
        rw [ht]
        exact TI.single (x := { x with skip := x.N, st := 3 }) (.inr rfl) ⟨hb.pf, hb.pb, hb.n, hb.L, fun _ => rfl, fun _ => by have := hb.n; rw [List.append_nil] at this; exact this⟩ (fun q => absurd hd0.n0 (Int.not_le.2 q)) (fun _ => rfl)
      · rw [if_neg e] at hg ⊢
        exact first_ti hb c hg
    · rw [if_neg h2, if_pos (by omega)] at hg ⊢
      exact first_ti hb c hg
  | @piece fs bs cur h hb hc hd hv ht =>
    have hpq : x.parts = 0 ∧ 1 ≤ x.room ∧ TenOk x.digs x.ten := by cases hs <;> first | omega | exact ⟨‹_›, ‹_›, ‹_›⟩
    have hl1 := hc.l1
    have hl4 := hc.l4
    by_cases e : (c.toNat : Int) = 58
    · rw [e] at hg ⊢
      rw [step_colon h hpq.1 hpq.2.1 hd0] at hg ⊢
      by_cases h2 : 2 ≤ x.room
      · rw [if_pos h2]
        rw [c58.1 e, ← closed_pre]
        have hB := closed_base hb hc hv
        refine TI.single (x := { x.closed with st := 2 }) (.inl rfl) ⟨hB.pf, hB.pb, hB.n, hB.L, hB.neg, hB.pos⟩ ?_ (fun q => absurd q (by show ¬ (2 : Int) = 3; decide))
        intro q
        have q' : x.skip < 0 := q
        rw [if_pos q']
        simp
      · rw [if_neg h2] at hg
        exact absurd rfl hg
    · unfold Sc.step at hg ⊢
      rw [if_neg (by omega), if_neg (by omega), if_neg (by omega), if_neg (by omega), if_pos h] at hg ⊢
      by_cases hx : 0 ≤ digV (c.toNat : Int) 16
      · rw [if_pos hx] at hg ⊢
        by_cases h4 : x.digs = 4
        · rw [if_pos h4] at hg
          exact absurd rfl hg
        · rw [if_neg h4] at hg ⊢
          rw [List.append_assoc]
          refine TI.piece (x := x.more (c.toNat : Int)) (fs := fs) (bs := bs) (cur := cur ++ [c]) h ⟨hb.pf, hb.pb, hb.n, hb.L, hb.neg, hb.pos⟩ ⟨by simp, by simp; omega, ?_⟩ ?_ ?_ ?_
          · intro q hq
            rcases List.mem_append.1 hq with q1 | q1
            · exact hc.hex q q1
            · simp at q1; rw [q1]; exact hx
          · show x.digs + 1 = _
            rw [hd]; simp
          · show 16 * x.val + digV (c.toNat : Int) 16 = _
            unfold pcV
            rw [hexF_app, hv]
            rfl
          · intro h0
            by_cases hq : (c.toNat : Int) < 48 ∨ 57 < (c.toNat : Int) ∨ (0 < x.digs ∧ x.ten = 0) ∨ x.ten < 0 ∨ 255 < 10 * x.ten + ((c.toNat : Int) - 48)
            · exfalso
              have h0' : 0 ≤ (if (c.toNat : Int) < 48 ∨ 57 < (c.toNat : Int) ∨ (0 < x.digs ∧ x.ten = 0) ∨ x.ten < 0 ∨ 255 < 10 * x.ten + ((c.toNat : Int) - 48) then -1 else 10 * x.ten + ((c.toNat : Int) - 48)) := h0
              rw [if_pos hq] at h0'
              omega
            · have em : (x.more (c.toNat : Int)).ten = 10 * x.ten + ((c.toNat : Int) - 48) := by
                show (if (c.toNat : Int) < 48 ∨ 57 < (c.toNat : Int) ∨ (0 < x.digs ∧ x.ten = 0) ∨ x.ten < 0 ∨ 255 < 10 * x.ten + ((c.toNat : Int) - 48) then -1 else 10 * x.ten + ((c.toNat : Int) - 48)) = _
                rw [if_neg hq]
              rw [em, List.length_append]
              exact (ht (by omega)).digit ⟨by omega, by omega⟩ (by omega) (by omega)
      · rw [if_neg hx, if_neg (by omega)] at hg ⊢
        by_cases hs46 : (c.toNat : Int) = 46
        · rw [if_pos hs46] at hg ⊢
          unfold Sc.dotted at hg ⊢
          by_cases hq : x.ten < 0 ∨ x.fits = false
          · rw [if_pos hq] at hg
            exact absurd rfl hg
          · rw [if_neg hq, List.append_assoc, c46.1 hs46]
            have ht0 : 0 ≤ x.ten := by omega
            have hr := (ht ht0).dot (by omega) (by decide)
            have htb : x.ten ≤ 255 := by
              have := hpq.2.2
              unfold TenOk at this
              omega
            rw [show (256 * 0 + x.ten) % 4294967296 = x.ten by omega] at hr
            exact TI.stop (x := { x with four := x.ten, parts := 1, st := 5 }) rfl ⟨hb.pf, hb.pb, hb.n, hb.L, hb.neg, hb.pos⟩ (by simp) (by
              intro q
              rcases List.mem_append.1 q with q1 | q1
              · exact hc.no58 q1
              · simp at q1) hr ht0 (.inl ⟨rfl, htb⟩)
        · rw [if_neg hs46] at hg
          exact absurd rfl hg
  | @stop fs bs cur h hb hn hno hr f0 f1 =>
    unfold Sc.step at hg ⊢
    rw [if_neg (by omega), if_neg (by omega), if_neg (by omega), if_neg (by omega), if_neg (by omega), if_pos h] at hg ⊢
    by_cases hq : 48 ≤ (c.toNat : Int) ∧ (c.toNat : Int) ≤ 57
    · rw [if_pos hq, List.append_assoc]
      have hr' := hr.digit hq (.inl rfl) (by omega)
      rw [show 10 * 0 + ((c.toNat : Int) - 48) = (c.toNat : Int) - 48 by omega] at hr'
      exact TI.part (x := { x with st := 6, digs := 1, ten := (c.toNat : Int) - 48 }) rfl ⟨hb.pf, hb.pb, hb.n, hb.L, hb.neg, hb.pos⟩ (by simp) (by
        intro q
        rcases List.mem_append.1 q with q1 | q1
        · exact hno q1
        · simp at q1
          rw [← q1] at hq
          exact absurd hq.2 (by decide)) hr' f0 f1
    · rw [if_neg hq] at hg
      exact absurd rfl hg
  | @part fs bs cur h hb hn hno hr f0 f1 =>
    have hpq : 1 ≤ x.digs ∧ 0 ≤ x.ten ∧ x.ten ≤ 255 := by cases hs <;> first | omega | exact ⟨‹_›, ‹_›, ‹_›⟩
    unfold Sc.step at hg ⊢
    rw [if_neg (by omega), if_neg (by omega), if_neg (by omega), if_neg (by omega), if_neg (by omega), if_neg (by omega), if_pos h] at hg ⊢
    by_cases hq : 48 ≤ (c.toNat : Int) ∧ (c.toNat : Int) ≤ 57 ∧ 0 < x.digs ∧ 0 < x.ten ∧ 10 * x.ten + ((c.toNat : Int) - 48) ≤ 255
    · rw [if_pos hq, List.append_assoc]
      have hr' := hr.digit ⟨hq.1, hq.2.1⟩ (.inr hq.2.2.2.1) hq.2.2.2.2
      rw [show x.digs.toNat + 1 = (x.digs + 1).toNat by omega] at hr'
      exact TI.part (x := { x with digs := x.digs + 1, ten := 10 * x.ten + ((c.toNat : Int) - 48) }) h ⟨hb.pf, hb.pb, hb.n, hb.L, hb.neg, hb.pos⟩ (by simp) (by
        intro q
        rcases List.mem_append.1 q with q1 | q1
        · exact hno q1
        · simp at q1
          rw [← q1] at hq
          exact absurd hq.2.1 (by decide)) hr' f0 f1
    · rw [if_neg hq] at hg ⊢
      by_cases hs' : (c.toNat : Int) = 46 ∧ x.parts < 3
      · rw [if_pos hs', List.append_assoc, c46.1 hs'.1]
        have hr' := hr.dot (by omega) (by omega)
        rw [show (256 * x.four + x.ten) % 4294967296 = 256 * x.four + x.ten by omega, show x.parts.toNat + 1 = (x.parts + 1).toNat by omega] at hr'
        exact TI.stop (x := { x with four := 256 * x.four + x.ten, parts := x.parts + 1, st := 5 }) rfl ⟨hb.pf, hb.pb, hb.n, hb.L, hb.neg, hb.pos⟩ (by simp) (by
          intro q
          rcases List.mem_append.1 q with q1 | q1
          · exact hno q1
          · simp at q1) hr' (by show 0 ≤ 256 * x.four + x.ten; omega) (by show x.parts + 1 = 1 ∧ 256 * x.four + x.ten ≤ 255 ∨ x.parts + 1 = 2 ∧ 256 * x.four + x.ten ≤ 65535 ∨ x.parts + 1 = 3 ∧ 256 * x.four + x.ten ≤ 16777215; omega)
      · rw [if_neg hs'] at hg
        exact absurd rfl hg
/-- The scan with the last two pieces of an IPv4 address. -/
def Sc.two (x : Sc) : Sc := { x with L := fun j => if (j : Int) = x.N then (256 * x.four + x.ten) / 65536 % 65536 else if (j : Int) = x.N + 1 then (256 * x.four + x.ten) % 65536 else x.L j, N := x.N + 2 }
def Sc.fin (x : Sc) : Option (Nat → Int) :=
  if x.skip < 0 then (if x.N = 8 then some x.L else none)
  else if x.N ≤ 7 then some (fun j => if (j : Int) < x.skip then x.L j else if 8 - x.N + x.skip ≤ j then x.L (j + x.N.toNat - 8) else 0) else none
/-- The address at the end. -/
def Sc.whole (x : Sc) : Option (Nat → Int) :=
  if x.st = 3 then x.fin else if x.st = 4 then x.closed.fin else if x.st = 6 then (if x.parts = 3 then x.two.fin else none) else none
/-- The address out of the pieces ahead of '::' and behind it. -/
def outOf (F B : List Int) (j : Nat) : Int := if 8 - B.length ≤ j then B.getD (j - (8 - B.length)) 0 else F.getD j 0
theorem fin_out {x : Sc} {F B : List Int} (hn : x.N = ((F ++ B).length : Nat)) (hL : ∀ (j : Nat) (p : Int), (F ++ B)[j]? = some p → x.L j = p) (hneg : x.skip < 0 → B = [] ∧ x.N = 8) (hpos : 0 ≤ x.skip → x.skip = (F.length : Nat) ∧ x.N ≤ 7) :
    F.length + B.length ≤ 8 ∧ ∃ A, x.fin = some A ∧ ∀ j, j < 8 → A j = outOf F B j := by
  unfold Sc.fin
  rw [List.length_append] at hn
  by_cases hk : x.skip < 0
  · obtain ⟨rfl, h8⟩ := hneg hk
    rw [if_pos hk, if_pos h8]
    refine ⟨by omega, _, rfl, fun j hj => ?_⟩
    unfold outOf
    rw [if_neg (by simp; omega)]
    have hjF : j < F.length := by simp at hn; omega
    rw [hL j F[j] (by rw [List.append_nil]; exact List.getElem?_eq_getElem hjF)]
    simp [List.getD_eq_getElem?_getD, hjF]
  · obtain ⟨h1, h2⟩ := hpos (by omega)
    rw [if_neg hk, if_pos h2]
    refine ⟨by omega, _, rfl, fun j hj => ?_⟩
    unfold outOf
    show (if (j : Int) < x.skip then x.L j else if 8 - x.N + x.skip ≤ j then x.L (j + x.N.toNat - 8) else 0) = _
    by_cases hj1 : (j : Int) < x.skip
    · have hjF : j < F.length := by omega
      rw [if_pos hj1, if_neg (by omega), hL j F[j] (by rw [List.getElem?_append_left hjF]; exact List.getElem?_eq_getElem hjF)]
      simp [List.getD_eq_getElem?_getD, hjF]
    · rw [if_neg hj1]
      by_cases hj2 : 8 - x.N + x.skip ≤ j
      · rw [if_pos hj2, if_pos (by omega)]
        have hjB : j - (8 - B.length) < B.length := by omega
        have e : j + x.N.toNat - 8 = F.length + (j - (8 - B.length)) := by omega
        rw [e, hL _ B[j - (8 - B.length)] (by rw [List.getElem?_append_right (by omega), show F.length + (j - (8 - B.length)) - F.length = j - (8 - B.length) by omega]; exact List.getElem?_eq_getElem hjB)]
        simp [List.getD_eq_getElem?_getD, hjB]
      · rw [if_neg hj2, if_neg (by omega)]
        simp [List.getD_eq_getElem?_getD, List.getElem?_eq_none (show F.length ≤ j by omega)]
theorem Base.L' {x : Sc} {fs bs : List (List UInt8)} (hb : Base x fs bs) (j : Nat) (p : Int) (h : (fs.map pcV ++ bs.map pcV)[j]? = some p) : x.L j = p := by
  rw [← List.map_append, List.getElem?_map] at h
  cases e : (fs ++ bs)[j]? with
  | none => rw [e] at h; cases h
  | some q =>
    rw [e] at h
    rw [hb.L j q e]
    exact Option.some.inj h
/-- What the cut gives. -/
theorem cut_neg {fs : List (List UInt8)} {cur : List UInt8} (hf : ∀ p ∈ fs, Pc p) (hc : Pt cur) : cut2 (endC fs ++ cur) = (endC fs ++ cur, [], false) ∧ writtenV (endC fs ++ cur) = fs.map pcV ++ grpV cur := by
  have hp : ∀ p ∈ fs ++ [cur], Pt p := by
    intro p h
    rcases List.mem_append.1 h with h | h
    · exact (hf p h).pt
    · simp at h; rw [h]; exact hc
  rw [← joinC_last, cut2_join _ hp (by simp), writtenV_join hp, List.flatMap_append, flatMap_pc hf]
  simp
theorem cut_pos {fs : List (List UInt8)} (hf : ∀ p ∈ fs, Pc p) (l : List UInt8) : cut2 (headC fs ++ 58 :: l) = (joinC fs, l, true) ∧ writtenV (joinC fs) = fs.map pcV := by
  have hp : ∀ p ∈ fs, Pt p := fun p h => (hf p h).pt
  refine ⟨?_, by rw [writtenV_join hp, flatMap_pc hf]⟩
  have e : headC fs ++ 58 :: l = joinC fs ++ 58 :: 58 :: l := by
    unfold headC
    by_cases h : fs = []
    · rw [if_pos h, h]; rfl
    · rw [if_neg h, endC_join h]; simp
  rw [e, cut2_gap fs l hp]
theorem written_back {bs : List (List UInt8)} {cur : List UInt8} (hf : ∀ p ∈ bs, Pc p) (hc : Pt cur) : writtenV (endC bs ++ cur) = bs.map pcV ++ grpV cur := (cut_neg hf hc).2
/-- The end of a text: no state may end there, and there is no address; or one may, and both have the same address. -/
theorem whole_out {x : Sc} {l : List St} {t : List UInt8} (hs : Sim x l) (h : TI x t) :
    (l.any endsP = false ∧ x.whole = none) ∨ (l.any endsP = true ∧ (writtenV (cut2 t).1).length + (writtenV (cut2 t).2.1).length ≤ 8 ∧ ∃ A, x.whole = some A ∧ ∀ j, j < 8 → A j = outOf (writtenV (cut2 t).1) (writtenV (cut2 t).2.1) j) := by
  have hd0 : Inv x := by cases hs <;> assumption
  cases h with
  | start h hb hk =>
    left
    refine ⟨?_, by unfold Sc.whole; rw [if_neg (by omega), if_neg (by omega), if_neg (by omega)]⟩
    cases hs <;> first | omega | skip
    rename_i s _ hi hc hw _ _ _ _ _
    simp only [List.any_cons, List.any_nil, Bool.or_false]
    unfold endsP
    rw [if_neg (by omega), if_neg (by omega), if_neg (by omega)]
  | colon h hb hk =>
    left
    refine ⟨?_, by unfold Sc.whole; rw [if_neg (by omega), if_neg (by omega), if_neg (by omega)]⟩
    cases hs <;> first | omega | skip
    rename_i s _ hi hc hw _ _ _ _ _
    simp only [List.any_cons, List.any_nil, Bool.or_false]
    unfold endsP
    rw [if_neg (by omega), if_neg (by omega), if_neg (by omega)]
  | @single fs bs h hb hf h3 =>
    cases hs <;> first | omega | skip
    rename_i s _ hi hc hw hn hp h1 hk3 h2
    simp only [List.any_cons, List.any_nil, Bool.or_false]
    by_cases hst : x.st = 3
    · right
      have hbs := h3 hst
      subst hbs
      have hk := hk3 hst
      refine ⟨by unfold endsP; rw [if_pos (by omega)], ?_⟩
      unfold Sc.whole
      rw [if_pos hst]
      unfold preT
      rw [if_pos hk]
      obtain ⟨e1, e2⟩ := cut_pos hb.pf (endC [])
      rw [e1]
      show (writtenV (joinC fs)).length + (writtenV (endC [])).length ≤ 8 ∧ ∃ A, x.fin = some A ∧ ∀ j, j < 8 → A j = outOf (writtenV (joinC fs)) (writtenV (endC [])) j
      rw [e2, show writtenV (endC []) = [] from rfl]
      refine fin_out ?_ ?_ (fun q => absurd hk (Int.not_le.2 q)) (fun q => ⟨?_, hi.n7⟩)
      · rw [hb.n]; simp
      · intro j p hp'
        exact hb.L' j p (by simpa using hp')
      · rw [hb.pos hk]; simp
    · left
      refine ⟨?_, by unfold Sc.whole; rw [if_neg hst, if_neg (by omega), if_neg (by omega)]⟩
      unfold endsP
      rw [if_neg (by omega), if_neg (by omega), if_neg (by omega)]
  | @piece fs bs cur h hb hc hd hv ht =>
    have hW : x.whole = x.closed.fin := by unfold Sc.whole; rw [if_neg (by omega), if_pos h]
    have hE : l.any endsP = (decide (0 ≤ x.skip) || decide (x.N = 7)) ∧ 1 ≤ x.room := by
      cases hs <;> first | omega | skip
      · rename_i s _ hi hr hp d1 d4 ht hc hw hd hn hno
        refine ⟨?_, hr⟩
        simp only [List.any_cons, List.any_nil, Bool.or_false]
        unfold endsP
        rw [if_neg (by omega), if_pos hw, hc.gap, hc.pc]
      · rename_i s t _ hi hr hp d1 d4 ht hc hw hd hn t0 hf kc kw kn kv
        refine ⟨?_, hr⟩
        simp only [List.any_cons, List.any_nil, Bool.or_false]
        have e2 : endsP t = false := by
          unfold endsP
          rw [if_neg (by omega), if_neg (by omega), if_pos kw, kn]
          decide
        rw [e2, Bool.or_false]
        unfold endsP
        rw [if_neg (by omega), if_pos hw, hc.gap, hc.pc]
    obtain ⟨hE, hroom⟩ := hE
    have hB := closed_base hb hc hv
    rw [hE, hW]
    unfold Sc.room at hroom
    by_cases hk : 0 ≤ x.skip
    · right
      rw [if_pos hk] at hroom
      refine ⟨by simp [hk], ?_⟩
      unfold preT
      rw [if_pos hk, List.append_assoc, List.cons_append]
      obtain ⟨e1, e2⟩ := cut_pos hb.pf (endC bs ++ cur)
      rw [e1]
      show (writtenV (joinC fs)).length + (writtenV (endC bs ++ cur)).length ≤ 8 ∧ ∃ A, x.closed.fin = some A ∧ ∀ j, j < 8 → A j = outOf (writtenV (joinC fs)) (writtenV (endC bs ++ cur)) j
      rw [e2, written_back hb.pb hc.pt, grpV_pc hc]
      rw [if_neg (by omega), if_neg (by omega)] at hB
      refine fin_out ?_ ?_ (fun q => absurd hk (Int.not_le.2 q)) (fun q => ⟨?_, by show x.N + 1 ≤ 7; omega⟩)
      · rw [hB.n]; simp
      · intro j p hp'
        exact hB.L' j p (by simpa using hp')
      · rw [hB.pos hk]; simp
    · rw [if_neg hk] at hroom
      have hbs := hb.neg (by omega)
      subst hbs
      by_cases h7 : x.N = 7
      · right
        refine ⟨by simp [h7], ?_⟩
        unfold preT
        rw [if_neg hk]
        obtain ⟨e1, e2⟩ := cut_neg hb.pf hc.pt
        rw [e1]
        show (writtenV (endC fs ++ cur)).length + (writtenV []).length ≤ 8 ∧ ∃ A, x.closed.fin = some A ∧ ∀ j, j < 8 → A j = outOf (writtenV (endC fs ++ cur)) (writtenV []) j
        rw [e2, grpV_pc hc, show writtenV [] = [] from rfl]
        rw [if_pos (by omega), if_pos (by omega)] at hB
        refine fin_out ?_ ?_ (fun q => ⟨rfl, by show x.N + 1 = 8; omega⟩) (fun q => absurd q hk)
        · rw [hB.n]; simp
        · intro j p hp'
          exact hB.L' j p (by simpa using hp')
      · left
        refine ⟨by simp [h7]; omega, ?_⟩
        unfold Sc.fin
        rw [if_pos (show x.closed.skip < 0 from Int.not_le.1 hk), if_neg (by show ¬ x.N + 1 = 8; omega)]
  | @stop fs bs cur h hb hn hno hr f0 f1 =>
    left
    refine ⟨?_, by unfold Sc.whole; rw [if_neg (by omega), if_neg (by omega), if_neg (by omega)]⟩
    cases hs <;> first | omega | skip
    rename_i s _ hi hf p1 p3 hc hw hn'
    simp only [List.any_cons, List.any_nil, Bool.or_false]
    unfold endsP
    rw [if_neg (by omega), if_neg (by omega), if_neg (by omega)]
  | @part fs bs cur h hb hn hno hr f0 f1 =>
    cases hs <;> first | omega | skip
    rename_i s _ hi hf p1 p3 d1 ht_ t0 t1 hc hw hn' hv
    simp only [List.any_cons, List.any_nil, Bool.or_false]
    have hEs : endsP s = decide (x.parts = 3) := by
      unfold endsP
      rw [if_neg (by omega), if_neg (by omega), if_pos hw, hn']
    rw [hEs]
    by_cases h3 : x.parts = 3
    · right
      refine ⟨by simp [h3], ?_⟩
      have hW : x.whole = x.two.fin := by unfold Sc.whole; rw [if_neg (by omega), if_neg (by omega), if_pos h, if_pos h3]
      rw [hW]
      rw [h3] at hr
      have hV := DotRun.whole hr (by omega)
      rw [show (256 * x.four + x.ten) % 4294967296 = 256 * x.four + x.ten by omega] at hV
      have hG : grpV cur = [(256 * x.four + x.ten) / 65536 % 65536, (256 * x.four + x.ten) % 65536] := by
        unfold grpV
        rw [hV, if_pos rfl]
      have hpt : Pt cur := ⟨hn, hno⟩
      have hfits := of_decide_eq_true hf
      have hnB := hb.n
      have hL2 : ∀ (j : Nat) (p : Int), (fs.map pcV ++ bs.map pcV ++ [(256 * x.four + x.ten) / 65536 % 65536, (256 * x.four + x.ten) % 65536])[j]? = some p → x.two.L j = p := by
        intro j p hp'
        show (if (j : Int) = x.N then (256 * x.four + x.ten) / 65536 % 65536 else if (j : Int) = x.N + 1 then (256 * x.four + x.ten) % 65536 else x.L j) = p
        have hlen : (fs.map pcV ++ bs.map pcV).length = (fs ++ bs).length := by simp
        by_cases hj : j < (fs ++ bs).length
        · rw [if_neg (by omega), if_neg (by omega)]
          rw [List.getElem?_append_left (by omega)] at hp'
          exact hb.L' j p hp'
        · rw [List.getElem?_append_right (by omega), hlen] at hp'
          obtain ⟨d, hd⟩ : ∃ d, j = (fs ++ bs).length + d := ⟨j - (fs ++ bs).length, by omega⟩
          rw [hd, Nat.add_sub_cancel_left] at hp'
          match d, hd, hp' with
          | 0, hd, hp' =>
            rw [if_pos (by omega)]
            exact Option.some.inj hp'
          | 1, hd, hp' =>
            rw [if_neg (by omega), if_pos (by omega)]
            exact Option.some.inj hp'
          | d + 2, hd, hp' => simp at hp'
      by_cases hk : 0 ≤ x.skip
      · unfold preT
        rw [if_pos hk, List.append_assoc, List.cons_append]
        obtain ⟨e1, e2⟩ := cut_pos hb.pf (endC bs ++ cur)
        rw [e1]
        show (writtenV (joinC fs)).length + (writtenV (endC bs ++ cur)).length ≤ 8 ∧ ∃ A, x.two.fin = some A ∧ ∀ j, j < 8 → A j = outOf (writtenV (joinC fs)) (writtenV (endC bs ++ cur)) j
        rw [e2, written_back hb.pb hpt, hG]
        refine fin_out ?_ ?_ (fun q => absurd hk (Int.not_le.2 q)) (fun q => ⟨?_, by show x.N + 2 ≤ 7; omega⟩)
        · show x.N + 2 = _
          rw [hnB]; simp; omega
        · intro j p hp'
          exact hL2 j p (by rw [List.append_assoc]; exact hp')
        · show x.skip = _
          rw [hb.pos hk]; simp
      · have hbs := hb.neg (by omega)
        subst hbs
        unfold preT
        rw [if_neg hk]
        obtain ⟨e1, e2⟩ := cut_neg hb.pf hpt
        rw [e1]
        show (writtenV (endC fs ++ cur)).length + (writtenV []).length ≤ 8 ∧ ∃ A, x.two.fin = some A ∧ ∀ j, j < 8 → A j = outOf (writtenV (endC fs ++ cur)) (writtenV []) j
        rw [e2, hG, show writtenV [] = [] from rfl]
        refine fin_out ?_ ?_ (fun q => ⟨rfl, by show x.N + 2 = 8; omega⟩) (fun q => absurd q hk)
        · show x.N + 2 = _
          rw [hnB]; simp
        · intro j p hp'
          exact hL2 j p (by simpa using hp')
    · left
      refine ⟨by simp [h3], ?_⟩
      unfold Sc.whole
      rw [if_neg (by omega), if_neg (by omega), if_pos h, if_neg h3]
/-- The scan of a text: the place where it is refused, or what is read. -/
def scanV : List UInt8 → Sc → Nat → Nat ⊕ Sc
  | [], x, _ => .inr x
  | c :: l, x, i => if (x.step (c.toNat : Int)).st = 7 then .inl i else scanV l (x.step (c.toNat : Int)) (i + 1)
/-- The program's states over a text. -/
def statesV : List UInt8 → List St → Nat → Nat ⊕ List St
  | [], l, _ => .inr l
  | c :: t, l, i => if l.flatMap (nextP · (c.toNat : Int)) = [] then .inl i else statesV t (l.flatMap (nextP · (c.toNat : Int))) (i + 1)
theorem Sim.ne {x : Sc} {l : List St} (h : Sim x l) : l ≠ [] := by cases h <;> simp
theorem scan_states : ∀ (r : List UInt8) (x : Sc) (l : List St) (t : List UInt8) (i : Nat), Sim x l → TI x t →
    (∃ j, scanV r x i = .inl j ∧ statesV r l i = .inl j) ∨ ∃ y m, scanV r x i = .inr y ∧ statesV r l i = .inr m ∧ Sim y m ∧ TI y (t ++ r)
  | [], x, l, t, i, hs, ht => .inr ⟨x, l, rfl, rfl, hs, by rw [List.append_nil]; exact ht⟩
  | c :: r, x, l, t, i, hs, ht => by
    rcases step_sim hs (c.toNat : Int) with ⟨a, b⟩ | ⟨a, b⟩
    · left
      exact ⟨i, by rw [scanV, if_pos a], by rw [statesV, if_pos b]⟩
    · rw [scanV, if_neg a, statesV, if_neg b.ne]
      have := scan_states r _ _ (t ++ [c]) (i + 1) b (step_ti hs ht c a)
      rw [List.append_assoc] at this
      exact this
def sc0 : Sc := ⟨fun _ => 0, 0, -1, 0, 0, 0, 0, 0, 0⟩
def st0 : St := ⟨0, 0, false, 0, 0, 0⟩
theorem sim0 : Sim sc0 [st0] := Sim.ahead (.inl rfl) ⟨by decide, by decide, by decide, by decide⟩ ⟨rfl, rfl⟩ rfl rfl rfl (fun _ => ⟨rfl, rfl⟩) (fun h => absurd h (by decide)) (fun h => absurd h (by decide))
theorem ti0 : TI sc0 [] := TI.start rfl ⟨fun _ h => absurd h (List.not_mem_nil), fun _ h => absurd h (List.not_mem_nil), rfl, fun j p h => by simp at h, fun _ => rfl, fun h => absurd h (by decide)⟩ (by decide)
/-- The address of a text, its place, its fault: the document's. -/
def parseR (s : List UInt8) : (Nat → Int) × Int × Int :=
  match scanV s sc0 0 with
  | .inl i => (fun _ => 0, i, 210)
  | .inr x => match x.whole with
    | none => (fun _ => 0, s.length, 210)
    | some A => (A, 0, 0)
/-- The program's. -/
def parseP (s : List UInt8) : (Nat → Int) × Int × Int :=
  match statesV s [st0] 0 with
  | .inl i => (fun _ => 0, i, 210)
  | .inr l => if l.any endsP = true then (outOf (writtenV (cut2 s).1) (writtenV (cut2 s).2.1), 0, 0) else (fun _ => 0, s.length, 210)
theorem parse_same (s : List UInt8) : (∀ j, j < 8 → (parseP s).1 j = (parseR s).1 j) ∧ (parseP s).2 = (parseR s).2 := by
  unfold parseP parseR
  rcases scan_states s sc0 [st0] [] 0 sim0 ti0 with ⟨j, h1, h2⟩ | ⟨y, m, h1, h2, h3, h4⟩
  · rw [h1, h2]; exact ⟨fun _ _ => rfl, rfl⟩
  · rw [h1, h2]
    rcases whole_out h3 h4 with ⟨a, b⟩ | ⟨a, _, A, b, c⟩
    · simp only [a, b]; exact ⟨fun _ _ => rfl, rfl⟩
    · simp only [a, b, if_true]
      exact ⟨fun j hj => (c j hj).symm, trivial⟩
/-- What the program writes of a text that is one fits. -/
theorem parse_fits (s : List UInt8) (l : List St) (h : statesV s [st0] 0 = .inr l) (he : l.any endsP = true) : (writtenV (cut2 s).1).length + (writtenV (cut2 s).2.1).length ≤ 8 := by
  rcases scan_states s sc0 [st0] [] 0 sim0 ti0 with ⟨j, h1, h2⟩ | ⟨y, m, h1, h2, h3, h4⟩
  · rw [h] at h2; cases h2
  · rw [h] at h2
    obtain rfl := Sum.inr.inj h2
    rcases whole_out h3 h4 with ⟨a, b⟩ | ⟨a, b, _⟩
    · rw [he] at a; cases a
    · exact b
end Go.Proofs.YtcgdjnmfeibnoaaDoor
/-! Ext -/
namespace Go.Proofs.YtcgdjnmfeibnoaaDoor
open Go.RowKit
set_option linter.unusedVariables false
set_option linter.unusedSimpArgs false
theorem bdn {B : Nat} {w W : World} (h : Below B w W) (n : Nat) : Below B w (W.drewN n) := ⟨h.os, h.tape, h.output, h.size, h.block⟩
/-- What stands behind a call that let all stand that was there. -/
theorem after {W w1 : World} (hb : Below W.heap.size W w1) : (∀ b o, b < W.heap.size → w1.cell? ⟨b, o, none⟩ = W.cell? ⟨b, o, none⟩) ∧ (∀ b o, b < W.heap.size → w1.frozen? ⟨b, o, none⟩ = W.frozen? ⟨b, o, none⟩) ∧ W.heap.size ≤ w1.heap.size :=
  ⟨fun b o h => hb.cell (p := ⟨b, o, none⟩) h, fun b o h => hb.frozen (p := ⟨b, o, none⟩) h, hb.size⟩
/-- A world in which all that was in w0 is as it was. -/
structure Ext (w0 : World) where
  wd : World
  below : Below w0.heap.size w0 wd
instance (w0 : World) : Nonempty (Ext w0) := ⟨⟨w0, Below.refl _ _⟩⟩
@[go_sem] theorem Ext.cell {w0 : World} (x : Ext w0) {b o : Nat} (h : b < w0.heap.size) : x.wd.cell? ⟨b, o, none⟩ = w0.cell? ⟨b, o, none⟩ := x.below.cell (p := ⟨b, o, none⟩) h
theorem ext_of_same {P : Program} {f : FuncId} {args : Array Value} {w : World} {x : Ext w} {v : Value} (h : Calls P f args x.wd fun e w' => e = .returned v ∧ x.wd = w') :
    Calls P f args x.wd fun e w'' => e = .returned v ∧ ∃ y : Ext w, w'' = y.wd :=
  h.mono fun _ w' ⟨he, hb⟩ => ⟨he, x, hb.symm⟩
end Go.Proofs.YtcgdjnmfeibnoaaDoor
/-! Tail -/
namespace Go.Proofs.YtcgdjnmfeibnoaaDoor
open Go.RowKit Go
set_option linter.unusedVariables false
set_option linter.unusedSimpArgs false
section
variable {P : Program} {ops : Array Oper} {md : Region.Mode} {C : World → Prop}
/-- The head's operations, in whatever order; then L. -/
def headQ (P : Program) (md : Region.Mode) (ops : Array Oper) (C : World → Prop) (n : Nat) (L : Array Bool → Act → Prop) : Nat → Array Bool → Act → Prop
  | 0, listed, a => L listed a
  | f + 1, listed, a => Region.ready md ops listed ≠ [] ∧ ∀ i ∈ Region.ready md ops listed, i < n ∧ qOp P ops C i (headQ P md ops C n L f (listed.setIfInBounds i true)) a
theorem any_of_headQ {n g : Nat} {L : Array Bool → Act → Prop} {Q' : Exit → Act → World → Prop} (hL : ∀ listed a w, C w → L listed a → wpAny P md ops Q' g listed a w) :
    ∀ (f : Nat) (listed : Array Bool) (a : Act) (w : World), C w → headQ P md ops C n L f listed a → wpAny P md ops Q' (f + g) listed a w
  | 0, listed, a, w, hw, h => by rw [Nat.zero_add]; exact hL _ _ _ hw h
  | f + 1, listed, a, w, hw, h => by
    rw [show f + 1 + g = (f + g) + 1 from by omega]
    exact ⟨fun h0 => absurd h0 h.1, fun i hi => wpOp_of_qOp hw (fun a' w' hw' h' => any_of_headQ hL f _ a' w' hw' h') (h.2 i hi).2⟩
theorem headQ_first {n i : Nat} {oi : Oper} {v : Value} {L : Array Bool → Act → Prop} (hi : ops[i]? = some oi) (hsel : ∀ (j : Nat) (o : Oper) cs b, ops[j]? = some o → o.op ≠ .select cs b)
    (hs : Region.sinkB md ops n = true) (hc : Region.chainB md ops n = true) (hn : n < ops.size) (hin : i < n)
    (hdone : ∀ listed a, L listed a → ∀ j ∈ Region.ready md ops listed, n ≤ j) :
    ∀ (f : Nat) (listed : Array Bool) (a : Act), HeadInv md ops n listed →
      (∀ j oj, ops[j]? = some oj → j ≠ i → listed.getD j true = false → (∀ e ∈ oj.after, Region.binds md e = true → e.on ≠ i) → oi.apart ops oj = true) →
      i ∈ Region.ready md ops listed → YieldsIn P ops C oi v a →
      headQ P md ops C n L f (listed.setIfInBounds i true) (a.put oi.dst v) → headQ P md ops C n L (f + 1) listed a := by
  intro f
  induction f with
  | zero =>
    intro listed a inv _ hr hy H
    have hun := (mem_ready.1 hr).1
    refine ⟨fun h => (by rw [h] at hr; cases hr), fun j hj => ?_⟩
    have hjn : j < n := by
      rcases Nat.lt_or_ge j n with h | h
      · exact h
      · exact absurd hj (tail_waits hs hc hn inv _ i rfl hin hun j h)
    refine ⟨hjn, ?_⟩
    by_cases hji : j = i
    · subst hji; exact hy.qOp hi H
    · have := hdone _ _ H j (ready_mono hj hji)
      omega
  | succ f ih =>
    intro listed a inv hfree hr hy H
    have hun := (mem_ready.1 hr).1
    refine ⟨fun h => (by rw [h] at hr; cases hr), fun j hj => ?_⟩
    have hjn : j < n := by
      rcases Nat.lt_or_ge j n with h | h
      · exact h
      · exact absurd hj (tail_waits hs hc hn inv _ i rfl hin hun j h)
    refine ⟨hjn, ?_⟩
    by_cases hji : j = i
    · subst hji; exact hy.qOp hi H
    · have h1 := (H.2 j (ready_mono hj hji)).2
      obtain ⟨hjun, oj, hoj, hall⟩ := mem_ready.1 hj
      have hnot : ∀ e ∈ oj.after, Region.binds md e = true → e.on ≠ i := fun e he hb heq => by
        have h1 := hall e he hb
        rw [heq, getD_both hun] at h1
        cases h1
      have h2 := qOp_put hoj (hfree j oj hoj hji hjun hnot) (fun cs b => hsel i oi cs b hi) (fun cs b => hsel j oj cs b hoj) hy h1
      have hfree' : ∀ k ok, ops[k]? = some ok → k ≠ i → (listed.setIfInBounds j true).getD k true = false →
          (∀ e ∈ ok.after, Region.binds md e = true → e.on ≠ i) → oi.apart ops ok = true := fun k ok hk hki hun hno => by
        refine hfree k ok hk hki ?_ hno
        by_cases hjk : j = k
        · subst hjk; exact hjun
        · rw [getD_set_ne true hjk] at hun; exact hun
      refine qOp_mono (fun a' h3 => ih (listed.setIfInBounds j true) a' (inv.set hj hjn) hfree' (ready_mono hr (Ne.symm hji)) h3.1 ?_) h2
      rw [Array.setIfInBounds_comm _ _ hji]
      exact h3.2
theorem headQ_lex {n g : Nat} {Lq : Act → Prop} (hsel : Region.noSelect ops = true) (hs : Region.sinkB md ops n = true) (hc : Region.chainB md ops n = true) (hn : n < ops.size) :
    ∀ (l : List Oper) (k : Nat) (listed : Array Bool) (a : Act), (∀ j, j < l.length → l[j]? = ops[k + j]?) → k + l.length = n → HeadInv md ops n listed →
    Region.lexHead md ops g l.length k listed = true → wpQuiet P ops C Lq l a →
    headQ P md ops C n (fun listed' a' => Region.seqB md ops g n listed' = true ∧ Lq a') l.length listed a
  | [], k, listed, a, _, hk, _, hB, h => by
    have : k = n := by simpa using hk
    subst this
    exact ⟨by simpa [Region.lexHead] using hB, h⟩
  | o :: l, k, listed, a, hl, hk, inv, hB, h => by
    have h0 : ops[k]? = some o := by simpa using (hl 0 (by simp)).symm
    simp only [List.length_cons, Region.lexHead, Bool.and_eq_true] at hB
    obtain ⟨⟨hr, hf⟩, hB'⟩ := hB
    have hkn : k < n := by simp only [List.length_cons] at hk; omega
    have hr' : k ∈ Region.ready md ops listed := by simpa using hr
    have hst : qOp P ops C k (wpQuiet P ops C Lq l) a := by unfold qOp; simp only [h0]; exact h
    obtain ⟨v, hy, hK⟩ := yieldsIn_of_qOp h0 hst
    exact headQ_first h0 (Region.noSelect_spec hsel) hs hc hn hkn (fun listed' a' hL => seqB_ready hL.1) l.length listed a inv (Region.free_spec h0 hf) hr' hy
      (headQ_lex hsel hs hc hn l (k + 1) _ _ (fun j hj => by have := hl (j + 1) (by simp; omega); simpa [Nat.add_assoc, Nat.add_comm 1 j] using this) (by simp only [List.length_cons] at hk; omega) (inv.set hr' hkn) hB' hK)
theorem wp_region_quiet_tail {id : Nat} {Q : Exit → Act → World → Prop} {a : Act} {w : World} {l : List Oper} (n : Nat) (hm : P.follows .mixedOrders = true) (hB : Region.lexTailB .any l.toArray n = true) (hC : C { w with drawn := w.drawn + 1 })
    (h : wpQuiet P l.toArray C (fun a' => ∀ w', C w' → wpList P l.toArray Q (l.drop n) a' w') (l.take n) a) : (Code.region id l.toArray true).wp P Q a w := by
  simp only [Region.lexTailB, Bool.and_eq_true, decide_eq_true_eq] at hB
  obtain ⟨⟨⟨⟨hsel, hn⟩, hs⟩, hc⟩, hlex⟩ := hB
  have hn' : n < l.length := by simpa using hn
  have htl : (l.take n).length = n := by simp; omega
  have hdl : (l.drop n).length = l.toArray.size - n := by simp
  have inv0 : HeadInv .any l.toArray n (Array.replicate l.toArray.size false) :=
    ⟨by simp, fun j oj _ hl => (by rw [getD_replicate_false] at hl; cases hl), fun t _ ht => getD_in (by simpa using ht) (getD_replicate_false _ _)⟩
  have H := headQ_lex (md := .any) (g := l.toArray.size - n) hsel hs hc hn (l.take n) 0 _ a (fun j hj => by
    have hj' : j < n := by rw [htl] at hj; exact hj
    simp [hj']) (by simpa using htl) inv0 (by rw [htl]; exact hlex) h
  refine wp_region_any hm ?_
  have := any_of_headQ (Q' := Q) (g := l.toArray.size - n) (fun listed a' w' hw' hL => by
    have := wpAny_of_seq (md := .any) (Q' := Q) (l.drop n) n listed a' w' (fun j => by simp [List.getElem?_drop]) (by rw [hdl]; exact hL.1) (hL.2 w' hw')
    rwa [hdl] at this) _ _ _ _ hC H
  rw [htl, show n + (l.toArray.size - n) = l.toArray.size from by omega] at this
  exact this
/-- Callees in the head make memory of their own. -/
theorem wp_region_ext_tail {id : Nat} {Q : Exit → Act → World → Prop} {a : Act} {w : World} {l : List Oper} (n : Nat) (hm : P.follows .mixedOrders = true) (hB : Region.lexTailB .any l.toArray n = true)
    (h : wpQuiet P l.toArray (fun w' => ∃ x : Ext w, w' = x.wd) (fun a' => ∀ w', (∃ x : Ext w, w' = x.wd) → wpList P l.toArray Q (l.drop n) a' w') (l.take n) a) : (Code.region id l.toArray true).wp P Q a w :=
  wp_region_quiet_tail (C := fun w' => ∃ x : Ext w, w' = x.wd) n hm hB ⟨⟨_, (Below.refl _ w).drew⟩, rfl⟩ h
end
end Go.Proofs.YtcgdjnmfeibnoaaDoor
/-! SixBox -/
namespace Go.Proofs.YtcgdjnmfeibnoaaDoor
open Go.RowKit
set_option linter.unusedVariables false
set_option linter.unusedSimpArgs false
theorem heap_at (W : World) (o : Obj) : (W.alloc o).heap[W.heap.size]? = some o := heap_alloc_last W o
theorem heap_below (W : World) (o : Obj) (g : Nat) (h : g < W.heap.size) : (W.alloc o).heap[g]? = W.heap[g]? := by
  show (W.heap.push o)[g]? = _
  rw [Array.getElem?_push, if_neg (by omega)]
theorem setRow_new (W : World) (c c' : Array Value) (t : TypeId) : (W.alloc (.cells c t)).setRow W.heap.size c' = W.alloc (.cells c' t) := World.setRow_alloc_new W c c' t
theorem setRow_below (W : World) (o : Obj) (g : Nat) (c : Array Value) (h : g < W.heap.size) : (W.alloc o).setRow g c = (W.setRow g c).alloc o := by
  simp only [World.setRow, World.alloc]
  congr 1
  apply Array.ext_getElem?
  intro i
  rw [Array.getElem?_modify, Array.getElem?_push, Array.getElem?_push, Array.size_modify, Array.getElem?_modify]
  by_cases h1 : i = W.heap.size
  · have h2 : ¬ g = i := by omega
    simp [h1, h2]
    intro e
    omega
  · by_cases h2 : g = i
    · simp [h1, h2]
    · simp [h1, h2]
theorem drewN_alloc (w : World) (o : Obj) (n : Nat) : (w.alloc o).drewN n = (w.drewN n).alloc o := rfl
/-- The whole variable, read and written. -/
@[irreducible] def loadS (x : Value) : Sem Value := Instr.loadAt 90 x
@[irreducible] def loadVS (x : Addr) : Sem Value := loadVar 90 x
@[irreducible] def storeS (x v : Value) : Sem Unit := Instr.storeAt 90 x v
@[go_sem ↓ high] theorem loadS_of (x : Value) : Instr.loadAt 90 x = loadS x := by unfold loadS; rfl
@[go_sem ↓ high] theorem loadVS_of (x : Addr) : loadVar 90 x = loadVS x := by unfold loadVS; rfl
@[go_sem ↓ high] theorem storeS_of (x v : Value) : Instr.storeAt 90 x v = storeS x v := by unfold storeS; rfl
theorem scan_ld0 {n : Nat} (W : World) (x0 x1 x2 x3 x4 x5 x6 x7 x8 x9 x10 x11 x12 x13 x14 x15 : Int) (hn : n = W.heap.size) :
    (loadVar 90 ⟨n, 0, none⟩).run Tryd.prog (W.alloc (.cells #[.int .u16 x0, .int .u16 x1, .int .u16 x2, .int .u16 x3, .int .u16 x4, .int .u16 x5, .int .u16 x6, .int .u16 x7, .int .i64 x8, .int .i64 x9, .int .i64 x10, .int .i64 x11, .int .i64 x12, .int .i64 x13, .int .i64 x14, .int .i64 x15] 90)) = .ok (.agg #[.int .u16 x0, .int .u16 x1, .int .u16 x2, .int .u16 x3, .int .u16 x4, .int .u16 x5, .int .u16 x6, .int .u16 x7, .int .i64 x8, .int .i64 x9, .int .i64 x10, .int .i64 x11, .int .i64 x12, .int .i64 x13, .int .i64 x14, .int .i64 x15]) (W.alloc (.cells #[.int .u16 x0, .int .u16 x1, .int .u16 x2, .int .u16 x3, .int .u16 x4, .int .u16 x5, .int .u16 x6, .int .u16 x7, .int .i64 x8, .int .i64 x9, .int .i64 x10, .int .i64 x11, .int .i64 x12, .int .i64 x13, .int .i64 x14, .int .i64 x15] 90)) := by
  subst hn
  exact run_loadVar_row _ _ 90 90 #[.int .u16 x0, .int .u16 x1, .int .u16 x2, .int .u16 x3, .int .u16 x4, .int .u16 x5, .int .u16 x6, .int .u16 x7, .int .i64 x8, .int .i64 x9, .int .i64 x10, .int .i64 x11, .int .i64 x12, .int .i64 x13, .int .i64 x14, .int .i64 x15] (0, 0) _ (heap_at W _) Tryd.underlying90 rfl (by kernel_rfl)
theorem scan_st0 {n : Nat} (W : World) (x0 x1 x2 x3 x4 x5 x6 x7 x8 x9 x10 x11 x12 x13 x14 x15 y0 y1 y2 y3 y4 y5 y6 y7 y8 y9 y10 y11 y12 y13 y14 y15 : Int) (hn : n = W.heap.size) :
    (storeVar 90 ⟨n, 0, none⟩ (.agg #[.int .u16 y0, .int .u16 y1, .int .u16 y2, .int .u16 y3, .int .u16 y4, .int .u16 y5, .int .u16 y6, .int .u16 y7, .int .i64 y8, .int .i64 y9, .int .i64 y10, .int .i64 y11, .int .i64 y12, .int .i64 y13, .int .i64 y14, .int .i64 y15])).run Tryd.prog (W.alloc (.cells #[.int .u16 x0, .int .u16 x1, .int .u16 x2, .int .u16 x3, .int .u16 x4, .int .u16 x5, .int .u16 x6, .int .u16 x7, .int .i64 x8, .int .i64 x9, .int .i64 x10, .int .i64 x11, .int .i64 x12, .int .i64 x13, .int .i64 x14, .int .i64 x15] 90)) = .ok () (W.alloc (.cells #[.int .u16 y0, .int .u16 y1, .int .u16 y2, .int .u16 y3, .int .u16 y4, .int .u16 y5, .int .u16 y6, .int .u16 y7, .int .i64 y8, .int .i64 y9, .int .i64 y10, .int .i64 y11, .int .i64 y12, .int .i64 y13, .int .i64 y14, .int .i64 y15] 90)) := by
  subst hn
  rw [run_storeVar_row _ _ 90 90 #[.int .u16 x0, .int .u16 x1, .int .u16 x2, .int .u16 x3, .int .u16 x4, .int .u16 x5, .int .u16 x6, .int .u16 x7, .int .i64 x8, .int .i64 x9, .int .i64 x10, .int .i64 x11, .int .i64 x12, .int .i64 x13, .int .i64 x14, .int .i64 x15] #[.int .u16 y0, .int .u16 y1, .int .u16 y2, .int .u16 y3, .int .u16 y4, .int .u16 y5, .int .u16 y6, .int .u16 y7, .int .i64 y8, .int .i64 y9, .int .i64 y10, .int .i64 y11, .int .i64 y12, .int .i64 y13, .int .i64 y14, .int .i64 y15] (heap_at W _) (by kernel_rfl) rfl (by simp [Value.oneCell'])]
  congr 1
  exact setRow_new W _ _ _
theorem scan_ld1 {n : Nat} (W : World) (x0 x1 x2 x3 x4 x5 x6 x7 x8 x9 x10 x11 x12 x13 x14 x15 : Int) (o1 : Obj) (hn : n = W.heap.size) :
    (loadVar 90 ⟨n, 0, none⟩).run Tryd.prog ((W.alloc (.cells #[.int .u16 x0, .int .u16 x1, .int .u16 x2, .int .u16 x3, .int .u16 x4, .int .u16 x5, .int .u16 x6, .int .u16 x7, .int .i64 x8, .int .i64 x9, .int .i64 x10, .int .i64 x11, .int .i64 x12, .int .i64 x13, .int .i64 x14, .int .i64 x15] 90)).alloc o1) = .ok (.agg #[.int .u16 x0, .int .u16 x1, .int .u16 x2, .int .u16 x3, .int .u16 x4, .int .u16 x5, .int .u16 x6, .int .u16 x7, .int .i64 x8, .int .i64 x9, .int .i64 x10, .int .i64 x11, .int .i64 x12, .int .i64 x13, .int .i64 x14, .int .i64 x15]) ((W.alloc (.cells #[.int .u16 x0, .int .u16 x1, .int .u16 x2, .int .u16 x3, .int .u16 x4, .int .u16 x5, .int .u16 x6, .int .u16 x7, .int .i64 x8, .int .i64 x9, .int .i64 x10, .int .i64 x11, .int .i64 x12, .int .i64 x13, .int .i64 x14, .int .i64 x15] 90)).alloc o1) := by
  subst hn
  exact run_loadVar_row _ _ 90 90 #[.int .u16 x0, .int .u16 x1, .int .u16 x2, .int .u16 x3, .int .u16 x4, .int .u16 x5, .int .u16 x6, .int .u16 x7, .int .i64 x8, .int .i64 x9, .int .i64 x10, .int .i64 x11, .int .i64 x12, .int .i64 x13, .int .i64 x14, .int .i64 x15] (0, 0) _ ((heap_below _ _ _ (by simp only [World.size_alloc]; omega)).trans (heap_at W _)) Tryd.underlying90 rfl (by kernel_rfl)
theorem scan_st1 {n : Nat} (W : World) (x0 x1 x2 x3 x4 x5 x6 x7 x8 x9 x10 x11 x12 x13 x14 x15 y0 y1 y2 y3 y4 y5 y6 y7 y8 y9 y10 y11 y12 y13 y14 y15 : Int) (o1 : Obj) (hn : n = W.heap.size) :
    (storeVar 90 ⟨n, 0, none⟩ (.agg #[.int .u16 y0, .int .u16 y1, .int .u16 y2, .int .u16 y3, .int .u16 y4, .int .u16 y5, .int .u16 y6, .int .u16 y7, .int .i64 y8, .int .i64 y9, .int .i64 y10, .int .i64 y11, .int .i64 y12, .int .i64 y13, .int .i64 y14, .int .i64 y15])).run Tryd.prog ((W.alloc (.cells #[.int .u16 x0, .int .u16 x1, .int .u16 x2, .int .u16 x3, .int .u16 x4, .int .u16 x5, .int .u16 x6, .int .u16 x7, .int .i64 x8, .int .i64 x9, .int .i64 x10, .int .i64 x11, .int .i64 x12, .int .i64 x13, .int .i64 x14, .int .i64 x15] 90)).alloc o1) = .ok () ((W.alloc (.cells #[.int .u16 y0, .int .u16 y1, .int .u16 y2, .int .u16 y3, .int .u16 y4, .int .u16 y5, .int .u16 y6, .int .u16 y7, .int .i64 y8, .int .i64 y9, .int .i64 y10, .int .i64 y11, .int .i64 y12, .int .i64 y13, .int .i64 y14, .int .i64 y15] 90)).alloc o1) := by
  subst hn
  rw [run_storeVar_row _ _ 90 90 #[.int .u16 x0, .int .u16 x1, .int .u16 x2, .int .u16 x3, .int .u16 x4, .int .u16 x5, .int .u16 x6, .int .u16 x7, .int .i64 x8, .int .i64 x9, .int .i64 x10, .int .i64 x11, .int .i64 x12, .int .i64 x13, .int .i64 x14, .int .i64 x15] #[.int .u16 y0, .int .u16 y1, .int .u16 y2, .int .u16 y3, .int .u16 y4, .int .u16 y5, .int .u16 y6, .int .u16 y7, .int .i64 y8, .int .i64 y9, .int .i64 y10, .int .i64 y11, .int .i64 y12, .int .i64 y13, .int .i64 y14, .int .i64 y15] ((heap_below _ _ _ (by simp only [World.size_alloc]; omega)).trans (heap_at W _)) (by kernel_rfl) rfl (by simp [Value.oneCell'])]
  congr 1
  exact (setRow_below _ _ _ _ (by simp only [World.size_alloc]; omega)).trans (congrArg (fun w => World.alloc w _) (setRow_new W _ _ _))
theorem scan_ld2 {n : Nat} (W : World) (x0 x1 x2 x3 x4 x5 x6 x7 x8 x9 x10 x11 x12 x13 x14 x15 : Int) (o1 o2 : Obj) (hn : n = W.heap.size) :
    (loadVar 90 ⟨n, 0, none⟩).run Tryd.prog (((W.alloc (.cells #[.int .u16 x0, .int .u16 x1, .int .u16 x2, .int .u16 x3, .int .u16 x4, .int .u16 x5, .int .u16 x6, .int .u16 x7, .int .i64 x8, .int .i64 x9, .int .i64 x10, .int .i64 x11, .int .i64 x12, .int .i64 x13, .int .i64 x14, .int .i64 x15] 90)).alloc o1).alloc o2) = .ok (.agg #[.int .u16 x0, .int .u16 x1, .int .u16 x2, .int .u16 x3, .int .u16 x4, .int .u16 x5, .int .u16 x6, .int .u16 x7, .int .i64 x8, .int .i64 x9, .int .i64 x10, .int .i64 x11, .int .i64 x12, .int .i64 x13, .int .i64 x14, .int .i64 x15]) (((W.alloc (.cells #[.int .u16 x0, .int .u16 x1, .int .u16 x2, .int .u16 x3, .int .u16 x4, .int .u16 x5, .int .u16 x6, .int .u16 x7, .int .i64 x8, .int .i64 x9, .int .i64 x10, .int .i64 x11, .int .i64 x12, .int .i64 x13, .int .i64 x14, .int .i64 x15] 90)).alloc o1).alloc o2) := by
  subst hn
  exact run_loadVar_row _ _ 90 90 #[.int .u16 x0, .int .u16 x1, .int .u16 x2, .int .u16 x3, .int .u16 x4, .int .u16 x5, .int .u16 x6, .int .u16 x7, .int .i64 x8, .int .i64 x9, .int .i64 x10, .int .i64 x11, .int .i64 x12, .int .i64 x13, .int .i64 x14, .int .i64 x15] (0, 0) _ ((heap_below _ _ _ (by simp only [World.size_alloc]; omega)).trans ((heap_below _ _ _ (by simp only [World.size_alloc]; omega)).trans (heap_at W _))) Tryd.underlying90 rfl (by kernel_rfl)
theorem scan_st2 {n : Nat} (W : World) (x0 x1 x2 x3 x4 x5 x6 x7 x8 x9 x10 x11 x12 x13 x14 x15 y0 y1 y2 y3 y4 y5 y6 y7 y8 y9 y10 y11 y12 y13 y14 y15 : Int) (o1 o2 : Obj) (hn : n = W.heap.size) :
    (storeVar 90 ⟨n, 0, none⟩ (.agg #[.int .u16 y0, .int .u16 y1, .int .u16 y2, .int .u16 y3, .int .u16 y4, .int .u16 y5, .int .u16 y6, .int .u16 y7, .int .i64 y8, .int .i64 y9, .int .i64 y10, .int .i64 y11, .int .i64 y12, .int .i64 y13, .int .i64 y14, .int .i64 y15])).run Tryd.prog (((W.alloc (.cells #[.int .u16 x0, .int .u16 x1, .int .u16 x2, .int .u16 x3, .int .u16 x4, .int .u16 x5, .int .u16 x6, .int .u16 x7, .int .i64 x8, .int .i64 x9, .int .i64 x10, .int .i64 x11, .int .i64 x12, .int .i64 x13, .int .i64 x14, .int .i64 x15] 90)).alloc o1).alloc o2) = .ok () (((W.alloc (.cells #[.int .u16 y0, .int .u16 y1, .int .u16 y2, .int .u16 y3, .int .u16 y4, .int .u16 y5, .int .u16 y6, .int .u16 y7, .int .i64 y8, .int .i64 y9, .int .i64 y10, .int .i64 y11, .int .i64 y12, .int .i64 y13, .int .i64 y14, .int .i64 y15] 90)).alloc o1).alloc o2) := by
  subst hn
  rw [run_storeVar_row _ _ 90 90 #[.int .u16 x0, .int .u16 x1, .int .u16 x2, .int .u16 x3, .int .u16 x4, .int .u16 x5, .int .u16 x6, .int .u16 x7, .int .i64 x8, .int .i64 x9, .int .i64 x10, .int .i64 x11, .int .i64 x12, .int .i64 x13, .int .i64 x14, .int .i64 x15] #[.int .u16 y0, .int .u16 y1, .int .u16 y2, .int .u16 y3, .int .u16 y4, .int .u16 y5, .int .u16 y6, .int .u16 y7, .int .i64 y8, .int .i64 y9, .int .i64 y10, .int .i64 y11, .int .i64 y12, .int .i64 y13, .int .i64 y14, .int .i64 y15] ((heap_below _ _ _ (by simp only [World.size_alloc]; omega)).trans ((heap_below _ _ _ (by simp only [World.size_alloc]; omega)).trans (heap_at W _))) (by kernel_rfl) rfl (by simp [Value.oneCell'])]
  congr 1
  exact (setRow_below _ _ _ _ (by simp only [World.size_alloc]; omega)).trans (congrArg (fun w => World.alloc w _) ((setRow_below _ _ _ _ (by simp only [World.size_alloc]; omega)).trans (congrArg (fun w => World.alloc w _) (setRow_new W _ _ _))))
theorem scan_ld3 {n : Nat} (W : World) (x0 x1 x2 x3 x4 x5 x6 x7 x8 x9 x10 x11 x12 x13 x14 x15 : Int) (o1 o2 o3 : Obj) (hn : n = W.heap.size) :
    (loadVar 90 ⟨n, 0, none⟩).run Tryd.prog ((((W.alloc (.cells #[.int .u16 x0, .int .u16 x1, .int .u16 x2, .int .u16 x3, .int .u16 x4, .int .u16 x5, .int .u16 x6, .int .u16 x7, .int .i64 x8, .int .i64 x9, .int .i64 x10, .int .i64 x11, .int .i64 x12, .int .i64 x13, .int .i64 x14, .int .i64 x15] 90)).alloc o1).alloc o2).alloc o3) = .ok (.agg #[.int .u16 x0, .int .u16 x1, .int .u16 x2, .int .u16 x3, .int .u16 x4, .int .u16 x5, .int .u16 x6, .int .u16 x7, .int .i64 x8, .int .i64 x9, .int .i64 x10, .int .i64 x11, .int .i64 x12, .int .i64 x13, .int .i64 x14, .int .i64 x15]) ((((W.alloc (.cells #[.int .u16 x0, .int .u16 x1, .int .u16 x2, .int .u16 x3, .int .u16 x4, .int .u16 x5, .int .u16 x6, .int .u16 x7, .int .i64 x8, .int .i64 x9, .int .i64 x10, .int .i64 x11, .int .i64 x12, .int .i64 x13, .int .i64 x14, .int .i64 x15] 90)).alloc o1).alloc o2).alloc o3) := by
  subst hn
  exact run_loadVar_row _ _ 90 90 #[.int .u16 x0, .int .u16 x1, .int .u16 x2, .int .u16 x3, .int .u16 x4, .int .u16 x5, .int .u16 x6, .int .u16 x7, .int .i64 x8, .int .i64 x9, .int .i64 x10, .int .i64 x11, .int .i64 x12, .int .i64 x13, .int .i64 x14, .int .i64 x15] (0, 0) _ ((heap_below _ _ _ (by simp only [World.size_alloc]; omega)).trans ((heap_below _ _ _ (by simp only [World.size_alloc]; omega)).trans ((heap_below _ _ _ (by simp only [World.size_alloc]; omega)).trans (heap_at W _)))) Tryd.underlying90 rfl (by kernel_rfl)
theorem scan_st3 {n : Nat} (W : World) (x0 x1 x2 x3 x4 x5 x6 x7 x8 x9 x10 x11 x12 x13 x14 x15 y0 y1 y2 y3 y4 y5 y6 y7 y8 y9 y10 y11 y12 y13 y14 y15 : Int) (o1 o2 o3 : Obj) (hn : n = W.heap.size) :
    (storeVar 90 ⟨n, 0, none⟩ (.agg #[.int .u16 y0, .int .u16 y1, .int .u16 y2, .int .u16 y3, .int .u16 y4, .int .u16 y5, .int .u16 y6, .int .u16 y7, .int .i64 y8, .int .i64 y9, .int .i64 y10, .int .i64 y11, .int .i64 y12, .int .i64 y13, .int .i64 y14, .int .i64 y15])).run Tryd.prog ((((W.alloc (.cells #[.int .u16 x0, .int .u16 x1, .int .u16 x2, .int .u16 x3, .int .u16 x4, .int .u16 x5, .int .u16 x6, .int .u16 x7, .int .i64 x8, .int .i64 x9, .int .i64 x10, .int .i64 x11, .int .i64 x12, .int .i64 x13, .int .i64 x14, .int .i64 x15] 90)).alloc o1).alloc o2).alloc o3) = .ok () ((((W.alloc (.cells #[.int .u16 y0, .int .u16 y1, .int .u16 y2, .int .u16 y3, .int .u16 y4, .int .u16 y5, .int .u16 y6, .int .u16 y7, .int .i64 y8, .int .i64 y9, .int .i64 y10, .int .i64 y11, .int .i64 y12, .int .i64 y13, .int .i64 y14, .int .i64 y15] 90)).alloc o1).alloc o2).alloc o3) := by
  subst hn
  rw [run_storeVar_row _ _ 90 90 #[.int .u16 x0, .int .u16 x1, .int .u16 x2, .int .u16 x3, .int .u16 x4, .int .u16 x5, .int .u16 x6, .int .u16 x7, .int .i64 x8, .int .i64 x9, .int .i64 x10, .int .i64 x11, .int .i64 x12, .int .i64 x13, .int .i64 x14, .int .i64 x15] #[.int .u16 y0, .int .u16 y1, .int .u16 y2, .int .u16 y3, .int .u16 y4, .int .u16 y5, .int .u16 y6, .int .u16 y7, .int .i64 y8, .int .i64 y9, .int .i64 y10, .int .i64 y11, .int .i64 y12, .int .i64 y13, .int .i64 y14, .int .i64 y15] ((heap_below _ _ _ (by simp only [World.size_alloc]; omega)).trans ((heap_below _ _ _ (by simp only [World.size_alloc]; omega)).trans ((heap_below _ _ _ (by simp only [World.size_alloc]; omega)).trans (heap_at W _)))) (by kernel_rfl) rfl (by simp [Value.oneCell'])]
  congr 1
  exact (setRow_below _ _ _ _ (by simp only [World.size_alloc]; omega)).trans (congrArg (fun w => World.alloc w _) ((setRow_below _ _ _ _ (by simp only [World.size_alloc]; omega)).trans (congrArg (fun w => World.alloc w _) ((setRow_below _ _ _ _ (by simp only [World.size_alloc]; omega)).trans (congrArg (fun w => World.alloc w _) (setRow_new W _ _ _))))))
@[go_sem] theorem loadS_0 {n : Nat} (W : World) (x0 x1 x2 x3 x4 x5 x6 x7 x8 x9 x10 x11 x12 x13 x14 x15 : Int) (hn : n = W.heap.size) :
    (loadS (.pointer (some ⟨n, 0, none⟩))).run Tryd.prog (W.alloc (.cells #[.int .u16 x0, .int .u16 x1, .int .u16 x2, .int .u16 x3, .int .u16 x4, .int .u16 x5, .int .u16 x6, .int .u16 x7, .int .i64 x8, .int .i64 x9, .int .i64 x10, .int .i64 x11, .int .i64 x12, .int .i64 x13, .int .i64 x14, .int .i64 x15] 90)) = .ok (.agg #[.int .u16 x0, .int .u16 x1, .int .u16 x2, .int .u16 x3, .int .u16 x4, .int .u16 x5, .int .u16 x6, .int .u16 x7, .int .i64 x8, .int .i64 x9, .int .i64 x10, .int .i64 x11, .int .i64 x12, .int .i64 x13, .int .i64 x14, .int .i64 x15]) (W.alloc (.cells #[.int .u16 x0, .int .u16 x1, .int .u16 x2, .int .u16 x3, .int .u16 x4, .int .u16 x5, .int .u16 x6, .int .u16 x7, .int .i64 x8, .int .i64 x9, .int .i64 x10, .int .i64 x11, .int .i64 x12, .int .i64 x13, .int .i64 x14, .int .i64 x15] 90)) := by
  unfold loadS
  simp only [Instr.loadAt, Instr.sureAddr, Sem.run_bind, Sem.run_pure, Result.andThen]
  exact scan_ld0 W _ _ _ _ _ _ _ _ _ _ _ _ _ _ _ _ hn
@[go_sem] theorem loadVS_0 {n : Nat} (W : World) (x0 x1 x2 x3 x4 x5 x6 x7 x8 x9 x10 x11 x12 x13 x14 x15 : Int) (hn : n = W.heap.size) :
    (loadVS ⟨n, 0, none⟩).run Tryd.prog (W.alloc (.cells #[.int .u16 x0, .int .u16 x1, .int .u16 x2, .int .u16 x3, .int .u16 x4, .int .u16 x5, .int .u16 x6, .int .u16 x7, .int .i64 x8, .int .i64 x9, .int .i64 x10, .int .i64 x11, .int .i64 x12, .int .i64 x13, .int .i64 x14, .int .i64 x15] 90)) = .ok (.agg #[.int .u16 x0, .int .u16 x1, .int .u16 x2, .int .u16 x3, .int .u16 x4, .int .u16 x5, .int .u16 x6, .int .u16 x7, .int .i64 x8, .int .i64 x9, .int .i64 x10, .int .i64 x11, .int .i64 x12, .int .i64 x13, .int .i64 x14, .int .i64 x15]) (W.alloc (.cells #[.int .u16 x0, .int .u16 x1, .int .u16 x2, .int .u16 x3, .int .u16 x4, .int .u16 x5, .int .u16 x6, .int .u16 x7, .int .i64 x8, .int .i64 x9, .int .i64 x10, .int .i64 x11, .int .i64 x12, .int .i64 x13, .int .i64 x14, .int .i64 x15] 90)) := by
  unfold loadVS
  exact scan_ld0 W _ _ _ _ _ _ _ _ _ _ _ _ _ _ _ _ hn
@[go_sem] theorem storeS_0 {n : Nat} (W : World) (x0 x1 x2 x3 x4 x5 x6 x7 x8 x9 x10 x11 x12 x13 x14 x15 y0 y1 y2 y3 y4 y5 y6 y7 y8 y9 y10 y11 y12 y13 y14 y15 : Int) (hn : n = W.heap.size) :
    (storeS (.pointer (some ⟨n, 0, none⟩)) (.agg #[.int .u16 y0, .int .u16 y1, .int .u16 y2, .int .u16 y3, .int .u16 y4, .int .u16 y5, .int .u16 y6, .int .u16 y7, .int .i64 y8, .int .i64 y9, .int .i64 y10, .int .i64 y11, .int .i64 y12, .int .i64 y13, .int .i64 y14, .int .i64 y15])).run Tryd.prog (W.alloc (.cells #[.int .u16 x0, .int .u16 x1, .int .u16 x2, .int .u16 x3, .int .u16 x4, .int .u16 x5, .int .u16 x6, .int .u16 x7, .int .i64 x8, .int .i64 x9, .int .i64 x10, .int .i64 x11, .int .i64 x12, .int .i64 x13, .int .i64 x14, .int .i64 x15] 90)) = .ok () (W.alloc (.cells #[.int .u16 y0, .int .u16 y1, .int .u16 y2, .int .u16 y3, .int .u16 y4, .int .u16 y5, .int .u16 y6, .int .u16 y7, .int .i64 y8, .int .i64 y9, .int .i64 y10, .int .i64 y11, .int .i64 y12, .int .i64 y13, .int .i64 y14, .int .i64 y15] 90)) := by
  unfold storeS
  simp only [Instr.storeAt, Instr.sureAddr, Sem.run_bind, Sem.run_pure, Result.andThen]
  exact scan_st0 W _ _ _ _ _ _ _ _ _ _ _ _ _ _ _ _ _ _ _ _ _ _ _ _ _ _ _ _ _ _ _ _ hn
@[go_sem] theorem loadS_1 {n : Nat} (W : World) (x0 x1 x2 x3 x4 x5 x6 x7 x8 x9 x10 x11 x12 x13 x14 x15 : Int) (o1 : Obj) (hn : n = W.heap.size) :
    (loadS (.pointer (some ⟨n, 0, none⟩))).run Tryd.prog ((W.alloc (.cells #[.int .u16 x0, .int .u16 x1, .int .u16 x2, .int .u16 x3, .int .u16 x4, .int .u16 x5, .int .u16 x6, .int .u16 x7, .int .i64 x8, .int .i64 x9, .int .i64 x10, .int .i64 x11, .int .i64 x12, .int .i64 x13, .int .i64 x14, .int .i64 x15] 90)).alloc o1) = .ok (.agg #[.int .u16 x0, .int .u16 x1, .int .u16 x2, .int .u16 x3, .int .u16 x4, .int .u16 x5, .int .u16 x6, .int .u16 x7, .int .i64 x8, .int .i64 x9, .int .i64 x10, .int .i64 x11, .int .i64 x12, .int .i64 x13, .int .i64 x14, .int .i64 x15]) ((W.alloc (.cells #[.int .u16 x0, .int .u16 x1, .int .u16 x2, .int .u16 x3, .int .u16 x4, .int .u16 x5, .int .u16 x6, .int .u16 x7, .int .i64 x8, .int .i64 x9, .int .i64 x10, .int .i64 x11, .int .i64 x12, .int .i64 x13, .int .i64 x14, .int .i64 x15] 90)).alloc o1) := by
  unfold loadS
  simp only [Instr.loadAt, Instr.sureAddr, Sem.run_bind, Sem.run_pure, Result.andThen]
  exact scan_ld1 W _ _ _ _ _ _ _ _ _ _ _ _ _ _ _ _ _ hn
@[go_sem] theorem loadVS_1 {n : Nat} (W : World) (x0 x1 x2 x3 x4 x5 x6 x7 x8 x9 x10 x11 x12 x13 x14 x15 : Int) (o1 : Obj) (hn : n = W.heap.size) :
    (loadVS ⟨n, 0, none⟩).run Tryd.prog ((W.alloc (.cells #[.int .u16 x0, .int .u16 x1, .int .u16 x2, .int .u16 x3, .int .u16 x4, .int .u16 x5, .int .u16 x6, .int .u16 x7, .int .i64 x8, .int .i64 x9, .int .i64 x10, .int .i64 x11, .int .i64 x12, .int .i64 x13, .int .i64 x14, .int .i64 x15] 90)).alloc o1) = .ok (.agg #[.int .u16 x0, .int .u16 x1, .int .u16 x2, .int .u16 x3, .int .u16 x4, .int .u16 x5, .int .u16 x6, .int .u16 x7, .int .i64 x8, .int .i64 x9, .int .i64 x10, .int .i64 x11, .int .i64 x12, .int .i64 x13, .int .i64 x14, .int .i64 x15]) ((W.alloc (.cells #[.int .u16 x0, .int .u16 x1, .int .u16 x2, .int .u16 x3, .int .u16 x4, .int .u16 x5, .int .u16 x6, .int .u16 x7, .int .i64 x8, .int .i64 x9, .int .i64 x10, .int .i64 x11, .int .i64 x12, .int .i64 x13, .int .i64 x14, .int .i64 x15] 90)).alloc o1) := by
  unfold loadVS
  exact scan_ld1 W _ _ _ _ _ _ _ _ _ _ _ _ _ _ _ _ _ hn
@[go_sem] theorem storeS_1 {n : Nat} (W : World) (x0 x1 x2 x3 x4 x5 x6 x7 x8 x9 x10 x11 x12 x13 x14 x15 y0 y1 y2 y3 y4 y5 y6 y7 y8 y9 y10 y11 y12 y13 y14 y15 : Int) (o1 : Obj) (hn : n = W.heap.size) :
    (storeS (.pointer (some ⟨n, 0, none⟩)) (.agg #[.int .u16 y0, .int .u16 y1, .int .u16 y2, .int .u16 y3, .int .u16 y4, .int .u16 y5, .int .u16 y6, .int .u16 y7, .int .i64 y8, .int .i64 y9, .int .i64 y10, .int .i64 y11, .int .i64 y12, .int .i64 y13, .int .i64 y14, .int .i64 y15])).run Tryd.prog ((W.alloc (.cells #[.int .u16 x0, .int .u16 x1, .int .u16 x2, .int .u16 x3, .int .u16 x4, .int .u16 x5, .int .u16 x6, .int .u16 x7, .int .i64 x8, .int .i64 x9, .int .i64 x10, .int .i64 x11, .int .i64 x12, .int .i64 x13, .int .i64 x14, .int .i64 x15] 90)).alloc o1) = .ok () ((W.alloc (.cells #[.int .u16 y0, .int .u16 y1, .int .u16 y2, .int .u16 y3, .int .u16 y4, .int .u16 y5, .int .u16 y6, .int .u16 y7, .int .i64 y8, .int .i64 y9, .int .i64 y10, .int .i64 y11, .int .i64 y12, .int .i64 y13, .int .i64 y14, .int .i64 y15] 90)).alloc o1) := by
  unfold storeS
  simp only [Instr.storeAt, Instr.sureAddr, Sem.run_bind, Sem.run_pure, Result.andThen]
  exact scan_st1 W _ _ _ _ _ _ _ _ _ _ _ _ _ _ _ _ _ _ _ _ _ _ _ _ _ _ _ _ _ _ _ _ _ hn
@[go_sem] theorem loadS_2 {n : Nat} (W : World) (x0 x1 x2 x3 x4 x5 x6 x7 x8 x9 x10 x11 x12 x13 x14 x15 : Int) (o1 o2 : Obj) (hn : n = W.heap.size) :
    (loadS (.pointer (some ⟨n, 0, none⟩))).run Tryd.prog (((W.alloc (.cells #[.int .u16 x0, .int .u16 x1, .int .u16 x2, .int .u16 x3, .int .u16 x4, .int .u16 x5, .int .u16 x6, .int .u16 x7, .int .i64 x8, .int .i64 x9, .int .i64 x10, .int .i64 x11, .int .i64 x12, .int .i64 x13, .int .i64 x14, .int .i64 x15] 90)).alloc o1).alloc o2) = .ok (.agg #[.int .u16 x0, .int .u16 x1, .int .u16 x2, .int .u16 x3, .int .u16 x4, .int .u16 x5, .int .u16 x6, .int .u16 x7, .int .i64 x8, .int .i64 x9, .int .i64 x10, .int .i64 x11, .int .i64 x12, .int .i64 x13, .int .i64 x14, .int .i64 x15]) (((W.alloc (.cells #[.int .u16 x0, .int .u16 x1, .int .u16 x2, .int .u16 x3, .int .u16 x4, .int .u16 x5, .int .u16 x6, .int .u16 x7, .int .i64 x8, .int .i64 x9, .int .i64 x10, .int .i64 x11, .int .i64 x12, .int .i64 x13, .int .i64 x14, .int .i64 x15] 90)).alloc o1).alloc o2) := by
  unfold loadS
  simp only [Instr.loadAt, Instr.sureAddr, Sem.run_bind, Sem.run_pure, Result.andThen]
  exact scan_ld2 W _ _ _ _ _ _ _ _ _ _ _ _ _ _ _ _ _ _ hn
@[go_sem] theorem loadVS_2 {n : Nat} (W : World) (x0 x1 x2 x3 x4 x5 x6 x7 x8 x9 x10 x11 x12 x13 x14 x15 : Int) (o1 o2 : Obj) (hn : n = W.heap.size) :
    (loadVS ⟨n, 0, none⟩).run Tryd.prog (((W.alloc (.cells #[.int .u16 x0, .int .u16 x1, .int .u16 x2, .int .u16 x3, .int .u16 x4, .int .u16 x5, .int .u16 x6, .int .u16 x7, .int .i64 x8, .int .i64 x9, .int .i64 x10, .int .i64 x11, .int .i64 x12, .int .i64 x13, .int .i64 x14, .int .i64 x15] 90)).alloc o1).alloc o2) = .ok (.agg #[.int .u16 x0, .int .u16 x1, .int .u16 x2, .int .u16 x3, .int .u16 x4, .int .u16 x5, .int .u16 x6, .int .u16 x7, .int .i64 x8, .int .i64 x9, .int .i64 x10, .int .i64 x11, .int .i64 x12, .int .i64 x13, .int .i64 x14, .int .i64 x15]) (((W.alloc (.cells #[.int .u16 x0, .int .u16 x1, .int .u16 x2, .int .u16 x3, .int .u16 x4, .int .u16 x5, .int .u16 x6, .int .u16 x7, .int .i64 x8, .int .i64 x9, .int .i64 x10, .int .i64 x11, .int .i64 x12, .int .i64 x13, .int .i64 x14, .int .i64 x15] 90)).alloc o1).alloc o2) := by
  unfold loadVS
  exact scan_ld2 W _ _ _ _ _ _ _ _ _ _ _ _ _ _ _ _ _ _ hn
@[go_sem] theorem storeS_2 {n : Nat} (W : World) (x0 x1 x2 x3 x4 x5 x6 x7 x8 x9 x10 x11 x12 x13 x14 x15 y0 y1 y2 y3 y4 y5 y6 y7 y8 y9 y10 y11 y12 y13 y14 y15 : Int) (o1 o2 : Obj) (hn : n = W.heap.size) :
    (storeS (.pointer (some ⟨n, 0, none⟩)) (.agg #[.int .u16 y0, .int .u16 y1, .int .u16 y2, .int .u16 y3, .int .u16 y4, .int .u16 y5, .int .u16 y6, .int .u16 y7, .int .i64 y8, .int .i64 y9, .int .i64 y10, .int .i64 y11, .int .i64 y12, .int .i64 y13, .int .i64 y14, .int .i64 y15])).run Tryd.prog (((W.alloc (.cells #[.int .u16 x0, .int .u16 x1, .int .u16 x2, .int .u16 x3, .int .u16 x4, .int .u16 x5, .int .u16 x6, .int .u16 x7, .int .i64 x8, .int .i64 x9, .int .i64 x10, .int .i64 x11, .int .i64 x12, .int .i64 x13, .int .i64 x14, .int .i64 x15] 90)).alloc o1).alloc o2) = .ok () (((W.alloc (.cells #[.int .u16 y0, .int .u16 y1, .int .u16 y2, .int .u16 y3, .int .u16 y4, .int .u16 y5, .int .u16 y6, .int .u16 y7, .int .i64 y8, .int .i64 y9, .int .i64 y10, .int .i64 y11, .int .i64 y12, .int .i64 y13, .int .i64 y14, .int .i64 y15] 90)).alloc o1).alloc o2) := by
  unfold storeS
  simp only [Instr.storeAt, Instr.sureAddr, Sem.run_bind, Sem.run_pure, Result.andThen]
  exact scan_st2 W _ _ _ _ _ _ _ _ _ _ _ _ _ _ _ _ _ _ _ _ _ _ _ _ _ _ _ _ _ _ _ _ _ _ hn
@[go_sem] theorem loadS_3 {n : Nat} (W : World) (x0 x1 x2 x3 x4 x5 x6 x7 x8 x9 x10 x11 x12 x13 x14 x15 : Int) (o1 o2 o3 : Obj) (hn : n = W.heap.size) :
    (loadS (.pointer (some ⟨n, 0, none⟩))).run Tryd.prog ((((W.alloc (.cells #[.int .u16 x0, .int .u16 x1, .int .u16 x2, .int .u16 x3, .int .u16 x4, .int .u16 x5, .int .u16 x6, .int .u16 x7, .int .i64 x8, .int .i64 x9, .int .i64 x10, .int .i64 x11, .int .i64 x12, .int .i64 x13, .int .i64 x14, .int .i64 x15] 90)).alloc o1).alloc o2).alloc o3) = .ok (.agg #[.int .u16 x0, .int .u16 x1, .int .u16 x2, .int .u16 x3, .int .u16 x4, .int .u16 x5, .int .u16 x6, .int .u16 x7, .int .i64 x8, .int .i64 x9, .int .i64 x10, .int .i64 x11, .int .i64 x12, .int .i64 x13, .int .i64 x14, .int .i64 x15]) ((((W.alloc (.cells #[.int .u16 x0, .int .u16 x1, .int .u16 x2, .int .u16 x3, .int .u16 x4, .int .u16 x5, .int .u16 x6, .int .u16 x7, .int .i64 x8, .int .i64 x9, .int .i64 x10, .int .i64 x11, .int .i64 x12, .int .i64 x13, .int .i64 x14, .int .i64 x15] 90)).alloc o1).alloc o2).alloc o3) := by
  unfold loadS
  simp only [Instr.loadAt, Instr.sureAddr, Sem.run_bind, Sem.run_pure, Result.andThen]
  exact scan_ld3 W _ _ _ _ _ _ _ _ _ _ _ _ _ _ _ _ _ _ _ hn
@[go_sem] theorem loadVS_3 {n : Nat} (W : World) (x0 x1 x2 x3 x4 x5 x6 x7 x8 x9 x10 x11 x12 x13 x14 x15 : Int) (o1 o2 o3 : Obj) (hn : n = W.heap.size) :
    (loadVS ⟨n, 0, none⟩).run Tryd.prog ((((W.alloc (.cells #[.int .u16 x0, .int .u16 x1, .int .u16 x2, .int .u16 x3, .int .u16 x4, .int .u16 x5, .int .u16 x6, .int .u16 x7, .int .i64 x8, .int .i64 x9, .int .i64 x10, .int .i64 x11, .int .i64 x12, .int .i64 x13, .int .i64 x14, .int .i64 x15] 90)).alloc o1).alloc o2).alloc o3) = .ok (.agg #[.int .u16 x0, .int .u16 x1, .int .u16 x2, .int .u16 x3, .int .u16 x4, .int .u16 x5, .int .u16 x6, .int .u16 x7, .int .i64 x8, .int .i64 x9, .int .i64 x10, .int .i64 x11, .int .i64 x12, .int .i64 x13, .int .i64 x14, .int .i64 x15]) ((((W.alloc (.cells #[.int .u16 x0, .int .u16 x1, .int .u16 x2, .int .u16 x3, .int .u16 x4, .int .u16 x5, .int .u16 x6, .int .u16 x7, .int .i64 x8, .int .i64 x9, .int .i64 x10, .int .i64 x11, .int .i64 x12, .int .i64 x13, .int .i64 x14, .int .i64 x15] 90)).alloc o1).alloc o2).alloc o3) := by
  unfold loadVS
  exact scan_ld3 W _ _ _ _ _ _ _ _ _ _ _ _ _ _ _ _ _ _ _ hn
@[go_sem] theorem storeS_3 {n : Nat} (W : World) (x0 x1 x2 x3 x4 x5 x6 x7 x8 x9 x10 x11 x12 x13 x14 x15 y0 y1 y2 y3 y4 y5 y6 y7 y8 y9 y10 y11 y12 y13 y14 y15 : Int) (o1 o2 o3 : Obj) (hn : n = W.heap.size) :
    (storeS (.pointer (some ⟨n, 0, none⟩)) (.agg #[.int .u16 y0, .int .u16 y1, .int .u16 y2, .int .u16 y3, .int .u16 y4, .int .u16 y5, .int .u16 y6, .int .u16 y7, .int .i64 y8, .int .i64 y9, .int .i64 y10, .int .i64 y11, .int .i64 y12, .int .i64 y13, .int .i64 y14, .int .i64 y15])).run Tryd.prog ((((W.alloc (.cells #[.int .u16 x0, .int .u16 x1, .int .u16 x2, .int .u16 x3, .int .u16 x4, .int .u16 x5, .int .u16 x6, .int .u16 x7, .int .i64 x8, .int .i64 x9, .int .i64 x10, .int .i64 x11, .int .i64 x12, .int .i64 x13, .int .i64 x14, .int .i64 x15] 90)).alloc o1).alloc o2).alloc o3) = .ok () ((((W.alloc (.cells #[.int .u16 y0, .int .u16 y1, .int .u16 y2, .int .u16 y3, .int .u16 y4, .int .u16 y5, .int .u16 y6, .int .u16 y7, .int .i64 y8, .int .i64 y9, .int .i64 y10, .int .i64 y11, .int .i64 y12, .int .i64 y13, .int .i64 y14, .int .i64 y15] 90)).alloc o1).alloc o2).alloc o3) := by
  unfold storeS
  simp only [Instr.storeAt, Instr.sureAddr, Sem.run_bind, Sem.run_pure, Result.andThen]
  exact scan_st3 W _ _ _ _ _ _ _ _ _ _ _ _ _ _ _ _ _ _ _ _ _ _ _ _ _ _ _ _ _ _ _ _ _ _ _ hn
/-- Blocks that were made behind a world. -/
@[irreducible] def GA (l : List Obj) (W : World) : World := l.foldl World.alloc W
theorem GA_nil (W : World) : GA [] W = W := by unfold GA; rfl
theorem GA_cons (o : Obj) (l : List Obj) (W : World) : GA (o :: l) W = GA l (W.alloc o) := by unfold GA; rfl
theorem GA_GA (l m : List Obj) (W : World) : GA m (GA l W) = GA (l ++ m) W := by unfold GA; rw [List.foldl_append]
theorem GA_one (o : Obj) (W : World) : W.alloc o = GA [o] W := by rw [GA_cons, GA_nil]
theorem GA_drewN : ∀ (l : List Obj) (W : World) (m : Nat), (GA l W).drewN m = GA l (W.drewN m)
  | [], W, m => by rw [GA_nil, GA_nil]
  | o :: l, W, m => by rw [GA_cons, GA_cons, GA_drewN l, drewN_alloc]
theorem GA_heap : ∀ (l : List Obj) (W : World) (g : Nat), g < W.heap.size → (GA l W).heap[g]? = W.heap[g]?
  | [], W, g, _ => by rw [GA_nil]
  | o :: l, W, g, h => by rw [GA_cons, GA_heap l _ g (by simp; omega), heap_below _ _ _ h]
theorem GA_below : ∀ (l : List Obj) (w W : World), Below w.heap.size w W → Below w.heap.size w (GA l W)
  | [], w, W, h => by rw [GA_nil]; exact h
  | o :: l, w, W, h => by rw [GA_cons]; exact GA_below l w _ (h.alloc h.size _)
theorem GA_below_drew (l : List Obj) (w : World) (m : Nat) : Below w.heap.size w (GA l (w.drewN m)) := GA_below l w _ (bdn (Below.refl _ _) m)
theorem setCell_below (W : World) (o : Obj) (a : Addr) (v : Value) (h : a.block < W.heap.size) : (W.alloc o).setCell a v = (W.setCell a v).alloc o := by
  simp only [World.setCell, World.alloc]
  congr 1
  apply Array.ext_getElem?
  intro i
  rw [Array.getElem?_modify, Array.getElem?_push, Array.getElem?_push, Array.size_modify, Array.getElem?_modify]
  by_cases h1 : i = W.heap.size
  · have h2 : ¬ a.block = i := by omega
    simp [h1, h2]
    intro e
    omega
  · by_cases h2 : a.block = i
    · simp [h1, h2]
    · simp [h1, h2]
theorem GA_setRow : ∀ (l : List Obj) (W : World) (g : Nat) (c : Array Value), g < W.heap.size → (GA l W).setRow g c = GA l (W.setRow g c)
  | [], W, g, c, _ => by rw [GA_nil, GA_nil]
  | o :: l, W, g, c, h => by rw [GA_cons, GA_cons, GA_setRow l _ g c (by simp; omega), setRow_below _ _ _ _ h]
@[go_sem] theorem GA_setCell {n k : Nat} (l : List Obj) (W : World) (v : Value) (h : n < W.heap.size) : (GA l W).setCell ⟨n, k, none⟩ v = GA l (W.setCell ⟨n, k, none⟩ v) := by
  induction l generalizing W with
  | nil => rw [GA_nil, GA_nil]
  | cons o l ih => rw [GA_cons, GA_cons, ih _ (by simp; omega), setCell_below _ _ _ _ h]
@[go_sem] theorem GA_cell {n k : Nat} (l : List Obj) (W : World) (h : n < W.heap.size) : (GA l W).cell? ⟨n, k, none⟩ = W.cell? ⟨n, k, none⟩ := by
  have e := GA_heap l W n h
  simp only [World.cell?, e]
@[go_sem] theorem GA_frozen {n k : Nat} (l : List Obj) (W : World) (h : n < W.heap.size) : (GA l W).frozen? ⟨n, k, none⟩ = W.frozen? ⟨n, k, none⟩ := by
  have e := GA_heap l W n h
  simp only [World.frozen?, e]
theorem scan_gld0 {n : Nat} (l : List Obj) (W : World) (x0 x1 x2 x3 x4 x5 x6 x7 x8 x9 x10 x11 x12 x13 x14 x15 : Int) (hn : n = W.heap.size) :
    (loadVar 90 ⟨n, 0, none⟩).run Tryd.prog (GA l (W.alloc (.cells #[.int .u16 x0, .int .u16 x1, .int .u16 x2, .int .u16 x3, .int .u16 x4, .int .u16 x5, .int .u16 x6, .int .u16 x7, .int .i64 x8, .int .i64 x9, .int .i64 x10, .int .i64 x11, .int .i64 x12, .int .i64 x13, .int .i64 x14, .int .i64 x15] 90))) = .ok (.agg #[.int .u16 x0, .int .u16 x1, .int .u16 x2, .int .u16 x3, .int .u16 x4, .int .u16 x5, .int .u16 x6, .int .u16 x7, .int .i64 x8, .int .i64 x9, .int .i64 x10, .int .i64 x11, .int .i64 x12, .int .i64 x13, .int .i64 x14, .int .i64 x15]) (GA l (W.alloc (.cells #[.int .u16 x0, .int .u16 x1, .int .u16 x2, .int .u16 x3, .int .u16 x4, .int .u16 x5, .int .u16 x6, .int .u16 x7, .int .i64 x8, .int .i64 x9, .int .i64 x10, .int .i64 x11, .int .i64 x12, .int .i64 x13, .int .i64 x14, .int .i64 x15] 90))) := by
  subst hn
  exact run_loadVar_row _ _ 90 90 #[.int .u16 x0, .int .u16 x1, .int .u16 x2, .int .u16 x3, .int .u16 x4, .int .u16 x5, .int .u16 x6, .int .u16 x7, .int .i64 x8, .int .i64 x9, .int .i64 x10, .int .i64 x11, .int .i64 x12, .int .i64 x13, .int .i64 x14, .int .i64 x15] (0, 0) _ ((GA_heap _ _ _ (by simp only [World.size_alloc]; omega)).trans (heap_at W _)) Tryd.underlying90 rfl (by kernel_rfl)
@[go_sem] theorem loadS_g0 {n : Nat} (l : List Obj) (W : World) (x0 x1 x2 x3 x4 x5 x6 x7 x8 x9 x10 x11 x12 x13 x14 x15 : Int) (hn : n = W.heap.size) :
    (loadS (.pointer (some ⟨n, 0, none⟩))).run Tryd.prog (GA l (W.alloc (.cells #[.int .u16 x0, .int .u16 x1, .int .u16 x2, .int .u16 x3, .int .u16 x4, .int .u16 x5, .int .u16 x6, .int .u16 x7, .int .i64 x8, .int .i64 x9, .int .i64 x10, .int .i64 x11, .int .i64 x12, .int .i64 x13, .int .i64 x14, .int .i64 x15] 90))) = .ok (.agg #[.int .u16 x0, .int .u16 x1, .int .u16 x2, .int .u16 x3, .int .u16 x4, .int .u16 x5, .int .u16 x6, .int .u16 x7, .int .i64 x8, .int .i64 x9, .int .i64 x10, .int .i64 x11, .int .i64 x12, .int .i64 x13, .int .i64 x14, .int .i64 x15]) (GA l (W.alloc (.cells #[.int .u16 x0, .int .u16 x1, .int .u16 x2, .int .u16 x3, .int .u16 x4, .int .u16 x5, .int .u16 x6, .int .u16 x7, .int .i64 x8, .int .i64 x9, .int .i64 x10, .int .i64 x11, .int .i64 x12, .int .i64 x13, .int .i64 x14, .int .i64 x15] 90))) := by
  unfold loadS
  simp only [Instr.loadAt, Instr.sureAddr, Sem.run_bind, Sem.run_pure, Result.andThen]
  exact scan_gld0 l W _ _ _ _ _ _ _ _ _ _ _ _ _ _ _ _ hn
@[go_sem] theorem storeS_g0 {n : Nat} (l : List Obj) (W : World) (x0 x1 x2 x3 x4 x5 x6 x7 x8 x9 x10 x11 x12 x13 x14 x15 y0 y1 y2 y3 y4 y5 y6 y7 y8 y9 y10 y11 y12 y13 y14 y15 : Int) (hn : n = W.heap.size) :
    (storeS (.pointer (some ⟨n, 0, none⟩)) (.agg #[.int .u16 y0, .int .u16 y1, .int .u16 y2, .int .u16 y3, .int .u16 y4, .int .u16 y5, .int .u16 y6, .int .u16 y7, .int .i64 y8, .int .i64 y9, .int .i64 y10, .int .i64 y11, .int .i64 y12, .int .i64 y13, .int .i64 y14, .int .i64 y15])).run Tryd.prog (GA l (W.alloc (.cells #[.int .u16 x0, .int .u16 x1, .int .u16 x2, .int .u16 x3, .int .u16 x4, .int .u16 x5, .int .u16 x6, .int .u16 x7, .int .i64 x8, .int .i64 x9, .int .i64 x10, .int .i64 x11, .int .i64 x12, .int .i64 x13, .int .i64 x14, .int .i64 x15] 90))) = .ok () (GA l (W.alloc (.cells #[.int .u16 y0, .int .u16 y1, .int .u16 y2, .int .u16 y3, .int .u16 y4, .int .u16 y5, .int .u16 y6, .int .u16 y7, .int .i64 y8, .int .i64 y9, .int .i64 y10, .int .i64 y11, .int .i64 y12, .int .i64 y13, .int .i64 y14, .int .i64 y15] 90))) := by
  unfold storeS
  simp only [Instr.storeAt, Instr.sureAddr, Sem.run_bind, Sem.run_pure, Result.andThen]
  subst hn
  rw [run_storeVar_row _ _ 90 90 #[.int .u16 x0, .int .u16 x1, .int .u16 x2, .int .u16 x3, .int .u16 x4, .int .u16 x5, .int .u16 x6, .int .u16 x7, .int .i64 x8, .int .i64 x9, .int .i64 x10, .int .i64 x11, .int .i64 x12, .int .i64 x13, .int .i64 x14, .int .i64 x15] #[.int .u16 y0, .int .u16 y1, .int .u16 y2, .int .u16 y3, .int .u16 y4, .int .u16 y5, .int .u16 y6, .int .u16 y7, .int .i64 y8, .int .i64 y9, .int .i64 y10, .int .i64 y11, .int .i64 y12, .int .i64 y13, .int .i64 y14, .int .i64 y15] ((GA_heap _ _ _ (by simp only [World.size_alloc]; omega)).trans (heap_at W _)) (by kernel_rfl) rfl (by simp [Value.oneCell'])]
  rw [GA_setRow _ _ _ _ (by simp only [World.size_alloc]; omega)]
  congr 2
  exact setRow_new W _ _ _
theorem scan_gld1 {n : Nat} (l : List Obj) (W : World) (x0 x1 x2 x3 x4 x5 x6 x7 x8 x9 x10 x11 x12 x13 x14 x15 : Int) (o1 : Obj) (hn : n = W.heap.size) :
    (loadVar 90 ⟨n, 0, none⟩).run Tryd.prog (GA l ((W.alloc (.cells #[.int .u16 x0, .int .u16 x1, .int .u16 x2, .int .u16 x3, .int .u16 x4, .int .u16 x5, .int .u16 x6, .int .u16 x7, .int .i64 x8, .int .i64 x9, .int .i64 x10, .int .i64 x11, .int .i64 x12, .int .i64 x13, .int .i64 x14, .int .i64 x15] 90)).alloc o1)) = .ok (.agg #[.int .u16 x0, .int .u16 x1, .int .u16 x2, .int .u16 x3, .int .u16 x4, .int .u16 x5, .int .u16 x6, .int .u16 x7, .int .i64 x8, .int .i64 x9, .int .i64 x10, .int .i64 x11, .int .i64 x12, .int .i64 x13, .int .i64 x14, .int .i64 x15]) (GA l ((W.alloc (.cells #[.int .u16 x0, .int .u16 x1, .int .u16 x2, .int .u16 x3, .int .u16 x4, .int .u16 x5, .int .u16 x6, .int .u16 x7, .int .i64 x8, .int .i64 x9, .int .i64 x10, .int .i64 x11, .int .i64 x12, .int .i64 x13, .int .i64 x14, .int .i64 x15] 90)).alloc o1)) := by
  subst hn
  exact run_loadVar_row _ _ 90 90 #[.int .u16 x0, .int .u16 x1, .int .u16 x2, .int .u16 x3, .int .u16 x4, .int .u16 x5, .int .u16 x6, .int .u16 x7, .int .i64 x8, .int .i64 x9, .int .i64 x10, .int .i64 x11, .int .i64 x12, .int .i64 x13, .int .i64 x14, .int .i64 x15] (0, 0) _ ((GA_heap _ _ _ (by simp only [World.size_alloc]; omega)).trans ((heap_below _ _ _ (by simp only [World.size_alloc]; omega)).trans (heap_at W _))) Tryd.underlying90 rfl (by kernel_rfl)
@[go_sem] theorem loadS_g1 {n : Nat} (l : List Obj) (W : World) (x0 x1 x2 x3 x4 x5 x6 x7 x8 x9 x10 x11 x12 x13 x14 x15 : Int) (o1 : Obj) (hn : n = W.heap.size) :
    (loadS (.pointer (some ⟨n, 0, none⟩))).run Tryd.prog (GA l ((W.alloc (.cells #[.int .u16 x0, .int .u16 x1, .int .u16 x2, .int .u16 x3, .int .u16 x4, .int .u16 x5, .int .u16 x6, .int .u16 x7, .int .i64 x8, .int .i64 x9, .int .i64 x10, .int .i64 x11, .int .i64 x12, .int .i64 x13, .int .i64 x14, .int .i64 x15] 90)).alloc o1)) = .ok (.agg #[.int .u16 x0, .int .u16 x1, .int .u16 x2, .int .u16 x3, .int .u16 x4, .int .u16 x5, .int .u16 x6, .int .u16 x7, .int .i64 x8, .int .i64 x9, .int .i64 x10, .int .i64 x11, .int .i64 x12, .int .i64 x13, .int .i64 x14, .int .i64 x15]) (GA l ((W.alloc (.cells #[.int .u16 x0, .int .u16 x1, .int .u16 x2, .int .u16 x3, .int .u16 x4, .int .u16 x5, .int .u16 x6, .int .u16 x7, .int .i64 x8, .int .i64 x9, .int .i64 x10, .int .i64 x11, .int .i64 x12, .int .i64 x13, .int .i64 x14, .int .i64 x15] 90)).alloc o1)) := by
  unfold loadS
  simp only [Instr.loadAt, Instr.sureAddr, Sem.run_bind, Sem.run_pure, Result.andThen]
  exact scan_gld1 l W _ _ _ _ _ _ _ _ _ _ _ _ _ _ _ _ _ hn
@[go_sem] theorem storeS_g1 {n : Nat} (l : List Obj) (W : World) (x0 x1 x2 x3 x4 x5 x6 x7 x8 x9 x10 x11 x12 x13 x14 x15 y0 y1 y2 y3 y4 y5 y6 y7 y8 y9 y10 y11 y12 y13 y14 y15 : Int) (o1 : Obj) (hn : n = W.heap.size) :
    (storeS (.pointer (some ⟨n, 0, none⟩)) (.agg #[.int .u16 y0, .int .u16 y1, .int .u16 y2, .int .u16 y3, .int .u16 y4, .int .u16 y5, .int .u16 y6, .int .u16 y7, .int .i64 y8, .int .i64 y9, .int .i64 y10, .int .i64 y11, .int .i64 y12, .int .i64 y13, .int .i64 y14, .int .i64 y15])).run Tryd.prog (GA l ((W.alloc (.cells #[.int .u16 x0, .int .u16 x1, .int .u16 x2, .int .u16 x3, .int .u16 x4, .int .u16 x5, .int .u16 x6, .int .u16 x7, .int .i64 x8, .int .i64 x9, .int .i64 x10, .int .i64 x11, .int .i64 x12, .int .i64 x13, .int .i64 x14, .int .i64 x15] 90)).alloc o1)) = .ok () (GA l ((W.alloc (.cells #[.int .u16 y0, .int .u16 y1, .int .u16 y2, .int .u16 y3, .int .u16 y4, .int .u16 y5, .int .u16 y6, .int .u16 y7, .int .i64 y8, .int .i64 y9, .int .i64 y10, .int .i64 y11, .int .i64 y12, .int .i64 y13, .int .i64 y14, .int .i64 y15] 90)).alloc o1)) := by
  unfold storeS
  simp only [Instr.storeAt, Instr.sureAddr, Sem.run_bind, Sem.run_pure, Result.andThen]
  subst hn
  rw [run_storeVar_row _ _ 90 90 #[.int .u16 x0, .int .u16 x1, .int .u16 x2, .int .u16 x3, .int .u16 x4, .int .u16 x5, .int .u16 x6, .int .u16 x7, .int .i64 x8, .int .i64 x9, .int .i64 x10, .int .i64 x11, .int .i64 x12, .int .i64 x13, .int .i64 x14, .int .i64 x15] #[.int .u16 y0, .int .u16 y1, .int .u16 y2, .int .u16 y3, .int .u16 y4, .int .u16 y5, .int .u16 y6, .int .u16 y7, .int .i64 y8, .int .i64 y9, .int .i64 y10, .int .i64 y11, .int .i64 y12, .int .i64 y13, .int .i64 y14, .int .i64 y15] ((GA_heap _ _ _ (by simp only [World.size_alloc]; omega)).trans ((heap_below _ _ _ (by simp only [World.size_alloc]; omega)).trans (heap_at W _))) (by kernel_rfl) rfl (by simp [Value.oneCell'])]
  rw [GA_setRow _ _ _ _ (by simp only [World.size_alloc]; omega)]
  congr 2
  exact (setRow_below _ _ _ _ (by simp only [World.size_alloc]; omega)).trans (congrArg (fun w => World.alloc w _) (setRow_new W _ _ _))
theorem scan_gld2 {n : Nat} (l : List Obj) (W : World) (x0 x1 x2 x3 x4 x5 x6 x7 x8 x9 x10 x11 x12 x13 x14 x15 : Int) (o1 o2 : Obj) (hn : n = W.heap.size) :
    (loadVar 90 ⟨n, 0, none⟩).run Tryd.prog (GA l (((W.alloc (.cells #[.int .u16 x0, .int .u16 x1, .int .u16 x2, .int .u16 x3, .int .u16 x4, .int .u16 x5, .int .u16 x6, .int .u16 x7, .int .i64 x8, .int .i64 x9, .int .i64 x10, .int .i64 x11, .int .i64 x12, .int .i64 x13, .int .i64 x14, .int .i64 x15] 90)).alloc o1).alloc o2)) = .ok (.agg #[.int .u16 x0, .int .u16 x1, .int .u16 x2, .int .u16 x3, .int .u16 x4, .int .u16 x5, .int .u16 x6, .int .u16 x7, .int .i64 x8, .int .i64 x9, .int .i64 x10, .int .i64 x11, .int .i64 x12, .int .i64 x13, .int .i64 x14, .int .i64 x15]) (GA l (((W.alloc (.cells #[.int .u16 x0, .int .u16 x1, .int .u16 x2, .int .u16 x3, .int .u16 x4, .int .u16 x5, .int .u16 x6, .int .u16 x7, .int .i64 x8, .int .i64 x9, .int .i64 x10, .int .i64 x11, .int .i64 x12, .int .i64 x13, .int .i64 x14, .int .i64 x15] 90)).alloc o1).alloc o2)) := by
  subst hn
  exact run_loadVar_row _ _ 90 90 #[.int .u16 x0, .int .u16 x1, .int .u16 x2, .int .u16 x3, .int .u16 x4, .int .u16 x5, .int .u16 x6, .int .u16 x7, .int .i64 x8, .int .i64 x9, .int .i64 x10, .int .i64 x11, .int .i64 x12, .int .i64 x13, .int .i64 x14, .int .i64 x15] (0, 0) _ ((GA_heap _ _ _ (by simp only [World.size_alloc]; omega)).trans ((heap_below _ _ _ (by simp only [World.size_alloc]; omega)).trans ((heap_below _ _ _ (by simp only [World.size_alloc]; omega)).trans (heap_at W _)))) Tryd.underlying90 rfl (by kernel_rfl)
@[go_sem] theorem loadS_g2 {n : Nat} (l : List Obj) (W : World) (x0 x1 x2 x3 x4 x5 x6 x7 x8 x9 x10 x11 x12 x13 x14 x15 : Int) (o1 o2 : Obj) (hn : n = W.heap.size) :
    (loadS (.pointer (some ⟨n, 0, none⟩))).run Tryd.prog (GA l (((W.alloc (.cells #[.int .u16 x0, .int .u16 x1, .int .u16 x2, .int .u16 x3, .int .u16 x4, .int .u16 x5, .int .u16 x6, .int .u16 x7, .int .i64 x8, .int .i64 x9, .int .i64 x10, .int .i64 x11, .int .i64 x12, .int .i64 x13, .int .i64 x14, .int .i64 x15] 90)).alloc o1).alloc o2)) = .ok (.agg #[.int .u16 x0, .int .u16 x1, .int .u16 x2, .int .u16 x3, .int .u16 x4, .int .u16 x5, .int .u16 x6, .int .u16 x7, .int .i64 x8, .int .i64 x9, .int .i64 x10, .int .i64 x11, .int .i64 x12, .int .i64 x13, .int .i64 x14, .int .i64 x15]) (GA l (((W.alloc (.cells #[.int .u16 x0, .int .u16 x1, .int .u16 x2, .int .u16 x3, .int .u16 x4, .int .u16 x5, .int .u16 x6, .int .u16 x7, .int .i64 x8, .int .i64 x9, .int .i64 x10, .int .i64 x11, .int .i64 x12, .int .i64 x13, .int .i64 x14, .int .i64 x15] 90)).alloc o1).alloc o2)) := by
  unfold loadS
  simp only [Instr.loadAt, Instr.sureAddr, Sem.run_bind, Sem.run_pure, Result.andThen]
  exact scan_gld2 l W _ _ _ _ _ _ _ _ _ _ _ _ _ _ _ _ _ _ hn
@[go_sem] theorem storeS_g2 {n : Nat} (l : List Obj) (W : World) (x0 x1 x2 x3 x4 x5 x6 x7 x8 x9 x10 x11 x12 x13 x14 x15 y0 y1 y2 y3 y4 y5 y6 y7 y8 y9 y10 y11 y12 y13 y14 y15 : Int) (o1 o2 : Obj) (hn : n = W.heap.size) :
    (storeS (.pointer (some ⟨n, 0, none⟩)) (.agg #[.int .u16 y0, .int .u16 y1, .int .u16 y2, .int .u16 y3, .int .u16 y4, .int .u16 y5, .int .u16 y6, .int .u16 y7, .int .i64 y8, .int .i64 y9, .int .i64 y10, .int .i64 y11, .int .i64 y12, .int .i64 y13, .int .i64 y14, .int .i64 y15])).run Tryd.prog (GA l (((W.alloc (.cells #[.int .u16 x0, .int .u16 x1, .int .u16 x2, .int .u16 x3, .int .u16 x4, .int .u16 x5, .int .u16 x6, .int .u16 x7, .int .i64 x8, .int .i64 x9, .int .i64 x10, .int .i64 x11, .int .i64 x12, .int .i64 x13, .int .i64 x14, .int .i64 x15] 90)).alloc o1).alloc o2)) = .ok () (GA l (((W.alloc (.cells #[.int .u16 y0, .int .u16 y1, .int .u16 y2, .int .u16 y3, .int .u16 y4, .int .u16 y5, .int .u16 y6, .int .u16 y7, .int .i64 y8, .int .i64 y9, .int .i64 y10, .int .i64 y11, .int .i64 y12, .int .i64 y13, .int .i64 y14, .int .i64 y15] 90)).alloc o1).alloc o2)) := by
  unfold storeS
  simp only [Instr.storeAt, Instr.sureAddr, Sem.run_bind, Sem.run_pure, Result.andThen]
  subst hn
  rw [run_storeVar_row _ _ 90 90 #[.int .u16 x0, .int .u16 x1, .int .u16 x2, .int .u16 x3, .int .u16 x4, .int .u16 x5, .int .u16 x6, .int .u16 x7, .int .i64 x8, .int .i64 x9, .int .i64 x10, .int .i64 x11, .int .i64 x12, .int .i64 x13, .int .i64 x14, .int .i64 x15] #[.int .u16 y0, .int .u16 y1, .int .u16 y2, .int .u16 y3, .int .u16 y4, .int .u16 y5, .int .u16 y6, .int .u16 y7, .int .i64 y8, .int .i64 y9, .int .i64 y10, .int .i64 y11, .int .i64 y12, .int .i64 y13, .int .i64 y14, .int .i64 y15] ((GA_heap _ _ _ (by simp only [World.size_alloc]; omega)).trans ((heap_below _ _ _ (by simp only [World.size_alloc]; omega)).trans ((heap_below _ _ _ (by simp only [World.size_alloc]; omega)).trans (heap_at W _)))) (by kernel_rfl) rfl (by simp [Value.oneCell'])]
  rw [GA_setRow _ _ _ _ (by simp only [World.size_alloc]; omega)]
  congr 2
  exact (setRow_below _ _ _ _ (by simp only [World.size_alloc]; omega)).trans (congrArg (fun w => World.alloc w _) ((setRow_below _ _ _ _ (by simp only [World.size_alloc]; omega)).trans (congrArg (fun w => World.alloc w _) (setRow_new W _ _ _))))
theorem scan_gld3 {n : Nat} (l : List Obj) (W : World) (x0 x1 x2 x3 x4 x5 x6 x7 x8 x9 x10 x11 x12 x13 x14 x15 : Int) (o1 o2 o3 : Obj) (hn : n = W.heap.size) :
    (loadVar 90 ⟨n, 0, none⟩).run Tryd.prog (GA l ((((W.alloc (.cells #[.int .u16 x0, .int .u16 x1, .int .u16 x2, .int .u16 x3, .int .u16 x4, .int .u16 x5, .int .u16 x6, .int .u16 x7, .int .i64 x8, .int .i64 x9, .int .i64 x10, .int .i64 x11, .int .i64 x12, .int .i64 x13, .int .i64 x14, .int .i64 x15] 90)).alloc o1).alloc o2).alloc o3)) = .ok (.agg #[.int .u16 x0, .int .u16 x1, .int .u16 x2, .int .u16 x3, .int .u16 x4, .int .u16 x5, .int .u16 x6, .int .u16 x7, .int .i64 x8, .int .i64 x9, .int .i64 x10, .int .i64 x11, .int .i64 x12, .int .i64 x13, .int .i64 x14, .int .i64 x15]) (GA l ((((W.alloc (.cells #[.int .u16 x0, .int .u16 x1, .int .u16 x2, .int .u16 x3, .int .u16 x4, .int .u16 x5, .int .u16 x6, .int .u16 x7, .int .i64 x8, .int .i64 x9, .int .i64 x10, .int .i64 x11, .int .i64 x12, .int .i64 x13, .int .i64 x14, .int .i64 x15] 90)).alloc o1).alloc o2).alloc o3)) := by
  subst hn
  exact run_loadVar_row _ _ 90 90 #[.int .u16 x0, .int .u16 x1, .int .u16 x2, .int .u16 x3, .int .u16 x4, .int .u16 x5, .int .u16 x6, .int .u16 x7, .int .i64 x8, .int .i64 x9, .int .i64 x10, .int .i64 x11, .int .i64 x12, .int .i64 x13, .int .i64 x14, .int .i64 x15] (0, 0) _ ((GA_heap _ _ _ (by simp only [World.size_alloc]; omega)).trans ((heap_below _ _ _ (by simp only [World.size_alloc]; omega)).trans ((heap_below _ _ _ (by simp only [World.size_alloc]; omega)).trans ((heap_below _ _ _ (by simp only [World.size_alloc]; omega)).trans (heap_at W _))))) Tryd.underlying90 rfl (by kernel_rfl)
@[go_sem] theorem loadS_g3 {n : Nat} (l : List Obj) (W : World) (x0 x1 x2 x3 x4 x5 x6 x7 x8 x9 x10 x11 x12 x13 x14 x15 : Int) (o1 o2 o3 : Obj) (hn : n = W.heap.size) :
    (loadS (.pointer (some ⟨n, 0, none⟩))).run Tryd.prog (GA l ((((W.alloc (.cells #[.int .u16 x0, .int .u16 x1, .int .u16 x2, .int .u16 x3, .int .u16 x4, .int .u16 x5, .int .u16 x6, .int .u16 x7, .int .i64 x8, .int .i64 x9, .int .i64 x10, .int .i64 x11, .int .i64 x12, .int .i64 x13, .int .i64 x14, .int .i64 x15] 90)).alloc o1).alloc o2).alloc o3)) = .ok (.agg #[.int .u16 x0, .int .u16 x1, .int .u16 x2, .int .u16 x3, .int .u16 x4, .int .u16 x5, .int .u16 x6, .int .u16 x7, .int .i64 x8, .int .i64 x9, .int .i64 x10, .int .i64 x11, .int .i64 x12, .int .i64 x13, .int .i64 x14, .int .i64 x15]) (GA l ((((W.alloc (.cells #[.int .u16 x0, .int .u16 x1, .int .u16 x2, .int .u16 x3, .int .u16 x4, .int .u16 x5, .int .u16 x6, .int .u16 x7, .int .i64 x8, .int .i64 x9, .int .i64 x10, .int .i64 x11, .int .i64 x12, .int .i64 x13, .int .i64 x14, .int .i64 x15] 90)).alloc o1).alloc o2).alloc o3)) := by
  unfold loadS
  simp only [Instr.loadAt, Instr.sureAddr, Sem.run_bind, Sem.run_pure, Result.andThen]
  exact scan_gld3 l W _ _ _ _ _ _ _ _ _ _ _ _ _ _ _ _ _ _ _ hn
@[go_sem] theorem storeS_g3 {n : Nat} (l : List Obj) (W : World) (x0 x1 x2 x3 x4 x5 x6 x7 x8 x9 x10 x11 x12 x13 x14 x15 y0 y1 y2 y3 y4 y5 y6 y7 y8 y9 y10 y11 y12 y13 y14 y15 : Int) (o1 o2 o3 : Obj) (hn : n = W.heap.size) :
    (storeS (.pointer (some ⟨n, 0, none⟩)) (.agg #[.int .u16 y0, .int .u16 y1, .int .u16 y2, .int .u16 y3, .int .u16 y4, .int .u16 y5, .int .u16 y6, .int .u16 y7, .int .i64 y8, .int .i64 y9, .int .i64 y10, .int .i64 y11, .int .i64 y12, .int .i64 y13, .int .i64 y14, .int .i64 y15])).run Tryd.prog (GA l ((((W.alloc (.cells #[.int .u16 x0, .int .u16 x1, .int .u16 x2, .int .u16 x3, .int .u16 x4, .int .u16 x5, .int .u16 x6, .int .u16 x7, .int .i64 x8, .int .i64 x9, .int .i64 x10, .int .i64 x11, .int .i64 x12, .int .i64 x13, .int .i64 x14, .int .i64 x15] 90)).alloc o1).alloc o2).alloc o3)) = .ok () (GA l ((((W.alloc (.cells #[.int .u16 y0, .int .u16 y1, .int .u16 y2, .int .u16 y3, .int .u16 y4, .int .u16 y5, .int .u16 y6, .int .u16 y7, .int .i64 y8, .int .i64 y9, .int .i64 y10, .int .i64 y11, .int .i64 y12, .int .i64 y13, .int .i64 y14, .int .i64 y15] 90)).alloc o1).alloc o2).alloc o3)) := by
  unfold storeS
  simp only [Instr.storeAt, Instr.sureAddr, Sem.run_bind, Sem.run_pure, Result.andThen]
  subst hn
  rw [run_storeVar_row _ _ 90 90 #[.int .u16 x0, .int .u16 x1, .int .u16 x2, .int .u16 x3, .int .u16 x4, .int .u16 x5, .int .u16 x6, .int .u16 x7, .int .i64 x8, .int .i64 x9, .int .i64 x10, .int .i64 x11, .int .i64 x12, .int .i64 x13, .int .i64 x14, .int .i64 x15] #[.int .u16 y0, .int .u16 y1, .int .u16 y2, .int .u16 y3, .int .u16 y4, .int .u16 y5, .int .u16 y6, .int .u16 y7, .int .i64 y8, .int .i64 y9, .int .i64 y10, .int .i64 y11, .int .i64 y12, .int .i64 y13, .int .i64 y14, .int .i64 y15] ((GA_heap _ _ _ (by simp only [World.size_alloc]; omega)).trans ((heap_below _ _ _ (by simp only [World.size_alloc]; omega)).trans ((heap_below _ _ _ (by simp only [World.size_alloc]; omega)).trans ((heap_below _ _ _ (by simp only [World.size_alloc]; omega)).trans (heap_at W _))))) (by kernel_rfl) rfl (by simp [Value.oneCell'])]
  rw [GA_setRow _ _ _ _ (by simp only [World.size_alloc]; omega)]
  congr 2
  exact (setRow_below _ _ _ _ (by simp only [World.size_alloc]; omega)).trans (congrArg (fun w => World.alloc w _) ((setRow_below _ _ _ _ (by simp only [World.size_alloc]; omega)).trans (congrArg (fun w => World.alloc w _) ((setRow_below _ _ _ _ (by simp only [World.size_alloc]; omega)).trans (congrArg (fun w => World.alloc w _) (setRow_new W _ _ _))))))
end Go.Proofs.YtcgdjnmfeibnoaaDoor
/-! App -/
namespace Go.Proofs.YtcgdjnmfeibnoaaDoor
open Go.RowKit
set_option linter.unusedVariables false
set_option linter.unusedSimpArgs false
theorem cells_new (w : World) (cs : List Value) (t : TypeId) : ∀ j u, cs[j]? = some u → (w.alloc (.cells cs.toArray t)).cell? ((⟨w.heap.size, 0, none⟩ : Addr).add j) = some u := by
  intro j u hj
  have hb : (w.alloc (.cells cs.toArray t)).heap[w.heap.size]? = some (.cells cs.toArray t (0, 0)) := heap_alloc_new w _
  have ha : ((⟨w.heap.size, 0, none⟩ : Addr).add j) = ⟨w.heap.size, j, none⟩ := by unfold Addr.add; split <;> simp_all
  rw [ha, Lib.cell_of_heap hb]
  simpa using hj
theorem app_one {P : Program} {w : World} {ops : Array Oper} {rest : List Oper} {o : Oper} {a : Act} {Q : Exit → Act → World → Prop} (hgd : o.guard = none) (s x : Operand) (t : TypeId)
    (ho : o.op = .call { callee := .builtin .append, args := #[s, x], argTypes := #[t, t] })
    (base : Nat) (e : TypeId) (i : TypeInfo) (z : Value) (size bytes : Nat) (ht : P.underlying t = some (.slice e)) (hi : P.info? e = some i) (hz : i.zero = some z)
    (hsize : i.size = size) (hby : i.bytes = bytes) (hzs : z.cells.size = size) (hsz : 0 < size)
    (v : Value) (n : Nat) (xs : List Value) (hs : a.eval s = v) (hown : w.ownsRow base e size v n xs)
    (cs : List Value) (hx : a.eval x = .slice (some ⟨w.heap.size, 0, none⟩) 1 1) (hcl : cs.length = size) (h1 : ∀ u ∈ cs, u.oneCell' = true)
    (h63 : n + 1 ≤ maxLen) (hbytes : (n + 1) * bytes ≤ 140737488355328) (hbase : base ≤ w.heap.size)
    (h : ∀ g cap w', base ≤ g → w'.ownsRow base e size (.slice (some ⟨g, 0, none⟩) (n + 1) cap) (n + 1) (xs ++ cs) → (w.alloc (.cells cs.toArray e)).grownBy w' v.ownBlock →
      (∀ B w0, B ≤ base → Below B w0 w → Below B w0 w') → wpList P ops Q rest (a.put o.dst (.slice (some ⟨g, 0, none⟩) (n + 1) cap)) w') :
    wpList P ops Q (o :: rest) a (w.alloc (.cells cs.toArray e)) := by
  refine wpList_append_own _ hgd s x t ho base e i z size bytes ht hi hz hsize hby hzs hsz v n xs hs (hown.alloc _) ⟨w.heap.size, 0, none⟩ 1 1 cs hx (by omega) (cells_new w cs e) h1 h63 hbytes (by simp; omega) ?_
  intro v' w' hown' hgrow _
  have hB : ∀ B w0, B ≤ base → Below B w0 w → Below B w0 w' := fun B w0 hb hw =>
    (hw.alloc (by omega) _).grown hgrow (by simp; omega) (fun k hk => Nat.le_trans hb (hown.lt k hk).1)
  rcases hown'.2 with ⟨_, h0⟩ | ⟨g, cap, cur, hv, hg, _⟩
  · omega
  · subst hv
    exact h g cap w' hg hown' hgrow hB
end Go.Proofs.YtcgdjnmfeibnoaaDoor
/-! SixScan -/
namespace Go.Proofs.YtcgdjnmfeibnoaaDoor
open Go.RowKit Go.Proofs.YtcgdjnmfeibnoaaDoorW.PrintWords Go.Proofs.YtcgdjnmfeibnoaaDoor.X
set_option linter.unusedVariables false
set_option linter.unusedSimpArgs false
/-- What was made or drawn behind a world: nothing else. -/
def Grw (w w' : World) : Prop := ∃ (m : Nat) (l : List Obj), w' = GA l (w.drewN m)
theorem Grw.refl (w : World) : Grw w w := ⟨0, [], by rw [GA_nil]; rfl⟩
theorem Grw.alloc {w W : World} (h : Grw w W) (o : Obj) : Grw w (W.alloc o) := by
  obtain ⟨m, l, rfl⟩ := h
  exact ⟨m, l ++ [o], by rw [GA_one, GA_GA]⟩
theorem Grw.ga {w W : World} (h : Grw w W) (l : List Obj) : Grw w (GA l W) := by
  obtain ⟨m, k, rfl⟩ := h
  exact ⟨m, k ++ l, by rw [GA_GA]⟩
theorem Grw.drewN {w W : World} (h : Grw w W) (n : Nat) : Grw w (W.drewN n) := by
  obtain ⟨m, k, rfl⟩ := h
  exact ⟨m + n, k, by rw [GA_drewN, World.drewN_drewN]⟩
theorem Grw.below {w W : World} (h : Grw w W) : Below w.heap.size w W := by
  obtain ⟨m, l, rfl⟩ := h
  exact GA_below_drew l w m
theorem Grw.trans {w W X : World} (h : Grw w W) (k : Grw W X) : Grw w X := by
  obtain ⟨m, l, rfl⟩ := k
  exact (h.drewN m).ga l
end Go.Proofs.YtcgdjnmfeibnoaaDoor
/-! SixWhole -/
namespace Go.Proofs.YtcgdjnmfeibnoaaDoor
open Go.RowKit Go.Proofs.YtcgdjnmfeibnoaaDoorW.PrintWords Go.Proofs.YtcgdjnmfeibnoaaDoor.X
set_option linter.unusedVariables false
set_option linter.unusedSimpArgs false
abbrev scC (x : Sc) : Array Value := #[.int .u16 (x.L 0), .int .u16 (x.L 1), .int .u16 (x.L 2), .int .u16 (x.L 3), .int .u16 (x.L 4), .int .u16 (x.L 5), .int .u16 (x.L 6), .int .u16 (x.L 7), .int .i64 x.N, .int .i64 x.skip, .int .i64 x.st, .int .i64 x.digs, .int .i64 x.val, .int .i64 x.ten, .int .i64 x.parts, .int .i64 x.four]
def ar8 (f : Nat → Int) : Array Value := #[.int .u16 (f 0), .int .u16 (f 1), .int .u16 (f 2), .int .u16 (f 3), .int .u16 (f 4), .int .u16 (f 5), .int .u16 (f 6), .int .u16 (f 7)]
theorem ar8_set (f : Nat → Int) (v : Int) : ∀ (n : Nat), n < 8 → (ar8 f).setIfInBounds n (.int .u16 v) = ar8 (fun j => if j = n then v else f j)
  | 0, _ => rfl | 1, _ => rfl | 2, _ => rfl | 3, _ => rfl | 4, _ => rfl | 5, _ => rfl | 6, _ => rfl | 7, _ => rfl
  | n + 8, h => absurd h (by omega)
theorem ar8_ext {f g : Nat → Int} (h : ∀ j, j < 8 → f j = g j) : ar8 f = ar8 g := by
  unfold ar8
  rw [h 0 (by decide), h 1 (by decide), h 2 (by decide), h 3 (by decide), h 4 (by decide), h 5 (by decide), h 6 (by decide), h 7 (by decide)]
/-- The boxes ahead of the last part. -/
structure WR (w : World) (y : Sc) (b1 b2 : Nat) (W : World) : Prop where
  k1 : W.heap[b1]? = some (.cells (scC y) 90 (0, 0))
  k2 : W.heap[b2]? = some (.cells (ar8 fun _ => 0) 30 (0, 0))
  l1 : w.heap.size ≤ b1
  l2 : w.heap.size ≤ b2
  ne : b1 ≠ b2
  below : Below w.heap.size w W
structure LR (w : World) (y : Sc) (b1 b2 b5 : Nat) (f : Nat → Int) (W : World) : Prop where
  k1 : W.heap[b1]? = some (.cells (scC y) 90 (0, 0))
  k2 : W.heap[b2]? = some (.cells (ar8 fun _ => 0) 30 (0, 0))
  k5 : W.heap[b5]? = some (.cells (ar8 f) 30 (0, 0))
  l1 : w.heap.size ≤ b1
  l2 : w.heap.size ≤ b2
  l5 : w.heap.size ≤ b5
  n12 : b1 ≠ b2
  n15 : b1 ≠ b5
  n25 : b2 ≠ b5
  below : Below w.heap.size w W
theorem LR.put {w W : World} {y : Sc} {b1 b2 b5 : Nat} {f g : Nat → Int} (h : LR w y b1 b2 b5 f W) (n : Nat) (hn : n < 8) (v : Int) (hg : ∀ j, j < 8 → (if j = n then v else f j) = g j) : LR w y b1 b2 b5 g (W.setCell ⟨b5, n, none⟩ (.int .u16 v)) :=
  ⟨blk_far h.k1 h.n15 _, blk_far h.k2 h.n25 _, blk_put h.k5 n _ ((ar8_set f v n hn).trans (ar8_ext hg)), h.l1, h.l2, h.l5, h.n12, h.n15, h.n25, h.below.setCell h.l5 _⟩
theorem WR.new {w W : World} {y : Sc} {b1 b2 : Nat} (h : WR w y b1 b2 W) : LR w y b1 b2 W.heap.size (fun _ => 0) (W.alloc (.cells #[.int .u16 0, .int .u16 0, .int .u16 0, .int .u16 0, .int .u16 0, .int .u16 0, .int .u16 0, .int .u16 0] 30)) :=
  ⟨blk_alloc h.k1 _, blk_alloc h.k2 _, blk_new _ _, h.l1, h.l2, h.below.size, h.ne, Nat.ne_of_lt (blk_lt h.k1), Nat.ne_of_lt (blk_lt h.k2), h.below.alloc h.below.size _⟩
theorem blk_put8 {W : World} {b : Nat} {T : TypeId} {g : Nat → Int} (h : W.heap[b]? = some (.cells (ar8 g) T (0, 0))) (f : Nat → Int) :
    ((((((((W.setCell ⟨b, 0, none⟩ (.int .u16 (f 0))).setCell ⟨b, 1, none⟩ (.int .u16 (f 1))).setCell ⟨b, 2, none⟩ (.int .u16 (f 2))).setCell ⟨b, 3, none⟩ (.int .u16 (f 3))).setCell ⟨b, 4, none⟩ (.int .u16 (f 4))).setCell ⟨b, 5, none⟩ (.int .u16 (f 5))).setCell ⟨b, 6, none⟩ (.int .u16 (f 6))).setCell ⟨b, 7, none⟩ (.int .u16 (f 7))).heap[b]? = some (.cells (ar8 f) T (0, 0)) :=
  (blk_put (blk_put (blk_put (blk_put (blk_put (blk_put (blk_put (blk_put h 0 _ (ar8_set _ _ 0 (by decide))) 1 _ (ar8_set _ _ 1 (by decide))) 2 _ (ar8_set _ _ 2 (by decide))) 3 _ (ar8_set _ _ 3 (by decide))) 4 _ (ar8_set _ _ 4 (by decide))) 5 _ (ar8_set _ _ 5 (by decide))) 6 _ (ar8_set _ _ 6 (by decide))) 7 _ (ar8_set _ _ 7 (by decide))).trans (by
    refine congrArg some (congrArg (fun c => Obj.cells c T (0, 0)) (ar8_ext fun j hj => ?_))
    match j, hj with
    | 0, _ => rfl | 1, _ => rfl | 2, _ => rfl | 3, _ => rfl | 4, _ => rfl | 5, _ => rfl | 6, _ => rfl | 7, _ => rfl
    | j + 8, h => exact absurd h (by omega))
theorem LR.congr {w W : World} {y : Sc} {b1 b2 b5 : Nat} {f g : Nat → Int} (h : LR w y b1 b2 b5 f W) (e : ∀ j, j < 8 → f j = g j) : LR w y b1 b2 b5 g W :=
  ⟨h.k1, h.k2, h.k5.trans (by rw [ar8_ext e]), h.l1, h.l2, h.l5, h.n12, h.n15, h.n25, h.below⟩
theorem LR.drewN {w W : World} {y : Sc} {b1 b2 b5 : Nat} {f : Nat → Int} (h : LR w y b1 b2 b5 f W) (q : Nat) : LR w y b1 b2 b5 f (W.drewN q) :=
  ⟨h.k1, h.k2, h.k5, h.l1, h.l2, h.l5, h.n12, h.n15, h.n25, bdn h.below q⟩
theorem LR.drew {w W : World} {y : Sc} {b1 b2 b5 : Nat} {f : Nat → Int} (h : LR w y b1 b2 b5 f W) : LR w y b1 b2 b5 f W.drew := h.drewN 1
theorem below_put8 {w W : World} (h : Below w.heap.size w W) {b : Nat} (hb : w.heap.size ≤ b) (v0 v1 v2 v3 v4 v5 v6 v7 : Value) :
    Below w.heap.size w ((((((((W.setCell ⟨b, 0, none⟩ v0).setCell ⟨b, 1, none⟩ v1).setCell ⟨b, 2, none⟩ v2).setCell ⟨b, 3, none⟩ v3).setCell ⟨b, 4, none⟩ v4).setCell ⟨b, 5, none⟩ v5).setCell ⟨b, 6, none⟩ v6).setCell ⟨b, 7, none⟩ v7) :=
  (((((((h.setCell hb _).setCell hb _).setCell hb _).setCell hb _).setCell hb _).setCell hb _).setCell hb _).setCell hb _
/-- The pieces ahead of the gap, and those behind it up to one. -/
def g2 (y : Sc) (K M m : Nat) : Nat → Int := fun j => if j < K then y.L j else if 8 + K ≤ j + M ∧ j + M < 8 + m then y.L (j + M - 8) else 0
end Go.Proofs.YtcgdjnmfeibnoaaDoor
/-! SixRefParse -/
namespace Go.Proofs.YtcgdjnmfeibnoaaDoor
open Go.RowKit Go.Proofs.YtcgdjnmfeibnoaaDoorW.PrintWords
set_option linter.unusedVariables false
set_option linter.unusedSimpArgs false
/-- The boxes of Parse: the result's and the scan's. -/
structure PR (w : World) (x : Sc) (W : World) : Prop where
  k2 : W.heap[w.heap.size]? = some (.cells (ar8 fun _ => 0) 30 (0, 0))
  k5 : W.heap[w.heap.size + 1]? = some (.cells (scC x) 90 (0, 0))
  below : Below w.heap.size w W
theorem PR.keep {w : World} {x : Sc} {W W' : World} (h : PR w x W) (hb : Below W.heap.size W W') : PR w x W' := ⟨blk_below h.k2 hb, blk_below h.k5 hb, h.below.trans (hb.mono h.below.size)⟩
theorem results_cell3 {fn : Func} {t u v : Tmp} {ty : TypeId} {P : Program} {tmps : Array Value} {w : World} {a : Addr} {x : Value} (h : fn.results = #[.cell t ty, .tmp u, .tmp v]) (ht : tmps.getD t undef = .pointer (some a)) (hl : (loadVar ty a).run P w = .ok x w) :
    (results fn tmps).run P w = .ok (.tuple #[x, tmps.getD u undef, tmps.getD v undef]) w := by
  have ht' := ht
  simp at ht'
  simp [results, h, ht', asAddr, hl]
def RefParsed (s : ByteArray) (w : World) (e : Ending) (w' : World) : Prop :=
  ∃ f : Nat → Int, e = .returned (.tuple #[.agg (ar8 f), .int .i64 (parseR s.data.toList).2.1, .int .i64 (parseR s.data.toList).2.2]) ∧ (∀ j, j < 8 → f j = (parseR s.data.toList).1 j) ∧ Below w.heap.size w w'
end Go.Proofs.YtcgdjnmfeibnoaaDoor
/-! StShelf -/
namespace Go.Proofs
open Go.Shelf
def Tryd.stIndex_ren : Go.Shelf.Ren := ⟨fun | 6 => 87 | n => n, fun | 22 => 81 | 23 => 80 | 25 => 84 | 3 => 3 | 0 => 0 | 4 => 4 | n => n, fun | n => n⟩
theorem Tryd.stIndex : Go.Proofs.SlLaysH0.n6 Tryd.prog Tryd.stIndex_ren := {
  mixed := by kernel_rfl
  f6 := ⟨Tryd.f87.name, by decide, Tryd.func87.trans (congrArg some (by kernel_rfl))⟩
  t0 := Tryd.underlying0
  a0 := Tryd.isAgg0
  z0 := Tryd.sizeOf0
  v0 := Tryd.zeroValue0
  t3 := Tryd.underlying3
  a3 := Tryd.isAgg3
  z3 := Tryd.sizeOf3
  v3 := Tryd.zeroValue3
  t4 := Tryd.underlying4
  a4 := Tryd.isAgg4
  z4 := Tryd.sizeOf4
  v4 := Tryd.zeroValue4
  t22 := Tryd.underlying81
  a22 := Tryd.isAgg81
  z22 := Tryd.sizeOf81
  v22 := Tryd.zeroValue81
  t25 := Tryd.underlying84
  a25 := Tryd.isAgg84
  z25 := Tryd.sizeOf84
  v25 := Tryd.zeroValue84 }
end Go.Proofs
/-! SixSt -/
namespace Go.Proofs.YtcgdjnmfeibnoaaDoor
open Go.RowKit Go.Proofs.YtcgdjnmfeibnoaaDoorW.PrintWords Go.Proofs.YtcgdjnmfeibnoaaDoor.X
set_option linter.unusedVariables false
set_option linter.unusedSimpArgs false
abbrev stV (x : St) : Value := .agg #[.int .i64 x.wh, .int .i64 x.pc, .bool x.gap, .int .i64 x.dg, .int .i64 x.nu, .int .i64 x.va]
set_option maxHeartbeats 1000000 in
set_option maxRecDepth 100000 in
theorem stMore_walk (a b : Int) (g : Bool) (d n v : Int) (w : World) :
    Calls Tryd.prog 85 #[.agg #[.int .i64 a, .int .i64 b, .bool g, .int .i64 d, .int .i64 n, .int .i64 v]] w fun e w' => e = .returned (.bool (moreP ⟨a, b, g, d, n, v⟩)) ∧ Below w.heap.size w w' := by
  unfold moreP
  cases g
  · go_enter Tryd.func85, Tryd.ntmps85
    go_wp2
    go_returns
    exact ⟨rfl, by go_grown⟩
  · go_enter Tryd.func85, Tryd.ntmps85
    go_wp2
    go_returns
    exact ⟨rfl, by go_grown⟩
set_option maxHeartbeats 1000000 in
set_option maxRecDepth 100000 in
theorem stMay_walk (a b : Int) (g : Bool) (d n v : Int) (w : World) :
    Calls Tryd.prog 117 #[.agg #[.int .i64 a, .int .i64 b, .bool g, .int .i64 d, .int .i64 n, .int .i64 v]] w fun e w' => e = .returned (.bool (mayP ⟨a, b, g, d, n, v⟩)) ∧ Below w.heap.size w w' := by
  unfold mayP
  cases g
  · go_enter Tryd.func117, Tryd.ntmps117
    go_wp2
    go_returns
    exact ⟨by first | rfl | (rw [Int.beq_eq]; rfl) | simp, by go_grown⟩
  · go_enter Tryd.func117, Tryd.ntmps117
    go_wp2
    go_returns
    exact ⟨rfl, by go_grown⟩
/-- The cells of states. -/
def stC (x : St) : List Value := [.int .i64 x.wh, .int .i64 x.pc, .bool x.gap, .int .i64 x.dg, .int .i64 x.nu, .int .i64 x.va]
def stCs (l : List St) : List Value := l.flatMap stC
/-- A row of states of the call's own. -/
def StRow (w : World) (l : List St) (e : Ending) (w' : World) : Prop := ∃ v, e = .returned v ∧ w'.ownsRow w.heap.size 80 6 v l.length (stCs l) ∧ Below w.heap.size w w'
theorem row_nil {w W : World} (hb : Below w.heap.size w W) : StRow w [] (.returned (.slice none 0 0)) W := ⟨_, rfl, own_nil _ _ _ _, hb⟩
theorem row_lit {w W : World} (x : St) (hb : Below w.heap.size w W) : StRow w [x] (.returned (.slice (some ⟨W.heap.size, 0, none⟩) 1 1)) (W.alloc (.cells #[.int .i64 x.wh, .int .i64 x.pc, .bool x.gap, .int .i64 x.dg, .int .i64 x.nu, .int .i64 x.va] 80)) := by
  refine ⟨_, rfl, ?_, hb.alloc hb.size _⟩
  have := World.ownsRow_lit (base := w.heap.size) (size := 6) (e := 80) W #[.int .i64 x.wh, .int .i64 x.pc, .bool x.gap, .int .i64 x.dg, .int .i64 x.nu, .int .i64 x.va] 1 hb.size (by unfold maxLen; omega) rfl
  exact this
theorem chain0 {w W W' : World} (h : Below w.heap.size w W) (k : Below W.heap.size W W') : Below w.heap.size w W' := h.trans (k.mono h.size)
theorem st_info : ∃ i, Tryd.prog.info? 80 = some i ∧ i.zero = some (.agg #[.int .i64 0, .int .i64 0, .bool false, .int .i64 0, .int .i64 0, .int .i64 0]) ∧ i.size = 6 ∧ i.bytes = 48 :=
  info_parts (show (Tryd.prog.info? 80).map (fun i => (i.zero, i.size, i.bytes)) = some (some (.agg #[.int .i64 0, .int .i64 0, .bool false, .int .i64 0, .int .i64 0, .int .i64 0]), 6, 48) by kernel_rfl)
set_option maxHeartbeats 2000000 in
set_option maxRecDepth 100000 in
theorem begin_no (a b : Int) (g : Bool) (d n v c : Int) (h0 : 0 ≤ c) (h1 : c < 256) (hd : decide (0 ≤ digV c 16) = false) (hk : decide (0 ≤ digV c 10) = false) (w : World) :
    Calls Tryd.prog 84 #[.agg #[.int .i64 a, .int .i64 b, .bool g, .int .i64 d, .int .i64 n, .int .i64 v], .int .u8 c] w (StRow w []) := by
  go_enter Tryd.func84, Tryd.ntmps84
  go_wp2_with fail
  refine (digit_walk c 16 h0 h1 _).mono ?_
  rintro e w0 ⟨rfl, rfl⟩
  go_wp2_with fail
  refine (digit_walk c 10 h0 h1 _).mono ?_
  rintro e w0 ⟨rfl, rfl⟩
  go_wp2_with fail
  go_returns
  exact row_nil (by go_grown)
set_option maxHeartbeats 2000000 in
set_option maxRecDepth 100000 in
theorem begin_full (a b : Int) (g : Bool) (d n v c : Int) (h0 : 0 ≤ c) (h1 : c < 256) (hd : decide (0 ≤ digV c 16) = true) (hk : decide (0 ≤ digV c 10) = false) (hm : moreP ⟨a, b, g, d, n, v⟩ = false) (w : World) :
    Calls Tryd.prog 84 #[.agg #[.int .i64 a, .int .i64 b, .bool g, .int .i64 d, .int .i64 n, .int .i64 v], .int .u8 c] w (StRow w []) := by
  go_enter Tryd.func84, Tryd.ntmps84
  go_wp2_with fail
  refine (digit_walk c 16 h0 h1 _).mono ?_
  rintro e w0 ⟨rfl, rfl⟩
  go_wp2_with fail
  refine (stMore_walk _ _ _ _ _ _ _).mono ?_
  rintro e w1 ⟨rfl, hb1⟩
  rw [hm]
  have B1 : Below w.heap.size w w1 := chain0 (by go_grown) hb1
  obtain ⟨hc1, hf1, hs1⟩ := after hb1
  try simp only [World.size_alloc] at hs1
  have l0 : w.heap.size < w1.heap.size := by omega
  clear hb1 hs1
  go_wp2_with fail
  refine (digit_walk c 10 h0 h1 _).mono ?_
  rintro e w0 ⟨rfl, rfl⟩
  go_wp2_with fail
  go_returns
  exact row_nil B1
set_option maxHeartbeats 2000000 in
set_option maxRecDepth 100000 in
theorem begin_full10 (a b : Int) (g : Bool) (d n v c : Int) (h0 : 0 ≤ c) (h1 : c < 256) (hd : decide (0 ≤ digV c 16) = true) (hk : decide (0 ≤ digV c 10) = true) (hm : moreP ⟨a, b, g, d, n, v⟩ = false) (hy : mayP ⟨a, b, g, d, n, v⟩ = false) (w : World) :
    Calls Tryd.prog 84 #[.agg #[.int .i64 a, .int .i64 b, .bool g, .int .i64 d, .int .i64 n, .int .i64 v], .int .u8 c] w (StRow w []) := by
  go_enter Tryd.func84, Tryd.ntmps84
  go_wp2_with fail
  refine (digit_walk c 16 h0 h1 _).mono ?_
  rintro e w0 ⟨rfl, rfl⟩
  go_wp2_with fail
  refine (stMore_walk _ _ _ _ _ _ _).mono ?_
  rintro e w1 ⟨rfl, hb1⟩
  rw [hm]
  have B1 : Below w.heap.size w w1 := chain0 (by go_grown) hb1
  obtain ⟨hc1, hf1, hs1⟩ := after hb1
  try simp only [World.size_alloc] at hs1
  have l0 : w.heap.size < w1.heap.size := by omega
  clear hb1 hs1
  go_wp2_with fail
  refine (digit_walk c 10 h0 h1 _).mono ?_
  rintro e w0 ⟨rfl, rfl⟩
  go_wp2_with fail
  refine (stMay_walk _ _ _ _ _ _ _).mono ?_
  rintro e w2 ⟨rfl, hb2⟩
  rw [hy]
  have B2 : Below w.heap.size w w2 := chain0 B1 hb2
  obtain ⟨hc2, hf2, hs2⟩ := after hb2
  try simp only [World.size_alloc] at hs2
  have l0 : w.heap.size < w2.heap.size := by omega
  clear hb2 hs2
  go_wp2_with fail
  go_returns
  exact row_nil B2
set_option maxHeartbeats 2000000 in
set_option maxRecDepth 100000 in
theorem begin_one (a b : Int) (g : Bool) (d n v c : Int) (h0 : 0 ≤ c) (h1 : c < 256) (hd : decide (0 ≤ digV c 16) = true) (hk : decide (0 ≤ digV c 10) = false) (hm : moreP ⟨a, b, g, d, n, v⟩ = true) (w : World) :
    Calls Tryd.prog 84 #[.agg #[.int .i64 a, .int .i64 b, .bool g, .int .i64 d, .int .i64 n, .int .i64 v], .int .u8 c] w (StRow w [⟨4, b, g, 1, n, v⟩]) := by
  go_enter Tryd.func84, Tryd.ntmps84
  obtain ⟨i0, hi, hz0, hz1, hz2⟩ := st_info
  have HI := Lib.hid hi
  have HZ0 := Lib.hid hz0
  have HZ1 := Lib.hid hz1
  have HZ2 := Lib.hid hz2
  clear hi hz0 hz1 hz2
  go_wp2_with fail
  refine (digit_walk c 16 h0 h1 _).mono ?_
  rintro e w0 ⟨rfl, rfl⟩
  obtain ⟨s0, hs0⟩ : ∃ s0, s0 = Value.slice none 0 0 := ⟨_, rfl⟩
  rw [← hs0]
  have own0 : ∀ W : World, W.ownsRow w.heap.size 80 6 s0 0 [] := fun W => by rw [hs0]; exact own_nil _ _ _ _
  have O0 := Lib.hid own0
  have O1 : Hid (s0.ownBlock = none) := Lib.hid (by rw [hs0]; rfl)
  clear hs0 own0
  go_wp2_with fail
  refine (stMore_walk _ _ _ _ _ _ _).mono ?_
  rintro e w1 ⟨rfl, hb1⟩
  rw [hm]
  have B1 : Below w.heap.size w w1 := chain0 (by go_grown) hb1
  obtain ⟨hc1, hf1, hs1⟩ := after hb1
  try simp only [World.size_alloc] at hs1
  have l0 : w.heap.size < w1.heap.size := by omega
  clear hb1 hs1
  go_wp2_with (at_builtin; refine app_one rfl _ _ 81 rfl w.heap.size 80 i0 (.agg #[.int .i64 0, .int .i64 0, .bool false, .int .i64 0, .int .i64 0, .int .i64 0]) 6 48 Tryd.underlying81 HI.out HZ0.out HZ1.out HZ2.out rfl (by decide) s0 0 [] rfl (O0.out _) [.int .i64 4, .int .i64 b, .bool g, .int .i64 1, .int .i64 n, .int .i64 v] (by first | rfl | (simp only [World.size_alloc]; rfl)) rfl (by simp [Value.oneCell']) (by unfold maxLen; omega) (by omega) (by simp; omega) ?_; intro G1 cap1 v3 hG1 own1 hgrow1 hbel1)
  go_wp2_with fail
  refine (digit_walk c 10 h0 h1 _).mono ?_
  rintro e w0 ⟨rfl, rfl⟩
  go_wp2_with fail
  go_returns
  exact ⟨_, rfl, own1, hbel1 _ _ (Nat.le_refl _) (B1.alloc (by omega) _)⟩
set_option maxHeartbeats 2000000 in
set_option maxRecDepth 100000 in
theorem begin_one10 (a b : Int) (g : Bool) (d n v c : Int) (h0 : 0 ≤ c) (h1 : c < 256) (hd : decide (0 ≤ digV c 16) = true) (hk : decide (0 ≤ digV c 10) = true) (hm : moreP ⟨a, b, g, d, n, v⟩ = true) (hy : mayP ⟨a, b, g, d, n, v⟩ = false) (w : World) :
    Calls Tryd.prog 84 #[.agg #[.int .i64 a, .int .i64 b, .bool g, .int .i64 d, .int .i64 n, .int .i64 v], .int .u8 c] w (StRow w [⟨4, b, g, 1, n, v⟩]) := by
  go_enter Tryd.func84, Tryd.ntmps84
  obtain ⟨i0, hi, hz0, hz1, hz2⟩ := st_info
  have HI := Lib.hid hi
  have HZ0 := Lib.hid hz0
  have HZ1 := Lib.hid hz1
  have HZ2 := Lib.hid hz2
  clear hi hz0 hz1 hz2
  go_wp2_with fail
  refine (digit_walk c 16 h0 h1 _).mono ?_
  rintro e w0 ⟨rfl, rfl⟩
  obtain ⟨s0, hs0⟩ : ∃ s0, s0 = Value.slice none 0 0 := ⟨_, rfl⟩
  rw [← hs0]
  have own0 : ∀ W : World, W.ownsRow w.heap.size 80 6 s0 0 [] := fun W => by rw [hs0]; exact own_nil _ _ _ _
  have O0 := Lib.hid own0
  have O1 : Hid (s0.ownBlock = none) := Lib.hid (by rw [hs0]; rfl)
  clear hs0 own0
  go_wp2_with fail
  refine (stMore_walk _ _ _ _ _ _ _).mono ?_
  rintro e w1 ⟨rfl, hb1⟩
  rw [hm]
  have B1 : Below w.heap.size w w1 := chain0 (by go_grown) hb1
  obtain ⟨hc1, hf1, hs1⟩ := after hb1
  try simp only [World.size_alloc] at hs1
  have l0 : w.heap.size < w1.heap.size := by omega
  clear hb1 hs1
  go_wp2_with (at_builtin; refine app_one rfl _ _ 81 rfl w.heap.size 80 i0 (.agg #[.int .i64 0, .int .i64 0, .bool false, .int .i64 0, .int .i64 0, .int .i64 0]) 6 48 Tryd.underlying81 HI.out HZ0.out HZ1.out HZ2.out rfl (by decide) s0 0 [] rfl (O0.out _) [.int .i64 4, .int .i64 b, .bool g, .int .i64 1, .int .i64 n, .int .i64 v] (by first | rfl | (simp only [World.size_alloc]; rfl)) rfl (by simp [Value.oneCell']) (by unfold maxLen; omega) (by omega) (by simp; omega) ?_; intro G1 cap1 v3 hG1 own1 hgrow1 hbel1)
  have B3 : Below w.heap.size w v3 := hbel1 _ _ (Nat.le_refl _) (B1.alloc (by omega) _)
  have hk3 : v3.cell? ⟨w.heap.size, 0, none⟩ = some (.int .i64 a) ∧ v3.cell? ⟨w.heap.size, 1, none⟩ = some (.int .i64 b) ∧ v3.cell? ⟨w.heap.size, 2, none⟩ = some (.bool g) ∧ v3.cell? ⟨w.heap.size, 3, none⟩ = some (.int .i64 d) ∧ v3.cell? ⟨w.heap.size, 4, none⟩ = some (.int .i64 n) ∧ v3.cell? ⟨w.heap.size, 5, none⟩ = some (.int .i64 v) := by
    have key : ∀ o, v3.cell? ⟨w.heap.size, o, none⟩ = w1.cell? ⟨w.heap.size, o, none⟩ := fun o => by
      have e := hgrow1.cell_far ⟨w.heap.size, o, none⟩ (by simp; omega) (by rw [O1.out]; simp)
      rw [e]
      go_simp
    exact ⟨(key 0).trans (by go_simp), (key 1).trans (by go_simp), (key 2).trans (by go_simp), (key 3).trans (by go_simp), (key 4).trans (by go_simp), (key 5).trans (by go_simp)⟩
  obtain ⟨q0, q1, q2, q3, q4, q5⟩ := hk3
  have hs3 : w.heap.size < v3.heap.size := by have := hgrow1.size; simp at this; omega
  clear hgrow1 hbel1
  go_wp2_with fail
  refine (digit_walk c 10 h0 h1 _).mono ?_
  rintro e w0 ⟨rfl, rfl⟩
  go_wp2_with fail
  refine (stMay_walk _ _ _ _ _ _ _).mono ?_
  rintro e w4 ⟨rfl, hb4⟩
  rw [hy]
  have B4 : Below w.heap.size w w4 := chain0 B3 hb4
  obtain ⟨hc4, hf4, hs4⟩ := after hb4
  try simp only [World.size_alloc] at hs4
  have l4 : w.heap.size < w4.heap.size := by omega
  have own4 := own1.kept (row := none) ⟨hb4.os, hb4.tape, hb4.output, hb4.size, fun i hi _ => hb4.block i hi⟩ (by simp [Value.ownBlock])
  clear own1 hb4 hs4
  go_wp2_with fail
  go_returns
  exact ⟨_, rfl, own4, B4⟩
set_option maxHeartbeats 2000000 in
set_option maxRecDepth 100000 in
theorem begin_both (a b : Int) (g : Bool) (d n v c : Int) (h0 : 0 ≤ c) (h1 : c < 256) (hd : decide (0 ≤ digV c 16) = true) (hk : decide (0 ≤ digV c 10) = true) (hm : moreP ⟨a, b, g, d, n, v⟩ = true) (hy : mayP ⟨a, b, g, d, n, v⟩ = true) (w : World) :
    Calls Tryd.prog 84 #[.agg #[.int .i64 a, .int .i64 b, .bool g, .int .i64 d, .int .i64 n, .int .i64 v], .int .u8 c] w (StRow w [⟨4, b, g, 1, n, v⟩, ⟨5, b, g, d, n, digV c 10⟩]) := by
  go_enter Tryd.func84, Tryd.ntmps84
  obtain ⟨i0, hi, hz0, hz1, hz2⟩ := st_info
  have HI := Lib.hid hi
  have HZ0 := Lib.hid hz0
  have HZ1 := Lib.hid hz1
  have HZ2 := Lib.hid hz2
  clear hi hz0 hz1 hz2
  go_wp2_with fail
  refine (digit_walk c 16 h0 h1 _).mono ?_
  rintro e w0 ⟨rfl, rfl⟩
  obtain ⟨s0, hs0⟩ : ∃ s0, s0 = Value.slice none 0 0 := ⟨_, rfl⟩
  rw [← hs0]
  have own0 : ∀ W : World, W.ownsRow w.heap.size 80 6 s0 0 [] := fun W => by rw [hs0]; exact own_nil _ _ _ _
  have O0 := Lib.hid own0
  have O1 : Hid (s0.ownBlock = none) := Lib.hid (by rw [hs0]; rfl)
  clear hs0 own0
  go_wp2_with fail
  refine (stMore_walk _ _ _ _ _ _ _).mono ?_
  rintro e w1 ⟨rfl, hb1⟩
  rw [hm]
  have B1 : Below w.heap.size w w1 := chain0 (by go_grown) hb1
  obtain ⟨hc1, hf1, hs1⟩ := after hb1
  try simp only [World.size_alloc] at hs1
  have l0 : w.heap.size < w1.heap.size := by omega
  clear hb1 hs1
  go_wp2_with (at_builtin; refine app_one rfl _ _ 81 rfl w.heap.size 80 i0 (.agg #[.int .i64 0, .int .i64 0, .bool false, .int .i64 0, .int .i64 0, .int .i64 0]) 6 48 Tryd.underlying81 HI.out HZ0.out HZ1.out HZ2.out rfl (by decide) s0 0 [] rfl (O0.out _) [.int .i64 4, .int .i64 b, .bool g, .int .i64 1, .int .i64 n, .int .i64 v] (by first | rfl | (simp only [World.size_alloc]; rfl)) rfl (by simp [Value.oneCell']) (by unfold maxLen; omega) (by omega) (by simp; omega) ?_; intro G1 cap1 v3 hG1 own1 hgrow1 hbel1)
  have B3 : Below w.heap.size w v3 := hbel1 _ _ (Nat.le_refl _) (B1.alloc (by omega) _)
  have hk3 : v3.cell? ⟨w.heap.size, 0, none⟩ = some (.int .i64 a) ∧ v3.cell? ⟨w.heap.size, 1, none⟩ = some (.int .i64 b) ∧ v3.cell? ⟨w.heap.size, 2, none⟩ = some (.bool g) ∧ v3.cell? ⟨w.heap.size, 3, none⟩ = some (.int .i64 d) ∧ v3.cell? ⟨w.heap.size, 4, none⟩ = some (.int .i64 n) ∧ v3.cell? ⟨w.heap.size, 5, none⟩ = some (.int .i64 v) := by
    have key : ∀ o, v3.cell? ⟨w.heap.size, o, none⟩ = w1.cell? ⟨w.heap.size, o, none⟩ := fun o => by
      have e := hgrow1.cell_far ⟨w.heap.size, o, none⟩ (by simp; omega) (by rw [O1.out]; simp)
      rw [e]
      go_simp
    exact ⟨(key 0).trans (by go_simp), (key 1).trans (by go_simp), (key 2).trans (by go_simp), (key 3).trans (by go_simp), (key 4).trans (by go_simp), (key 5).trans (by go_simp)⟩
  obtain ⟨q0, q1, q2, q3, q4, q5⟩ := hk3
  have hs3 : w.heap.size < v3.heap.size := by have := hgrow1.size; simp at this; omega
  clear hgrow1 hbel1
  go_wp2_with fail
  refine (digit_walk c 10 h0 h1 _).mono ?_
  rintro e w0 ⟨rfl, rfl⟩
  go_wp2_with fail
  refine (stMay_walk _ _ _ _ _ _ _).mono ?_
  rintro e w4 ⟨rfl, hb4⟩
  rw [hy]
  have B4 : Below w.heap.size w w4 := chain0 B3 hb4
  obtain ⟨hc4, hf4, hs4⟩ := after hb4
  try simp only [World.size_alloc] at hs4
  have l4 : w.heap.size < w4.heap.size := by omega
  have own4 := own1.kept (row := none) ⟨hb4.os, hb4.tape, hb4.output, hb4.size, fun i hi _ => hb4.block i hi⟩ (by simp [Value.ownBlock])
  clear own1 hb4 hs4
  have own5 : w4.ownsRow w.heap.size 80 6 (.slice (some ⟨G1, 0, none⟩) 1 cap1) 1 [.int .i64 4, .int .i64 b, .bool g, .int .i64 1, .int .i64 n, .int .i64 v] := own4
  clear own4
  go_wp2_with (at_builtin; refine app_one rfl _ _ 81 rfl w.heap.size 80 i0 (.agg #[.int .i64 0, .int .i64 0, .bool false, .int .i64 0, .int .i64 0, .int .i64 0]) 6 48 Tryd.underlying81 HI.out HZ0.out HZ1.out HZ2.out rfl (by decide) (.slice (some ⟨G1, 0, none⟩) 1 cap1) 1 _ rfl (own5.alloc _) [.int .i64 5, .int .i64 b, .bool g, .int .i64 d, .int .i64 n, .int .i64 (digV c 10)] (by first | rfl | (simp only [World.size_alloc]; rfl)) rfl (by simp [Value.oneCell']) (by unfold maxLen; omega) (by omega) (by simp; omega) ?_; intro G2 cap2 v5 hG2 own2 hgrow2 hbel2)
  go_returns
  exact ⟨_, rfl, own2, hbel2 _ _ (Nat.le_refl _) (B4.alloc (by omega) _)⟩
theorem begin_walk (x : St) (c : Int) (h0 : 0 ≤ c) (h1 : c < 256) (w : World) : Calls Tryd.prog 84 #[stV x, .int .u8 c] w (StRow w (beginP x c)) := by
  obtain ⟨a, b, g, d, n, v⟩ := x
  unfold beginP
  have e16 := digV16 c
  have e10 := digV10 c
  by_cases hd : 0 ≤ digV c 16
  · by_cases hm : moreP ⟨a, b, g, d, n, v⟩ = true
    · rw [if_pos ⟨hd, hm⟩]
      by_cases hk : 0 ≤ digV c 10
      · by_cases hy : mayP ⟨a, b, g, d, n, v⟩ = true
        · rw [if_pos ⟨hk, hy⟩]
          exact begin_both a b g d n v c h0 h1 (decide_eq_true hd) (decide_eq_true hk) hm hy w
        · rw [if_neg (fun q => hy q.2)]
          exact begin_one10 a b g d n v c h0 h1 (decide_eq_true hd) (decide_eq_true hk) hm (by simpa using hy) w
      · rw [if_neg (fun q => hk q.1)]
        exact begin_one a b g d n v c h0 h1 (decide_eq_true hd) (decide_eq_false hk) hm w
    · rw [if_neg (fun q => hm q.2)]
      have hm' : moreP ⟨a, b, g, d, n, v⟩ = false := by simpa using hm
      have hy : mayP ⟨a, b, g, d, n, v⟩ = false := by
        unfold moreP at hm'
        unfold mayP
        cases g
        · simp at hm' ⊢; omega
        · simp at hm' ⊢; omega
      rw [hy, if_neg (by simp)]
      by_cases hk : 0 ≤ digV c 10
      · exact begin_full10 a b g d n v c h0 h1 (decide_eq_true hd) (decide_eq_true hk) hm' hy w
      · exact begin_full a b g d n v c h0 h1 (decide_eq_true hd) (decide_eq_false hk) hm' w
  · have hk : ¬ 0 ≤ digV c 10 := by
      rw [e16] at hd
      rw [e10]
      split
      · rename_i q; rw [if_pos q] at hd; exact hd
      · omega
    rw [if_neg (fun q => hd q.1), if_neg (fun q => hk q.1)]
    exact begin_no a b g d n v c h0 h1 (decide_eq_false hd) (decide_eq_false hk) w
end Go.Proofs.YtcgdjnmfeibnoaaDoor
