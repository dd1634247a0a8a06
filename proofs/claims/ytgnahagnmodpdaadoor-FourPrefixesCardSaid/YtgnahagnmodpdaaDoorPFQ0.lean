/- Several texts in one (wip/gen/pack.py): Shelf Oct Bytes DigL Given X0 Str X2 FourV Dec Ext FourParse X3 X6 Itoa App FourPrint X10 FourP1 FourP2 FourS FourBackV. -/
import Derived.Shelf.LaysM
import Derived.Shelf.Small.Bits
import Derived.Shelf.Small.Strs
import Derived.Shelf.Small.Utf8
import Derived.Shelf.Strconv.Itoa0
import Derived.Shelf.Strconv.Itoa1
import Derived.Shelf.Strconv.Itoa2
import Derived.Shelf.Strconv.Itoa3
import Derived.Shelf.Strings.AsciiSet
import Derived.Shelf.Strings.Builder1
import Derived.Shelf.Strings.Builder2
import Derived.Shelf.Strings.BuilderF
import Derived.Shelf.Strings.Count
import Derived.Shelf.Strings.Cut
import Derived.Shelf.Strings.OnBuilder
import Derived.Shelf.Strings.Prefix
import Derived.Shelf.Strings.RuneCount
import Derived.Shelf.Strings.Runes
import Derived.Shelf.Strings.Search1
import Derived.Shelf.Strings.Search2
import Derived.Shelf.Strings.Search3
import Derived.Shelf.Strings.Shaped
import Derived.Shelf.Strings.Split
import Derived.Shelf.Strings.SplitShaped
import Derived.Shelf.Strings.Trim
import Derived.Shelf.Unicode.DecodeSlow
import Derived.Test.YtgnahagnmodpdaaDoorProg
import Derived.Test.YtgnahagnmodpdaaDoorWWords
import Derived.WalkLawsBesides
import Derived.WalkSpells
import Derived.IntWalk
import Derived.Lib.IndexMore
import Derived.Lib.SlTrimSet
import Derived.Lib.SplitLaws
import Derived.ArgAppend
import Derived.Below
import Derived.BigQuiet
import Derived.Deep.AppendLies
import Derived.Deep.CutBlock
import Derived.Deep.DeepCutAuto
import Derived.Deep.Draws
import Derived.Deep.LoopGhost
import Derived.Deep.OwnRows
import Derived.Deep.QuietTactic
import Derived.Deep.RegionHeld3
import Derived.KernelRfl
import Derived.Laws.BitsLemmas
import Derived.Laws.BytesArg
import Derived.Laws.IdiomCopy
import Derived.Laws.MakeOwn
import Derived.Laws.OwnMore
import Derived.Laws.Rows
import Derived.Laws.Slices
import Derived.Lib.AppendStr
import Derived.Lib.ConvBytes
import Derived.Maps.AppendAt
import Derived.OrdersHeld
import Derived.OwnWalk
import Derived.RowKit
import Derived.RowKit3
import Derived.Tactics
import Derived.Test.YtgnahagnmodpdaaDoorWApart
import Derived.Test.YtgnahagnmodpdaaDoorWArr
import Derived.Test.YtgnahagnmodpdaaDoorWAt
import Derived.Test.YtgnahagnmodpdaaDoorWEqStruct
import Derived.Test.YtgnahagnmodpdaaDoorWFoot
import Derived.Test.YtgnahagnmodpdaaDoorWFootNe
import Derived.Test.YtgnahagnmodpdaaDoorWFour
import Derived.Test.YtgnahagnmodpdaaDoorWGuard
import Derived.Test.YtgnahagnmodpdaaDoorWInv
import Derived.Test.YtgnahagnmodpdaaDoorWInvWords
import Derived.Test.YtgnahagnmodpdaaDoorWKept
import Derived.Test.YtgnahagnmodpdaaDoorWLast
import Derived.Test.YtgnahagnmodpdaaDoorWMore
import Derived.Test.YtgnahagnmodpdaaDoorWN
import Derived.Test.YtgnahagnmodpdaaDoorWNEv
import Derived.Test.YtgnahagnmodpdaaDoorWQPut
import Derived.Test.YtgnahagnmodpdaaDoorWRepsOne
import Derived.Test.YtgnahagnmodpdaaDoorWShare
import Derived.Test.YtgnahagnmodpdaaDoorWTab
import Derived.Test.YtgnahagnmodpdaaDoorWZeros
import Derived.WalkKit
import Derived.WideLaws
import Derived.Lib.AppendIntMem
import Derived.Lib.OwnBridge
import Derived.Lib.TrailingZeros
import Derived.Shelf.RegionOpenPlain
import Derived.Shelf.Strings.SlTrimAscii
import Derived.Lib.ItoaNum
import Derived.Lib.Join
import Derived.Handy
import Derived.ProofKit
import Derived.Test.YtgnahagnmodpdaaDoorRows
import Derived.Outline
import Derived.Lib.Builder
import Derived.Laws.BitsAllLaws
/-! Shelf -/
namespace Go.Proofs
open Go.Shelf
def Tryd.lays156_ren : Go.Shelf.Ren := ⟨fun | 156 => 47 | 165 => 77 | 166 => 78 | 169 => 79 | 240 => 91 | 241 => 92 | 276 => 114 | 277 => 115 | n => n, fun | 31 => 39 | 9 => 9 | 3 => 3 | 4 => 4 | 0 => 0 | 20 => 20 | 72 => 113 | 76 => 117 | 70 => 111 | 37 => 74 | 75 => 116 | 127 => 129 | 164 => 145 | 5 => 5 | 80 => 119 | n => n, fun | n => n⟩
theorem Tryd.lays156 : Go.Proofs.Lays.n156 Tryd.prog Tryd.lays156_ren := {
  mixed := by kernel_rfl
  f156 := Tryd.func47.trans (congrArg some (by kernel_rfl))
  f165 := Tryd.func77.trans (congrArg some (by kernel_rfl))
  f166 := Tryd.func78.trans (congrArg some (by kernel_rfl))
  f169 := Tryd.func79.trans (congrArg some (by kernel_rfl))
  f240 := Tryd.func91.trans (congrArg some (by kernel_rfl))
  f241 := Tryd.func92.trans (congrArg some (by kernel_rfl))
  f276 := Tryd.func114.trans (congrArg some (by kernel_rfl))
  f277 := Tryd.func115.trans (congrArg some (by kernel_rfl))
  t0 := Tryd.underlying0
  a0 := Tryd.isAgg0
  z0 := Tryd.sizeOf0
  v0 := Tryd.zeroValue0
  t3 := Tryd.underlying3
  a3 := Tryd.isAgg3
  z3 := Tryd.sizeOf3
  v3 := Tryd.zeroValue3
  t4 := Tryd.underlying4
  a4 := Tryd.isAgg4
  z4 := Tryd.sizeOf4
  v4 := Tryd.zeroValue4
  t9 := Tryd.underlying9
  a9 := Tryd.isAgg9
  z9 := Tryd.sizeOf9
  v9 := Tryd.zeroValue9
  t20 := Tryd.underlying20
  a20 := Tryd.isAgg20
  z20 := Tryd.sizeOf20
  v20 := Tryd.zeroValue20
  t31 := Tryd.underlying39
  a31 := Tryd.isAgg39
  z31 := Tryd.sizeOf39
  v31 := Tryd.zeroValue39
  t37 := Tryd.underlying74
  a37 := Tryd.isAgg74
  z37 := Tryd.sizeOf74
  v37 := Tryd.zeroValue74
  t70 := Tryd.underlying111
  a70 := Tryd.isAgg111
  z70 := Tryd.sizeOf111
  v70 := Tryd.zeroValue111
  t72 := Tryd.underlying113
  a72 := Tryd.isAgg113
  z72 := Tryd.sizeOf113
  v72 := Tryd.zeroValue113
  t75 := Tryd.underlying116
  a75 := Tryd.isAgg116
  z75 := Tryd.sizeOf116
  v75 := Tryd.zeroValue116
  t76 := Tryd.underlying117
  a76 := Tryd.isAgg117
  z76 := Tryd.sizeOf117
  v76 := Tryd.zeroValue117
  t127 := Tryd.underlying129
  a127 := Tryd.isAgg129
  z127 := Tryd.sizeOf129
  v127 := Tryd.zeroValue129
  t164 := Tryd.underlying145
  a164 := Tryd.isAgg145
  z164 := Tryd.sizeOf145
  v164 := Tryd.zeroValue145 }
theorem Tryd.Builder_Extra_156 : Builder.Extra Tryd.prog Tryd.lays156_ren := {
  sizeBuilder := by kernel_rfl
  liesBuilder := by kernel_rfl
  t5 := Tryd.underlying5
  a5 := Tryd.isAgg5
  z5 := Tryd.sizeOf5
  v5 := Tryd.zeroValue5
  infoByte := by kernel_rfl
  cellsByte := by kernel_rfl
  sizeByte := by kernel_rfl
  neB5 := by decide }
open Go.RowKit in
/-- No element: the empty string; the world is as it was. (Whatever the slice's address and capacity: a nil slice too.) (LAID: no walk: one application.) -/
theorem Tryd.strings_Join_none (a : Option Addr) (c : Nat) (sep : ByteArray) (w : World) :
    Calls Tryd.prog 47 #[.slice a 0 c, .string sep] w fun e w' => e = .returned (.string ⟨#[]⟩) ∧ w' = w := Any.strings_Join_none Tryd.lays156 Tryd.Builder_Extra_156 a c sep w
open Go.RowKit in
/-- strings.Join: "Join concatenates the elements of its first argument to create a single string. The separator string sep is placed between elements in the resulting string.": HOWEVER MANY ELEMENTS. Below the heap's end the world is as it was. (LAID: no walk: one application.) -/
theorem Tryd.strings_Join (bk o c : Nat) (xs : List ByteArray) (sep : ByteArray) (w : World) (hcells : ∀ (j : Nat) x, xs[j]? = some x → w.cell? ⟨bk, o + j, none⟩ = some (.string x)) (hbk : bk < w.heap.size) (hN : xs.length ≤ 140737488355328) (hcap : xs.length ≤ c) (hlen : (Lib.join (xs.map (·.data.toList)) sep.data.toList).length ≤ 140737488355328) :
    Calls Tryd.prog 47 #[.slice (some ⟨bk, o, none⟩) xs.length c, .string sep] w fun e w' => e = .returned (.string ⟨(Lib.join (xs.map (·.data.toList)) sep.data.toList).toArray⟩) ∧ Below w.heap.size w w' := Any.strings_Join Tryd.lays156 Tryd.Builder_Extra_156 bk o c xs sep w hcells hbk hN hcap hlen
def Tryd.lays160_ren : Go.Shelf.Ren := ⟨fun | 160 => 42 | 232 => 67 | 231 => 66 | 227 => 68 | 234 => 70 | 233 => 69 | 236 => 72 | 235 => 71 | 228 => 85 | 271 => 88 | 151 => 87 | 197 => 86 | 120 => 108 | 152 => 107 | 260 => 106 | 137 => 75 | 119 => 126 | 224 => 117 | 225 => 116 | 217 => 89 | 266 => 109 | n => n, fun | 9 => 9 | 4 => 4 | 3 => 3 | 5 => 5 | 117 => 105 | 116 => 104 | 0 => 0 | 124 => 108 | 21 => 21 | 105 => 125 | 46 => 46 | 119 => 156 | 139 => 159 | 138 => 158 | n => n, fun | 3 => 2 | 4 => 3 | n => n⟩
theorem Tryd.lays160 : Go.Proofs.Lays.n160 Tryd.prog Tryd.lays160_ren := {
  mixed := by kernel_rfl
  f119 := Tryd.func126.trans (congrArg some (by kernel_rfl))
  f120 := Tryd.func108.trans (congrArg some (by kernel_rfl))
  f137 := Tryd.func75.trans (congrArg some (by kernel_rfl))
  f151 := Tryd.func87.trans (congrArg some (by kernel_rfl))
  f152 := Tryd.func107.trans (congrArg some (by kernel_rfl))
  f160 := Tryd.func42.trans (congrArg some (by kernel_rfl))
  f197 := Tryd.func86.trans (congrArg some (by kernel_rfl))
  f217 := Tryd.func89.trans (congrArg some (by kernel_rfl))
  f224 := Tryd.func117.trans (congrArg some (by kernel_rfl))
  f225 := Tryd.func116.trans (congrArg some (by kernel_rfl))
  f227 := Tryd.func68.trans (congrArg some (by kernel_rfl))
  f228 := Tryd.func85.trans (congrArg some (by kernel_rfl))
  f231 := Tryd.func66.trans (congrArg some (by kernel_rfl))
  f232 := Tryd.func67.trans (congrArg some (by kernel_rfl))
  f233 := Tryd.func69.trans (congrArg some (by kernel_rfl))
  f234 := Tryd.func70.trans (congrArg some (by kernel_rfl))
  f235 := Tryd.func71.trans (congrArg some (by kernel_rfl))
  f236 := Tryd.func72.trans (congrArg some (by kernel_rfl))
  f260 := Tryd.func106.trans (congrArg some (by kernel_rfl))
  f266 := Tryd.func109.trans (congrArg some (by kernel_rfl))
  f271 := Tryd.func88.trans (congrArg some (by kernel_rfl))
  t0 := Tryd.underlying0
  a0 := Tryd.isAgg0
  z0 := Tryd.sizeOf0
  v0 := Tryd.zeroValue0
  t3 := Tryd.underlying3
  a3 := Tryd.isAgg3
  z3 := Tryd.sizeOf3
  v3 := Tryd.zeroValue3
  t4 := Tryd.underlying4
  a4 := Tryd.isAgg4
  z4 := Tryd.sizeOf4
  v4 := Tryd.zeroValue4
  t5 := Tryd.underlying5
  a5 := Tryd.isAgg5
  z5 := Tryd.sizeOf5
  v5 := Tryd.zeroValue5
  t9 := Tryd.underlying9
  a9 := Tryd.isAgg9
  z9 := Tryd.sizeOf9
  v9 := Tryd.zeroValue9
  t21 := Tryd.underlying21
  a21 := Tryd.isAgg21
  z21 := Tryd.sizeOf21
  v21 := Tryd.zeroValue21
  t46 := Tryd.underlying46
  a46 := Tryd.isAgg46
  z46 := Tryd.sizeOf46
  v46 := Tryd.zeroValue46
  t105 := Tryd.underlying125
  a105 := Tryd.isAgg125
  z105 := Tryd.sizeOf125
  v105 := Tryd.zeroValue125
  t116 := Tryd.underlying104
  a116 := Tryd.isAgg104
  z116 := Tryd.sizeOf104
  t117 := Tryd.underlying105
  a117 := Tryd.isAgg105
  z117 := Tryd.sizeOf105
  v117 := Tryd.zeroValue105
  t119 := Tryd.underlying156
  a119 := Tryd.isAgg156
  z119 := Tryd.sizeOf156
  t124 := Tryd.underlying108
  a124 := Tryd.isAgg108
  z124 := Tryd.sizeOf108
  v124 := Tryd.zeroValue108
  t138 := Tryd.underlying158
  a138 := Tryd.isAgg158
  z138 := Tryd.sizeOf158
  v138 := Tryd.zeroValue158
  t139 := Tryd.underlying159
  a139 := Tryd.isAgg159
  z139 := Tryd.sizeOf159
  v139 := Tryd.zeroValue159
  g3 := by kernel_rfl
  g4 := by kernel_rfl }
def Tryd.lays137_ren : Go.Shelf.Ren := ⟨fun | 137 => 75 | 217 => 89 | 266 => 109 | n => n, fun | 9 => 9 | 5 => 5 | 3 => 3 | n => n, fun | n => n⟩
theorem Tryd.lays137 : Go.Proofs.Lays.n137 Tryd.prog Tryd.lays137_ren := {
  mixed := by kernel_rfl
  f137 := Tryd.func75.trans (congrArg some (by kernel_rfl))
  f217 := Tryd.func89.trans (congrArg some (by kernel_rfl))
  f266 := Tryd.func109.trans (congrArg some (by kernel_rfl))
  t3 := Tryd.underlying3
  a3 := Tryd.isAgg3
  z3 := Tryd.sizeOf3
  v3 := Tryd.zeroValue3
  t5 := Tryd.underlying5
  a5 := Tryd.isAgg5
  z5 := Tryd.sizeOf5
  v5 := Tryd.zeroValue5
  t9 := Tryd.underlying9
  a9 := Tryd.isAgg9
  z9 := Tryd.sizeOf9
  v9 := Tryd.zeroValue9 }
open Go.RowKit in
/-- strings.IndexByte: "IndexByte returns the index of the first instance of c in s, or -1 if c is not present in s.": IT RETURNS 'Lib.indexByte s c'; the world is as it was. (LAID: no walk: one application.) -/
theorem Tryd.strings_IndexByte (s : ByteArray) (c : Int) (w : World) :
    Calls Tryd.prog 75 #[.string s, .int .u8 c] w fun e w' => e = .returned (.int .i64 (Lib.indexByte s.data.toList c.toNat.toUInt8)) ∧ w' = w := Any.strings_IndexByte Tryd.lays137 s c w
def Tryd.laysM171_ren : Go.Shelf.Ren := ⟨fun | 171 => 46 | 243 => 76 | 246 => 90 | 283 => 110 | 284 => 111 | 285 => 112 | 286 => 113 | 129 => 57 | 317 => 127 | 318 => 128 | 319 => 129 | 320 => 130 | 337 => 133 | 338 => 56 | n => n, fun | 3 => 3 | 9 => 9 | 2 => 2 | 4 => 4 | 171 => 141 | 0 => 0 | 53 => 27 | 37 => 74 | 5 => 5 | 173 => 143 | 212 => 162 | 51 => 22 | 20 => 20 | 213 => 163 | 46 => 46 | 232 => 169 | 233 => 120 | n => n, fun | 17 => 4 | 18 => 5 | 19 => 0 | n => n⟩
theorem Tryd.laysM171 : Go.Proofs.LaysM.n171 Tryd.prog Tryd.laysM171_ren := {
  mixed := by kernel_rfl
  f129 := Tryd.func57.trans (congrArg some (by kernel_rfl))
  f171 := Tryd.func46.trans (congrArg some (by kernel_rfl))
  f243 := Tryd.func76.trans (congrArg some (by kernel_rfl))
  f246 := Tryd.func90.trans (congrArg some (by kernel_rfl))
  f283 := Tryd.func110.trans (congrArg some (by kernel_rfl))
  f284 := Tryd.func111.trans (congrArg some (by kernel_rfl))
  f285 := Tryd.func112.trans (congrArg some (by kernel_rfl))
  f286 := Tryd.func113.trans (congrArg some (by kernel_rfl))
  f317 := Tryd.func127.trans (congrArg some (by kernel_rfl))
  f318 := Tryd.func128.trans (congrArg some (by kernel_rfl))
  f319 := Tryd.func129.trans (congrArg some (by kernel_rfl))
  f320 := Tryd.func130.trans (congrArg some (by kernel_rfl))
  f337 := Tryd.func133.trans (congrArg some (by kernel_rfl))
  f338 := Tryd.func56.trans (congrArg some (by kernel_rfl))
  t0 := Tryd.underlying0
  a0 := Tryd.isAgg0
  z0 := Tryd.sizeOf0
  v0 := Tryd.zeroValue0
  t2 := Tryd.underlying2
  a2 := Tryd.isAgg2
  z2 := Tryd.sizeOf2
  v2 := Tryd.zeroValue2
  t3 := Tryd.underlying3
  a3 := Tryd.isAgg3
  z3 := Tryd.sizeOf3
  v3 := Tryd.zeroValue3
  t4 := Tryd.underlying4
  a4 := Tryd.isAgg4
  z4 := Tryd.sizeOf4
  v4 := Tryd.zeroValue4
  t5 := Tryd.underlying5
  a5 := Tryd.isAgg5
  z5 := Tryd.sizeOf5
  v5 := Tryd.zeroValue5
  t9 := Tryd.underlying9
  a9 := Tryd.isAgg9
  z9 := Tryd.sizeOf9
  v9 := Tryd.zeroValue9
  t20 := Tryd.underlying20
  a20 := Tryd.isAgg20
  z20 := Tryd.sizeOf20
  v20 := Tryd.zeroValue20
  t37 := Tryd.underlying74
  a37 := Tryd.isAgg74
  z37 := Tryd.sizeOf74
  v37 := Tryd.zeroValue74
  t46 := Tryd.underlying46
  a46 := Tryd.isAgg46
  z46 := Tryd.sizeOf46
  v46 := Tryd.zeroValue46
  t51 := Tryd.underlying22
  a51 := Tryd.isAgg22
  z51 := Tryd.sizeOf22
  v51 := Tryd.zeroValue22
  t53 := Tryd.underlying27
  a53 := Tryd.isAgg27
  z53 := Tryd.sizeOf27
  v53 := Tryd.zeroValue27
  t171 := Tryd.underlying141
  a171 := Tryd.isAgg141
  z171 := Tryd.sizeOf141
  v171 := Tryd.zeroValue141
  t173 := Tryd.underlying143
  a173 := Tryd.isAgg143
  z173 := Tryd.sizeOf143
  v173 := Tryd.zeroValue143
  t212 := Tryd.underlying162
  a212 := Tryd.isAgg162
  z212 := Tryd.sizeOf162
  v212 := Tryd.zeroValue162
  t213 := Tryd.underlying163
  a213 := Tryd.isAgg163
  z213 := Tryd.sizeOf163
  t232 := Tryd.underlying169
  a232 := Tryd.isAgg169
  z232 := Tryd.sizeOf169
  v232 := Tryd.zeroValue169
  t233 := Tryd.underlying120
  a233 := Tryd.isAgg120
  z233 := Tryd.sizeOf120
  v233 := Tryd.zeroValue120
  g17 := by kernel_rfl
  g18 := by kernel_rfl
  g19 := by kernel_rfl
  i0 := by kernel_rfl
  i2 := by kernel_rfl
  i3 := by kernel_rfl
  i4 := by kernel_rfl
  i5 := by kernel_rfl
  i9 := by kernel_rfl
  i20 := by kernel_rfl
  i37 := by kernel_rfl
  i46 := by kernel_rfl
  i51 := by kernel_rfl
  i53 := by kernel_rfl
  i171 := by kernel_rfl
  i173 := by kernel_rfl
  i212 := by kernel_rfl
  i232 := by kernel_rfl
  i233 := by kernel_rfl
  m17 := by kernel_rfl
  m18 := by kernel_rfl
  m19 := by kernel_rfl }
open Go.RowKit Go.Sort Go.Lib in
/-- strconv.Itoa: "Itoa is equivalent to FormatInt(int64(i), 10).": i's DECIMAL NUMERAL ('Lib.itoa': a '-' where i is negative, then the digits), FOR EVERY int. The world behind the call: the world before it, new blocks behind the heap (the library's 'var a [24]byte'), draws. (LAID: no walk: one application.) -/
theorem Tryd.strconv_Itoa (n : Int) (h0 : -9223372036854775808 ≤ n) (h1 : n ≤ 9223372036854775807) (w : World) (htab : Lib.TabIs Tryd.prog w "internal/strconv.uint64pow10" .u64 Lib.pow10Tab) :
    Calls Tryd.prog 46 #[.int .i64 n] w fun e w' => e = .returned (.string ⟨(Lib.itoa n).toArray⟩) ∧ ∃ k os, w' = grow (w.drewN k) os := Any.strconv_Itoa Tryd.laysM171 n h0 h1 w htab
def Tryd.lays219_ren : Go.Shelf.Ren := ⟨fun | 219 => 93 | 217 => 89 | 225 => 116 | 224 => 117 | 267 => 118 | 266 => 109 | 314 => 131 | n => n, fun | 9 => 9 | 3 => 3 | 4 => 4 | 5 => 5 | 46 => 46 | 146 => 165 | 51 => 22 | n => n, fun | 1 => 1 | n => n⟩
theorem Tryd.lays219 : Go.Proofs.Lays.n219 Tryd.prog Tryd.lays219_ren := {
  mixed := by kernel_rfl
  f217 := Tryd.func89.trans (congrArg some (by kernel_rfl))
  f219 := Tryd.func93.trans (congrArg some (by kernel_rfl))
  f224 := Tryd.func117.trans (congrArg some (by kernel_rfl))
  f225 := Tryd.func116.trans (congrArg some (by kernel_rfl))
  f266 := Tryd.func109.trans (congrArg some (by kernel_rfl))
  f267 := Tryd.func118.trans (congrArg some (by kernel_rfl))
  f314 := Tryd.func131.trans (congrArg some (by kernel_rfl))
  t3 := Tryd.underlying3
  a3 := Tryd.isAgg3
  z3 := Tryd.sizeOf3
  v3 := Tryd.zeroValue3
  t4 := Tryd.underlying4
  a4 := Tryd.isAgg4
  z4 := Tryd.sizeOf4
  v4 := Tryd.zeroValue4
  t5 := Tryd.underlying5
  a5 := Tryd.isAgg5
  z5 := Tryd.sizeOf5
  v5 := Tryd.zeroValue5
  t9 := Tryd.underlying9
  a9 := Tryd.isAgg9
  z9 := Tryd.sizeOf9
  v9 := Tryd.zeroValue9
  t46 := Tryd.underlying46
  a46 := Tryd.isAgg46
  z46 := Tryd.sizeOf46
  v46 := Tryd.zeroValue46
  t51 := Tryd.underlying22
  a51 := Tryd.isAgg22
  z51 := Tryd.sizeOf22
  v51 := Tryd.zeroValue22
  t146 := Tryd.underlying165
  a146 := Tryd.isAgg165
  z146 := Tryd.sizeOf165
  v146 := Tryd.zeroValue165
  g1 := by kernel_rfl }
open Go.RowKit Go.Lib in
/-- internal/stringslite.Index (what strings.Index calls) AT A substr OF ONE BYTE c: IT RETURNS 'Lib.indexByte s c'; the world is as it was. (LAID: no walk: one application.) -/
theorem Tryd.stringslite_Index_one (s : ByteArray) (c : UInt8) (w : World) :
    Calls Tryd.prog 93 #[.string s, .string ⟨#[c]⟩] w fun e w' => e = .returned (.int .i64 (Lib.indexByte s.data.toList c)) ∧ w' = w := Any.stringslite_Index_one Tryd.lays219 s c w
def Tryd.lays145_ren : Go.Shelf.Ren := ⟨fun | 145 => 50 | 220 => 80 | 219 => 93 | 217 => 89 | 225 => 116 | 224 => 117 | 267 => 118 | 266 => 109 | 314 => 131 | n => n, fun | 9 => 9 | 4 => 4 | 59 => 86 | 3 => 3 | 5 => 5 | 46 => 46 | 146 => 165 | 51 => 22 | n => n, fun | 1 => 1 | n => n⟩
theorem Tryd.lays145 : Go.Proofs.Lays.n145 Tryd.prog Tryd.lays145_ren := {
  mixed := by kernel_rfl
  f145 := Tryd.func50.trans (congrArg some (by kernel_rfl))
  f217 := Tryd.func89.trans (congrArg some (by kernel_rfl))
  f219 := Tryd.func93.trans (congrArg some (by kernel_rfl))
  f220 := Tryd.func80.trans (congrArg some (by kernel_rfl))
  f224 := Tryd.func117.trans (congrArg some (by kernel_rfl))
  f225 := Tryd.func116.trans (congrArg some (by kernel_rfl))
  f266 := Tryd.func109.trans (congrArg some (by kernel_rfl))
  f267 := Tryd.func118.trans (congrArg some (by kernel_rfl))
  f314 := Tryd.func131.trans (congrArg some (by kernel_rfl))
  t3 := Tryd.underlying3
  a3 := Tryd.isAgg3
  z3 := Tryd.sizeOf3
  v3 := Tryd.zeroValue3
  t4 := Tryd.underlying4
  a4 := Tryd.isAgg4
  z4 := Tryd.sizeOf4
  v4 := Tryd.zeroValue4
  t5 := Tryd.underlying5
  a5 := Tryd.isAgg5
  z5 := Tryd.sizeOf5
  v5 := Tryd.zeroValue5
  t9 := Tryd.underlying9
  a9 := Tryd.isAgg9
  z9 := Tryd.sizeOf9
  v9 := Tryd.zeroValue9
  t46 := Tryd.underlying46
  a46 := Tryd.isAgg46
  z46 := Tryd.sizeOf46
  v46 := Tryd.zeroValue46
  t51 := Tryd.underlying22
  a51 := Tryd.isAgg22
  z51 := Tryd.sizeOf22
  v51 := Tryd.zeroValue22
  t59 := Tryd.underlying86
  a59 := Tryd.isAgg86
  z59 := Tryd.sizeOf86
  v59 := Tryd.zeroValue86
  t146 := Tryd.underlying165
  a146 := Tryd.isAgg165
  z146 := Tryd.sizeOf165
  v146 := Tryd.zeroValue165
  g1 := by kernel_rfl }
open Go.RowKit Go.Lib in
/-- strings.Cut: "Cut slices s around the first instance of sep, returning the text before and after sep. The found result reports whether sep appears in s. If sep does not appear in s, cut returns s, "", false.": IT RETURNS 'Lib.cut s sep'; the world is as it was but for the count of draws. (LAID: no walk: one application.) -/
theorem Tryd.strings_Cut (s sep : ByteArray) (m : Int) (w : World) (hs : s.size < 4294967281) (hm : w.cell? ⟨1, 0, none⟩ = some (.int .i64 m)) :
    Calls Tryd.prog 50 #[.string s, .string sep] w fun e w' => e = .returned (.tuple #[.string ⟨(Lib.cut s.data.toList sep.data.toList).1.toArray⟩, .string ⟨(Lib.cut s.data.toList sep.data.toList).2.1.toArray⟩, .bool (Lib.cut s.data.toList sep.data.toList).2.2]) ∧ ∃ n, w' = w.drewN n := Any.strings_Cut Tryd.lays145 s sep m w hs hm
def Tryd.laysM219_ren : Go.Shelf.Ren := ⟨fun | 219 => 93 | 217 => 89 | 225 => 116 | 224 => 117 | 267 => 118 | 266 => 109 | 314 => 131 | n => n, fun | 9 => 9 | 3 => 3 | 4 => 4 | 5 => 5 | 46 => 46 | 146 => 165 | 51 => 22 | n => n, fun | 1 => 1 | n => n⟩
theorem Tryd.laysM219 : Go.Proofs.LaysM.n219 Tryd.prog Tryd.laysM219_ren := {
  mixed := by kernel_rfl
  f217 := Tryd.func89.trans (congrArg some (by kernel_rfl))
  f219 := Tryd.func93.trans (congrArg some (by kernel_rfl))
  f224 := Tryd.func117.trans (congrArg some (by kernel_rfl))
  f225 := Tryd.func116.trans (congrArg some (by kernel_rfl))
  f266 := Tryd.func109.trans (congrArg some (by kernel_rfl))
  f267 := Tryd.func118.trans (congrArg some (by kernel_rfl))
  f314 := Tryd.func131.trans (congrArg some (by kernel_rfl))
  t3 := Tryd.underlying3
  a3 := Tryd.isAgg3
  z3 := Tryd.sizeOf3
  v3 := Tryd.zeroValue3
  t4 := Tryd.underlying4
  a4 := Tryd.isAgg4
  z4 := Tryd.sizeOf4
  v4 := Tryd.zeroValue4
  t5 := Tryd.underlying5
  a5 := Tryd.isAgg5
  z5 := Tryd.sizeOf5
  v5 := Tryd.zeroValue5
  t9 := Tryd.underlying9
  a9 := Tryd.isAgg9
  z9 := Tryd.sizeOf9
  v9 := Tryd.zeroValue9
  t46 := Tryd.underlying46
  a46 := Tryd.isAgg46
  z46 := Tryd.sizeOf46
  v46 := Tryd.zeroValue46
  t51 := Tryd.underlying22
  a51 := Tryd.isAgg22
  z51 := Tryd.sizeOf22
  v51 := Tryd.zeroValue22
  t146 := Tryd.underlying165
  a146 := Tryd.isAgg165
  z146 := Tryd.sizeOf165
  v146 := Tryd.zeroValue165
  g1 := by kernel_rfl
  i3 := by kernel_rfl
  i4 := by kernel_rfl
  i5 := by kernel_rfl
  i9 := by kernel_rfl
  i46 := by kernel_rfl
  i51 := by kernel_rfl
  i146 := by kernel_rfl
  m1 := by kernel_rfl
  s1_3 := fun w h => Go.Proofs.cell_of_shapedOpen_int (zero := #[.int .i64 0]) (t := 3) h (of_decide_eq_true (by kernel_rfl)) (by kernel_rfl) rfl (by kernel_rfl) (by kernel_rfl) Tryd.underlying3 }
def Tryd.lays146_ren : Go.Shelf.Ren := ⟨fun | 146 => 65 | 221 => 84 | 268 => 103 | 138 => 104 | 143 => 105 | 195 => 124 | 197 => 86 | 218 => 125 | 219 => 93 | 260 => 106 | 217 => 89 | 225 => 116 | 224 => 117 | 267 => 118 | 266 => 109 | 314 => 131 | n => n, fun | 9 => 9 | 31 => 39 | 3 => 3 | 4 => 4 | 0 => 0 | 105 => 125 | 21 => 21 | 5 => 5 | 46 => 46 | 119 => 156 | 139 => 159 | 138 => 158 | 146 => 165 | 51 => 22 | n => n, fun | 1 => 1 | 3 => 2 | 4 => 3 | n => n⟩
theorem Tryd.lays146 : Go.Proofs.Lays.n146 Tryd.prog Tryd.lays146_ren := {
  mixed := by kernel_rfl
  f138 := Tryd.func104.trans (congrArg some (by kernel_rfl))
  f143 := Tryd.func105.trans (congrArg some (by kernel_rfl))
  f146 := Tryd.func65.trans (congrArg some (by kernel_rfl))
  f195 := Tryd.func124.trans (congrArg some (by kernel_rfl))
  f197 := Tryd.func86.trans (congrArg some (by kernel_rfl))
  f217 := Tryd.func89.trans (congrArg some (by kernel_rfl))
  f218 := Tryd.func125.trans (congrArg some (by kernel_rfl))
  f219 := Tryd.func93.trans (congrArg some (by kernel_rfl))
  f221 := Tryd.func84.trans (congrArg some (by kernel_rfl))
  f224 := Tryd.func117.trans (congrArg some (by kernel_rfl))
  f225 := Tryd.func116.trans (congrArg some (by kernel_rfl))
  f260 := Tryd.func106.trans (congrArg some (by kernel_rfl))
  f266 := Tryd.func109.trans (congrArg some (by kernel_rfl))
  f267 := Tryd.func118.trans (congrArg some (by kernel_rfl))
  f268 := Tryd.func103.trans (congrArg some (by kernel_rfl))
  f314 := Tryd.func131.trans (congrArg some (by kernel_rfl))
  t0 := Tryd.underlying0
  a0 := Tryd.isAgg0
  z0 := Tryd.sizeOf0
  v0 := Tryd.zeroValue0
  t3 := Tryd.underlying3
  a3 := Tryd.isAgg3
  z3 := Tryd.sizeOf3
  v3 := Tryd.zeroValue3
  t4 := Tryd.underlying4
  a4 := Tryd.isAgg4
  z4 := Tryd.sizeOf4
  v4 := Tryd.zeroValue4
  t5 := Tryd.underlying5
  a5 := Tryd.isAgg5
  z5 := Tryd.sizeOf5
  v5 := Tryd.zeroValue5
  t9 := Tryd.underlying9
  a9 := Tryd.isAgg9
  z9 := Tryd.sizeOf9
  v9 := Tryd.zeroValue9
  t21 := Tryd.underlying21
  a21 := Tryd.isAgg21
  z21 := Tryd.sizeOf21
  v21 := Tryd.zeroValue21
  t31 := Tryd.underlying39
  a31 := Tryd.isAgg39
  z31 := Tryd.sizeOf39
  v31 := Tryd.zeroValue39
  t46 := Tryd.underlying46
  a46 := Tryd.isAgg46
  z46 := Tryd.sizeOf46
  v46 := Tryd.zeroValue46
  t51 := Tryd.underlying22
  a51 := Tryd.isAgg22
  z51 := Tryd.sizeOf22
  v51 := Tryd.zeroValue22
  t105 := Tryd.underlying125
  a105 := Tryd.isAgg125
  z105 := Tryd.sizeOf125
  v105 := Tryd.zeroValue125
  t119 := Tryd.underlying156
  a119 := Tryd.isAgg156
  z119 := Tryd.sizeOf156
  t138 := Tryd.underlying158
  a138 := Tryd.isAgg158
  z138 := Tryd.sizeOf158
  v138 := Tryd.zeroValue158
  t139 := Tryd.underlying159
  a139 := Tryd.isAgg159
  z139 := Tryd.sizeOf159
  v139 := Tryd.zeroValue159
  t146 := Tryd.underlying165
  a146 := Tryd.isAgg165
  z146 := Tryd.sizeOf165
  v146 := Tryd.zeroValue165
  g1 := by kernel_rfl
  g3 := by kernel_rfl
  g4 := by kernel_rfl }
open Go.RowKit Go.Lib in
/-- strings.Split. (LAID: no walk: one application.) -/
theorem Tryd.strings_Split (s sep : ByteArray) (m : Int) (w : World) (hs : s.size < 4294967281) (hm : w.cell? ⟨1, 0, none⟩ = some (.int .i64 m)) (h1 : 1 ≤ sep.size) :
    Calls Tryd.prog 65 #[.string s, .string sep] w fun e w' =>
      e = .returned (.slice (some ⟨w.heap.size, 0, none⟩) (Lib.countB s sep + 1) (Lib.countB s sep + 1)) ∧ w' = w.alloc (.cells ((Lib.splitB sep 0 (Lib.countB s sep) s).map Value.string).toArray 9) := Any.strings_Split Tryd.lays146 (by kernel_rfl) s sep m w hs hm h1
end Go.Proofs
/-! Oct -/
namespace Go.Proofs.YtgnahagnmodpdaaDoor
open Go.RowKit Go.Proofs.YtgnahagnmodpdaaDoorW.PrintWords
set_option linter.unusedVariables false
set_option linter.unusedSimpArgs false
theorem ret_int {k : IntKind} {a b : Int} (h : a = b) : Ending.returned (.int k a) = .returned (.int k b) := by rw [h]
theorem drawn_same {w w' : World} (h : w = w') : Drawn0 w w' := h ▸ Drawn0.refl w
/-- The digits to the base 36. -/
def digs : List UInt8 := [48, 49, 50, 51, 52, 53, 54, 55, 56, 57, 97, 98, 99, 100, 101, 102, 103, 104, 105, 106, 107, 108, 109, 110, 111, 112, 113, 114, 115, 116, 117, 118, 119, 120, 121, 122]
/-- What a byte says. -/
def digN (b : Int) : Int := if 48 ≤ b ∧ b ≤ 57 then b - 48 else if 65 ≤ b ∧ b ≤ 90 then b - 55 else if 97 ≤ b ∧ b ≤ 122 then b - 87 else -1
/-- .. to a base. -/
def digV (b base : Int) : Int := if base < 2 ∨ 36 < base then -1 else if digN b < base then digN b else -1
theorem idx_digs : ∀ n : Fin 256, Lib.indexByte digs (n.val.toUInt8) = digN (if 65 ≤ (n.val : Int) ∧ (n.val : Int) ≤ 90 then -1 else n.val) := by decide +kernel
theorem idx_of (b : Int) (h0 : 0 ≤ b) (h1 : b < 256) (h2 : ¬ (65 ≤ b ∧ b ≤ 90)) : Lib.indexByte digs b.toNat.toUInt8 = digN b := by
  obtain ⟨n, rfl⟩ := Int.eq_ofNat_of_zero_le h0
  have := idx_digs ⟨n, by omega⟩
  rw [if_neg (by simpa using h2)] at this
  simpa using this
theorem idx_up (b : Int) (h0 : 65 ≤ b) (h1 : b ≤ 90) : Lib.indexByte digs (b + 32).toNat.toUInt8 = digN b := by
  rw [idx_of (b + 32) (by omega) (by omega) (by omega)]
  unfold digN
  rw [if_neg (by omega), if_neg (by omega), if_pos (by omega), if_neg (by omega), if_pos (by omega)]
  omega
/-- The class of a byte. -/
def classV (b : Int) : Int :=
  if 48 ≤ b ∧ b ≤ 57 then 9 else if 65 ≤ b ∧ b ≤ 70 then 10 else if 97 ≤ b ∧ b ≤ 102 then 12 else if 65 ≤ b ∧ b ≤ 90 then 2 else if 97 ≤ b ∧ b ≤ 122 then 4 else if b < 32 ∨ b = 127 then 16 else if 127 < b then 32 else if b = 32 then 128 else 64
set_option maxHeartbeats 4000000 in
set_option maxRecDepth 100000 in
theorem class_walk (b : Int) (h0 : 0 ≤ b) (h1 : b < 256) (w : World) : Calls Tryd.prog 74 #[.int .u8 b] w fun e w' => e = .returned (.int .i64 (classV b)) ∧ w = w' := by
  go_enter Tryd.func74, Tryd.ntmps74
  go_wp2
  all_goals go_ret
  all_goals refine ⟨ret_int ?_, rfl⟩
  all_goals (try simp only [beq_iff_eq, beq_eq_false_iff_ne, ne_eq] at *)
  all_goals unfold classV
  all_goals (repeat' split)
  all_goals omega
theorem class_bits (b : Int) : (bits BinOp.and IntKind.i64 (classV b) 2 != 0) = decide (65 ≤ b ∧ b ≤ 90) := by
  unfold classV
  (repeat' split) <;> rw [eq_comm] <;> first
    | (rw [decide_eq_true (by omega)]; rfl)
    | (rw [decide_eq_false (by omega)]; rfl)
theorem digV_of {b base : Int} (h : ¬ (base < 2 ∨ 36 < base)) : digV b base = if digN b < base then digN b else -1 := if_neg h
theorem dig_case {b base i : Int} (h : ¬ (base < 2 ∨ 36 < base)) (hi : i = digN b) : (base ≤ i → digV b base = -1) ∧ (i < base → digV b base = i) := by
  rw [digV_of h, hi]
  exact ⟨fun h => if_neg (by omega), fun h => if_pos h⟩
theorem idx_up' (b : Int) (h : 65 ≤ b ∧ b ≤ 90) : Lib.indexByte [48, 49, 50, 51, 52, 53, 54, 55, 56, 57, 97, 98, 99, 100, 101, 102, 103, 104, 105, 106, 107, 108, 109, 110, 111, 112, 113, 114, 115, 116, 117, 118, 119, 120, 121, 122] (UInt8.ofNat ((b + 32) % 256).toNat) = digN b := by
  rw [show (b + 32) % 256 = b + 32 by omega]
  exact idx_up b h.1 h.2
theorem idx_lo' (b : Int) (h0 : 0 ≤ b) (h1 : b < 256) (h : ¬ (65 ≤ b ∧ b ≤ 90)) : Lib.indexByte [48, 49, 50, 51, 52, 53, 54, 55, 56, 57, 97, 98, 99, 100, 101, 102, 103, 104, 105, 106, 107, 108, 109, 110, 111, 112, 113, 114, 115, 116, 117, 118, 119, 120, 121, 122] (UInt8.ofNat b.toNat) = digN b :=
  idx_of b h0 h1 h
set_option maxHeartbeats 4000000 in
set_option maxRecDepth 100000 in
theorem digit_walk (b base : Int) (h0 : 0 ≤ b) (h1 : b < 256) (w : World) : Calls Tryd.prog 44 #[.int .u8 b, .int .i64 base] w fun e w' => e = .returned (.int .i64 (digV b base)) ∧ w = w' := by
  have HB := class_bits b
  have HC := Aside0.mk HB
  clear HB
  go_enter Tryd.func44, Tryd.ntmps44
  go_wp2_with (first | (go_at_call 74; refine (class_walk b h0 h1 _).mono ?_; rintro e w' ⟨rfl, rfl⟩) | (go_at_call 75; refine (Tryd.strings_IndexByte _ _ _).mono ?_; rintro e w' ⟨rfl, rfl⟩))
  all_goals go_ret
  all_goals refine ⟨ret_int ?_, rfl⟩
  all_goals go_tidy
  all_goals have hB := HC.out
  all_goals clear HC
  all_goals first
    | (rw [show digV b base = -1 from if_pos (by omega)])
    | (rw [‹(bits BinOp.and IntKind.i64 (classV b) 2 != 0) = true›] at hB
       have hu := of_decide_eq_true hB.symm
       have e := idx_up' b hu
       simp only [e] at *
       first | exact ((dig_case (by omega) rfl).1 (by omega)).symm | exact ((dig_case (by omega) rfl).2 (by omega)).symm)
    | (rw [‹(bits BinOp.and IntKind.i64 (classV b) 2 != 0) = false›] at hB
       have hu := of_decide_eq_false hB.symm
       have e := idx_lo' b h0 h1 hu
       simp only [e] at *
       first | exact ((dig_case (by omega) rfl).1 (by omega)).symm | exact ((dig_case (by omega) rfl).2 (by omega)).symm)
    | trace_state
end Go.Proofs.YtgnahagnmodpdaaDoor
/-! Bytes -/
namespace Go.Proofs.YtgnahagnmodpdaaDoor
open Go.RowKit Go.Proofs.YtgnahagnmodpdaaDoorW.PrintWords
set_option linter.unusedVariables false
set_option linter.unusedSimpArgs false
/-- A list of bytes as a text. -/
def BA (l : List UInt8) : ByteArray := ⟨l.toArray⟩
theorem ba_list (l : List UInt8) : (BA l).data.toList = l := rfl
theorem ba_of (s : ByteArray) : BA s.data.toList = s := Lib.mk_data s
theorem ba_size (l : List UInt8) : (BA l).size = l.length := rfl
theorem ba_ext {a b : ByteArray} (h : a.data.toList = b.data.toList) : a = b := by rw [← ba_of a, ← ba_of b, h]
theorem extract_ba (s : ByteArray) (a b : Nat) : s.extract a b = BA ((s.data.toList.drop a).take (b - a)) := ba_ext (Lib.extract_data s a b)
theorem extract_tail (s : ByteArray) (a : Nat) : s.extract a s.size = BA (s.data.toList.drop a) := ba_ext (Lib.extract_to_end s a)
theorem extract_head (s : ByteArray) (a : Nat) : s.extract 0 a = BA (s.data.toList.take a) := by rw [extract_ba]; simp
theorem toList_data (s : ByteArray) : s.toList = s.data.toList := ByteArray.toList_eq s
theorem bt_get (s : ByteArray) (k : Nat) (h : k < s.data.toList.length) : bt s (k : Int) = ((s.data.toList[k]'h).toNat : Int) := by
  have hk : k < s.size := by rw [Lib.size_eq]; exact h
  have := bt_at s (k : Int) (by simpa using hk)
  rw [← this]
  rfl
theorem size_len (s : ByteArray) : s.size = s.data.toList.length := Lib.size_eq s
theorem byte_eq (a b : UInt8) : ((a.toNat : Int) = (b.toNat : Int)) ↔ a = b := by
  rw [Int.natCast_inj]
  exact UInt8.toNat_inj
/-- A list cut at each byte c. -/
def splitC (c : UInt8) : List UInt8 → List (List UInt8)
  | [] => [[]]
  | b :: l => if b = c then [] :: splitC c l else
    match splitC c l with
    | [] => [[b]]
    | p :: ps => (b :: p) :: ps
/-- p ahead of the first piece. -/
def ahead1 (p : List UInt8) : List (List UInt8) → List (List UInt8)
  | [] => [p]
  | q :: qs => (p ++ q) :: qs
theorem splitC_ne (c : UInt8) (l : List UInt8) : splitC c l ≠ [] := by
  cases l with
  | nil => simp [splitC]
  | cons b l =>
    unfold splitC
    split
    · simp
    · split <;> simp
theorem splitC_eq (c : UInt8) (l : List UInt8) : splitC c (c :: l) = [] :: splitC c l := by rw [splitC, if_pos rfl]
theorem splitC_cons {c b : UInt8} (h : b ≠ c) (l : List UInt8) : splitC c (b :: l) = ahead1 [b] (splitC c l) := by
  rw [splitC, if_neg h]
  cases splitC c l <;> rfl
theorem splitC_len (c : UInt8) (l : List UInt8) : (splitC c l).length ≤ l.length + 1 := by
  induction l with
  | nil => simp [splitC]
  | cons b l ih =>
    unfold splitC
    split
    · simp; omega
    · split
      · simp
      · rename_i h; rw [h] at ih; simp at *; omega
theorem split_one (c : UInt8) : ∀ l : List UInt8, Lib.split l [c] = splitC c l
  | [] => by simp [Lib.split, Lib.count_one, Lib.splitK, splitC]
  | b :: l => by
    have ih := split_one c l
    unfold Lib.split at *
    by_cases h : b = c
    · subst h
      rw [Lib.count_cons_eq, Nat.add_comm, Lib.splitK, splitC_eq, ← ih]
      have : Lib.index (b :: l) [b] = 0 := by rw [Lib.index]; simp [List.isPrefixOf]
      rw [this]
      simp
    · rw [Lib.count_cons_ne b c l h, splitC_cons h, ← ih]
      have hix : Lib.index (b :: l) [c] = if Lib.index l [c] == -1 then -1 else Lib.index l [c] + 1 := by
        rw [Lib.index]
        simp [List.isPrefixOf, Ne.symm h]
      generalize hk : Lib.count l [c] = k
      cases k with
      | zero => rfl
      | succ k =>
        rw [Lib.splitK, Lib.splitK, hix]
        have hge := Lib.index_ge l [c]
        by_cases hm : Lib.index l [c] = -1
        · simp [hm, ahead1]
        · rw [if_neg (by simp; omega), if_neg (by simpa using hm), if_neg (by simpa using hm)]
          have e : (Lib.index l [c] + 1).toNat = (Lib.index l [c]).toNat + 1 := by omega
          rw [e]
          simp [ahead1]
/-- The library's split at one byte. -/
theorem splitB_one (s : ByteArray) (c : UInt8) : Lib.splitB (BA [c]) 0 (Lib.countB s (BA [c])) s = (splitC c s.data.toList).map BA := by
  have h : (Lib.splitB (BA [c]) 0 (Lib.countB s (BA [c])) s).map (fun x => x.data.toList) = Lib.split s.data.toList [c] := Lib.splitB_data (BA [c]) 0 (Lib.countB s (BA [c])) s
  rw [← split_one, ← h, List.map_map]
  rw [show (BA ∘ fun x => x.data.toList) = id from funext fun x => ba_of x, List.map_id]
theorem rd_map (L : List (List UInt8)) (i : Nat) (hi : i < L.length) : rdOf ByteArray.empty (L.map BA) (i : Int) = BA L[i] := by
  unfold rdOf
  rw [Int.toNat_natCast, List.getD_eq_getElem?_getD, List.getElem?_map, List.getElem?_eq_getElem hi]
  rfl
theorem splitC_part (c : UInt8) (l : List UInt8) : ∀ w ∈ splitC c l, w.length ≤ l.length := by
  induction l with
  | nil => intro w hw; simp [splitC] at hw; simp [hw]
  | cons b l ih =>
    intro w hw
    by_cases hb : b = c
    · subst hb
      rw [splitC_eq] at hw
      rcases List.mem_cons.1 hw with rfl | hw
      · simp
      · have := ih w hw; simp; omega
    · rw [splitC_cons hb] at hw
      cases hL : splitC c l with
      | nil => exact absurd hL (splitC_ne c l)
      | cons p ps =>
        rw [hL] at hw ih
        simp only [ahead1] at hw
        rcases List.mem_cons.1 hw with rfl | hw
        · have := ih p (by simp); simp at *; omega
        · have := ih w (by simp [hw]); simp; omega
end Go.Proofs.YtgnahagnmodpdaaDoor
/-! DigL -/
namespace Go.Proofs.YtgnahagnmodpdaaDoor
open Go.RowKit Go.Proofs.YtgnahagnmodpdaaDoorW.PrintWords
set_option linter.unusedVariables false
set_option linter.unusedSimpArgs false
theorem digV_lt {b base : Int} (h : 2 ≤ base) : digV b base < base := by
  unfold digV
  repeat' split
  all_goals omega
end Go.Proofs.YtgnahagnmodpdaaDoor
/-! Given -/
namespace Go.Proofs.YtgnahagnmodpdaaDoor
open Go.RowKit Go.Proofs.YtgnahagnmodpdaaDoorW.PrintWords
set_option linter.unusedVariables false
def octet_Digit.f (a0 a1 : Int) : Option Int := if 0 ≤ a0 ∧ a0 < 256 then some (digV a0 a1) else none
theorem octet_Digit.calls (a0 a1 : Int) (r : Int) (w : World) (h : octet_Digit.f a0 a1 = some r) :
    Calls Tryd.prog 44 #[.int .u8 a0, .int .i64 a1] w fun e w' => e = .returned (.int .i64 r) ∧ Drawn0 w w' := by
  unfold octet_Digit.f at h
  by_cases hs : 0 ≤ a0 ∧ a0 < 256
  · rw [if_pos hs] at h
    obtain rfl := Option.some.inj h
    exact (digit_walk a0 a1 hs.1 hs.2 w).mono fun e w' ⟨he, hw⟩ => ⟨he, drawn_same hw⟩
  · rw [if_neg hs] at h
    cases h
end Go.Proofs.YtgnahagnmodpdaaDoor
/-! X0 -/
namespace Go.Proofs.YtgnahagnmodpdaaDoor.X
open Go.RowKit Go.Proofs.YtgnahagnmodpdaaDoorW.PrintWords Go.Proofs.YtgnahagnmodpdaaDoorW.PrintLast Go.Proofs.YtgnahagnmodpdaaDoorW.PrintMore
attribute [local go_sem] max2_int min2_int max_two min_two max_three min_three max_four min_four
set_option linter.unusedVariables false
set_option linter.unusedSimpArgs false
def errW : Option Int → Value
  | none => .nilIface
  | some c => .iface 0 (.int .i64 c)
theorem errW_none : errW none = .nilIface := rfl
theorem errW_some (c : Int) : errW (some c) = .iface 0 (.int .i64 c) := rfl
theorem info9 : (Tryd.prog.info? 9).map (fun i => (i.zero, i.size, i.bytes)) = some (some (.string ⟨#[]⟩), 1, 16) := by kernel_rfl
end Go.Proofs.YtgnahagnmodpdaaDoor.X
/-! Str -/
namespace Go.Proofs.YtgnahagnmodpdaaDoor
open Go.RowKit Go.Proofs.YtgnahagnmodpdaaDoorW.PrintWords
set_option linter.unusedVariables false
set_option linter.unusedSimpArgs false
/-- What is asked of the library's variables: bytealg.MaxLen is a number. -/
structure GW (w : World) : Prop where
  maxLen : ∃ m : Int, w.cell? ⟨1, 0, none⟩ = some (.int .i64 m)
  pow10 : Lib.TabIs Tryd.prog w "internal/strconv.uint64pow10" .u64 Lib.pow10Tab
  tz : Lib.TabIs Tryd.prog w "math/bits.deBruijn64tab" .u8 (Lib.deBruijn64tab.map fun n : Nat => (n : Int))
theorem maxLen_keep {w w' : World} (h : ∃ m : Int, w.cell? ⟨1, 0, none⟩ = some (.int .i64 m)) (hb : Below w.heap.size w w') : ∃ m : Int, w'.cell? ⟨1, 0, none⟩ = some (.int .i64 m) := by
  obtain ⟨m, hm⟩ := h
  refine ⟨m, ?_⟩
  rw [hb.cell (p := ⟨1, 0, none⟩) (World.block_lt_of_cell? w _ hm)]
  exact hm
theorem tab_keep {w w' : World} {name : String} {k : IntKind} {l : List Int} (h : Lib.TabIs Tryd.prog w name k l) (hb : Below w.heap.size w w') : Lib.TabIs Tryd.prog w' name k l := Lib.tabBelow_of_tabIs h w' hb
theorem GW.keep {w w' : World} (h : GW w) (hb : Below w.heap.size w w') : GW w' where
  maxLen := maxLen_keep h.maxLen hb
  pow10 := tab_keep h.pow10 hb
  tz := tab_keep h.tz hb
set_option maxHeartbeats 1000000 in
set_option maxRecDepth 100000 in
theorem lite_cut_one (s : ByteArray) (c : UInt8) (hs : s.size ≤ 9223372036854775807) (w : World) :
    Calls Tryd.prog 80 #[.string s, .string ⟨#[c]⟩] w fun e w' => e = .returned (.tuple #[.string ⟨(Lib.cut s.data.toList [c]).1.toArray⟩, .string ⟨(Lib.cut s.data.toList [c]).2.1.toArray⟩, .bool (Lib.cut s.data.toList [c]).2.2]) ∧ ∃ n, w' = w.drewN n := by
  have hI := Tryd.stringslite_Index_one s c
  rw [← Lib.index_one] at hI
  have HI := Aside0.mk hI
  clear hI
  rcases Lib.indexB_cases s ⟨#[c]⟩ with hix | ⟨i, hix, hroom⟩
  · obtain ⟨e1, e2, e3⟩ := Lib.cutB_miss s ⟨#[c]⟩ hix
    rw [show ([c] : List UInt8) = (⟨#[c]⟩ : ByteArray).data.toList from rfl, e1, e2, e3]
    have hix' : Lib.index s.data.toList [c] = _ := hix
    rw [hix'] at HI
    clear hix hix' e1 e2 e3
    go_enter Tryd.func80, Tryd.ntmps80
    go_wp2_with (go_at_call 93; refine (HI.out _).mono ?_; rintro e w' ⟨rfl, rfl⟩)
    go_ret3
    exact ⟨rfl, 0, rfl⟩
  · obtain ⟨e1, e2, e3⟩ := Lib.cutB_hit s ⟨#[c]⟩ i hix
    rw [show ([c] : List UInt8) = (⟨#[c]⟩ : ByteArray).data.toList from rfl, e1, e2, e3]
    have hix' : Lib.index s.data.toList [c] = _ := hix
    rw [hix'] at HI
    have hr : i + 1 ≤ s.size := hroom
    have c1 : (0 : Int) ≤ ↑i := by omega
    have c2 : (↑i : Int) ≤ ↑s.size := by omega
    have c3 : (0 : Int) ≤ ↑i + 1 := by omega
    have c4 : (↑i + 1 : Int) ≤ ↑s.size := by omega
    clear hix hix' e1 e2 e3
    go_enter Tryd.func80, Tryd.ntmps80
    go_wp2_with (go_at_call 93; refine (HI.out _).mono ?_; rintro e w' ⟨rfl, rfl⟩)
    go_region
    all_goals go_wp2_with fail
    go_ret3
    exact ⟨rfl, 1, rfl⟩
set_option maxHeartbeats 1000000 in
set_option maxRecDepth 100000 in
theorem cut_one (s : ByteArray) (c : UInt8) (hs : s.size ≤ 9223372036854775807) (w : World) :
    Calls Tryd.prog 50 #[.string s, .string ⟨#[c]⟩] w fun e w' => e = .returned (.tuple #[.string ⟨(Lib.cut s.data.toList [c]).1.toArray⟩, .string ⟨(Lib.cut s.data.toList [c]).2.1.toArray⟩, .bool (Lib.cut s.data.toList [c]).2.2]) ∧ ∃ n, w' = w.drewN n := by
  have HC := Aside0.mk (lite_cut_one s c hs)
  generalize Lib.cut s.data.toList [c] = r at HC ⊢
  go_enter Tryd.func50, Tryd.ntmps50
  go_wp2_with (go_at_call 80; refine (HC.out _).mono ?_; rintro e w' ⟨rfl, n, rfl⟩)
  go_ret3
  exact ⟨rfl, _, rfl⟩
def strings_Cut.f (a0 a1 : ByteArray) : Option (ByteArray × ByteArray × Bool) :=
  if a0.size < 4294967281 ∨ a1.size = 1 ∧ a0.size ≤ 9223372036854775807 then some (⟨(Lib.cut a0.data.toList a1.data.toList).1.toArray⟩, ⟨(Lib.cut a0.data.toList a1.data.toList).2.1.toArray⟩, (Lib.cut a0.data.toList a1.data.toList).2.2) else none
theorem strings_Cut.calls (a0 a1 : ByteArray) (r1 r2 : ByteArray) (r3 : Bool) (w : World) (hG : GW w) (h : strings_Cut.f a0 a1 = some (r1, r2, r3)) :
    Calls Tryd.prog 50 #[.string a0, .string a1] w fun e w' => e = .returned (.tuple #[.string r1, .string r2, .bool r3]) ∧ Drawn0 w w' := by
  unfold strings_Cut.f at h
  by_cases hs : a0.size < 4294967281 ∨ a1.size = 1 ∧ a0.size ≤ 9223372036854775807
  · rw [if_pos hs] at h
    injection h with h
    injection h with h1 h2
    injection h2 with h2 h3
    subst h1 h2 h3
    rcases hs with hs | ⟨h1, hs⟩
    · obtain ⟨m, hm⟩ := hG.maxLen
      refine (Tryd.strings_Cut a0 a1 m w hs hm).mono ?_
      rintro e w' ⟨rfl, hw⟩
      exact ⟨rfl, ⟨hw⟩⟩
    · obtain ⟨⟨l⟩⟩ := a1
      match l, h1 with
      | [c], _ =>
        refine (cut_one a0 c hs w).mono ?_
        rintro e w' ⟨rfl, hw⟩
        exact ⟨rfl, ⟨hw⟩⟩
  · rw [if_neg hs] at h
    cases h
/-- A row of strings of the call's own. -/
theorem kd_strings {w : World} {base : Nat} {e : TypeId} {v : Value} {n : Nat} {xs : List ByteArray} (h : w.ownsRow base e 1 v n (xs.map Value.string)) : Kd.R Kd.string e w base (fun _ => True) v xs := by
  have hn : n = xs.length := by simpa using h.1.symm
  subst hn
  refine ⟨fun _ _ => trivial, xs.map Value.string, h, by show (xs.map Value.string).length = xs.length * 1; simp, fun j p hj => ?_⟩
  show ((xs.map Value.string).drop (j * 1)).take 1 = [Value.string p]
  have hj' : j < xs.length := by
    rcases Nat.lt_or_ge j xs.length with h | h
    · exact h
    · rw [List.getElem?_eq_none h] at hj; cases hj
  rw [List.getElem?_eq_getElem hj'] at hj
  obtain rfl := Option.some.inj hj
  rw [Nat.mul_one, List.drop_eq_getElem_cons (by simpa using hj')]
  simp
/-- A block that was just made, whole. -/
theorem own_made (w : World) (base : Nat) (e : TypeId) (cs : List Value) (h : cs.length ≤ maxLen) (hb : base ≤ w.heap.size) : (w.alloc (.cells cs.toArray e)).ownsRow base e 1 (.slice (some ⟨w.heap.size, 0, none⟩) cs.length cs.length) cs.length cs :=
  ⟨by simp, .inr ⟨w.heap.size, cs.length, cs.toArray, rfl, hb, by simpa using heap_alloc_new w _, Nat.le_refl _, h, by simp, by simp⟩⟩
def strings_Split.f (a0 a1 : ByteArray) : Option (List ByteArray) :=
  if a0.size < 4294967281 ∧ 1 ≤ a1.size then some (Lib.splitB a1 0 (Lib.countB a0 a1) a0) else none
theorem strings_Split.calls (a0 a1 : ByteArray) (r : List ByteArray) (w : World) (hG : GW w) (h : strings_Split.f a0 a1 = some r) :
    Calls Tryd.prog 65 #[.string a0, .string a1] w fun e w' => ∃ v0_ : Value, e = .returned v0_ ∧ Kd.R Kd.string 9 w' w.heap.size (fun _ => True) v0_ r ∧ Below w.heap.size w w' := by
  unfold strings_Split.f at h
  by_cases hs : a0.size < 4294967281 ∧ 1 ≤ a1.size
  · rw [if_pos hs] at h
    obtain rfl := Option.some.inj h
    obtain ⟨m, hm⟩ := hG.maxLen
    refine (Tryd.strings_Split a0 a1 m w hs.1 hm hs.2).mono ?_
    rintro e w' ⟨rfl, rfl⟩
    have hl := Lib.splitB_all a1 hs.2 0 _ a0 rfl
    have hc := Lib.countB_le a1 hs.2 _ a0 (Nat.le_refl _)
    refine ⟨_, rfl, kd_strings (n := Lib.countB a0 a1 + 1) ?_, (Below.refl _ _).alloc (Nat.le_refl _) _⟩
    have := own_made w w.heap.size 9 ((Lib.splitB a1 0 (Lib.countB a0 a1) a0).map Value.string) (by rw [List.length_map, hl]; unfold maxLen; omega) (Nat.le_refl _)
    rw [List.length_map, hl] at this
    exact this
  · rw [if_neg hs] at h
    cases h
def strings_Trim.f (a0 a1 : ByteArray) : Option ByteArray :=
  if a0.size ≤ 9223372036854775807 ∧ a1.size < 4294967281 ∧ a1.data.toList.all (fun b => decide (b.toNat < 128)) = true then some ⟨(Lib.trimS a0.data.toList a1.data.toList).toArray⟩ else none
theorem strings_Trim.calls (a0 a1 : ByteArray) (r : ByteArray) (w : World) (h : strings_Trim.f a0 a1 = some r) :
    Calls Tryd.prog 42 #[.string a0, .string a1] w fun e w' => e = .returned (.string r) ∧ Below w.heap.size w w' := by
  unfold strings_Trim.f at h
  by_cases hs : a0.size ≤ 9223372036854775807 ∧ a1.size < 4294967281 ∧ a1.data.toList.all (fun b => decide (b.toNat < 128)) = true
  · rw [if_pos hs] at h
    obtain rfl := Option.some.inj h
    exact Any.strings_Trim_laid Tryd.lays160 (by kernel_rfl) a0 a1 w hs.1 hs.2.1 (ascii_of_all hs.2.2)
  · rw [if_neg hs] at h
    cases h
end Go.Proofs.YtgnahagnmodpdaaDoor
/-! X2 -/
namespace Go.Proofs.YtgnahagnmodpdaaDoor.X
open Go.RowKit Go.Proofs.YtgnahagnmodpdaaDoorW.PrintWords Go.Proofs.YtgnahagnmodpdaaDoorW.PrintLast Go.Proofs.YtgnahagnmodpdaaDoorW.PrintMore
attribute [local go_sem] max2_int min2_int max_two min_two max_three min_three max_four min_four
set_option linter.unusedVariables false
set_option linter.unusedSimpArgs false
def stringslite_HasPrefix.f (a0 : ByteArray) (a1 : ByteArray) : Option (Bool) := if (a0.size : Int) ≥ (a1.size : Int) then (if 0 ≤ (a1.size : Int) then (if (a1.size : Int) ≤ (a0.size : Int) then (some ((a0.extract 0 ((a1.size : Int) : Int).toNat).toList == a1.toList)) else (none)) else (none)) else (some false)
set_option maxHeartbeats 8000000 in
set_option maxRecDepth 100000 in
theorem stringslite_HasPrefix.calls (a0 : ByteArray) (a1 : ByteArray) (r : Bool) (w : World) (h : stringslite_HasPrefix.f a0 a1 = some r) :
    Calls Tryd.prog 73 #[.string a0, .string a1] w fun e w' => e = .returned (.bool r) ∧ Drawn0 w w' := by
  have H : (if (a0.size : Int) ≥ (a1.size : Int) then (if 0 ≤ (a1.size : Int) then (if (a1.size : Int) ≤ (a0.size : Int) then (some ((a0.extract 0 ((a1.size : Int) : Int).toNat).toList == a1.toList)) else (none)) else (none)) else (some false)) = some r := h
  clear h
  by_cases c3 : (a0.size : Int) ≥ (a1.size : Int)
  · rw [if_pos c3] at H
    have c3b0 : decide ((a1.size : Int) ≤ (a0.size : Int)) = true := decide_eq_true c3
    have c3b1 : decide (a1.size ≤ a0.size) = true := decide_eq_true (Int.ofNat_le.mp c3)
    clear c3
    by_cases c4 : 0 ≤ (a1.size : Int)
    · rw [if_pos c4] at H
      have c4b0 := eq_true c4
      have c4b1 : decide (0 ≤ (a1.size : Int)) = true := decide_eq_true c4
      clear c4
      by_cases c5 : (a1.size : Int) ≤ (a0.size : Int)
      · rw [if_pos c5] at H
        have c5b0 := eq_true c5
        have c5b1 : decide ((a1.size : Int) ≤ (a0.size : Int)) = true := decide_eq_true c5
        clear c5
        obtain rfl := Option.some.inj H
        go_enter Tryd.func73, Tryd.ntmps73
        go_wp2
        go_ret
        exact ⟨by first | rfl | (simp; done) | (simp [*]; done), by repeat (first | exact Drawn0.refl _ | apply Drawn0.step)⟩
      · rw [if_neg c5] at H
        exact absurd H (by simp)
    · rw [if_neg c4] at H
      exact absurd H (by simp)
  · rw [if_neg c3] at H
    have c3b0 : decide ((a1.size : Int) ≤ (a0.size : Int)) = false := decide_eq_false c3
    have c3b1 : decide (a1.size ≤ a0.size) = false := decide_eq_false (fun h => c3 (Int.ofNat_le.mpr h))
    clear c3
    obtain rfl := Option.some.inj H
    go_enter Tryd.func73, Tryd.ntmps73
    go_wp2
    go_ret
    exact ⟨by first | rfl | (simp; done) | (simp [*]; done), by repeat (first | exact Drawn0.refl _ | apply Drawn0.step)⟩
def strings_HasPrefix.f (a0 : ByteArray) (a1 : ByteArray) : Option (Bool) := (stringslite_HasPrefix.f a0 a1).bind fun t101 => (some t101)
set_option maxHeartbeats 8000000 in
set_option maxRecDepth 100000 in
theorem strings_HasPrefix.calls (a0 : ByteArray) (a1 : ByteArray) (r : Bool) (w : World) (h : strings_HasPrefix.f a0 a1 = some r) :
    Calls Tryd.prog 43 #[.string a0, .string a1] w fun e w' => e = .returned (.bool r) ∧ Drawn0 w w' := by
  have H : ((stringslite_HasPrefix.f a0 a1).bind fun t101 => (some t101)) = some r := h
  clear h
  replace H := Option.bind_eq_some_iff.mp H
  obtain ⟨t101, A30, H⟩ := H
  replace H : (some t101) = some r := H
  have A3 := Aside0.mk A30
  clear A30
  obtain rfl := Option.some.inj H
  go_enter Tryd.func43, Tryd.ntmps43
  go_wp2_with (first | ((with_reducible refine gate_callee (f := 73) rfl ?_); refine goesL_ (some 7) rfl rfl Tryd.func73 (by kernel_rfl) rfl #[.string a0, .string a1] rfl (by (try simp only [List.map_toArray, List.map_cons, List.map_nil]); first | done | rfl | (simp only [List.length_drop, List.length_take]; rfl)) ?_; (with_reducible refine (stringslite_HasPrefix.calls a0 a1 t101 _ A3.out).mono ?_); rintro e w' ⟨rfl, ⟨nd, rfl⟩⟩; refine ⟨_, rfl, ?_⟩))
  go_ret
  exact ⟨by first | rfl | (simp; done) | (simp [*]; done), by repeat (first | exact Drawn0.refl _ | apply Drawn0.step)⟩
mutual
def four_Number.j1 : Nat → Int → ByteArray → Option (Int × Int × Int)
  | 0, _, _ => none
  | k + 1, x5, x6 => four_Number.l0 k x5 x6 0 (x6.size : Int) 0
def four_Number.l0 : Nat → Int → ByteArray → Int → Int → Int → Option (Int × Int × Int)
  | 0, _, _, _, _, _ => none
  | k + 1, x5, x6, x7, x34, x35 => if x35 < x34 then (if 0 ≤ x35 then (if x35 < (x6.size : Int) then ((octet_Digit.f (bt x6 x35) x5).bind fun t104 => (if t104 < 0 then (some (0, 0, 200)) else (four_Number.l0 k x5 x6 (mn (IntKind.u64.wrap ((IntKind.u64.wrap (x7 * (IntKind.u64.wrap (x5)))) + (IntKind.u64.wrap (t104)))) 4294967296) x34 (wrap64 (x35 + 1))))) else (none)) else (none)) else (some (x7, x5, 0))
def four_Number.j0 : Nat → ByteArray → Int → ByteArray → Bool → Option (Int × Int × Int)
  | 0, _, _, _, _ => none
  | k + 1, x0, x5, x6, x13 => if x13 = true then (if 2 ≤ (x0.size : Int) then (four_Number.j1 k 16 (x0.extract 2 x0.size)) else (none)) else (if (x0.size : Int) > 1 then (if 0 < (x0.size : Int) then (if (bt x0 0) = 48 then (if 1 ≤ (x0.size : Int) then (four_Number.j1 k 8 (x0.extract 1 x0.size)) else (none)) else (four_Number.j1 k x5 x6)) else (none)) else (four_Number.j1 k x5 x6))
end
def four_Number.f (k : Nat) (a0 : ByteArray) : Option (Int × Int × Int) := if a0.toList = ([] : List UInt8) then (some (0, 0, 200)) else ((strings_HasPrefix.f a0 (⟨#[48, 120]⟩ : ByteArray)).bind fun t102 => (if t102 = true then (four_Number.j0 k a0 10 a0 true) else ((strings_HasPrefix.f a0 (⟨#[48, 88]⟩ : ByteArray)).bind fun t103 => (four_Number.j0 k a0 10 a0 t103))))
set_option maxHeartbeats 8000000 in
set_option maxRecDepth 100000 in
theorem four_Number.calls (k : Nat) (a0 : ByteArray) (r1 : Int) (r2 : Int) (r3 : Int) (w : World) (h : four_Number.f k a0 = some (r1, r2, r3)) :
    Calls Tryd.prog 15 #[.string a0] w fun e w' => e = .returned (.tuple #[.int .u64 r1, .int .i64 r2, .int .i64 r3]) ∧ Below w.heap.size w w' := by
  have HB := Aside0.mk (Below.refl w.heap.size w)
  have H : (if a0.toList = ([] : List UInt8) then (some (0, 0, 200)) else ((strings_HasPrefix.f a0 (⟨#[48, 120]⟩ : ByteArray)).bind fun t102 => (if t102 = true then (four_Number.j0 k a0 10 a0 true) else ((strings_HasPrefix.f a0 (⟨#[48, 88]⟩ : ByteArray)).bind fun t103 => (four_Number.j0 k a0 10 a0 t103))))) = some (r1, r2, r3) := h
  clear h
  by_cases c2 : a0.toList = ([] : List UInt8)
  · rw [if_pos c2] at H
    have c2b0 : (a0.toList == ([] : List UInt8)) = true := beq_iff_eq.mpr c2
    have c2b1 : (a0.toList != ([] : List UInt8)) = false := bne_eq_false_iff_eq.mpr c2
    clear c2
    simp only [Option.some.injEq, Prod.mk.injEq] at H
    obtain ⟨rfl, rfl, rfl⟩ := H
    go_enter Tryd.func15, Tryd.ntmps15
    go_wp2
    repeat (go_quiet (fail); try go_wp2)
    go_ret3
    exact ⟨by first | rfl | (simp [errW_none, errW_some] <;> rfl) | (simp [*, errW_none, errW_some] <;> rfl), by repeat (first | (with_reducible first | exact HB.out | apply below_alloc | apply pw_below_drewN | apply below_drew1) | exact HB.out)⟩
  · rw [if_neg c2] at H
    have c2b0 : (a0.toList == ([] : List UInt8)) = false := beq_eq_false_iff_ne.mpr c2
    have c2b1 : (a0.toList != ([] : List UInt8)) = true := bne_iff_ne.mpr c2
    have HC3 := Aside0.mk H
    clear H
    go_enter Tryd.func15, Tryd.ntmps15
    go_upto_block 0 with (fail)
    repeat (go_quiet (fail); go_upto_block 0 with (fail))
    go_cut [5, 6] (fun v5 v6 wc => ∃ (kq : Nat) (x5_2 : Int) (x6_2 : ByteArray), v5 = .int .i64 x5_2 ∧ v6 = .string x6_2 ∧ Aside0 (four_Number.j1 kq x5_2 x6_2 = some (r1, r2, r3)) ∧ Aside0 (kq ≤ k) ∧ Aside0 (Below w.heap.size w wc))
    case first =>
      have H := HC3.out
      clear HC3
      have HC4 := Aside0.mk H
      clear H
      go_upto_region 4 with (fail)
      repeat (go_quiet (fail); go_upto_region 4 with (fail))
      go_cut [13] (fun v13 wc => ∃ (kq : Nat) (x13_3 : Bool), v13 = .bool x13_3 ∧ Aside0 (four_Number.j0 kq a0 10 a0 x13_3 = some (r1, r2, r3)) ∧ Aside0 (kq ≤ k) ∧ Aside0 (Below w.heap.size w wc))
      case first =>
        have H := HC4.out
        clear HC4
        replace H := Option.bind_eq_some_iff.mp H
        obtain ⟨t102, A50, H⟩ := H
        replace H : (if t102 = true then (four_Number.j0 k a0 10 a0 true) else ((strings_HasPrefix.f a0 (⟨#[48, 88]⟩ : ByteArray)).bind fun t103 => (four_Number.j0 k a0 10 a0 t103))) = some (r1, r2, r3) := H
        have A5 := Aside0.mk A50
        clear A50
        by_cases c6 : t102 = true
        · subst c6
          have H1 : (four_Number.j0 k a0 10 a0 true) = some (r1, r2, r3) := by rw [if_pos rfl] at H; exact H
          clear H
          have H := H1
          clear H1
          have H' := Aside0.mk H
          clear H
          go_wp2_with (first | (go_at_call 43; (with_reducible refine (strings_HasPrefix.calls a0 (⟨#[48, 120]⟩ : ByteArray) true _ A5.out).mono ?_); rintro e w' ⟨rfl, ⟨nd, rfl⟩⟩; (try first | exact ⟨rfl, _, World.drewN_drewN _ _ _⟩ | exact ⟨rfl, _, Eq.trans (World.drewN_drewN _ _ _) (congrArg (World.drewN _) (Nat.add_assoc _ _ _))⟩)))
          repeat (go_quiet (first | (go_at_call 43; (with_reducible refine (strings_HasPrefix.calls a0 (⟨#[48, 120]⟩ : ByteArray) true _ A5.out).mono ?_); rintro e w' ⟨rfl, ⟨nd, rfl⟩⟩; (try first | exact ⟨rfl, _, World.drewN_drewN _ _ _⟩ | exact ⟨rfl, _, Eq.trans (World.drewN_drewN _ _ _) (congrArg (World.drewN _) (Nat.add_assoc _ _ _))⟩))); try go_wp2_with (first | (go_at_call 43; (with_reducible refine (strings_HasPrefix.calls a0 (⟨#[48, 120]⟩ : ByteArray) true _ A5.out).mono ?_); rintro e w' ⟨rfl, ⟨nd, rfl⟩⟩; (try first | exact ⟨rfl, _, World.drewN_drewN _ _ _⟩ | exact ⟨rfl, _, Eq.trans (World.drewN_drewN _ _ _) (congrArg (World.drewN _) (Nat.add_assoc _ _ _))⟩))))
          go_meet
          case rel => exact ⟨_, (true), (by first | rfl | (simp; done) | (simp [*]; done)), H', ⟨by first | omega | exact Nat.le_refl _⟩, ⟨by repeat (first | (with_reducible first | exact HB.out | apply below_alloc | apply pw_below_drewN | apply below_drew1) | exact HB.out)⟩⟩
        · replace c6 := Bool.eq_false_iff.mpr c6
          subst c6
          have H1 : ((strings_HasPrefix.f a0 (⟨#[48, 88]⟩ : ByteArray)).bind fun t103 => (four_Number.j0 k a0 10 a0 t103)) = some (r1, r2, r3) := by rw [if_neg (show ¬ (false = true) by decide)] at H; exact H
          clear H
          have H := H1
          clear H1
          replace H := Option.bind_eq_some_iff.mp H
          obtain ⟨t103, A70, H⟩ := H
          replace H : (four_Number.j0 k a0 10 a0 t103) = some (r1, r2, r3) := H
          have A7 := Aside0.mk A70
          clear A70
          have H' := Aside0.mk H
          clear H
          go_wp2_with (first | (go_at_call 43; (with_reducible refine (strings_HasPrefix.calls a0 (⟨#[48, 120]⟩ : ByteArray) false _ A5.out).mono ?_); rintro e w' ⟨rfl, ⟨nd, rfl⟩⟩; (try first | exact ⟨rfl, _, World.drewN_drewN _ _ _⟩ | exact ⟨rfl, _, Eq.trans (World.drewN_drewN _ _ _) (congrArg (World.drewN _) (Nat.add_assoc _ _ _))⟩)) | (go_at_call 43; (with_reducible refine (strings_HasPrefix.calls a0 (⟨#[48, 88]⟩ : ByteArray) t103 _ A7.out).mono ?_); rintro e w' ⟨rfl, ⟨nd, rfl⟩⟩; (try first | exact ⟨rfl, _, World.drewN_drewN _ _ _⟩ | exact ⟨rfl, _, Eq.trans (World.drewN_drewN _ _ _) (congrArg (World.drewN _) (Nat.add_assoc _ _ _))⟩)))
          repeat (go_quiet (first | (go_at_call 43; (with_reducible refine (strings_HasPrefix.calls a0 (⟨#[48, 120]⟩ : ByteArray) false _ A5.out).mono ?_); rintro e w' ⟨rfl, ⟨nd, rfl⟩⟩; (try first | exact ⟨rfl, _, World.drewN_drewN _ _ _⟩ | exact ⟨rfl, _, Eq.trans (World.drewN_drewN _ _ _) (congrArg (World.drewN _) (Nat.add_assoc _ _ _))⟩)) | (go_at_call 43; (with_reducible refine (strings_HasPrefix.calls a0 (⟨#[48, 88]⟩ : ByteArray) t103 _ A7.out).mono ?_); rintro e w' ⟨rfl, ⟨nd, rfl⟩⟩; (try first | exact ⟨rfl, _, World.drewN_drewN _ _ _⟩ | exact ⟨rfl, _, Eq.trans (World.drewN_drewN _ _ _) (congrArg (World.drewN _) (Nat.add_assoc _ _ _))⟩))); try go_wp2_with (first | (go_at_call 43; (with_reducible refine (strings_HasPrefix.calls a0 (⟨#[48, 120]⟩ : ByteArray) false _ A5.out).mono ?_); rintro e w' ⟨rfl, ⟨nd, rfl⟩⟩; (try first | exact ⟨rfl, _, World.drewN_drewN _ _ _⟩ | exact ⟨rfl, _, Eq.trans (World.drewN_drewN _ _ _) (congrArg (World.drewN _) (Nat.add_assoc _ _ _))⟩)) | (go_at_call 43; (with_reducible refine (strings_HasPrefix.calls a0 (⟨#[48, 88]⟩ : ByteArray) t103 _ A7.out).mono ?_); rintro e w' ⟨rfl, ⟨nd, rfl⟩⟩; (try first | exact ⟨rfl, _, World.drewN_drewN _ _ _⟩ | exact ⟨rfl, _, Eq.trans (World.drewN_drewN _ _ _) (congrArg (World.drewN _) (Nat.add_assoc _ _ _))⟩))))
          go_meet
          case rel => exact ⟨_, (t103), (by first | rfl | (simp; done) | (simp [*]; done)), H', ⟨by first | omega | exact Nat.le_refl _⟩, ⟨by repeat (first | (with_reducible first | exact HB.out | apply below_alloc | apply pw_below_drewN | apply below_drew1) | exact HB.out)⟩⟩
      case rest =>
        clear HC4
        try clear c1
        try clear c2
        try clear c2b0
        try clear c2b1
        try clear p2
        try clear c6
        obtain ⟨kq, x13_3, rfl, HA, HJ3, HB⟩ := hcut
        cases kq with
        | zero => exact absurd HA.out (by simp [four_Number.j0])
        | succ kj3 =>
          have H := HA.out
          clear HA
          simp only [four_Number.j0] at H
          by_cases c8 : x13_3 = true
          · subst c8
            have H1 : (if 2 ≤ (a0.size : Int) then (four_Number.j1 kj3 16 (a0.extract 2 a0.size)) else (none)) = some (r1, r2, r3) := by rw [if_pos rfl] at H; exact H
            clear H
            have H := H1
            clear H1
            by_cases c9 : 2 ≤ (a0.size : Int)
            · rw [if_pos c9] at H
              have c9b0 := eq_true c9
              have c9b1 : decide (2 ≤ (a0.size : Int)) = true := decide_eq_true c9
              clear c9
              have H' := Aside0.mk H
              clear H
              go_wp2
              repeat (go_quiet (fail); try go_wp2)
              go_meet
              case rel => exact ⟨_, (16), (a0.extract 2 a0.size), (by first | rfl | (simp; done) | (simp [*]; done)), (by first | rfl | (simp; done) | (simp [*]; done)), H', ⟨by have := HJ3.out; first | omega | exact Nat.le_refl _⟩, ⟨by repeat (first | (with_reducible first | exact HB.out | apply below_alloc | apply pw_below_drewN | apply below_drew1) | exact HB.out)⟩⟩
            · rw [if_neg c9] at H
              exact absurd H (by simp)
          · replace c8 := Bool.eq_false_iff.mpr c8
            subst c8
            have H1 : (if (a0.size : Int) > 1 then (if 0 < (a0.size : Int) then (if (bt a0 0) = 48 then (if 1 ≤ (a0.size : Int) then (four_Number.j1 kj3 8 (a0.extract 1 a0.size)) else (none)) else (four_Number.j1 kj3 10 a0)) else (none)) else (four_Number.j1 kj3 10 a0)) = some (r1, r2, r3) := by rw [if_neg (show ¬ (false = true) by decide)] at H; exact H
            clear H
            have H := H1
            clear H1
            by_cases c10 : (a0.size : Int) > 1
            · rw [if_pos c10] at H
              have c10b0 : decide (1 < (a0.size : Int)) = true := decide_eq_true c10
              have c10b1 : decide (1 < a0.size) = true := decide_eq_true (by omega)
              clear c10
              by_cases c11 : 0 < (a0.size : Int)
              · rw [if_pos c11] at H
                have c11b0 : decide (0 < (a0.size : Int)) = true := decide_eq_true c11
                have c11b1 : decide (0 < a0.size) = true := decide_eq_true (by omega)
                clear c11
                by_cases c13 : (bt a0 0) = 48
                · rw [if_pos c13] at H
                  have c13b0 : ((bt a0 0) == 48) = true := beq_iff_eq.mpr c13
                  have c13b1 : ((bt a0 0) != 48) = false := bne_eq_false_iff_eq.mpr c13
                  clear c13
                  by_cases c14 : 1 ≤ (a0.size : Int)
                  · rw [if_pos c14] at H
                    have c14b0 := eq_true c14
                    have c14b1 : decide (1 ≤ (a0.size : Int)) = true := decide_eq_true c14
                    clear c14
                    have H' := Aside0.mk H
                    clear H
                    have p12 : 0 ≤ (0 : Int) := (by omega)
                    have q12 : 0 < a0.size := (by have : (0 : Int) < (a0.size : Int) := of_decide_eq_true (by first | (with_reducible assumption) | assumption); omega)
                    have hx12 : ∀ h : 0 < a0.size, ((a0[0]'h).toNat : Int) = bt a0 0 := bt_at a0 0
                    clear p12
                    have qi12 : (0 < (a0.size : Int)) = True := eq_true (of_decide_eq_true (by first | (with_reducible assumption) | assumption))
                    replace q12 := eq_true q12
                    go_wp2
                    repeat (go_quiet (fail); try go_wp2)
                    go_meet
                    case rel => exact ⟨_, (8), (a0.extract 1 a0.size), (by first | rfl | (simp; done) | (simp [*]; done)), (by first | rfl | (simp; done) | (simp [*]; done)), H', ⟨by have := HJ3.out; first | omega | exact Nat.le_refl _⟩, ⟨by repeat (first | (with_reducible first | exact HB.out | apply below_alloc | apply pw_below_drewN | apply below_drew1) | exact HB.out)⟩⟩
                  · rw [if_neg c14] at H
                    exact absurd H (by simp)
                · rw [if_neg c13] at H
                  have c13b0 : ((bt a0 0) == 48) = false := beq_eq_false_iff_ne.mpr c13
                  have c13b1 : ((bt a0 0) != 48) = true := bne_iff_ne.mpr c13
                  have H' := Aside0.mk H
                  clear H
                  have p12 : 0 ≤ (0 : Int) := (by omega)
                  have q12 : 0 < a0.size := (by have : (0 : Int) < (a0.size : Int) := of_decide_eq_true (by first | (with_reducible assumption) | assumption); omega)
                  have hx12 : ∀ h : 0 < a0.size, ((a0[0]'h).toNat : Int) = bt a0 0 := bt_at a0 0
                  clear p12
                  have qi12 : (0 < (a0.size : Int)) = True := eq_true (of_decide_eq_true (by first | (with_reducible assumption) | assumption))
                  replace q12 := eq_true q12
                  go_wp2
                  repeat (go_quiet (fail); try go_wp2)
                  go_meet
                  case rel => exact ⟨_, (10), (a0), (by first | rfl | (simp; done) | (simp [*]; done)), (by first | rfl | (simp; done) | (simp [*]; done)), H', ⟨by have := HJ3.out; first | omega | exact Nat.le_refl _⟩, ⟨by repeat (first | (with_reducible first | exact HB.out | apply below_alloc | apply pw_below_drewN | apply below_drew1) | exact HB.out)⟩⟩
              · rw [if_neg c11] at H
                exact absurd H (by simp)
            · rw [if_neg c10] at H
              have c10b0 : decide (1 < (a0.size : Int)) = false := decide_eq_false c10
              have c10b1 : decide (1 < a0.size) = false := decide_eq_false (by omega)
              clear c10
              have H' := Aside0.mk H
              clear H
              go_wp2
              repeat (go_quiet (fail); try go_wp2)
              go_meet
              case rel => exact ⟨_, (10), (a0), (by first | rfl | (simp; done) | (simp [*]; done)), (by first | rfl | (simp; done) | (simp [*]; done)), H', ⟨by have := HJ3.out; first | omega | exact Nat.le_refl _⟩, ⟨by repeat (first | (with_reducible first | exact HB.out | apply below_alloc | apply pw_below_drewN | apply below_drew1) | exact HB.out)⟩⟩
    case rest =>
      clear HC3
      try clear c1
      try clear p1
      try clear q1
      try clear hx1
      try clear qi1
      try clear c2
      try clear c2b0
      try clear c2b1
      try clear p2
      try clear c6
      try clear c8
      try clear c9
      try clear c9b0
      try clear c9b1
      try clear c10
      try clear c10b0
      try clear c10b1
      try clear c11
      try clear c11b0
      try clear c11b1
      try clear p12
      try clear q12
      try clear hx12
      try clear qi12
      try clear c13
      try clear c13b0
      try clear c13b1
      try clear c14
      try clear c14b0
      try clear c14b1
      try clear p12
      try clear p2
      try clear q12
      obtain ⟨kq, x5_2, x6_2, rfl, rfl, HA, HJ2, HB⟩ := hcut
      cases kq with
      | zero => exact absurd HA.out (by simp [four_Number.j1])
      | succ kj2 =>
        have H := HA.out
        clear HA
        simp only [four_Number.j1] at H
        have H' := Aside0.mk H
        clear H
        go_wp2
        repeat (go_quiet (fail); try go_wp2)
        go_loopg [7, 35] kj2 (fun kq v7 v35 w' => ∃ (x7_2 : Int) (x35_2 : Int), v7 = .int .u64 x7_2 ∧ v35 = .int .i64 x35_2 ∧ Aside0 (four_Number.l0 kq x5_2 x6_2 x7_2 (x6_2.size : Int) x35_2 = some (r1, r2, r3)) ∧ Aside0 (kq ≤ kj2) ∧ Aside0 (Below w.heap.size w w'))
        case atStart => exact ⟨(0), (0), (by first | rfl | (simp; done) | (simp [*]; done)), (by first | rfl | (simp; done) | (simp [*]; done)), H', ⟨Nat.le_refl _⟩, ⟨by repeat (first | (with_reducible first | exact HB.out | apply below_alloc | apply pw_below_drewN | apply below_drew1) | exact HB.out)⟩⟩
        case round =>
          clear H'
          try clear c1
          try clear p1
          try clear q1
          try clear hx1
          try clear qi1
          try clear c2
          try clear c2b0
          try clear c2b1
          try clear p2
          try clear c6
          try clear c8
          try clear c9
          try clear c9b0
          try clear c9b1
          try clear c10
          try clear c10b0
          try clear c10b1
          try clear c11
          try clear c11b0
          try clear c11b1
          try clear p12
          try clear q12
          try clear hx12
          try clear qi12
          try clear c13
          try clear c13b0
          try clear c13b1
          try clear c14
          try clear c14b0
          try clear c14b1
          try clear p1
          try clear p12
          try clear p2
          try clear q1
          try clear q12
          obtain ⟨x7_2, x35_2, rfl, rfl, HA, HK2, HB⟩ := hrel
          cases gk with
          | zero => exact absurd HA.out (by simp [four_Number.l0])
          | succ k2 =>
            have H := HA.out
            clear HA
            simp only [four_Number.l0] at H
            by_cases c15 : x35_2 < (x6_2.size : Int)
            · rw [if_pos c15] at H
              have c15b0 : decide (x35_2 < (x6_2.size : Int)) = true := decide_eq_true c15
              clear c15
              by_cases c16 : 0 ≤ x35_2
              · rw [if_pos c16] at H
                have c16b0 : decide (0 ≤ x35_2) = true := decide_eq_true c16
                clear c16
                by_cases c17 : x35_2 < (x6_2.size : Int)
                · rw [if_pos c17] at H
                  have c17b0 : decide (x35_2 < (x6_2.size : Int)) = true := decide_eq_true c17
                  clear c17
                  replace H := Option.bind_eq_some_iff.mp H
                  obtain ⟨t104, A190, H⟩ := H
                  replace H : (if t104 < 0 then (some (0, 0, 200)) else (four_Number.l0 k2 x5_2 x6_2 (mn (IntKind.u64.wrap ((IntKind.u64.wrap (x7_2 * (IntKind.u64.wrap (x5_2)))) + (IntKind.u64.wrap (t104)))) 4294967296) (x6_2.size : Int) (wrap64 (x35_2 + 1)))) = some (r1, r2, r3) := H
                  have A19 := Aside0.mk A190
                  clear A190
                  by_cases c20 : t104 < 0
                  · rw [if_pos c20] at H
                    have c20b0 : decide (t104 < 0) = true := decide_eq_true c20
                    clear c20
                    simp only [Option.some.injEq, Prod.mk.injEq] at H
                    obtain ⟨rfl, rfl, rfl⟩ := H
                    have p18 : 0 ≤ (x35_2 : Int) := of_decide_eq_true (by first | (with_reducible assumption) | assumption)
                    have q18 : x35_2 < (x6_2.size : Int) := of_decide_eq_true (by first | (with_reducible assumption) | assumption)
                    have hx18 := bt_at x6_2 x35_2
                    replace p18 := eq_true p18
                    replace q18 := eq_true q18
                    go_wp2_with (first | (go_at_call 44; (with_reducible refine (octet_Digit.calls (bt x6_2 x35_2) x5_2 t104 _ A19.out).mono ?_); rintro e w' ⟨rfl, ⟨nd, rfl⟩⟩; (try first | exact ⟨rfl, _, World.drewN_drewN _ _ _⟩ | exact ⟨rfl, _, Eq.trans (World.drewN_drewN _ _ _) (congrArg (World.drewN _) (Nat.add_assoc _ _ _))⟩)))
                    repeat (go_quiet (first | (go_at_call 44; (with_reducible refine (octet_Digit.calls (bt x6_2 x35_2) x5_2 t104 _ A19.out).mono ?_); rintro e w' ⟨rfl, ⟨nd, rfl⟩⟩; (try first | exact ⟨rfl, _, World.drewN_drewN _ _ _⟩ | exact ⟨rfl, _, Eq.trans (World.drewN_drewN _ _ _) (congrArg (World.drewN _) (Nat.add_assoc _ _ _))⟩))); try go_wp2_with (first | (go_at_call 44; (with_reducible refine (octet_Digit.calls (bt x6_2 x35_2) x5_2 t104 _ A19.out).mono ?_); rintro e w' ⟨rfl, ⟨nd, rfl⟩⟩; (try first | exact ⟨rfl, _, World.drewN_drewN _ _ _⟩ | exact ⟨rfl, _, Eq.trans (World.drewN_drewN _ _ _) (congrArg (World.drewN _) (Nat.add_assoc _ _ _))⟩))))
                    go_ret3
                    exact ⟨by first | rfl | (simp [errW_none, errW_some] <;> rfl) | (simp [*, errW_none, errW_some] <;> rfl), by repeat (first | (with_reducible first | exact HB.out | apply below_alloc | apply pw_below_drewN | apply below_drew1) | exact HB.out)⟩
                  · rw [if_neg c20] at H
                    have c20b0 : decide (t104 < 0) = false := decide_eq_false c20
                    clear c20
                    obtain ⟨ji21, hji21⟩ : ∃ j_ : Int, (mn (IntKind.u64.wrap ((IntKind.u64.wrap (x7_2 * (IntKind.u64.wrap (x5_2)))) + (IntKind.u64.wrap (t104)))) 4294967296) = j_ := ⟨_, rfl⟩
                    replace H : (four_Number.l0 k2 x5_2 x6_2 ji21 (x6_2.size : Int) (wrap64 (x35_2 + 1))) = some (r1, r2, r3) := by first | (rw [hji21] at H; exact H) | (simp only [hji21] at H ⊢; exact H)
                    (try rw [hji21] at A19)
                    have hji21_ : (if 4294967296 < (IntKind.u64.wrap ((IntKind.u64.wrap (x7_2 * (IntKind.u64.wrap (x5_2)))) + (IntKind.u64.wrap (t104)))) then 4294967296 else (IntKind.u64.wrap ((IntKind.u64.wrap (x7_2 * (IntKind.u64.wrap (x5_2)))) + (IntKind.u64.wrap (t104))))) = ji21 := hji21
                    have H' := Aside0.mk H
                    clear H
                    have p18 : 0 ≤ (x35_2 : Int) := of_decide_eq_true (by first | (with_reducible assumption) | assumption)
                    have q18 : x35_2 < (x6_2.size : Int) := of_decide_eq_true (by first | (with_reducible assumption) | assumption)
                    have hx18 := bt_at x6_2 x35_2
                    replace p18 := eq_true p18
                    replace q18 := eq_true q18
                    go_wp2_with (first | (go_at_call 44; (with_reducible refine (octet_Digit.calls (bt x6_2 x35_2) x5_2 t104 _ A19.out).mono ?_); rintro e w' ⟨rfl, ⟨nd, rfl⟩⟩; (try first | exact ⟨rfl, _, World.drewN_drewN _ _ _⟩ | exact ⟨rfl, _, Eq.trans (World.drewN_drewN _ _ _) (congrArg (World.drewN _) (Nat.add_assoc _ _ _))⟩)))
                    repeat (go_quiet (first | (go_at_call 44; (with_reducible refine (octet_Digit.calls (bt x6_2 x35_2) x5_2 t104 _ A19.out).mono ?_); rintro e w' ⟨rfl, ⟨nd, rfl⟩⟩; (try first | exact ⟨rfl, _, World.drewN_drewN _ _ _⟩ | exact ⟨rfl, _, Eq.trans (World.drewN_drewN _ _ _) (congrArg (World.drewN _) (Nat.add_assoc _ _ _))⟩))); try go_wp2_with (first | (go_at_call 44; (with_reducible refine (octet_Digit.calls (bt x6_2 x35_2) x5_2 t104 _ A19.out).mono ?_); rintro e w' ⟨rfl, ⟨nd, rfl⟩⟩; (try first | exact ⟨rfl, _, World.drewN_drewN _ _ _⟩ | exact ⟨rfl, _, Eq.trans (World.drewN_drewN _ _ _) (congrArg (World.drewN _) (Nat.add_assoc _ _ _))⟩))))
                    go_roundg k2
                    case measure => have := HJ2.out; have := HK2.out; omega
                    case rel => exact ⟨(ji21), (wrap64 (x35_2 + 1)), (by first | rfl | (simp; done) | (simp only [← hji21] <;> (first | rfl | simp)) | (simp [*]; done)), (by first | rfl | (simp; done) | (simp [*]; done)), H', ⟨by have := HJ2.out; have := HK2.out; omega⟩, ⟨by repeat (first | (with_reducible first | exact HB.out | apply below_alloc | apply pw_below_drewN | apply below_drew1) | exact HB.out)⟩⟩
                · rw [if_neg c17] at H
                  exact absurd H (by simp)
              · rw [if_neg c16] at H
                exact absurd H (by simp)
            · rw [if_neg c15] at H
              have c15b0 : decide (x35_2 < (x6_2.size : Int)) = false := decide_eq_false c15
              clear c15
              simp only [Option.some.injEq, Prod.mk.injEq] at H
              obtain ⟨rfl, rfl, rfl⟩ := H
              go_wp2
              repeat (go_quiet (fail); try go_wp2)
              go_ret3
              exact ⟨by first | rfl | (simp [errW_none, errW_some] <;> rfl) | (simp [*, errW_none, errW_some] <;> rfl), by repeat (first | (with_reducible first | exact HB.out | apply below_alloc | apply pw_below_drewN | apply below_drew1) | exact HB.out)⟩
def four_parts.f (a0 : ByteArray) : Option (List ByteArray) := (strings_Split.f a0 (⟨#[46]⟩ : ByteArray)).bind fun t105 => (if (t105.length : Int) > 1 then (if 0 ≤ (wrap64 ((t105.length : Int) - 1)) then (if (wrap64 ((t105.length : Int) - 1)) < (t105.length : Int) then (if (rdOf ByteArray.empty t105 (wrap64 ((t105.length : Int) - 1))).toList = ([] : List UInt8) then (if (wrap64 ((t105.length : Int) - 1)) ≤ (t105.length : Int) then (some (t105.take ((wrap64 ((t105.length : Int) - 1)) : Int).toNat)) else (none)) else (some t105)) else (none)) else (none)) else (some t105))
set_option maxHeartbeats 8000000 in
set_option maxRecDepth 100000 in
theorem four_parts.calls (a0 : ByteArray) (r : List ByteArray) (w : World) (hG : GW w) (h : four_parts.f a0 = some r) :
    Calls Tryd.prog 41 #[.string a0] w fun e w' => ∃ v0_ : Value, e = .returned (v0_) ∧ Kd.R Kd.string 9 w' w.heap.size (fun _ => True) v0_ r ∧ Below w.heap.size w w' := by
  have HG := Aside0.mk hG
  clear hG
  have HB := Aside0.mk (Below.refl w.heap.size w)
  have H : ((strings_Split.f a0 (⟨#[46]⟩ : ByteArray)).bind fun t105 => (if (t105.length : Int) > 1 then (if 0 ≤ (wrap64 ((t105.length : Int) - 1)) then (if (wrap64 ((t105.length : Int) - 1)) < (t105.length : Int) then (if (rdOf ByteArray.empty t105 (wrap64 ((t105.length : Int) - 1))).toList = ([] : List UInt8) then (if (wrap64 ((t105.length : Int) - 1)) ≤ (t105.length : Int) then (some (t105.take ((wrap64 ((t105.length : Int) - 1)) : Int).toNat)) else (none)) else (some t105)) else (none)) else (none)) else (some t105))) = some r := h
  clear h
  replace H := Option.bind_eq_some_iff.mp H
  obtain ⟨t105, A20, H⟩ := H
  replace H : (if (t105.length : Int) > 1 then (if 0 ≤ (wrap64 ((t105.length : Int) - 1)) then (if (wrap64 ((t105.length : Int) - 1)) < (t105.length : Int) then (if (rdOf ByteArray.empty t105 (wrap64 ((t105.length : Int) - 1))).toList = ([] : List UInt8) then (if (wrap64 ((t105.length : Int) - 1)) ≤ (t105.length : Int) then (some (t105.take ((wrap64 ((t105.length : Int) - 1)) : Int).toNat)) else (none)) else (some t105)) else (none)) else (none)) else (some t105)) = some r := H
  have A2 := Aside0.mk A20
  clear A20
  by_cases c3 : (t105.length : Int) > 1
  · rw [if_pos c3] at H
    have c3b0 : decide (1 < (t105.length : Int)) = true := decide_eq_true c3
    have c3b1 : decide (1 < t105.length) = true := decide_eq_true (by omega)
    clear c3
    obtain ⟨ji4, hji4⟩ : ∃ j_ : Int, (wrap64 ((t105.length : Int) - 1)) = j_ := ⟨_, rfl⟩
    replace H : (if 0 ≤ (ji4) then (if (ji4) < (t105.length : Int) then (if (rdOf ByteArray.empty t105 (ji4)).toList = ([] : List UInt8) then (if (ji4) ≤ (t105.length : Int) then (some (t105.take ((ji4) : Int).toNat)) else (none)) else (some t105)) else (none)) else (none)) = some r := by first | (rw [hji4] at H; exact H) | (simp only [hji4] at H ⊢; exact H)
    (try rw [hji4] at A2)
    have hji4w : (IntKind.i64.wrap ((t105.length : Int) - 1)) = ji4 := (i64_w _).trans hji4
    by_cases c5 : 0 ≤ (ji4)
    · rw [if_pos c5] at H
      have c5b0 : decide (0 ≤ (ji4)) = true := decide_eq_true c5
      clear c5
      by_cases c6 : (ji4) < (t105.length : Int)
      · rw [if_pos c6] at H
        have c6b0 : decide ((ji4) < (t105.length : Int)) = true := decide_eq_true c6
        clear c6
        by_cases c7 : (rdOf ByteArray.empty t105 (ji4)).toList = ([] : List UInt8)
        · rw [if_pos c7] at H
          have c7b0 : ((rdOf ByteArray.empty t105 (ji4)).toList == ([] : List UInt8)) = true := beq_iff_eq.mpr c7
          have c7b1 : ((rdOf ByteArray.empty t105 (ji4)).toList != ([] : List UInt8)) = false := bne_eq_false_iff_eq.mpr c7
          clear c7
          by_cases c8 : (ji4) ≤ (t105.length : Int)
          · rw [if_pos c8] at H
            have c8b0 := eq_true c8
            have c8b1 : decide ((ji4) ≤ (t105.length : Int)) = true := decide_eq_true c8
            clear c8
            obtain ⟨y109, hy109⟩ : ∃ y_ : List ByteArray, y_ = (t105.take ((ji4) : Int).toNat) := ⟨_, rfl⟩
            replace H : (some y109) = some r := by first | (rw [hy109]; with_reducible exact H) | (have H2_ := (Option.bind_some _ _).symm.trans H; rw [hy109]; with_reducible exact H2_) | (have H2_ := (Option.bind_some _ _).symm.trans H; with_reducible exact H2_) | with_reducible exact H | (rw [hy109]; exact H) | exact H
            have Ny109 := Aside0.mk hy109
            clear hy109
            obtain rfl := Option.some.inj H
            go_enter Tryd.func41, Tryd.ntmps41
            go_wp2_with (first | ((with_reducible refine gate_callee (f := 65) rfl ?_); refine goesL_ (some 6) rfl rfl Tryd.func65 (by kernel_rfl) rfl #[.string a0, .string (⟨#[46]⟩ : ByteArray)] rfl (by (try simp only [List.map_toArray, List.map_cons, List.map_nil]); first | done | rfl | (simp only [List.length_drop, List.length_take]; rfl)) ?_; (with_reducible refine (strings_Split.calls a0 (⟨#[46]⟩ : ByteArray) t105 _ (GW.keep HG.out (by repeat (first | (with_reducible first | exact HB.out | apply below_alloc | apply pw_below_drewN | apply below_drew1) | exact HB.out | exact Below.refl _ _))) A2.out).mono ?_); rintro e w9 ⟨v106, rfl, ho0, hb⟩; refine ⟨_, rfl, ?_⟩; have n0_ := Aside0.mk (Kd.R_lower ho0 (below_size (by repeat (first | (with_reducible first | exact HB.out | apply below_alloc | apply pw_below_drewN | apply below_drew1) | exact HB.out)))); have n1_ := Aside0.mk (below_step (by repeat (first | (with_reducible first | exact HB.out | apply below_alloc | apply pw_below_drewN | apply below_drew1) | exact HB.out)) hb); clear HB; have HO107 := n0_; have HB := n1_; clear n0_ n1_; (try clear hb); (try clear hb2); (try clear hk); (try clear hi); (try clear ho0); obtain ⟨Ao10, co10, eo10⟩ := Kd.R_slice HO107.out; subst eo10; have p108 : 0 ≤ ((ji4) : Int) := of_decide_eq_true (by first | (with_reducible assumption) | assumption); have q108 : (ji4) < (t105.length : Int) := of_decide_eq_true (by first | (with_reducible assumption) | assumption); obtain ⟨ad108, e108, hx108_0⟩ := Kd.at_string (Kd.R_reads' HO107.out).2.2 (ji4) p108 q108; cases e108; replace p108 := eq_true p108; replace q108 := eq_true q108; have q11 : ((ji4) : Int) ≤ ((t105.length : Int) : Int) := of_decide_eq_true (by first | (with_reducible assumption) | assumption); obtain ⟨i011, hi011, _, hsz11, _⟩ := info_parts info9; have hcut11 := cut_to (P := Tryd.prog) 39 9 .i64 Tryd.underlying39 hi011 (some ad108) t105.length co10 (ji4) (of_decide_eq_true (by first | (with_reducible assumption) | assumption)) q11 (Kd.R_reads' HO107.out).2.1; have hr11 := Kd.R_take (m := ((ji4) : Int).toNat) HO107.out (by omega); have hy11 : y109.length = ((ji4) : Int).toNat := (by rw [Ny109.out, List.length_take]; omega); rw [← Ny109.out] at hr11; rw [← hy11] at hr11 hcut11; clear hy11 hi011 hsz11 HO107; have HO111 := Aside0.mk hr11; clear hr11; replace q11 := eq_true q11))
            go_ret
            exact ⟨_, by first | rfl | (simp [errW_none, errW_some] <;> rfl) | (simp only [← hji4]; first | rfl | (simp [errW_none, errW_some] <;> rfl)) | (simp [*, errW_none, errW_some] <;> rfl), by (with_reducible repeat (first | apply Kd.R_alloc | apply Kd.R_drewN | apply Kd.R_drew)); exact HO111.out, by repeat (first | (with_reducible first | exact HB.out | apply below_alloc | apply pw_below_drewN | apply below_drew1) | exact HB.out)⟩
          · rw [if_neg c8] at H
            exact absurd H (by simp)
        · rw [if_neg c7] at H
          have c7b0 : ((rdOf ByteArray.empty t105 (ji4)).toList == ([] : List UInt8)) = false := beq_eq_false_iff_ne.mpr c7
          have c7b1 : ((rdOf ByteArray.empty t105 (ji4)).toList != ([] : List UInt8)) = true := bne_iff_ne.mpr c7
          obtain rfl := Option.some.inj H
          go_enter Tryd.func41, Tryd.ntmps41
          go_wp2_with (first | ((with_reducible refine gate_callee (f := 65) rfl ?_); refine goesL_ (some 6) rfl rfl Tryd.func65 (by kernel_rfl) rfl #[.string a0, .string (⟨#[46]⟩ : ByteArray)] rfl (by (try simp only [List.map_toArray, List.map_cons, List.map_nil]); first | done | rfl | (simp only [List.length_drop, List.length_take]; rfl)) ?_; (with_reducible refine (strings_Split.calls a0 (⟨#[46]⟩ : ByteArray) t105 _ (GW.keep HG.out (by repeat (first | (with_reducible first | exact HB.out | apply below_alloc | apply pw_below_drewN | apply below_drew1) | exact HB.out | exact Below.refl _ _))) A2.out).mono ?_); rintro e w12 ⟨v106, rfl, ho0, hb⟩; refine ⟨_, rfl, ?_⟩; have n0_ := Aside0.mk (Kd.R_lower ho0 (below_size (by repeat (first | (with_reducible first | exact HB.out | apply below_alloc | apply pw_below_drewN | apply below_drew1) | exact HB.out)))); have n1_ := Aside0.mk (below_step (by repeat (first | (with_reducible first | exact HB.out | apply below_alloc | apply pw_below_drewN | apply below_drew1) | exact HB.out)) hb); clear HB; have HO107 := n0_; have HB := n1_; clear n0_ n1_; (try clear hb); (try clear hb2); (try clear hk); (try clear hi); (try clear ho0); obtain ⟨Ao13, co13, eo13⟩ := Kd.R_slice HO107.out; subst eo13; have p108 : 0 ≤ ((ji4) : Int) := of_decide_eq_true (by first | (with_reducible assumption) | assumption); have q108 : (ji4) < (t105.length : Int) := of_decide_eq_true (by first | (with_reducible assumption) | assumption); obtain ⟨ad108, e108, hx108_0⟩ := Kd.at_string (Kd.R_reads' HO107.out).2.2 (ji4) p108 q108; cases e108; replace p108 := eq_true p108; replace q108 := eq_true q108))
          go_ret
          exact ⟨_, by first | rfl | (simp [errW_none, errW_some] <;> rfl) | (simp only [← hji4]; first | rfl | (simp [errW_none, errW_some] <;> rfl)) | (simp [*, errW_none, errW_some] <;> rfl), by (with_reducible repeat (first | apply Kd.R_alloc | apply Kd.R_drewN | apply Kd.R_drew)); exact HO107.out, by repeat (first | (with_reducible first | exact HB.out | apply below_alloc | apply pw_below_drewN | apply below_drew1) | exact HB.out)⟩
      · rw [if_neg c6] at H
        exact absurd H (by simp)
    · rw [if_neg c5] at H
      exact absurd H (by simp)
  · rw [if_neg c3] at H
    have c3b0 : decide (1 < (t105.length : Int)) = false := decide_eq_false c3
    have c3b1 : decide (1 < t105.length) = false := decide_eq_false (by omega)
    clear c3
    obtain rfl := Option.some.inj H
    go_enter Tryd.func41, Tryd.ntmps41
    go_wp2_with (first | ((with_reducible refine gate_callee (f := 65) rfl ?_); refine goesL_ (some 6) rfl rfl Tryd.func65 (by kernel_rfl) rfl #[.string a0, .string (⟨#[46]⟩ : ByteArray)] rfl (by (try simp only [List.map_toArray, List.map_cons, List.map_nil]); first | done | rfl | (simp only [List.length_drop, List.length_take]; rfl)) ?_; (with_reducible refine (strings_Split.calls a0 (⟨#[46]⟩ : ByteArray) t105 _ (GW.keep HG.out (by repeat (first | (with_reducible first | exact HB.out | apply below_alloc | apply pw_below_drewN | apply below_drew1) | exact HB.out | exact Below.refl _ _))) A2.out).mono ?_); rintro e w14 ⟨v106, rfl, ho0, hb⟩; refine ⟨_, rfl, ?_⟩; have n0_ := Aside0.mk (Kd.R_lower ho0 (below_size (by repeat (first | (with_reducible first | exact HB.out | apply below_alloc | apply pw_below_drewN | apply below_drew1) | exact HB.out)))); have n1_ := Aside0.mk (below_step (by repeat (first | (with_reducible first | exact HB.out | apply below_alloc | apply pw_below_drewN | apply below_drew1) | exact HB.out)) hb); clear HB; have HO107 := n0_; have HB := n1_; clear n0_ n1_; (try clear hb); (try clear hb2); (try clear hk); (try clear hi); (try clear ho0); obtain ⟨Ao15, co15, eo15⟩ := Kd.R_slice HO107.out; subst eo15))
    go_ret
    exact ⟨_, by first | rfl | (simp [errW_none, errW_some] <;> rfl) | (simp [*, errW_none, errW_some] <;> rfl), by (with_reducible repeat (first | apply Kd.R_alloc | apply Kd.R_drewN | apply Kd.R_drew)); exact HO107.out, by repeat (first | (with_reducible first | exact HB.out | apply below_alloc | apply pw_below_drewN | apply below_drew1) | exact HB.out)⟩
def four_Ends.f (k : Nat) (a0 : ByteArray) : Option (Bool) := (four_parts.f a0).bind fun t112 => (if 0 ≤ (wrap64 ((t112.length : Int) - 1)) then (if (wrap64 ((t112.length : Int) - 1)) < (t112.length : Int) then (if (rdOf ByteArray.empty t112 (wrap64 ((t112.length : Int) - 1))).toList = ([] : List UInt8) then (some false) else ((strings_Trim.f (rdOf ByteArray.empty t112 (wrap64 ((t112.length : Int) - 1))) (⟨#[48, 49, 50, 51, 52, 53, 54, 55, 56, 57]⟩ : ByteArray)).bind fun t116 => (if t116.toList = ([] : List UInt8) then (some true) else ((four_Number.f k (rdOf ByteArray.empty t112 (wrap64 ((t112.length : Int) - 1)))).bind fun bt117 => (some (bt117.2.2 == 0)))))) else (none)) else (none))
set_option maxHeartbeats 8000000 in
set_option maxRecDepth 100000 in
theorem four_Ends.calls (k : Nat) (a0 : ByteArray) (r : Bool) (w : World) (hG : GW w) (h : four_Ends.f k a0 = some r) :
    Calls Tryd.prog 14 #[.string a0] w fun e w' => e = .returned (.bool r) ∧ Below w.heap.size w w' := by
  have HG := Aside0.mk hG
  clear hG
  have HB := Aside0.mk (Below.refl w.heap.size w)
  have H : ((four_parts.f a0).bind fun t112 => (if 0 ≤ (wrap64 ((t112.length : Int) - 1)) then (if (wrap64 ((t112.length : Int) - 1)) < (t112.length : Int) then (if (rdOf ByteArray.empty t112 (wrap64 ((t112.length : Int) - 1))).toList = ([] : List UInt8) then (some false) else ((strings_Trim.f (rdOf ByteArray.empty t112 (wrap64 ((t112.length : Int) - 1))) (⟨#[48, 49, 50, 51, 52, 53, 54, 55, 56, 57]⟩ : ByteArray)).bind fun t116 => (if t116.toList = ([] : List UInt8) then (some true) else ((four_Number.f k (rdOf ByteArray.empty t112 (wrap64 ((t112.length : Int) - 1)))).bind fun bt117 => (some (bt117.2.2 == 0)))))) else (none)) else (none))) = some r := h
  clear h
  replace H := Option.bind_eq_some_iff.mp H
  obtain ⟨t112, A20, H⟩ := H
  replace H : (if 0 ≤ (wrap64 ((t112.length : Int) - 1)) then (if (wrap64 ((t112.length : Int) - 1)) < (t112.length : Int) then (if (rdOf ByteArray.empty t112 (wrap64 ((t112.length : Int) - 1))).toList = ([] : List UInt8) then (some false) else ((strings_Trim.f (rdOf ByteArray.empty t112 (wrap64 ((t112.length : Int) - 1))) (⟨#[48, 49, 50, 51, 52, 53, 54, 55, 56, 57]⟩ : ByteArray)).bind fun t116 => (if t116.toList = ([] : List UInt8) then (some true) else ((four_Number.f k (rdOf ByteArray.empty t112 (wrap64 ((t112.length : Int) - 1)))).bind fun bt117 => (some (bt117.2.2 == 0)))))) else (none)) else (none)) = some r := H
  have A2 := Aside0.mk A20
  clear A20
  obtain ⟨ji3, hji3⟩ : ∃ j_ : Int, (wrap64 ((t112.length : Int) - 1)) = j_ := ⟨_, rfl⟩
  replace H : (if 0 ≤ (ji3) then (if (ji3) < (t112.length : Int) then (if (rdOf ByteArray.empty t112 (ji3)).toList = ([] : List UInt8) then (some false) else ((strings_Trim.f (rdOf ByteArray.empty t112 (ji3)) (⟨#[48, 49, 50, 51, 52, 53, 54, 55, 56, 57]⟩ : ByteArray)).bind fun t116 => (if t116.toList = ([] : List UInt8) then (some true) else ((four_Number.f k (rdOf ByteArray.empty t112 (ji3))).bind fun bt117 => (some (bt117.2.2 == 0)))))) else (none)) else (none)) = some r := by first | (rw [hji3] at H; exact H) | (simp only [hji3] at H ⊢; exact H)
  (try rw [hji3] at A2)
  have hji3w : (IntKind.i64.wrap ((t112.length : Int) - 1)) = ji3 := (i64_w _).trans hji3
  by_cases c4 : 0 ≤ (ji3)
  · rw [if_pos c4] at H
    have c4b0 : decide (0 ≤ (ji3)) = true := decide_eq_true c4
    clear c4
    by_cases c5 : (ji3) < (t112.length : Int)
    · rw [if_pos c5] at H
      have c5b0 : decide ((ji3) < (t112.length : Int)) = true := decide_eq_true c5
      clear c5
      by_cases c6 : (rdOf ByteArray.empty t112 (ji3)).toList = ([] : List UInt8)
      · rw [if_pos c6] at H
        have c6b0 : ((rdOf ByteArray.empty t112 (ji3)).toList == ([] : List UInt8)) = true := beq_iff_eq.mpr c6
        have c6b1 : ((rdOf ByteArray.empty t112 (ji3)).toList != ([] : List UInt8)) = false := bne_eq_false_iff_eq.mpr c6
        clear c6
        obtain rfl := Option.some.inj H
        go_enter Tryd.func14, Tryd.ntmps14
        go_wp2_with (first | ((with_reducible refine gate_callee (f := 41) rfl ?_); refine goesL_ (some 9) rfl rfl Tryd.func41 (by kernel_rfl) rfl #[.string a0] rfl (by (try simp only [List.map_toArray, List.map_cons, List.map_nil]); first | done | rfl | (simp only [List.length_drop, List.length_take]; rfl)) ?_; (with_reducible refine (four_parts.calls a0 t112 _ (GW.keep HG.out (by repeat (first | (with_reducible first | exact HB.out | apply below_alloc | apply pw_below_drewN | apply below_drew1) | exact HB.out | exact Below.refl _ _))) A2.out).mono ?_); rintro e w7 ⟨v113, rfl, ho0, hb⟩; refine ⟨_, rfl, ?_⟩; have n0_ := Aside0.mk (Kd.R_lower ho0 (below_size (by repeat (first | (with_reducible first | exact HB.out | apply below_alloc | apply pw_below_drewN | apply below_drew1) | exact HB.out)))); have n1_ := Aside0.mk (below_step (by repeat (first | (with_reducible first | exact HB.out | apply below_alloc | apply pw_below_drewN | apply below_drew1) | exact HB.out)) hb); clear HB; have HO114 := n0_; have HB := n1_; clear n0_ n1_; (try clear hb); (try clear hb2); (try clear hk); (try clear hi); (try clear ho0); obtain ⟨Ao8, co8, eo8⟩ := Kd.R_slice HO114.out; subst eo8; have p115 : 0 ≤ ((ji3) : Int) := of_decide_eq_true (by first | (with_reducible assumption) | assumption); have q115 : (ji3) < (t112.length : Int) := of_decide_eq_true (by first | (with_reducible assumption) | assumption); obtain ⟨ad115, e115, hx115_0⟩ := Kd.at_string (Kd.R_reads' HO114.out).2.2 (ji3) p115 q115; cases e115; replace p115 := eq_true p115; replace q115 := eq_true q115))
        go_ret
        exact ⟨by first | rfl | (simp [errW_none, errW_some] <;> rfl) | (simp only [← hji3]; first | rfl | (simp [errW_none, errW_some] <;> rfl)) | (simp [*, errW_none, errW_some] <;> rfl), by repeat (first | (with_reducible first | exact HB.out | apply below_alloc | apply pw_below_drewN | apply below_drew1) | exact HB.out)⟩
      · rw [if_neg c6] at H
        have c6b0 : ((rdOf ByteArray.empty t112 (ji3)).toList == ([] : List UInt8)) = false := beq_eq_false_iff_ne.mpr c6
        have c6b1 : ((rdOf ByteArray.empty t112 (ji3)).toList != ([] : List UInt8)) = true := bne_iff_ne.mpr c6
        replace H := Option.bind_eq_some_iff.mp H
        obtain ⟨t116, A90, H⟩ := H
        replace H : (if t116.toList = ([] : List UInt8) then (some true) else ((four_Number.f k (rdOf ByteArray.empty t112 (ji3))).bind fun bt117 => (some (bt117.2.2 == 0)))) = some r := H
        have A9 := Aside0.mk A90
        clear A90
        by_cases c10 : t116.toList = ([] : List UInt8)
        · rw [if_pos c10] at H
          have c10b0 : (t116.toList == ([] : List UInt8)) = true := beq_iff_eq.mpr c10
          have c10b1 : (t116.toList != ([] : List UInt8)) = false := bne_eq_false_iff_eq.mpr c10
          clear c10
          obtain rfl := Option.some.inj H
          go_enter Tryd.func14, Tryd.ntmps14
          go_wp2_with (first | ((with_reducible refine gate_callee (f := 41) rfl ?_); refine goesL_ (some 9) rfl rfl Tryd.func41 (by kernel_rfl) rfl #[.string a0] rfl (by (try simp only [List.map_toArray, List.map_cons, List.map_nil]); first | done | rfl | (simp only [List.length_drop, List.length_take]; rfl)) ?_; (with_reducible refine (four_parts.calls a0 t112 _ (GW.keep HG.out (by repeat (first | (with_reducible first | exact HB.out | apply below_alloc | apply pw_below_drewN | apply below_drew1) | exact HB.out | exact Below.refl _ _))) A2.out).mono ?_); rintro e w11 ⟨v113, rfl, ho0, hb⟩; refine ⟨_, rfl, ?_⟩; have n0_ := Aside0.mk (Kd.R_lower ho0 (below_size (by repeat (first | (with_reducible first | exact HB.out | apply below_alloc | apply pw_below_drewN | apply below_drew1) | exact HB.out)))); have n1_ := Aside0.mk (below_step (by repeat (first | (with_reducible first | exact HB.out | apply below_alloc | apply pw_below_drewN | apply below_drew1) | exact HB.out)) hb); clear HB; have HO114 := n0_; have HB := n1_; clear n0_ n1_; (try clear hb); (try clear hb2); (try clear hk); (try clear hi); (try clear ho0); obtain ⟨Ao12, co12, eo12⟩ := Kd.R_slice HO114.out; subst eo12; have p115 : 0 ≤ ((ji3) : Int) := of_decide_eq_true (by first | (with_reducible assumption) | assumption); have q115 : (ji3) < (t112.length : Int) := of_decide_eq_true (by first | (with_reducible assumption) | assumption); obtain ⟨ad115, e115, hx115_0⟩ := Kd.at_string (Kd.R_reads' HO114.out).2.2 (ji3) p115 q115; cases e115; replace p115 := eq_true p115; replace q115 := eq_true q115) | ((with_reducible refine gate_callee (f := 42) rfl ?_); refine goesL_ (some 19) rfl rfl Tryd.func42 (by kernel_rfl) rfl #[.string (rdOf ByteArray.empty t112 (ji3)), .string (⟨#[48, 49, 50, 51, 52, 53, 54, 55, 56, 57]⟩ : ByteArray)] rfl (by (try simp only [List.map_toArray, List.map_cons, List.map_nil]); first | done | (simp only [hji3]; rfl) | rfl | (simp only [List.length_drop, List.length_take]; rfl)) ?_; (with_reducible refine (strings_Trim.calls (rdOf ByteArray.empty t112 (ji3)) (⟨#[48, 49, 50, 51, 52, 53, 54, 55, 56, 57]⟩ : ByteArray) t116 _ A9.out).mono ?_); rintro e w13 ⟨rfl, hb⟩; refine ⟨_, rfl, ?_⟩; have n0_ := Aside0.mk (Kd.R_below (by (with_reducible repeat (first | apply Kd.R_alloc | apply Kd.R_drewN | apply Kd.R_drew)); exact HO114.out) hb); have n1_ := Aside0.mk (below_step (by repeat (first | (with_reducible first | exact HB.out | apply below_alloc | apply pw_below_drewN | apply below_drew1) | exact HB.out)) hb); clear HO114; clear HB; have HO114 := n0_; have HB := n1_; clear n0_ n1_; (try clear hb); (try clear hb2); (try clear hk); (try clear hi)))
          go_ret
          exact ⟨by first | rfl | (simp [errW_none, errW_some] <;> rfl) | (simp only [← hji3]; first | rfl | (simp [errW_none, errW_some] <;> rfl)) | (simp [*, errW_none, errW_some] <;> rfl), by repeat (first | (with_reducible first | exact HB.out | apply below_alloc | apply pw_below_drewN | apply below_drew1) | exact HB.out)⟩
        · rw [if_neg c10] at H
          have c10b0 : (t116.toList == ([] : List UInt8)) = false := beq_eq_false_iff_ne.mpr c10
          have c10b1 : (t116.toList != ([] : List UInt8)) = true := bne_iff_ne.mpr c10
          replace H := Option.bind_eq_some_iff.mp H
          obtain ⟨⟨t117, t118, t119⟩, A140, H⟩ := H
          replace H : (some (t119 == 0)) = some r := H
          have A14 := Aside0.mk A140
          clear A140
          obtain rfl := Option.some.inj H
          go_enter Tryd.func14, Tryd.ntmps14
          go_wp2_with (first | ((with_reducible refine gate_callee (f := 41) rfl ?_); refine goesL_ (some 9) rfl rfl Tryd.func41 (by kernel_rfl) rfl #[.string a0] rfl (by (try simp only [List.map_toArray, List.map_cons, List.map_nil]); first | done | rfl | (simp only [List.length_drop, List.length_take]; rfl)) ?_; (with_reducible refine (four_parts.calls a0 t112 _ (GW.keep HG.out (by repeat (first | (with_reducible first | exact HB.out | apply below_alloc | apply pw_below_drewN | apply below_drew1) | exact HB.out | exact Below.refl _ _))) A2.out).mono ?_); rintro e w15 ⟨v113, rfl, ho0, hb⟩; refine ⟨_, rfl, ?_⟩; have n0_ := Aside0.mk (Kd.R_lower ho0 (below_size (by repeat (first | (with_reducible first | exact HB.out | apply below_alloc | apply pw_below_drewN | apply below_drew1) | exact HB.out)))); have n1_ := Aside0.mk (below_step (by repeat (first | (with_reducible first | exact HB.out | apply below_alloc | apply pw_below_drewN | apply below_drew1) | exact HB.out)) hb); clear HB; have HO114 := n0_; have HB := n1_; clear n0_ n1_; (try clear hb); (try clear hb2); (try clear hk); (try clear hi); (try clear ho0); obtain ⟨Ao16, co16, eo16⟩ := Kd.R_slice HO114.out; subst eo16; have p115 : 0 ≤ ((ji3) : Int) := of_decide_eq_true (by first | (with_reducible assumption) | assumption); have q115 : (ji3) < (t112.length : Int) := of_decide_eq_true (by first | (with_reducible assumption) | assumption); obtain ⟨ad115, e115, hx115_0⟩ := Kd.at_string (Kd.R_reads' HO114.out).2.2 (ji3) p115 q115; cases e115; replace p115 := eq_true p115; replace q115 := eq_true q115) | ((with_reducible refine gate_callee (f := 42) rfl ?_); refine goesL_ (some 19) rfl rfl Tryd.func42 (by kernel_rfl) rfl #[.string (rdOf ByteArray.empty t112 (ji3)), .string (⟨#[48, 49, 50, 51, 52, 53, 54, 55, 56, 57]⟩ : ByteArray)] rfl (by (try simp only [List.map_toArray, List.map_cons, List.map_nil]); first | done | (simp only [hji3]; rfl) | rfl | (simp only [List.length_drop, List.length_take]; rfl)) ?_; (with_reducible refine (strings_Trim.calls (rdOf ByteArray.empty t112 (ji3)) (⟨#[48, 49, 50, 51, 52, 53, 54, 55, 56, 57]⟩ : ByteArray) t116 _ A9.out).mono ?_); rintro e w17 ⟨rfl, hb⟩; refine ⟨_, rfl, ?_⟩; have n0_ := Aside0.mk (Kd.R_below (by (with_reducible repeat (first | apply Kd.R_alloc | apply Kd.R_drewN | apply Kd.R_drew)); exact HO114.out) hb); have n1_ := Aside0.mk (below_step (by repeat (first | (with_reducible first | exact HB.out | apply below_alloc | apply pw_below_drewN | apply below_drew1) | exact HB.out)) hb); clear HO114; clear HB; have HO114 := n0_; have HB := n1_; clear n0_ n1_; (try clear hb); (try clear hb2); (try clear hk); (try clear hi)) | ((with_reducible refine gate_callee (f := 15) rfl ?_); refine goesL_ (some 23) rfl rfl Tryd.func15 (by kernel_rfl) rfl #[.string (rdOf ByteArray.empty t112 (ji3))] rfl (by (try simp only [List.map_toArray, List.map_cons, List.map_nil]); first | done | (simp only [hji3]; rfl) | rfl | (simp only [List.length_drop, List.length_take]; rfl)) ?_; (with_reducible refine (four_Number.calls k (rdOf ByteArray.empty t112 (ji3)) t117 t118 t119 _ A14.out).mono ?_); rintro e w18 ⟨rfl, hb⟩; refine ⟨_, rfl, ?_⟩; have n0_ := Aside0.mk (Kd.R_below (by (with_reducible repeat (first | apply Kd.R_alloc | apply Kd.R_drewN | apply Kd.R_drew)); exact HO114.out) hb); have n1_ := Aside0.mk (below_step (by repeat (first | (with_reducible first | exact HB.out | apply below_alloc | apply pw_below_drewN | apply below_drew1) | exact HB.out)) hb); clear HO114; clear HB; have HO114 := n0_; have HB := n1_; clear n0_ n1_; (try clear hb); (try clear hb2); (try clear hk); (try clear hi)))
          go_ret
          exact ⟨by first | rfl | (simp [errW_none, errW_some] <;> rfl) | (simp only [← hji3]; first | rfl | (simp [errW_none, errW_some] <;> rfl)) | (simp [*, errW_none, errW_some] <;> rfl), by repeat (first | (with_reducible first | exact HB.out | apply below_alloc | apply pw_below_drewN | apply below_drew1) | exact HB.out)⟩
    · rw [if_neg c5] at H
      exact absurd H (by simp)
  · rw [if_neg c4] at H
    exact absurd H (by simp)
end Go.Proofs.YtgnahagnmodpdaaDoor.X
/-! FourV -/
namespace Go.Proofs.YtgnahagnmodpdaaDoor
open Go.RowKit Go.Proofs.YtgnahagnmodpdaaDoorW.PrintWords Go.Proofs.YtgnahagnmodpdaaDoor.X Go.IntWalk
set_option linter.unusedVariables false
set_option linter.unusedSimpArgs false
/-- Digits to a base, no more than 2^32. -/
def capL (base : Int) : List UInt8 → Int → Option Int
  | [], n => some n
  | c :: l, n => if digV (c.toNat : Int) base < 0 then none else capL base l (if 4294967296 < n * base + digV (c.toNat : Int) base then 4294967296 else n * base + digV (c.toNat : Int) base)
/-- A number's base and digits. -/
def baseOf : List UInt8 → Int × List UInt8
  | 48 :: 120 :: r => (16, r)
  | 48 :: 88 :: r => (16, r)
  | 48 :: c :: r => (8, c :: r)
  | l => (10, l)
def numberV (l : List UInt8) : Int × Int × Int := if l = [] then (0, 0, 200) else
  match capL (baseOf l).1 (baseOf l).2 0 with
  | none => (0, 0, 200)
  | some n => (n, (baseOf l).1, 0)
theorem capL_le {base : Int} (hb : 0 ≤ base) : ∀ (l : List UInt8) (n N : Int), capL base l n = some N → 0 ≤ n → n ≤ 4294967296 → 0 ≤ N ∧ N ≤ 4294967296
  | [], n, N, h, h0, h1 => by obtain rfl := Option.some.inj h; exact ⟨h0, h1⟩
  | c :: l, n, N, h, h0, h1 => by
    unfold capL at h
    by_cases hd : digV (c.toNat : Int) base < 0
    · rw [if_pos hd] at h; cases h
    · rw [if_neg hd] at h
      have : 0 ≤ n * base := Int.mul_nonneg h0 hb
      refine capL_le hb l _ N h ?_ ?_ <;> split <;> omega
theorem baseOf_base (l : List UInt8) : (baseOf l).1 = 16 ∨ (baseOf l).1 = 8 ∨ (baseOf l).1 = 10 := by
  unfold baseOf
  split <;> simp
theorem numberV_le (l : List UInt8) : 0 ≤ (numberV l).1 ∧ (numberV l).1 ≤ 4294967296 := by
  unfold numberV
  split
  · simp
  · cases h : capL (baseOf l).1 (baseOf l).2 0 with
    | none => simp
    | some n => exact capL_le (by rcases baseOf_base l with h | h | h <;> omega) _ 0 n h (Int.le_refl 0) (by decide)
theorem numberV_err (l : List UInt8) : (numberV l).2.2 = 0 ∨ (numberV l).2.2 = 200 := by
  unfold numberV
  split
  · simp
  · split <;> simp
theorem number_loop (base : Int) (hb : base = 16 ∨ base = 8 ∨ base = 10) (s : ByteArray) (hs : s.size ≤ 9223372036854775806) : ∀ (m i : Nat) (n : Int), i + m = s.data.toList.length → 0 ≤ n → n ≤ 4294967296 →
    Ev (fun k => four_Number.l0 k base s n (s.size : Int) (i : Int)) (match capL base (s.data.toList.drop i) n with | none => (0, 0, 200) | some n => (n, base, 0))
  | 0, i, n, hm, h0, h1 => by
    have hz := size_len s
    rw [List.drop_of_length_le (by omega)]
    refine Ev.step (f := fun k => some (n, base, 0)) (fun k => ?_) (Ev.now _)
    simp only [four_Number.l0]
    rw [if_neg (by omega)]
  | m + 1, i, n, hm, h0, h1 => by
    have hz := size_len s
    have hi : i < s.data.toList.length := by omega
    have w1 : wrap64 ((i : Int) + 1) = ((i + 1 : Nat) : Int) := by rw [wrap64_in _ (by omega)]; omega
    have hlt := s.data.toList[i].toNat_lt
    have hd : octet_Digit.f (s.data.toList[i].toNat : Int) base = some (digV (s.data.toList[i].toNat : Int) base) := if_pos ⟨by omega, by omega⟩
    have hdl := digV_lt (b := (s.data.toList[i].toNat : Int)) (base := base) (by omega)
    rw [List.drop_eq_getElem_cons hi, capL]
    have ih := number_loop base hb s hs m (i + 1)
    have key : ∀ k, four_Number.l0 (k + 1) base s n (s.size : Int) (i : Int) = if digV (s.data.toList[i].toNat : Int) base < 0 then some (0, 0, 200) else four_Number.l0 k base s (mn (IntKind.u64.wrap ((IntKind.u64.wrap (n * (IntKind.u64.wrap base))) + (IntKind.u64.wrap (digV (s.data.toList[i].toNat : Int) base)))) 4294967296) (s.size : Int) ((i + 1 : Nat) : Int) := by
      intro k
      simp only [four_Number.l0]
      rw [if_pos (by omega), if_pos (by omega), if_pos (by omega), bt_get s i hi, hd, w1]
      rfl
    refine Ev.step key ?_
    generalize digV (s.data.toList[i].toNat : Int) base = d at *
    by_cases hneg : d < 0
    · simp only [if_pos hneg]
      exact Ev.now _
    · simp only [if_neg hneg]
      have hnb : 0 ≤ n * base := Int.mul_nonneg h0 (by omega)
      have hnb2 : n * base ≤ 4294967296 * 16 := by
        rcases hb with h | h | h <;> subst h <;> omega
      have e : mn (IntKind.u64.wrap ((IntKind.u64.wrap (n * (IntKind.u64.wrap base))) + (IntKind.u64.wrap d))) 4294967296 = if 4294967296 < n * base + d then 4294967296 else n * base + d := by
        have wu : ∀ x : Int, 0 ≤ x → x < 18446744073709551616 → IntKind.u64.wrap x = x := fun x a b => by simp [IntKind.wrap, IntKind.signed, IntKind.bits]; omega
        rw [wu base (by omega) (by omega), wu (n * base) hnb (by omega), wu d (by omega) (by omega), wu _ (by omega) (by omega)]
        unfold mn
        (repeat' split) <;> omega
      rw [e]
      exact ih _ (by omega) (by split <;> omega) (by split <;> omega)
theorem prefix_two (s : ByteArray) (c : UInt8) : strings_HasPrefix.f s (⟨#[48, c]⟩ : ByteArray) = some (s.data.toList.take 2 == [48, c]) := by
  have hz := size_len s
  have e1 : ((⟨#[48, c]⟩ : ByteArray).size : Int) = 2 := rfl
  unfold strings_HasPrefix.f stringslite_HasPrefix.f
  rw [e1]
  by_cases h : 2 ≤ s.data.toList.length
  · rw [if_pos (by omega), if_pos (by omega), if_pos (by omega), toList_data, extract_head, ba_list, toList_data]
    rfl
  · rw [if_neg (by omega)]
    simp only [Option.bind_some, Option.some.injEq]
    symm
    rw [beq_eq_false_iff_ne]
    intro e
    have := congrArg List.length e
    simp at this
    omega
theorem number_ev (s : ByteArray) (hs : s.size ≤ 9223372036854775806) : Ev (fun k => four_Number.f k s) (numberV s.data.toList) := by
  have hz := size_len s
  have loop : ∀ (base : Int) (l : List UInt8), (base = 16 ∨ base = 8 ∨ base = 10) → l.length ≤ s.data.toList.length → Ev (fun k => four_Number.j1 k base (BA l)) (match capL base l 0 with | none => (0, 0, 200) | some n => (n, base, 0)) := by
    intro base l hb hl
    refine Ev.step (f := fun k => four_Number.l0 k base (BA l) 0 ((BA l).size : Int) ((0 : Nat) : Int)) (fun k => by simp only [four_Number.j1]; rfl) ?_
    exact number_loop base hb (BA l) (by rw [ba_size]; omega) _ 0 0 (Nat.zero_add _) (Int.le_refl 0) (by decide)
  by_cases h0 : s.data.toList = []
  · rw [show numberV s.data.toList = (0, 0, 200) from if_pos h0]
    refine Ev.congr (f := fun k => some (0, 0, 200)) (fun k => ?_) (Ev.now _)
    unfold four_Number.f
    rw [if_pos (by rw [toList_data]; exact h0)]
  · have hv : numberV s.data.toList = match capL (baseOf s.data.toList).1 (baseOf s.data.toList).2 0 with | none => (0, 0, 200) | some n => (n, (baseOf s.data.toList).1, 0) := if_neg h0
    rw [hv]
    have start : ∀ r : Int × Int × Int, Ev (fun k => if (s.data.toList.take 2 == [48, 120]) = true then (four_Number.j0 k s 10 s true) else (four_Number.j0 k s 10 s (s.data.toList.take 2 == [48, 88]))) r → Ev (fun k => four_Number.f k s) r := by
      intro r h
      refine Ev.congr (fun k => ?_) h
      unfold four_Number.f
      rw [if_neg (by rw [toList_data]; exact h0), prefix_two, prefix_two]
      rfl
    refine start _ ?_
    obtain ⟨b, r, hs'⟩ := List.exists_cons_of_ne_nil h0
    have hb0 : bt s 0 = (b.toNat : Int) := by
      have hl : 0 < s.data.toList.length := List.length_pos_iff.2 h0
      have e := bt_get s 0 hl
      have e2 : s.data.toList[0] = b := by simp [hs']
      rw [e2] at e
      exact e
    have hj16 : ∀ r2 c, s.data.toList = 48 :: c :: r2 → Ev (fun k => four_Number.j0 k s 10 s true) (match capL 16 r2 0 with | none => (0, 0, 200) | some n => (n, 16, 0)) := by
      intro r2 c e
      have hl : s.data.toList.length = r2.length + 2 := by rw [e]; rfl
      refine Ev.step (f := fun k => four_Number.j1 k 16 (BA r2)) (fun k => ?_) (loop 16 r2 (.inl rfl) (by omega))
      simp only [four_Number.j0]
      rw [if_true, if_pos (by omega), extract_tail, e]
      rfl
    cases r with
    | nil =>
      have e1 : (s.data.toList.take 2 == [48, 120]) = false := by rw [hs']; simp
      have e2 : (s.data.toList.take 2 == [48, 88]) = false := by rw [hs']; simp
      have eb : baseOf s.data.toList = (10, s.data.toList) := by
        rw [hs']
        unfold baseOf
        split <;> simp_all
      have hl1 : s.data.toList.length = 1 := by rw [hs']; rfl
      rw [e1, e2, eb]
      simp only [Bool.false_eq_true, if_false]
      refine Ev.step (f := fun k => four_Number.j1 k 10 (BA s.data.toList)) (fun k => ?_) (loop 10 _ (.inr (.inr rfl)) (Nat.le_refl _))
      simp only [four_Number.j0, Bool.false_eq_true, if_false]
      rw [if_neg (by omega), ba_of]
    | cons c r2 =>
      have hl : s.data.toList.length = r2.length + 2 := by rw [hs']; rfl
      by_cases hb : b = 48
      · subst hb
        by_cases hx : c = 120
        · subst hx
          have e1 : (s.data.toList.take 2 == [48, 120]) = true := by rw [hs']; simp
          rw [e1, hs']
          simp only [if_true]
          exact hj16 r2 120 hs'
        · by_cases hX : c = 88
          · subst hX
            have e1 : (s.data.toList.take 2 == [48, 120]) = false := by rw [hs']; simp
            have e2 : (s.data.toList.take 2 == [48, 88]) = true := by rw [hs']; simp
            rw [e1, e2, hs']
            simp only [Bool.false_eq_true, if_false]
            exact hj16 r2 88 hs'
          · have e1 : (s.data.toList.take 2 == [48, 120]) = false := by rw [hs']; simpa using hx
            have e2 : (s.data.toList.take 2 == [48, 88]) = false := by rw [hs']; simpa using hX
            have eb : baseOf s.data.toList = (8, c :: r2) := by
              rw [hs']
              unfold baseOf
              split <;> simp_all
            rw [e1, e2, eb]
            simp only [Bool.false_eq_true, if_false]
            refine Ev.step (f := fun k => four_Number.j1 k 8 (BA (c :: r2))) (fun k => ?_) (loop 8 _ (.inr (.inl rfl)) (by rw [hs']; simp))
            simp only [four_Number.j0, Bool.false_eq_true, if_false]
            rw [if_pos (by omega), if_pos (by omega), hb0, if_pos (show ((UInt8.toNat 48 : Nat) : Int) = 48 from rfl), if_pos (by omega), extract_tail, hs']
            rfl
      · have e1 : (s.data.toList.take 2 == [48, 120]) = false := by rw [hs']; simp [hb]
        have e2 : (s.data.toList.take 2 == [48, 88]) = false := by rw [hs']; simp [hb]
        have eb : baseOf s.data.toList = (10, s.data.toList) := by
          rw [hs']
          unfold baseOf
          split <;> simp_all
        have hne : ¬ ((b.toNat : Int) = 48) := fun e => hb ((byte_eq b 48).1 e)
        rw [e1, e2, eb]
        simp only [Bool.false_eq_true, if_false]
        refine Ev.step (f := fun k => four_Number.j1 k 10 (BA s.data.toList)) (fun k => ?_) (loop 10 _ (.inr (.inr rfl)) (Nat.le_refl _))
        simp only [four_Number.j0, Bool.false_eq_true, if_false]
        rw [if_pos (by omega), if_pos (by omega), hb0, if_neg hne, ba_of]
theorem number_calls (s : ByteArray) (hs : s.size ≤ 9223372036854775806) (w : World) :
    Calls Tryd.prog 15 #[.string s] w fun e w' => e = .returned (.tuple #[.int .u64 (numberV s.data.toList).1, .int .i64 (numberV s.data.toList).2.1, .int .i64 (numberV s.data.toList).2.2]) ∧ Below w.heap.size w w' := by
  obtain ⟨k, h⟩ := (number_ev s hs).rounds
  generalize numberV s.data.toList = r at *
  obtain ⟨r1, r2, r3⟩ := r
  exact four_Number.calls k s r1 r2 r3 w h
/-- The parts of a text. -/
def partsL (L : List (List UInt8)) : List (List UInt8) := if 1 < L.length ∧ L.getLast? = some [] then L.dropLast else L
def partsV (l : List UInt8) : List (List UInt8) := partsL (splitC 46 l)
theorem partsV_ne (l : List UInt8) : partsV l ≠ [] := by
  unfold partsV partsL
  have := splitC_ne 46 l
  split
  · rename_i h
    intro e
    have := congrArg List.length e
    simp at this
    omega
  · exact this
theorem partsL_mem {L : List (List UInt8)} : ∀ w ∈ partsL L, w ∈ L := by
  unfold partsL
  split
  · exact fun w h => List.dropLast_subset L h
  · exact fun w h => h
theorem partsV_part (l : List UInt8) : ∀ w ∈ partsV l, w.length ≤ l.length := fun w h => splitC_part 46 l w (partsL_mem w h)
theorem partsL_len (L : List (List UInt8)) : (partsL L).length ≤ L.length := by
  unfold partsL
  split
  · simp
  · exact Nat.le_refl _
theorem parts_f (s : ByteArray) (hs : s.size ≤ 4294967280) : four_parts.f s = some ((partsV s.data.toList).map BA) := by
  have hz := size_len s
  have hl := splitC_len 46 s.data.toList
  have hne := splitC_ne 46 s.data.toList
  unfold four_parts.f strings_Split.f
  rw [if_pos ⟨by omega, by decide⟩, show (⟨#[46]⟩ : ByteArray) = BA [46] from rfl, splitB_one]
  simp only [Option.bind_some, List.length_map]
  unfold partsV
  generalize splitC 46 s.data.toList = L at *
  have hpos : 0 < L.length := List.length_pos_iff.2 hne
  have w1 : wrap64 ((L.length : Int) - 1) = ((L.length - 1 : Nat) : Int) := by rw [wrap64_in _ (by omega)]; omega
  have hlast : rdOf ByteArray.empty (L.map BA) ((L.length - 1 : Nat) : Int) = BA L[L.length - 1] := rd_map L _ (by omega)
  unfold partsL
  by_cases h1 : 1 < L.length
  · rw [w1, if_pos (by omega), if_pos (by omega), if_pos (by omega), hlast, toList_data, ba_list]
    have eg : L.getLast? = some L[L.length - 1] := by rw [List.getLast?_eq_getElem?, List.getElem?_eq_getElem (by omega)]
    by_cases h2 : L[L.length - 1] = []
    · rw [if_pos h2, if_pos (by omega), if_pos ⟨h1, by rw [eg, h2]⟩, Int.toNat_natCast, ← List.map_take, List.dropLast_eq_take]
    · rw [if_neg h2, if_neg (fun h => h2 (by rw [eg] at h; exact Option.some.inj h.2))]
  · rw [if_neg (by omega), if_neg (fun h => h1 h.1)]
end Go.Proofs.YtgnahagnmodpdaaDoor
/-! Dec -/
namespace Go.Proofs.YtgnahagnmodpdaaDoor
open Go.RowKit Go.Proofs.YtgnahagnmodpdaaDoorW.PrintWords
set_option linter.unusedVariables false
set_option linter.unusedSimpArgs false
/-- A digit's byte. -/
def dgt (n : Nat) : UInt8 := UInt8.ofNat (48 + n)
theorem dgt_toNat {n : Nat} (h : n < 10) : (dgt n).toNat = 48 + n := by
  unfold dgt
  rw [UInt8.toNat_ofNat']
  omega
/-- A number below 1000 in digits. -/
def dec3 (n : Nat) : List UInt8 := (if 100 ≤ n then [dgt (n / 100)] else []) ++ (if 10 ≤ n then [dgt (n / 10 % 10)] else []) ++ [dgt (n % 10)]
theorem decDigits_small {n : Nat} (h : n < 1000) : Lib.decDigits n = dec3 n := by
  unfold dec3
  by_cases h1 : n < 10
  · rw [Lib.decDigits, dif_pos h1, if_neg (by omega), if_neg (by omega), Nat.mod_eq_of_lt h1]
    rfl
  · rw [Lib.decDigits, dif_neg h1]
    by_cases h2 : n < 100
    · rw [Lib.decDigits, dif_pos (by omega), if_neg (by omega), if_pos (by omega), show n / 10 % 10 = n / 10 by omega]
      rfl
    · rw [Lib.decDigits, dif_neg (by omega), Lib.decDigits, dif_pos (by omega), if_pos (by omega), if_pos (by omega), Nat.div_div_eq_div_mul]
      rfl
theorem itoa_small {b : Int} (h0 : 0 ≤ b) (h1 : b < 1000) : Lib.itoa b = dec3 b.toNat := by
  unfold Lib.itoa
  rw [if_neg (by omega), decDigits_small (by omega)]
theorem dec3_len (n : Nat) : 1 ≤ (dec3 n).length ∧ (dec3 n).length ≤ 3 := by
  unfold dec3
  (repeat' split) <;> simp
theorem itoa_len {b : Int} (h0 : 0 ≤ b) (h1 : b ≤ 255) : 1 ≤ (Lib.itoa b).length ∧ (Lib.itoa b).length ≤ 3 := by
  rw [itoa_small h0 (by omega)]
  exact dec3_len _
theorem join4 (a b c d : List UInt8) : Lib.join [a, b, c, d] [46] = a ++ 46 :: (b ++ 46 :: (c ++ 46 :: d)) := by
  simp [Lib.join, List.intercalate]
end Go.Proofs.YtgnahagnmodpdaaDoor
/-! Ext -/
namespace Go.Proofs.YtgnahagnmodpdaaDoor
open Go.RowKit
set_option linter.unusedVariables false
set_option linter.unusedSimpArgs false
/-- What stands behind a call that let all stand that was there. -/
theorem after {W w1 : World} (hb : Below W.heap.size W w1) : (∀ b o, b < W.heap.size → w1.cell? ⟨b, o, none⟩ = W.cell? ⟨b, o, none⟩) ∧ (∀ b o, b < W.heap.size → w1.frozen? ⟨b, o, none⟩ = W.frozen? ⟨b, o, none⟩) ∧ W.heap.size ≤ w1.heap.size :=
  ⟨fun b o h => hb.cell (p := ⟨b, o, none⟩) h, fun b o h => hb.frozen (p := ⟨b, o, none⟩) h, hb.size⟩
/-- A world in which all that was in w0 is as it was. -/
structure Ext (w0 : World) where
  wd : World
  below : Below w0.heap.size w0 wd
instance (w0 : World) : Nonempty (Ext w0) := ⟨⟨w0, Below.refl _ _⟩⟩
@[go_sem] theorem Ext.cell {w0 : World} (x : Ext w0) {b o : Nat} (h : b < w0.heap.size) : x.wd.cell? ⟨b, o, none⟩ = w0.cell? ⟨b, o, none⟩ := x.below.cell (p := ⟨b, o, none⟩) h
theorem wp_region_ext {P : Program} {id : Nat} {Q : Exit → Act → World → Prop} {a : Act} {w : World} {l : List Oper} (hm : P.follows .mixedOrders = true) (hB : Region.lexB .any l.toArray = true)
    (h : wpQuiet P l.toArray (fun w' => ∃ x : Ext w, w' = x.wd) (fun a' => ∀ w', (∃ x : Ext w, w' = x.wd) → Q .normal a' w') l a) : (Code.region id l.toArray true).wp P Q a w :=
  wp_region_quiet (C := fun w' => ∃ x : Ext w, w' = x.wd) hm hB ⟨⟨_, (Below.refl _ w).drew⟩, rfl⟩ (by simpa using h)
/-- A callee's contract, met in a world that goes on from w. -/
theorem ext_of {P : Program} {f : FuncId} {args : Array Value} {w : World} {x : Ext w} {v : Value} (h : Calls P f args x.wd fun e w' => e = .returned v ∧ Below x.wd.heap.size x.wd w') :
    Calls P f args x.wd fun e w'' => e = .returned v ∧ ∃ y : Ext w, w'' = y.wd :=
  h.mono fun _ w' ⟨he, hb⟩ => ⟨he, ⟨w', x.below.trans (hb.mono x.below.size)⟩, rfl⟩
end Go.Proofs.YtgnahagnmodpdaaDoor
/-! FourParse -/
namespace Go.Proofs.YtgnahagnmodpdaaDoor
open Go.RowKit Go.Proofs.YtgnahagnmodpdaaDoorW.PrintWords Go.Proofs.YtgnahagnmodpdaaDoor.X
set_option linter.unusedVariables false
set_option linter.unusedSimpArgs false
/-- The first part that is no number. -/
def firstErr : List (List UInt8) → Int → Option Int
  | [], _ => none
  | p :: ps, i => if (numberV p).2.2 = 0 then firstErr ps (i + 1) else some i
/-- The first number but the last one that is above 255. -/
def firstBig : List Int → Int → Option Int
  | [], _ => none
  | [_], _ => none
  | x :: y :: r, i => if 255 < x then some i else firstBig (y :: r) (i + 1)
def sumFrom : List Int → Nat → Int
  | [], _ => 0
  | [x], _ => x
  | x :: y :: r, i => sumFrom (y :: r) (i + 1) + x * 256 ^ (3 - i)
/-- The address of parts. -/
def parseP (P : List (List UInt8)) : Int × Int × Int := if 4 < P.length then (0, 4, 201) else
  match firstErr P 0 with
  | some i => (0, i, 200)
  | none =>
    match firstBig (P.map fun p => (numberV p).1) 0 with
    | some i => (0, i, 202)
    | none => if 256 ^ (5 - P.length) ≤ ((P.map fun p => (numberV p).1).getLastD 0) then (0, P.length - 1, 202) else (sumFrom (P.map fun p => (numberV p).1) 0, 0, 0)
def parseV (l : List UInt8) : Int × Int × Int := parseP (partsV l)
def ParseP (r : Int × Int × Int) (w : World) (e : Ending) (w' : World) : Prop := e = .returned (.tuple #[.int .u32 r.1, .int .i64 r.2.1, .int .i64 r.2.2]) ∧ Below w.heap.size w w'
theorem parseP_mk {r : Int × Int × Int} {w w' : World} {a b c : Int} (h : r = (a, b, c)) (hb : Below w.heap.size w w') : ParseP r w (.returned (.tuple #[.int .u32 a, .int .i64 b, .int .i64 c])) w' := by
  subst h
  exact ⟨rfl, hb⟩
theorem strs_at {w : World} {base : Nat} {e : Nat} {ok : Nat → Prop} {v : Value} {xs : List ByteArray} (h : Kd.R Kd.string e w base ok v xs) (hn : 0 < xs.length) :
    ∃ g c, v = .slice (some ⟨g, 0, none⟩) xs.length c ∧ g < w.heap.size ∧ ∀ i, i < xs.length → w.cell? ⟨g, i, none⟩ = some (.string (xs.getD i ByteArray.empty)) := by
  obtain ⟨inner, ho⟩ := Kd.R_own h
  rcases ho.2 with ⟨_, h0⟩ | ⟨g, c, cur, rfl, _, hg, _⟩
  · omega
  · have hc : ∀ i, i < xs.length → w.cell? ⟨g, i, none⟩ = some (.string (xs.getD i ByteArray.empty)) := fun i hi => by
      have := (Kd.R_cell (enc := Value.string) (h1 := fun _ => rfl) ByteArray.empty h (i : Int) (by omega) (by omega)).1
      simpa [rdOf] using this
    exact ⟨g, c, rfl, World.block_lt_of_cell? w _ (hc 0 hn), hc⟩
theorem not255 {x : Int} (h : x ≤ 255) : (255 < x) = False := eq_false (by omega)
set_option maxHeartbeats 8000000 in
set_option maxRecDepth 100000 in
theorem parse_walk1 (s : ByteArray) (hs : s.size ≤ 4294967280) (p0 : List UInt8) (hP : partsV s.data.toList = [p0]) (w : World) (hG : GW w) :
    Calls Tryd.prog 13 #[.string s] w (ParseP (parseP [p0]) w) := by
  have hpf := parts_f s hs
  have hlen : ∀ q ∈ [p0], (BA q).size ≤ 9223372036854775806 := fun q hq => by rw [ba_size]; have := partsV_part s.data.toList q (hP ▸ hq); have := size_len s; omega
  rw [hP] at hpf
  have n0 := number_calls (BA p0) (hlen p0 (by simp))
  obtain ⟨⟨x0, y0, e0⟩, hv0⟩ : ∃ r, numberV p0 = r := ⟨_, rfl⟩
  have hx0 := numberV_le p0
  have hq0 := numberV_err p0
  rw [hv0] at hq0
  have Q0 : Aside0 (e0 = 0 ∨ e0 = 200) := ⟨hq0⟩
  clear hq0
  rw [ba_list] at n0
  rw [hv0] at n0 hx0
  obtain ⟨l0, u0⟩ := hx0
  simp only at l0 u0
  have N0 := Aside0.mk n0
  have V0 := Aside0.mk hv0
  clear n0 hv0
  have HP := Aside0.mk hpf
  have HG := Aside0.mk hG
  clear hpf hG hlen hP
  go_enter Tryd.func13, Tryd.ntmps13
  go_wp2_with fail
  refine (four_parts.calls s _ _ HG.out HP.out).mono ?_
  rintro e w1 ⟨v, rfl, hR, hb1⟩
  have B1 := below_step (Below.refl _ _) hb1
  obtain ⟨g, c, rfl, lg, hC⟩ := strs_at hR (by simp)
  simp only [List.map_cons, List.map_nil, List.length_cons, List.length_nil, Nat.zero_add, Nat.reduceAdd] at hC ⊢
  clear hR hb1 HG HP
  obtain ⟨b, hbd⟩ : ∃ b, b = w1.heap.size := ⟨_, rfl⟩
  have lad : g < b := by rw [hbd]; exact lg
  have s0 : (w1.alloc (.cells #[.int .u64 0, .int .u64 0, .int .u64 0, .int .u64 0] 75)).cell? ⟨g, 0, none⟩ = some (.string (BA p0)) := (Below.cell (p := ⟨g, 0, none⟩) (below_alloc (Below.refl _ _) _) lg).trans (hC 0 (by decide))
  have a0 : (w1.alloc (.cells #[.int .u64 0, .int .u64 0, .int .u64 0, .int .u64 0] 75)).cell? ⟨b, 0, none⟩ = some (.int .u64 0) := by rw [hbd]; go_simp
  have a1 : (w1.alloc (.cells #[.int .u64 0, .int .u64 0, .int .u64 0, .int .u64 0] 75)).cell? ⟨b, 1, none⟩ = some (.int .u64 0) := by rw [hbd]; go_simp
  have a2 : (w1.alloc (.cells #[.int .u64 0, .int .u64 0, .int .u64 0, .int .u64 0] 75)).cell? ⟨b, 2, none⟩ = some (.int .u64 0) := by rw [hbd]; go_simp
  have a3 : (w1.alloc (.cells #[.int .u64 0, .int .u64 0, .int .u64 0, .int .u64 0] 75)).cell? ⟨b, 3, none⟩ = some (.int .u64 0) := by rw [hbd]; go_simp
  have z : ∀ j, (w1.alloc (.cells #[.int .u64 0, .int .u64 0, .int .u64 0, .int .u64 0] 75)).frozen? ⟨b, j, none⟩ = false := fun j => by rw [hbd]; go_simp
  have lb : b < (w1.alloc (.cells #[.int .u64 0, .int .u64 0, .int .u64 0, .int .u64 0] 75)).heap.size := by rw [hbd]; simp
  have lw : w.heap.size ≤ b := by rw [hbd]; exact B1.size
  have BB := below_alloc B1 (.cells #[.int .u64 0, .int .u64 0, .int .u64 0, .int .u64 0] 75)
  go_wp2_with fail
  rw [← hbd]
  obtain ⟨W, hW⟩ : ∃ W, W = w1.alloc (.cells #[.int .u64 0, .int .u64 0, .int .u64 0, .int .u64 0] 75) := ⟨_, rfl⟩
  rw [← hW] at s0 a0 a1 a2 a3 z lb BB ⊢
  clear hW hbd hC B1
  refine wp_loop_rounds 2 ?_
  rw [rounds_succ]
  go_wp2_with fail
  refine (N0.out _).mono ?_
  rintro e v0 ⟨rfl, hv0⟩
  replace a0 := (hv0.cell (p := ⟨b, 0, none⟩) lb).trans a0
  replace a1 := (hv0.cell (p := ⟨b, 1, none⟩) lb).trans a1
  replace a2 := (hv0.cell (p := ⟨b, 2, none⟩) lb).trans a2
  replace a3 := (hv0.cell (p := ⟨b, 3, none⟩) lb).trans a3
  replace z : ∀ j, v0.frozen? ⟨b, j, none⟩ = false := fun j => (hv0.frozen (p := ⟨b, j, none⟩) lb).trans (z j)
  replace BB := below_step BB hv0
  replace lb := Nat.lt_of_lt_of_le lb hv0.size
  clear hv0 s0
  rcases Q0.out with q | q <;> subst q
  case inr => go_wp2_with fail; go_ret3; exact parseP_mk (by simp [parseP, firstErr, V0.out]) BB
  have zz := z 0
  go_wp2_with fail
  clear zz
  replace a0 : (v0.setCell ⟨b, 0, none⟩ (.int .u64 x0)).cell? ⟨b, 0, none⟩ = some (.int .u64 x0) := by go_simp
  replace a1 : (v0.setCell ⟨b, 0, none⟩ (.int .u64 x0)).cell? ⟨b, 1, none⟩ = some (.int .u64 0) := by go_simp
  replace a2 : (v0.setCell ⟨b, 0, none⟩ (.int .u64 x0)).cell? ⟨b, 2, none⟩ = some (.int .u64 0) := by go_simp
  replace a3 : (v0.setCell ⟨b, 0, none⟩ (.int .u64 x0)).cell? ⟨b, 3, none⟩ = some (.int .u64 0) := by go_simp
  replace z : ∀ j, (v0.setCell ⟨b, 0, none⟩ (.int .u64 x0)).frozen? ⟨b, j, none⟩ = false := fun j => by rw [World.frozen?_setCell]; exact z j
  replace lb : b < (v0.setCell ⟨b, 0, none⟩ (.int .u64 x0)).heap.size := by simpa using lb
  replace BB := below_set (j := 0) (v := .int .u64 x0) BB lw
  rw [rounds_succ]
  go_wp2_with fail
  refine wp_loop_rounds 1 ?_
  rw [rounds_succ]
  by_cases hl : 4294967296 ≤ x0
  · go_wp2_with fail
    go_ret3
    exact parseP_mk (by simp [parseP, firstErr, firstBig, sumFrom, V0.out, hl]) BB
  go_wp2_with fail
  refine wp_loop_rounds 1 ?_
  rw [rounds_succ]
  go_wp2_with fail
  go_ret3
  refine parseP_mk ?_ BB
  simp [parseP, firstErr, firstBig, sumFrom, V0.out, hl]
  all_goals (rw [if_neg (by omega)]; congr 1; omega)
set_option maxHeartbeats 8000000 in
set_option maxRecDepth 100000 in
theorem parse_walk2 (s : ByteArray) (hs : s.size ≤ 4294967280) (p0 : List UInt8) (p1 : List UInt8) (hP : partsV s.data.toList = [p0, p1]) (w : World) (hG : GW w) :
    Calls Tryd.prog 13 #[.string s] w (ParseP (parseP [p0, p1]) w) := by
  have hpf := parts_f s hs
  have hlen : ∀ q ∈ [p0, p1], (BA q).size ≤ 9223372036854775806 := fun q hq => by rw [ba_size]; have := partsV_part s.data.toList q (hP ▸ hq); have := size_len s; omega
  rw [hP] at hpf
  have n0 := number_calls (BA p0) (hlen p0 (by simp))
  obtain ⟨⟨x0, y0, e0⟩, hv0⟩ : ∃ r, numberV p0 = r := ⟨_, rfl⟩
  have hx0 := numberV_le p0
  have hq0 := numberV_err p0
  rw [hv0] at hq0
  have Q0 : Aside0 (e0 = 0 ∨ e0 = 200) := ⟨hq0⟩
  clear hq0
  rw [ba_list] at n0
  rw [hv0] at n0 hx0
  obtain ⟨l0, u0⟩ := hx0
  simp only at l0 u0
  have N0 := Aside0.mk n0
  have V0 := Aside0.mk hv0
  clear n0 hv0
  have n1 := number_calls (BA p1) (hlen p1 (by simp))
  obtain ⟨⟨x1, y1, e1⟩, hv1⟩ : ∃ r, numberV p1 = r := ⟨_, rfl⟩
  have hx1 := numberV_le p1
  have hq1 := numberV_err p1
  rw [hv1] at hq1
  have Q1 : Aside0 (e1 = 0 ∨ e1 = 200) := ⟨hq1⟩
  clear hq1
  rw [ba_list] at n1
  rw [hv1] at n1 hx1
  obtain ⟨l1, u1⟩ := hx1
  simp only at l1 u1
  have N1 := Aside0.mk n1
  have V1 := Aside0.mk hv1
  clear n1 hv1
  have HP := Aside0.mk hpf
  have HG := Aside0.mk hG
  clear hpf hG hlen hP
  go_enter Tryd.func13, Tryd.ntmps13
  go_wp2_with fail
  refine (four_parts.calls s _ _ HG.out HP.out).mono ?_
  rintro e w1 ⟨v, rfl, hR, hb1⟩
  have B1 := below_step (Below.refl _ _) hb1
  obtain ⟨g, c, rfl, lg, hC⟩ := strs_at hR (by simp)
  simp only [List.map_cons, List.map_nil, List.length_cons, List.length_nil, Nat.zero_add, Nat.reduceAdd] at hC ⊢
  clear hR hb1 HG HP
  obtain ⟨b, hbd⟩ : ∃ b, b = w1.heap.size := ⟨_, rfl⟩
  have lad : g < b := by rw [hbd]; exact lg
  have s0 : (w1.alloc (.cells #[.int .u64 0, .int .u64 0, .int .u64 0, .int .u64 0] 75)).cell? ⟨g, 0, none⟩ = some (.string (BA p0)) := (Below.cell (p := ⟨g, 0, none⟩) (below_alloc (Below.refl _ _) _) lg).trans (hC 0 (by decide))
  have s1 : (w1.alloc (.cells #[.int .u64 0, .int .u64 0, .int .u64 0, .int .u64 0] 75)).cell? ⟨g, 1, none⟩ = some (.string (BA p1)) := (Below.cell (p := ⟨g, 1, none⟩) (below_alloc (Below.refl _ _) _) lg).trans (hC 1 (by decide))
  have a0 : (w1.alloc (.cells #[.int .u64 0, .int .u64 0, .int .u64 0, .int .u64 0] 75)).cell? ⟨b, 0, none⟩ = some (.int .u64 0) := by rw [hbd]; go_simp
  have a1 : (w1.alloc (.cells #[.int .u64 0, .int .u64 0, .int .u64 0, .int .u64 0] 75)).cell? ⟨b, 1, none⟩ = some (.int .u64 0) := by rw [hbd]; go_simp
  have a2 : (w1.alloc (.cells #[.int .u64 0, .int .u64 0, .int .u64 0, .int .u64 0] 75)).cell? ⟨b, 2, none⟩ = some (.int .u64 0) := by rw [hbd]; go_simp
  have a3 : (w1.alloc (.cells #[.int .u64 0, .int .u64 0, .int .u64 0, .int .u64 0] 75)).cell? ⟨b, 3, none⟩ = some (.int .u64 0) := by rw [hbd]; go_simp
  have z : ∀ j, (w1.alloc (.cells #[.int .u64 0, .int .u64 0, .int .u64 0, .int .u64 0] 75)).frozen? ⟨b, j, none⟩ = false := fun j => by rw [hbd]; go_simp
  have lb : b < (w1.alloc (.cells #[.int .u64 0, .int .u64 0, .int .u64 0, .int .u64 0] 75)).heap.size := by rw [hbd]; simp
  have lw : w.heap.size ≤ b := by rw [hbd]; exact B1.size
  have BB := below_alloc B1 (.cells #[.int .u64 0, .int .u64 0, .int .u64 0, .int .u64 0] 75)
  go_wp2_with fail
  rw [← hbd]
  obtain ⟨W, hW⟩ : ∃ W, W = w1.alloc (.cells #[.int .u64 0, .int .u64 0, .int .u64 0, .int .u64 0] 75) := ⟨_, rfl⟩
  rw [← hW] at s0 s1 a0 a1 a2 a3 z lb BB ⊢
  clear hW hbd hC B1
  refine wp_loop_rounds 3 ?_
  rw [rounds_succ]
  go_wp2_with fail
  refine (N0.out _).mono ?_
  rintro e v0 ⟨rfl, hv0⟩
  replace a0 := (hv0.cell (p := ⟨b, 0, none⟩) lb).trans a0
  replace a1 := (hv0.cell (p := ⟨b, 1, none⟩) lb).trans a1
  replace a2 := (hv0.cell (p := ⟨b, 2, none⟩) lb).trans a2
  replace a3 := (hv0.cell (p := ⟨b, 3, none⟩) lb).trans a3
  replace z : ∀ j, v0.frozen? ⟨b, j, none⟩ = false := fun j => (hv0.frozen (p := ⟨b, j, none⟩) lb).trans (z j)
  replace BB := below_step BB hv0
  replace s1 := (hv0.cell (p := ⟨g, 1, none⟩) (Nat.lt_trans lad lb)).trans s1
  replace lb := Nat.lt_of_lt_of_le lb hv0.size
  clear hv0 s0
  rcases Q0.out with q | q <;> subst q
  case inr => go_wp2_with fail; go_ret3; exact parseP_mk (by simp [parseP, firstErr, V0.out, V1.out]) BB
  have zz := z 0
  go_wp2_with fail
  clear zz
  replace a0 : (v0.setCell ⟨b, 0, none⟩ (.int .u64 x0)).cell? ⟨b, 0, none⟩ = some (.int .u64 x0) := by go_simp
  replace a1 : (v0.setCell ⟨b, 0, none⟩ (.int .u64 x0)).cell? ⟨b, 1, none⟩ = some (.int .u64 0) := by go_simp
  replace a2 : (v0.setCell ⟨b, 0, none⟩ (.int .u64 x0)).cell? ⟨b, 2, none⟩ = some (.int .u64 0) := by go_simp
  replace a3 : (v0.setCell ⟨b, 0, none⟩ (.int .u64 x0)).cell? ⟨b, 3, none⟩ = some (.int .u64 0) := by go_simp
  replace z : ∀ j, (v0.setCell ⟨b, 0, none⟩ (.int .u64 x0)).frozen? ⟨b, j, none⟩ = false := fun j => by rw [World.frozen?_setCell]; exact z j
  replace lb : b < (v0.setCell ⟨b, 0, none⟩ (.int .u64 x0)).heap.size := by simpa using lb
  replace BB := below_set (j := 0) (v := .int .u64 x0) BB lw
  replace s1 : (v0.setCell ⟨b, 0, none⟩ (.int .u64 x0)).cell? ⟨g, 1, none⟩ = some (.string (BA p1)) := (World.cell?_setCell_other _ _ _ _ (fun e => absurd (congrArg Addr.block e) (Nat.ne_of_gt lad))).trans s1
  rw [rounds_succ]
  go_wp2_with fail
  refine (N1.out _).mono ?_
  rintro e v1 ⟨rfl, hv1⟩
  replace a0 := (hv1.cell (p := ⟨b, 0, none⟩) lb).trans a0
  replace a1 := (hv1.cell (p := ⟨b, 1, none⟩) lb).trans a1
  replace a2 := (hv1.cell (p := ⟨b, 2, none⟩) lb).trans a2
  replace a3 := (hv1.cell (p := ⟨b, 3, none⟩) lb).trans a3
  replace z : ∀ j, v1.frozen? ⟨b, j, none⟩ = false := fun j => (hv1.frozen (p := ⟨b, j, none⟩) lb).trans (z j)
  replace BB := below_step BB hv1
  replace lb := Nat.lt_of_lt_of_le lb hv1.size
  clear hv1 s1
  rcases Q1.out with q | q <;> subst q
  case inr => go_wp2_with fail; go_ret3; exact parseP_mk (by simp [parseP, firstErr, V0.out, V1.out]) BB
  have zz := z 1
  go_wp2_with fail
  clear zz
  replace a0 : (v1.setCell ⟨b, 1, none⟩ (.int .u64 x1)).cell? ⟨b, 0, none⟩ = some (.int .u64 x0) := by go_simp
  replace a1 : (v1.setCell ⟨b, 1, none⟩ (.int .u64 x1)).cell? ⟨b, 1, none⟩ = some (.int .u64 x1) := by go_simp
  replace a2 : (v1.setCell ⟨b, 1, none⟩ (.int .u64 x1)).cell? ⟨b, 2, none⟩ = some (.int .u64 0) := by go_simp
  replace a3 : (v1.setCell ⟨b, 1, none⟩ (.int .u64 x1)).cell? ⟨b, 3, none⟩ = some (.int .u64 0) := by go_simp
  replace z : ∀ j, (v1.setCell ⟨b, 1, none⟩ (.int .u64 x1)).frozen? ⟨b, j, none⟩ = false := fun j => by rw [World.frozen?_setCell]; exact z j
  replace lb : b < (v1.setCell ⟨b, 1, none⟩ (.int .u64 x1)).heap.size := by simpa using lb
  replace BB := below_set (j := 1) (v := .int .u64 x1) BB lw
  rw [rounds_succ]
  go_wp2_with fail
  refine wp_loop_rounds 2 ?_
  rw [rounds_succ]
  by_cases hx0 : 255 < x0
  · go_wp2_with fail
    go_ret3
    exact parseP_mk (by simp [parseP, firstErr, firstBig, sumFrom, V0.out, V1.out, hx0]) BB
  have t0 : x0 ≤ 255 := by omega
  clear hx0
  go_wp2_with fail
  rw [rounds_succ]
  by_cases hl : 16777216 ≤ x1
  · go_wp2_with fail
    go_ret3
    exact parseP_mk (by simp [parseP, firstErr, firstBig, sumFrom, V0.out, V1.out, not255 t0, hl]) BB
  go_wp2_with fail
  refine wp_loop_rounds 2 ?_
  rw [rounds_succ]
  go_wp2_with fail
  rw [rounds_succ]
  go_wp2_with fail
  go_ret3
  refine parseP_mk ?_ BB
  simp [parseP, firstErr, firstBig, sumFrom, V0.out, V1.out, not255 t0, hl]
  all_goals (rw [if_neg (by omega)]; congr 1; omega)
set_option maxHeartbeats 8000000 in
set_option maxRecDepth 100000 in
theorem parse_walk3 (s : ByteArray) (hs : s.size ≤ 4294967280) (p0 : List UInt8) (p1 : List UInt8) (p2 : List UInt8) (hP : partsV s.data.toList = [p0, p1, p2]) (w : World) (hG : GW w) :
    Calls Tryd.prog 13 #[.string s] w (ParseP (parseP [p0, p1, p2]) w) := by
  have hpf := parts_f s hs
  have hlen : ∀ q ∈ [p0, p1, p2], (BA q).size ≤ 9223372036854775806 := fun q hq => by rw [ba_size]; have := partsV_part s.data.toList q (hP ▸ hq); have := size_len s; omega
  rw [hP] at hpf
  have n0 := number_calls (BA p0) (hlen p0 (by simp))
  obtain ⟨⟨x0, y0, e0⟩, hv0⟩ : ∃ r, numberV p0 = r := ⟨_, rfl⟩
  have hx0 := numberV_le p0
  have hq0 := numberV_err p0
  rw [hv0] at hq0
  have Q0 : Aside0 (e0 = 0 ∨ e0 = 200) := ⟨hq0⟩
  clear hq0
  rw [ba_list] at n0
  rw [hv0] at n0 hx0
  obtain ⟨l0, u0⟩ := hx0
  simp only at l0 u0
  have N0 := Aside0.mk n0
  have V0 := Aside0.mk hv0
  clear n0 hv0
  have n1 := number_calls (BA p1) (hlen p1 (by simp))
  obtain ⟨⟨x1, y1, e1⟩, hv1⟩ : ∃ r, numberV p1 = r := ⟨_, rfl⟩
  have hx1 := numberV_le p1
  have hq1 := numberV_err p1
  rw [hv1] at hq1
  have Q1 : Aside0 (e1 = 0 ∨ e1 = 200) := ⟨hq1⟩
  clear hq1
  rw [ba_list] at n1
  rw [hv1] at n1 hx1
  obtain ⟨l1, u1⟩ := hx1
  simp only at l1 u1
  have N1 := Aside0.mk n1
  have V1 := Aside0.mk hv1
  clear n1 hv1
  have n2 := number_calls (BA p2) (hlen p2 (by simp))
  obtain ⟨⟨x2, y2, e2⟩, hv2⟩ : ∃ r, numberV p2 = r := ⟨_, rfl⟩
  have hx2 := numberV_le p2
  have hq2 := numberV_err p2
  rw [hv2] at hq2
  have Q2 : Aside0 (e2 = 0 ∨ e2 = 200) := ⟨hq2⟩
  clear hq2
  rw [ba_list] at n2
  rw [hv2] at n2 hx2
  obtain ⟨l2, u2⟩ := hx2
  simp only at l2 u2
  have N2 := Aside0.mk n2
  have V2 := Aside0.mk hv2
  clear n2 hv2
  have HP := Aside0.mk hpf
  have HG := Aside0.mk hG
  clear hpf hG hlen hP
  go_enter Tryd.func13, Tryd.ntmps13
  go_wp2_with fail
  refine (four_parts.calls s _ _ HG.out HP.out).mono ?_
  rintro e w1 ⟨v, rfl, hR, hb1⟩
  have B1 := below_step (Below.refl _ _) hb1
  obtain ⟨g, c, rfl, lg, hC⟩ := strs_at hR (by simp)
  simp only [List.map_cons, List.map_nil, List.length_cons, List.length_nil, Nat.zero_add, Nat.reduceAdd] at hC ⊢
  clear hR hb1 HG HP
  obtain ⟨b, hbd⟩ : ∃ b, b = w1.heap.size := ⟨_, rfl⟩
  have lad : g < b := by rw [hbd]; exact lg
  have s0 : (w1.alloc (.cells #[.int .u64 0, .int .u64 0, .int .u64 0, .int .u64 0] 75)).cell? ⟨g, 0, none⟩ = some (.string (BA p0)) := (Below.cell (p := ⟨g, 0, none⟩) (below_alloc (Below.refl _ _) _) lg).trans (hC 0 (by decide))
  have s1 : (w1.alloc (.cells #[.int .u64 0, .int .u64 0, .int .u64 0, .int .u64 0] 75)).cell? ⟨g, 1, none⟩ = some (.string (BA p1)) := (Below.cell (p := ⟨g, 1, none⟩) (below_alloc (Below.refl _ _) _) lg).trans (hC 1 (by decide))
  have s2 : (w1.alloc (.cells #[.int .u64 0, .int .u64 0, .int .u64 0, .int .u64 0] 75)).cell? ⟨g, 2, none⟩ = some (.string (BA p2)) := (Below.cell (p := ⟨g, 2, none⟩) (below_alloc (Below.refl _ _) _) lg).trans (hC 2 (by decide))
  have a0 : (w1.alloc (.cells #[.int .u64 0, .int .u64 0, .int .u64 0, .int .u64 0] 75)).cell? ⟨b, 0, none⟩ = some (.int .u64 0) := by rw [hbd]; go_simp
  have a1 : (w1.alloc (.cells #[.int .u64 0, .int .u64 0, .int .u64 0, .int .u64 0] 75)).cell? ⟨b, 1, none⟩ = some (.int .u64 0) := by rw [hbd]; go_simp
  have a2 : (w1.alloc (.cells #[.int .u64 0, .int .u64 0, .int .u64 0, .int .u64 0] 75)).cell? ⟨b, 2, none⟩ = some (.int .u64 0) := by rw [hbd]; go_simp
  have a3 : (w1.alloc (.cells #[.int .u64 0, .int .u64 0, .int .u64 0, .int .u64 0] 75)).cell? ⟨b, 3, none⟩ = some (.int .u64 0) := by rw [hbd]; go_simp
  have z : ∀ j, (w1.alloc (.cells #[.int .u64 0, .int .u64 0, .int .u64 0, .int .u64 0] 75)).frozen? ⟨b, j, none⟩ = false := fun j => by rw [hbd]; go_simp
  have lb : b < (w1.alloc (.cells #[.int .u64 0, .int .u64 0, .int .u64 0, .int .u64 0] 75)).heap.size := by rw [hbd]; simp
  have lw : w.heap.size ≤ b := by rw [hbd]; exact B1.size
  have BB := below_alloc B1 (.cells #[.int .u64 0, .int .u64 0, .int .u64 0, .int .u64 0] 75)
  go_wp2_with fail
  rw [← hbd]
  obtain ⟨W, hW⟩ : ∃ W, W = w1.alloc (.cells #[.int .u64 0, .int .u64 0, .int .u64 0, .int .u64 0] 75) := ⟨_, rfl⟩
  rw [← hW] at s0 s1 s2 a0 a1 a2 a3 z lb BB ⊢
  clear hW hbd hC B1
  refine wp_loop_rounds 4 ?_
  rw [rounds_succ]
  go_wp2_with fail
  refine (N0.out _).mono ?_
  rintro e v0 ⟨rfl, hv0⟩
  replace a0 := (hv0.cell (p := ⟨b, 0, none⟩) lb).trans a0
  replace a1 := (hv0.cell (p := ⟨b, 1, none⟩) lb).trans a1
  replace a2 := (hv0.cell (p := ⟨b, 2, none⟩) lb).trans a2
  replace a3 := (hv0.cell (p := ⟨b, 3, none⟩) lb).trans a3
  replace z : ∀ j, v0.frozen? ⟨b, j, none⟩ = false := fun j => (hv0.frozen (p := ⟨b, j, none⟩) lb).trans (z j)
  replace BB := below_step BB hv0
  replace s1 := (hv0.cell (p := ⟨g, 1, none⟩) (Nat.lt_trans lad lb)).trans s1
  replace s2 := (hv0.cell (p := ⟨g, 2, none⟩) (Nat.lt_trans lad lb)).trans s2
  replace lb := Nat.lt_of_lt_of_le lb hv0.size
  clear hv0 s0
  rcases Q0.out with q | q <;> subst q
  case inr => go_wp2_with fail; go_ret3; exact parseP_mk (by simp [parseP, firstErr, V0.out, V1.out, V2.out]) BB
  have zz := z 0
  go_wp2_with fail
  clear zz
  replace a0 : (v0.setCell ⟨b, 0, none⟩ (.int .u64 x0)).cell? ⟨b, 0, none⟩ = some (.int .u64 x0) := by go_simp
  replace a1 : (v0.setCell ⟨b, 0, none⟩ (.int .u64 x0)).cell? ⟨b, 1, none⟩ = some (.int .u64 0) := by go_simp
  replace a2 : (v0.setCell ⟨b, 0, none⟩ (.int .u64 x0)).cell? ⟨b, 2, none⟩ = some (.int .u64 0) := by go_simp
  replace a3 : (v0.setCell ⟨b, 0, none⟩ (.int .u64 x0)).cell? ⟨b, 3, none⟩ = some (.int .u64 0) := by go_simp
  replace z : ∀ j, (v0.setCell ⟨b, 0, none⟩ (.int .u64 x0)).frozen? ⟨b, j, none⟩ = false := fun j => by rw [World.frozen?_setCell]; exact z j
  replace lb : b < (v0.setCell ⟨b, 0, none⟩ (.int .u64 x0)).heap.size := by simpa using lb
  replace BB := below_set (j := 0) (v := .int .u64 x0) BB lw
  replace s1 : (v0.setCell ⟨b, 0, none⟩ (.int .u64 x0)).cell? ⟨g, 1, none⟩ = some (.string (BA p1)) := (World.cell?_setCell_other _ _ _ _ (fun e => absurd (congrArg Addr.block e) (Nat.ne_of_gt lad))).trans s1
  replace s2 : (v0.setCell ⟨b, 0, none⟩ (.int .u64 x0)).cell? ⟨g, 2, none⟩ = some (.string (BA p2)) := (World.cell?_setCell_other _ _ _ _ (fun e => absurd (congrArg Addr.block e) (Nat.ne_of_gt lad))).trans s2
  rw [rounds_succ]
  go_wp2_with fail
  refine (N1.out _).mono ?_
  rintro e v1 ⟨rfl, hv1⟩
  replace a0 := (hv1.cell (p := ⟨b, 0, none⟩) lb).trans a0
  replace a1 := (hv1.cell (p := ⟨b, 1, none⟩) lb).trans a1
  replace a2 := (hv1.cell (p := ⟨b, 2, none⟩) lb).trans a2
  replace a3 := (hv1.cell (p := ⟨b, 3, none⟩) lb).trans a3
  replace z : ∀ j, v1.frozen? ⟨b, j, none⟩ = false := fun j => (hv1.frozen (p := ⟨b, j, none⟩) lb).trans (z j)
  replace BB := below_step BB hv1
  replace s2 := (hv1.cell (p := ⟨g, 2, none⟩) (Nat.lt_trans lad lb)).trans s2
  replace lb := Nat.lt_of_lt_of_le lb hv1.size
  clear hv1 s1
  rcases Q1.out with q | q <;> subst q
  case inr => go_wp2_with fail; go_ret3; exact parseP_mk (by simp [parseP, firstErr, V0.out, V1.out, V2.out]) BB
  have zz := z 1
  go_wp2_with fail
  clear zz
  replace a0 : (v1.setCell ⟨b, 1, none⟩ (.int .u64 x1)).cell? ⟨b, 0, none⟩ = some (.int .u64 x0) := by go_simp
  replace a1 : (v1.setCell ⟨b, 1, none⟩ (.int .u64 x1)).cell? ⟨b, 1, none⟩ = some (.int .u64 x1) := by go_simp
  replace a2 : (v1.setCell ⟨b, 1, none⟩ (.int .u64 x1)).cell? ⟨b, 2, none⟩ = some (.int .u64 0) := by go_simp
  replace a3 : (v1.setCell ⟨b, 1, none⟩ (.int .u64 x1)).cell? ⟨b, 3, none⟩ = some (.int .u64 0) := by go_simp
  replace z : ∀ j, (v1.setCell ⟨b, 1, none⟩ (.int .u64 x1)).frozen? ⟨b, j, none⟩ = false := fun j => by rw [World.frozen?_setCell]; exact z j
  replace lb : b < (v1.setCell ⟨b, 1, none⟩ (.int .u64 x1)).heap.size := by simpa using lb
  replace BB := below_set (j := 1) (v := .int .u64 x1) BB lw
  replace s2 : (v1.setCell ⟨b, 1, none⟩ (.int .u64 x1)).cell? ⟨g, 2, none⟩ = some (.string (BA p2)) := (World.cell?_setCell_other _ _ _ _ (fun e => absurd (congrArg Addr.block e) (Nat.ne_of_gt lad))).trans s2
  rw [rounds_succ]
  go_wp2_with fail
  refine (N2.out _).mono ?_
  rintro e v2 ⟨rfl, hv2⟩
  replace a0 := (hv2.cell (p := ⟨b, 0, none⟩) lb).trans a0
  replace a1 := (hv2.cell (p := ⟨b, 1, none⟩) lb).trans a1
  replace a2 := (hv2.cell (p := ⟨b, 2, none⟩) lb).trans a2
  replace a3 := (hv2.cell (p := ⟨b, 3, none⟩) lb).trans a3
  replace z : ∀ j, v2.frozen? ⟨b, j, none⟩ = false := fun j => (hv2.frozen (p := ⟨b, j, none⟩) lb).trans (z j)
  replace BB := below_step BB hv2
  replace lb := Nat.lt_of_lt_of_le lb hv2.size
  clear hv2 s2
  rcases Q2.out with q | q <;> subst q
  case inr => go_wp2_with fail; go_ret3; exact parseP_mk (by simp [parseP, firstErr, V0.out, V1.out, V2.out]) BB
  have zz := z 2
  go_wp2_with fail
  clear zz
  replace a0 : (v2.setCell ⟨b, 2, none⟩ (.int .u64 x2)).cell? ⟨b, 0, none⟩ = some (.int .u64 x0) := by go_simp
  replace a1 : (v2.setCell ⟨b, 2, none⟩ (.int .u64 x2)).cell? ⟨b, 1, none⟩ = some (.int .u64 x1) := by go_simp
  replace a2 : (v2.setCell ⟨b, 2, none⟩ (.int .u64 x2)).cell? ⟨b, 2, none⟩ = some (.int .u64 x2) := by go_simp
  replace a3 : (v2.setCell ⟨b, 2, none⟩ (.int .u64 x2)).cell? ⟨b, 3, none⟩ = some (.int .u64 0) := by go_simp
  replace z : ∀ j, (v2.setCell ⟨b, 2, none⟩ (.int .u64 x2)).frozen? ⟨b, j, none⟩ = false := fun j => by rw [World.frozen?_setCell]; exact z j
  replace lb : b < (v2.setCell ⟨b, 2, none⟩ (.int .u64 x2)).heap.size := by simpa using lb
  replace BB := below_set (j := 2) (v := .int .u64 x2) BB lw
  rw [rounds_succ]
  go_wp2_with fail
  refine wp_loop_rounds 3 ?_
  rw [rounds_succ]
  by_cases hx0 : 255 < x0
  · go_wp2_with fail
    go_ret3
    exact parseP_mk (by simp [parseP, firstErr, firstBig, sumFrom, V0.out, V1.out, V2.out, hx0]) BB
  have t0 : x0 ≤ 255 := by omega
  clear hx0
  go_wp2_with fail
  rw [rounds_succ]
  by_cases hx1 : 255 < x1
  · go_wp2_with fail
    go_ret3
    exact parseP_mk (by simp [parseP, firstErr, firstBig, sumFrom, V0.out, V1.out, V2.out, not255 t0, hx1]) BB
  have t1 : x1 ≤ 255 := by omega
  clear hx1
  go_wp2_with fail
  rw [rounds_succ]
  by_cases hl : 65536 ≤ x2
  · go_wp2_with fail
    go_ret3
    exact parseP_mk (by simp [parseP, firstErr, firstBig, sumFrom, V0.out, V1.out, V2.out, not255 t0, not255 t1, hl]) BB
  go_wp2_with fail
  refine wp_loop_rounds 3 ?_
  rw [rounds_succ]
  go_wp2_with fail
  rw [rounds_succ]
  go_wp2_with fail
  rw [rounds_succ]
  go_wp2_with fail
  go_ret3
  refine parseP_mk ?_ BB
  simp [parseP, firstErr, firstBig, sumFrom, V0.out, V1.out, V2.out, not255 t0, not255 t1, hl]
  all_goals (rw [if_neg (by omega)]; congr 1; omega)
set_option maxHeartbeats 8000000 in
set_option maxRecDepth 100000 in
theorem parse_walk4 (s : ByteArray) (hs : s.size ≤ 4294967280) (p0 : List UInt8) (p1 : List UInt8) (p2 : List UInt8) (p3 : List UInt8) (hP : partsV s.data.toList = [p0, p1, p2, p3]) (w : World) (hG : GW w) :
    Calls Tryd.prog 13 #[.string s] w (ParseP (parseP [p0, p1, p2, p3]) w) := by
  have hpf := parts_f s hs
  have hlen : ∀ q ∈ [p0, p1, p2, p3], (BA q).size ≤ 9223372036854775806 := fun q hq => by rw [ba_size]; have := partsV_part s.data.toList q (hP ▸ hq); have := size_len s; omega
  rw [hP] at hpf
  have n0 := number_calls (BA p0) (hlen p0 (by simp))
  obtain ⟨⟨x0, y0, e0⟩, hv0⟩ : ∃ r, numberV p0 = r := ⟨_, rfl⟩
  have hx0 := numberV_le p0
  have hq0 := numberV_err p0
  rw [hv0] at hq0
  have Q0 : Aside0 (e0 = 0 ∨ e0 = 200) := ⟨hq0⟩
  clear hq0
  rw [ba_list] at n0
  rw [hv0] at n0 hx0
  obtain ⟨l0, u0⟩ := hx0
  simp only at l0 u0
  have N0 := Aside0.mk n0
  have V0 := Aside0.mk hv0
  clear n0 hv0
  have n1 := number_calls (BA p1) (hlen p1 (by simp))
  obtain ⟨⟨x1, y1, e1⟩, hv1⟩ : ∃ r, numberV p1 = r := ⟨_, rfl⟩
  have hx1 := numberV_le p1
  have hq1 := numberV_err p1
  rw [hv1] at hq1
  have Q1 : Aside0 (e1 = 0 ∨ e1 = 200) := ⟨hq1⟩
  clear hq1
  rw [ba_list] at n1
  rw [hv1] at n1 hx1
  obtain ⟨l1, u1⟩ := hx1
  simp only at l1 u1
  have N1 := Aside0.mk n1
  have V1 := Aside0.mk hv1
  clear n1 hv1
  have n2 := number_calls (BA p2) (hlen p2 (by simp))
  obtain ⟨⟨x2, y2, e2⟩, hv2⟩ : ∃ r, numberV p2 = r := ⟨_, rfl⟩
  have hx2 := numberV_le p2
  have hq2 := numberV_err p2
  rw [hv2] at hq2
  have Q2 : Aside0 (e2 = 0 ∨ e2 = 200) := ⟨hq2⟩
  clear hq2
  rw [ba_list] at n2
  rw [hv2] at n2 hx2
  obtain ⟨l2, u2⟩ := hx2
  simp only at l2 u2
  have N2 := Aside0.mk n2
  have V2 := Aside0.mk hv2
  clear n2 hv2
  have n3 := number_calls (BA p3) (hlen p3 (by simp))
  obtain ⟨⟨x3, y3, e3⟩, hv3⟩ : ∃ r, numberV p3 = r := ⟨_, rfl⟩
  have hx3 := numberV_le p3
  have hq3 := numberV_err p3
  rw [hv3] at hq3
  have Q3 : Aside0 (e3 = 0 ∨ e3 = 200) := ⟨hq3⟩
  clear hq3
  rw [ba_list] at n3
  rw [hv3] at n3 hx3
  obtain ⟨l3, u3⟩ := hx3
  simp only at l3 u3
  have N3 := Aside0.mk n3
  have V3 := Aside0.mk hv3
  clear n3 hv3
  have HP := Aside0.mk hpf
  have HG := Aside0.mk hG
  clear hpf hG hlen hP
  go_enter Tryd.func13, Tryd.ntmps13
  go_wp2_with fail
  refine (four_parts.calls s _ _ HG.out HP.out).mono ?_
  rintro e w1 ⟨v, rfl, hR, hb1⟩
  have B1 := below_step (Below.refl _ _) hb1
  obtain ⟨g, c, rfl, lg, hC⟩ := strs_at hR (by simp)
  simp only [List.map_cons, List.map_nil, List.length_cons, List.length_nil, Nat.zero_add, Nat.reduceAdd] at hC ⊢
  clear hR hb1 HG HP
  obtain ⟨b, hbd⟩ : ∃ b, b = w1.heap.size := ⟨_, rfl⟩
  have lad : g < b := by rw [hbd]; exact lg
  have s0 : (w1.alloc (.cells #[.int .u64 0, .int .u64 0, .int .u64 0, .int .u64 0] 75)).cell? ⟨g, 0, none⟩ = some (.string (BA p0)) := (Below.cell (p := ⟨g, 0, none⟩) (below_alloc (Below.refl _ _) _) lg).trans (hC 0 (by decide))
  have s1 : (w1.alloc (.cells #[.int .u64 0, .int .u64 0, .int .u64 0, .int .u64 0] 75)).cell? ⟨g, 1, none⟩ = some (.string (BA p1)) := (Below.cell (p := ⟨g, 1, none⟩) (below_alloc (Below.refl _ _) _) lg).trans (hC 1 (by decide))
  have s2 : (w1.alloc (.cells #[.int .u64 0, .int .u64 0, .int .u64 0, .int .u64 0] 75)).cell? ⟨g, 2, none⟩ = some (.string (BA p2)) := (Below.cell (p := ⟨g, 2, none⟩) (below_alloc (Below.refl _ _) _) lg).trans (hC 2 (by decide))
  have s3 : (w1.alloc (.cells #[.int .u64 0, .int .u64 0, .int .u64 0, .int .u64 0] 75)).cell? ⟨g, 3, none⟩ = some (.string (BA p3)) := (Below.cell (p := ⟨g, 3, none⟩) (below_alloc (Below.refl _ _) _) lg).trans (hC 3 (by decide))
  have a0 : (w1.alloc (.cells #[.int .u64 0, .int .u64 0, .int .u64 0, .int .u64 0] 75)).cell? ⟨b, 0, none⟩ = some (.int .u64 0) := by rw [hbd]; go_simp
  have a1 : (w1.alloc (.cells #[.int .u64 0, .int .u64 0, .int .u64 0, .int .u64 0] 75)).cell? ⟨b, 1, none⟩ = some (.int .u64 0) := by rw [hbd]; go_simp
  have a2 : (w1.alloc (.cells #[.int .u64 0, .int .u64 0, .int .u64 0, .int .u64 0] 75)).cell? ⟨b, 2, none⟩ = some (.int .u64 0) := by rw [hbd]; go_simp
  have a3 : (w1.alloc (.cells #[.int .u64 0, .int .u64 0, .int .u64 0, .int .u64 0] 75)).cell? ⟨b, 3, none⟩ = some (.int .u64 0) := by rw [hbd]; go_simp
  have z : ∀ j, (w1.alloc (.cells #[.int .u64 0, .int .u64 0, .int .u64 0, .int .u64 0] 75)).frozen? ⟨b, j, none⟩ = false := fun j => by rw [hbd]; go_simp
  have lb : b < (w1.alloc (.cells #[.int .u64 0, .int .u64 0, .int .u64 0, .int .u64 0] 75)).heap.size := by rw [hbd]; simp
  have lw : w.heap.size ≤ b := by rw [hbd]; exact B1.size
  have BB := below_alloc B1 (.cells #[.int .u64 0, .int .u64 0, .int .u64 0, .int .u64 0] 75)
  go_wp2_with fail
  rw [← hbd]
  obtain ⟨W, hW⟩ : ∃ W, W = w1.alloc (.cells #[.int .u64 0, .int .u64 0, .int .u64 0, .int .u64 0] 75) := ⟨_, rfl⟩
  rw [← hW] at s0 s1 s2 s3 a0 a1 a2 a3 z lb BB ⊢
  clear hW hbd hC B1
  refine wp_loop_rounds 5 ?_
  rw [rounds_succ]
  go_wp2_with fail
  refine (N0.out _).mono ?_
  rintro e v0 ⟨rfl, hv0⟩
  replace a0 := (hv0.cell (p := ⟨b, 0, none⟩) lb).trans a0
  replace a1 := (hv0.cell (p := ⟨b, 1, none⟩) lb).trans a1
  replace a2 := (hv0.cell (p := ⟨b, 2, none⟩) lb).trans a2
  replace a3 := (hv0.cell (p := ⟨b, 3, none⟩) lb).trans a3
  replace z : ∀ j, v0.frozen? ⟨b, j, none⟩ = false := fun j => (hv0.frozen (p := ⟨b, j, none⟩) lb).trans (z j)
  replace BB := below_step BB hv0
  replace s1 := (hv0.cell (p := ⟨g, 1, none⟩) (Nat.lt_trans lad lb)).trans s1
  replace s2 := (hv0.cell (p := ⟨g, 2, none⟩) (Nat.lt_trans lad lb)).trans s2
  replace s3 := (hv0.cell (p := ⟨g, 3, none⟩) (Nat.lt_trans lad lb)).trans s3
  replace lb := Nat.lt_of_lt_of_le lb hv0.size
  clear hv0 s0
  rcases Q0.out with q | q <;> subst q
  case inr => go_wp2_with fail; go_ret3; exact parseP_mk (by simp [parseP, firstErr, V0.out, V1.out, V2.out, V3.out]) BB
  have zz := z 0
  go_wp2_with fail
  clear zz
  replace a0 : (v0.setCell ⟨b, 0, none⟩ (.int .u64 x0)).cell? ⟨b, 0, none⟩ = some (.int .u64 x0) := by go_simp
  replace a1 : (v0.setCell ⟨b, 0, none⟩ (.int .u64 x0)).cell? ⟨b, 1, none⟩ = some (.int .u64 0) := by go_simp
  replace a2 : (v0.setCell ⟨b, 0, none⟩ (.int .u64 x0)).cell? ⟨b, 2, none⟩ = some (.int .u64 0) := by go_simp
  replace a3 : (v0.setCell ⟨b, 0, none⟩ (.int .u64 x0)).cell? ⟨b, 3, none⟩ = some (.int .u64 0) := by go_simp
  replace z : ∀ j, (v0.setCell ⟨b, 0, none⟩ (.int .u64 x0)).frozen? ⟨b, j, none⟩ = false := fun j => by rw [World.frozen?_setCell]; exact z j
  replace lb : b < (v0.setCell ⟨b, 0, none⟩ (.int .u64 x0)).heap.size := by simpa using lb
  replace BB := below_set (j := 0) (v := .int .u64 x0) BB lw
  replace s1 : (v0.setCell ⟨b, 0, none⟩ (.int .u64 x0)).cell? ⟨g, 1, none⟩ = some (.string (BA p1)) := (World.cell?_setCell_other _ _ _ _ (fun e => absurd (congrArg Addr.block e) (Nat.ne_of_gt lad))).trans s1
  replace s2 : (v0.setCell ⟨b, 0, none⟩ (.int .u64 x0)).cell? ⟨g, 2, none⟩ = some (.string (BA p2)) := (World.cell?_setCell_other _ _ _ _ (fun e => absurd (congrArg Addr.block e) (Nat.ne_of_gt lad))).trans s2
  replace s3 : (v0.setCell ⟨b, 0, none⟩ (.int .u64 x0)).cell? ⟨g, 3, none⟩ = some (.string (BA p3)) := (World.cell?_setCell_other _ _ _ _ (fun e => absurd (congrArg Addr.block e) (Nat.ne_of_gt lad))).trans s3
  rw [rounds_succ]
  go_wp2_with fail
  refine (N1.out _).mono ?_
  rintro e v1 ⟨rfl, hv1⟩
  replace a0 := (hv1.cell (p := ⟨b, 0, none⟩) lb).trans a0
  replace a1 := (hv1.cell (p := ⟨b, 1, none⟩) lb).trans a1
  replace a2 := (hv1.cell (p := ⟨b, 2, none⟩) lb).trans a2
  replace a3 := (hv1.cell (p := ⟨b, 3, none⟩) lb).trans a3
  replace z : ∀ j, v1.frozen? ⟨b, j, none⟩ = false := fun j => (hv1.frozen (p := ⟨b, j, none⟩) lb).trans (z j)
  replace BB := below_step BB hv1
  replace s2 := (hv1.cell (p := ⟨g, 2, none⟩) (Nat.lt_trans lad lb)).trans s2
  replace s3 := (hv1.cell (p := ⟨g, 3, none⟩) (Nat.lt_trans lad lb)).trans s3
  replace lb := Nat.lt_of_lt_of_le lb hv1.size
  clear hv1 s1
  rcases Q1.out with q | q <;> subst q
  case inr => go_wp2_with fail; go_ret3; exact parseP_mk (by simp [parseP, firstErr, V0.out, V1.out, V2.out, V3.out]) BB
  have zz := z 1
  go_wp2_with fail
  clear zz
  replace a0 : (v1.setCell ⟨b, 1, none⟩ (.int .u64 x1)).cell? ⟨b, 0, none⟩ = some (.int .u64 x0) := by go_simp
  replace a1 : (v1.setCell ⟨b, 1, none⟩ (.int .u64 x1)).cell? ⟨b, 1, none⟩ = some (.int .u64 x1) := by go_simp
  replace a2 : (v1.setCell ⟨b, 1, none⟩ (.int .u64 x1)).cell? ⟨b, 2, none⟩ = some (.int .u64 0) := by go_simp
  replace a3 : (v1.setCell ⟨b, 1, none⟩ (.int .u64 x1)).cell? ⟨b, 3, none⟩ = some (.int .u64 0) := by go_simp
  replace z : ∀ j, (v1.setCell ⟨b, 1, none⟩ (.int .u64 x1)).frozen? ⟨b, j, none⟩ = false := fun j => by rw [World.frozen?_setCell]; exact z j
  replace lb : b < (v1.setCell ⟨b, 1, none⟩ (.int .u64 x1)).heap.size := by simpa using lb
  replace BB := below_set (j := 1) (v := .int .u64 x1) BB lw
  replace s2 : (v1.setCell ⟨b, 1, none⟩ (.int .u64 x1)).cell? ⟨g, 2, none⟩ = some (.string (BA p2)) := (World.cell?_setCell_other _ _ _ _ (fun e => absurd (congrArg Addr.block e) (Nat.ne_of_gt lad))).trans s2
  replace s3 : (v1.setCell ⟨b, 1, none⟩ (.int .u64 x1)).cell? ⟨g, 3, none⟩ = some (.string (BA p3)) := (World.cell?_setCell_other _ _ _ _ (fun e => absurd (congrArg Addr.block e) (Nat.ne_of_gt lad))).trans s3
  rw [rounds_succ]
  go_wp2_with fail
  refine (N2.out _).mono ?_
  rintro e v2 ⟨rfl, hv2⟩
  replace a0 := (hv2.cell (p := ⟨b, 0, none⟩) lb).trans a0
  replace a1 := (hv2.cell (p := ⟨b, 1, none⟩) lb).trans a1
  replace a2 := (hv2.cell (p := ⟨b, 2, none⟩) lb).trans a2
  replace a3 := (hv2.cell (p := ⟨b, 3, none⟩) lb).trans a3
  replace z : ∀ j, v2.frozen? ⟨b, j, none⟩ = false := fun j => (hv2.frozen (p := ⟨b, j, none⟩) lb).trans (z j)
  replace BB := below_step BB hv2
  replace s3 := (hv2.cell (p := ⟨g, 3, none⟩) (Nat.lt_trans lad lb)).trans s3
  replace lb := Nat.lt_of_lt_of_le lb hv2.size
  clear hv2 s2
  rcases Q2.out with q | q <;> subst q
  case inr => go_wp2_with fail; go_ret3; exact parseP_mk (by simp [parseP, firstErr, V0.out, V1.out, V2.out, V3.out]) BB
  have zz := z 2
  go_wp2_with fail
  clear zz
  replace a0 : (v2.setCell ⟨b, 2, none⟩ (.int .u64 x2)).cell? ⟨b, 0, none⟩ = some (.int .u64 x0) := by go_simp
  replace a1 : (v2.setCell ⟨b, 2, none⟩ (.int .u64 x2)).cell? ⟨b, 1, none⟩ = some (.int .u64 x1) := by go_simp
  replace a2 : (v2.setCell ⟨b, 2, none⟩ (.int .u64 x2)).cell? ⟨b, 2, none⟩ = some (.int .u64 x2) := by go_simp
  replace a3 : (v2.setCell ⟨b, 2, none⟩ (.int .u64 x2)).cell? ⟨b, 3, none⟩ = some (.int .u64 0) := by go_simp
  replace z : ∀ j, (v2.setCell ⟨b, 2, none⟩ (.int .u64 x2)).frozen? ⟨b, j, none⟩ = false := fun j => by rw [World.frozen?_setCell]; exact z j
  replace lb : b < (v2.setCell ⟨b, 2, none⟩ (.int .u64 x2)).heap.size := by simpa using lb
  replace BB := below_set (j := 2) (v := .int .u64 x2) BB lw
  replace s3 : (v2.setCell ⟨b, 2, none⟩ (.int .u64 x2)).cell? ⟨g, 3, none⟩ = some (.string (BA p3)) := (World.cell?_setCell_other _ _ _ _ (fun e => absurd (congrArg Addr.block e) (Nat.ne_of_gt lad))).trans s3
  rw [rounds_succ]
  go_wp2_with fail
  refine (N3.out _).mono ?_
  rintro e v3 ⟨rfl, hv3⟩
  replace a0 := (hv3.cell (p := ⟨b, 0, none⟩) lb).trans a0
  replace a1 := (hv3.cell (p := ⟨b, 1, none⟩) lb).trans a1
  replace a2 := (hv3.cell (p := ⟨b, 2, none⟩) lb).trans a2
  replace a3 := (hv3.cell (p := ⟨b, 3, none⟩) lb).trans a3
  replace z : ∀ j, v3.frozen? ⟨b, j, none⟩ = false := fun j => (hv3.frozen (p := ⟨b, j, none⟩) lb).trans (z j)
  replace BB := below_step BB hv3
  replace lb := Nat.lt_of_lt_of_le lb hv3.size
  clear hv3 s3
  rcases Q3.out with q | q <;> subst q
  case inr => go_wp2_with fail; go_ret3; exact parseP_mk (by simp [parseP, firstErr, V0.out, V1.out, V2.out, V3.out]) BB
  have zz := z 3
  go_wp2_with fail
  clear zz
  replace a0 : (v3.setCell ⟨b, 3, none⟩ (.int .u64 x3)).cell? ⟨b, 0, none⟩ = some (.int .u64 x0) := by go_simp
  replace a1 : (v3.setCell ⟨b, 3, none⟩ (.int .u64 x3)).cell? ⟨b, 1, none⟩ = some (.int .u64 x1) := by go_simp
  replace a2 : (v3.setCell ⟨b, 3, none⟩ (.int .u64 x3)).cell? ⟨b, 2, none⟩ = some (.int .u64 x2) := by go_simp
  replace a3 : (v3.setCell ⟨b, 3, none⟩ (.int .u64 x3)).cell? ⟨b, 3, none⟩ = some (.int .u64 x3) := by go_simp
  replace z : ∀ j, (v3.setCell ⟨b, 3, none⟩ (.int .u64 x3)).frozen? ⟨b, j, none⟩ = false := fun j => by rw [World.frozen?_setCell]; exact z j
  replace lb : b < (v3.setCell ⟨b, 3, none⟩ (.int .u64 x3)).heap.size := by simpa using lb
  replace BB := below_set (j := 3) (v := .int .u64 x3) BB lw
  rw [rounds_succ]
  go_wp2_with fail
  refine wp_loop_rounds 4 ?_
  rw [rounds_succ]
  by_cases hx0 : 255 < x0
  · go_wp2_with fail
    go_ret3
    exact parseP_mk (by simp [parseP, firstErr, firstBig, sumFrom, V0.out, V1.out, V2.out, V3.out, hx0]) BB
  have t0 : x0 ≤ 255 := by omega
  clear hx0
  go_wp2_with fail
  rw [rounds_succ]
  by_cases hx1 : 255 < x1
  · go_wp2_with fail
    go_ret3
    exact parseP_mk (by simp [parseP, firstErr, firstBig, sumFrom, V0.out, V1.out, V2.out, V3.out, not255 t0, hx1]) BB
  have t1 : x1 ≤ 255 := by omega
  clear hx1
  go_wp2_with fail
  rw [rounds_succ]
  by_cases hx2 : 255 < x2
  · go_wp2_with fail
    go_ret3
    exact parseP_mk (by simp [parseP, firstErr, firstBig, sumFrom, V0.out, V1.out, V2.out, V3.out, not255 t0, not255 t1, hx2]) BB
  have t2 : x2 ≤ 255 := by omega
  clear hx2
  go_wp2_with fail
  rw [rounds_succ]
  by_cases hl : 256 ≤ x3
  · go_wp2_with fail
    go_ret3
    exact parseP_mk (by simp [parseP, firstErr, firstBig, sumFrom, V0.out, V1.out, V2.out, V3.out, not255 t0, not255 t1, not255 t2, hl]) BB
  go_wp2_with fail
  refine wp_loop_rounds 4 ?_
  rw [rounds_succ]
  go_wp2_with fail
  rw [rounds_succ]
  go_wp2_with fail
  rw [rounds_succ]
  go_wp2_with fail
  rw [rounds_succ]
  go_wp2_with fail
  go_ret3
  refine parseP_mk ?_ BB
  simp [parseP, firstErr, firstBig, sumFrom, V0.out, V1.out, V2.out, V3.out, not255 t0, not255 t1, not255 t2, hl]
  all_goals (rw [if_neg (by omega)]; congr 1; omega)
set_option maxHeartbeats 1000000 in
set_option maxRecDepth 100000 in
theorem parse_walkN (s : ByteArray) (hs : s.size ≤ 4294967280) (hP : 4 < (partsV s.data.toList).length) (w : World) (hG : GW w) :
    Calls Tryd.prog 13 #[.string s] w (ParseP (parseP (partsV s.data.toList)) w) := by
  have hpf := parts_f s hs
  have hv : parseP (partsV s.data.toList) = (0, 4, 201) := if_pos hP
  have HV := Aside0.mk hv
  have HP := Aside0.mk hpf
  obtain ⟨n, hn⟩ : ∃ n, n = ((partsV s.data.toList).map BA).length := ⟨_, rfl⟩
  have hn4 : 4 < n := by rw [hn]; simpa using hP
  clear hv hpf hP
  go_enter Tryd.func13, Tryd.ntmps13
  go_wp2_with fail
  refine (four_parts.calls s _ _ hG HP.out).mono ?_
  rintro e w1 ⟨v, rfl, hR, hb1⟩
  obtain ⟨A, c, rfl, hle, hC⟩ := Kd.R_reads hR
  rw [← hn]
  clear hR hC hle hn
  go_wp2_with fail
  go_ret3
  exact parseP_mk HV.out hb1
theorem parse_walk (s : ByteArray) (hs : s.size ≤ 4294967280) (w : World) (hG : GW w) : Calls Tryd.prog 13 #[.string s] w (ParseP (parseV s.data.toList) w) := by
  unfold parseV
  match hP : partsV s.data.toList with
  | [] => exact absurd hP (partsV_ne _)
  | [p0] => exact parse_walk1 s hs p0 hP w hG
  | [p0, p1] => exact parse_walk2 s hs p0 p1 hP w hG
  | [p0, p1, p2] => exact parse_walk3 s hs p0 p1 p2 hP w hG
  | [p0, p1, p2, p3] => exact parse_walk4 s hs p0 p1 p2 p3 hP w hG
  | p0 :: p1 :: p2 :: p3 :: p4 :: r => exact hP ▸ parse_walkN s hs (by rw [hP]; simp) w hG
def four_Parse.f (a0 : ByteArray) : Option (Int × Int × Int) := if a0.size ≤ 4294967280 then some (parseV a0.data.toList) else none
theorem four_Parse.calls (a0 : ByteArray) (r1 r2 r3 : Int) (w : World) (hG : GW w) (h : four_Parse.f a0 = some (r1, r2, r3)) :
    Calls Tryd.prog 13 #[.string a0] w fun e w' => e = .returned (.tuple #[.int .u32 r1, .int .i64 r2, .int .i64 r3]) ∧ Below w.heap.size w w' := by
  unfold four_Parse.f at h
  by_cases hs : a0.size ≤ 4294967280
  · rw [if_pos hs] at h
    have h := Option.some.inj h
    refine (parse_walk a0 hs w hG).mono fun e w' hh => ?_
    rw [h] at hh
    exact hh
  · rw [if_neg hs] at h
    cases h
end Go.Proofs.YtgnahagnmodpdaaDoor
/-! X3 -/
namespace Go.Proofs.YtgnahagnmodpdaaDoor.X
open Go.RowKit Go.Proofs.YtgnahagnmodpdaaDoorW.PrintWords Go.Proofs.YtgnahagnmodpdaaDoorW.PrintLast Go.Proofs.YtgnahagnmodpdaaDoorW.PrintMore
attribute [local go_sem] max2_int min2_int max_two min_two max_three min_three max_four min_four
set_option linter.unusedVariables false
set_option linter.unusedSimpArgs false
mutual
def posternref20_digit.j0 : Nat → Int → Int → Int → Bool → Option (Int)
  | 0, _, _, _, _ => none
  | k + 1, x0, x1, x5, x6 => if x6 = true then (if ((x0 - 48) % 256) ≥ x1 then (some (-1)) else (some ((x0 - 48) % 256))) else (if x0 ≥ 97 then (posternref20_digit.j1 k x0 x1 x5 (decide (x0 ≤ 102))) else (posternref20_digit.j1 k x0 x1 x5 false))
def posternref20_digit.j1 : Nat → Int → Int → Int → Bool → Option (Int)
  | 0, _, _, _, _ => none
  | k + 1, x0, x1, x5, x16 => if x16 = true then (if (((x0 - 97) % 256) + 10) ≥ x1 then (some (-1)) else (some (((x0 - 97) % 256) + 10))) else (if x0 ≥ 65 then (posternref20_digit.j2 k x0 x1 x5 (decide (x0 ≤ 70))) else (posternref20_digit.j2 k x0 x1 x5 false))
def posternref20_digit.j2 : Nat → Int → Int → Int → Bool → Option (Int)
  | 0, _, _, _, _ => none
  | k + 1, x0, x1, x5, x27 => if x27 = true then (if (((x0 - 65) % 256) + 10) ≥ x1 then (some (-1)) else (some (((x0 - 65) % 256) + 10))) else (if x5 ≥ x1 then (some (-1)) else (some x5))
end
def posternref20_digit.f (k : Nat) (a0 : Int) (a1 : Int) : Option (Int) := if a0 ≥ 48 then (posternref20_digit.j0 k a0 a1 (-1) (decide (a0 ≤ 57))) else (posternref20_digit.j0 k a0 a1 (-1) false)
set_option maxHeartbeats 8000000 in
set_option maxRecDepth 100000 in
theorem posternref20_digit.calls (k : Nat) (a0 : Int) (a1 : Int) (r : Int) (w : World) (h : posternref20_digit.f k a0 a1 = some r) :
    Calls Tryd.prog 45 #[.int .u8 a0, .int .i64 a1] w fun e w' => e = .returned (.int .i64 r) ∧ Drawn0 w w' := by
  have H : (if a0 ≥ 48 then (posternref20_digit.j0 k a0 a1 (-1) (decide (a0 ≤ 57))) else (posternref20_digit.j0 k a0 a1 (-1) false)) = some r := h
  clear h
  have HC3 := Aside0.mk H
  clear H
  go_enter Tryd.func45, Tryd.ntmps45
  go_upto_region 2 with (fail)
  go_cut [6] (fun v6 wc => ∃ (kq : Nat) (x6_2 : Bool), v6 = .bool x6_2 ∧ Aside0 (posternref20_digit.j0 kq a0 a1 (-1) x6_2 = some r) ∧ Aside0 (kq ≤ k) ∧ Drawn0 w wc)
  case first =>
    have H := HC3.out
    clear HC3
    by_cases c4 : a0 ≥ 48
    · rw [if_pos c4] at H
      have c4b0 : decide (48 ≤ a0) = true := decide_eq_true c4
      clear c4
      (first | rw [c4b0] | (simp only [i64_w, i32_w]; rw [c4b0]) | skip)
      have H' := Aside0.mk H
      clear H
      go_wp2
      go_meet
      case rel => exact ⟨_, (decide (a0 ≤ 57)), (by first | rfl | (simp; done) | (simp [*]; done)), H', ⟨by first | omega | exact Nat.le_refl _⟩, by repeat (first | exact Drawn0.refl _ | apply Drawn0.step)⟩
    · rw [if_neg c4] at H
      have c4b0 : decide (48 ≤ a0) = false := decide_eq_false c4
      clear c4
      (first | rw [c4b0] | (simp only [i64_w, i32_w]; rw [c4b0]) | skip)
      have H' := Aside0.mk H
      clear H
      go_wp2
      go_meet
      case rel => exact ⟨_, (false), (by first | rfl | (simp; done) | (simp [*]; done)), H', ⟨by first | omega | exact Nat.le_refl _⟩, by repeat (first | exact Drawn0.refl _ | apply Drawn0.step)⟩
  case rest =>
    clear HC3
    try clear p2
    try clear c4
    try clear c4b0
    obtain ⟨kq, x6_2, rfl, HA, HJ2, ⟨mc2, rfl⟩⟩ := hcut
    cases kq with
    | zero => exact absurd HA.out (by simp [posternref20_digit.j0])
    | succ kj2 =>
      have H := HA.out
      clear HA
      simp only [posternref20_digit.j0] at H
      by_cases c5 : x6_2 = true
      · subst c5
        have H1 : (if ((a0 - 48) % 256) ≥ a1 then (some (-1)) else (some ((a0 - 48) % 256))) = some r := by rw [if_pos rfl] at H; exact H
        clear H
        have H := H1
        clear H1
        by_cases c6 : ((a0 - 48) % 256) ≥ a1
        · rw [if_pos c6] at H
          have c6b0 : decide (a1 ≤ ((a0 - 48) % 256)) = true := decide_eq_true c6
          clear c6
          obtain rfl := Option.some.inj H
          go_wp2
          go_ret
          exact ⟨by first | rfl | (simp; done) | (simp [*]; done), by repeat (first | exact Drawn0.refl _ | apply Drawn0.step)⟩
        · rw [if_neg c6] at H
          have c6b0 : decide (a1 ≤ ((a0 - 48) % 256)) = false := decide_eq_false c6
          clear c6
          obtain rfl := Option.some.inj H
          go_wp2
          go_ret
          exact ⟨by first | rfl | (simp; done) | (simp [*]; done), by repeat (first | exact Drawn0.refl _ | apply Drawn0.step)⟩
      · replace c5 := Bool.eq_false_iff.mpr c5
        subst c5
        have H1 : (if a0 ≥ 97 then (posternref20_digit.j1 kj2 a0 a1 (-1) (decide (a0 ≤ 102))) else (posternref20_digit.j1 kj2 a0 a1 (-1) false)) = some r := by rw [if_neg (show ¬ (false = true) by decide)] at H; exact H
        clear H
        have H := H1
        clear H1
        have HC7 := Aside0.mk H
        clear H
        go_upto_region 4 with (fail)
        go_cut [16] (fun v16 wc => ∃ (kq : Nat) (x16_6 : Bool), v16 = .bool x16_6 ∧ Aside0 (posternref20_digit.j1 kq a0 a1 (-1) x16_6 = some r) ∧ Aside0 (kq ≤ kj2) ∧ Drawn0 w wc)
        case first =>
          have H := HC7.out
          clear HC7
          by_cases c8 : a0 ≥ 97
          · rw [if_pos c8] at H
            have c8b0 : decide (97 ≤ a0) = true := decide_eq_true c8
            clear c8
            (first | rw [c8b0] | (simp only [i64_w, i32_w]; rw [c8b0]) | skip)
            have H' := Aside0.mk H
            clear H
            go_wp2
            go_meet
            case rel => exact ⟨_, (decide (a0 ≤ 102)), (by first | rfl | (simp; done) | (simp [*]; done)), H', ⟨by have := HJ2.out; first | omega | exact Nat.le_refl _⟩, by repeat (first | exact Drawn0.refl _ | apply Drawn0.step)⟩
          · rw [if_neg c8] at H
            have c8b0 : decide (97 ≤ a0) = false := decide_eq_false c8
            clear c8
            (first | rw [c8b0] | (simp only [i64_w, i32_w]; rw [c8b0]) | skip)
            have H' := Aside0.mk H
            clear H
            go_wp2
            go_meet
            case rel => exact ⟨_, (false), (by first | rfl | (simp; done) | (simp [*]; done)), H', ⟨by have := HJ2.out; first | omega | exact Nat.le_refl _⟩, by repeat (first | exact Drawn0.refl _ | apply Drawn0.step)⟩
        case rest =>
          clear HC7
          try clear c2
          try clear p2
          try clear c4
          try clear c4b0
          try clear c5
          try clear c6
          try clear c6b0
          try clear c8
          try clear c8b0
          try clear p2
          obtain ⟨kq, x16_6, rfl, HA, HJ6, ⟨mc6, rfl⟩⟩ := hcut
          cases kq with
          | zero => exact absurd HA.out (by simp [posternref20_digit.j1])
          | succ kj6 =>
            have H := HA.out
            clear HA
            simp only [posternref20_digit.j1] at H
            by_cases c9 : x16_6 = true
            · subst c9
              have H1 : (if (((a0 - 97) % 256) + 10) ≥ a1 then (some (-1)) else (some (((a0 - 97) % 256) + 10))) = some r := by rw [if_pos rfl] at H; exact H
              clear H
              have H := H1
              clear H1
              by_cases c10 : (((a0 - 97) % 256) + 10) ≥ a1
              · rw [if_pos c10] at H
                have c10b0 : decide (a1 ≤ (((a0 - 97) % 256) + 10)) = true := decide_eq_true c10
                clear c10
                obtain rfl := Option.some.inj H
                go_wp2
                go_ret
                exact ⟨by first | rfl | (simp; done) | (simp [*]; done), by repeat (first | exact Drawn0.refl _ | apply Drawn0.step)⟩
              · rw [if_neg c10] at H
                have c10b0 : decide (a1 ≤ (((a0 - 97) % 256) + 10)) = false := decide_eq_false c10
                clear c10
                obtain rfl := Option.some.inj H
                go_wp2
                go_ret
                exact ⟨by first | rfl | (simp; done) | (simp [*]; done), by repeat (first | exact Drawn0.refl _ | apply Drawn0.step)⟩
            · replace c9 := Bool.eq_false_iff.mpr c9
              subst c9
              have H1 : (if a0 ≥ 65 then (posternref20_digit.j2 kj6 a0 a1 (-1) (decide (a0 ≤ 70))) else (posternref20_digit.j2 kj6 a0 a1 (-1) false)) = some r := by rw [if_neg (show ¬ (false = true) by decide)] at H; exact H
              clear H
              have H := H1
              clear H1
              have HC11 := Aside0.mk H
              clear H
              go_upto_region 6 with (fail)
              go_cut [27] (fun v27 wc => ∃ (kq : Nat) (x27_10 : Bool), v27 = .bool x27_10 ∧ Aside0 (posternref20_digit.j2 kq a0 a1 (-1) x27_10 = some r) ∧ Aside0 (kq ≤ kj6) ∧ Drawn0 w wc)
              case first =>
                have H := HC11.out
                clear HC11
                by_cases c12 : a0 ≥ 65
                · rw [if_pos c12] at H
                  have c12b0 : decide (65 ≤ a0) = true := decide_eq_true c12
                  clear c12
                  (first | rw [c12b0] | (simp only [i64_w, i32_w]; rw [c12b0]) | skip)
                  have H' := Aside0.mk H
                  clear H
                  go_wp2
                  go_meet
                  case rel => exact ⟨_, (decide (a0 ≤ 70)), (by first | rfl | (simp; done) | (simp [*]; done)), H', ⟨by have := HJ2.out; have := HJ6.out; first | omega | exact Nat.le_refl _⟩, by repeat (first | exact Drawn0.refl _ | apply Drawn0.step)⟩
                · rw [if_neg c12] at H
                  have c12b0 : decide (65 ≤ a0) = false := decide_eq_false c12
                  clear c12
                  (first | rw [c12b0] | (simp only [i64_w, i32_w]; rw [c12b0]) | skip)
                  have H' := Aside0.mk H
                  clear H
                  go_wp2
                  go_meet
                  case rel => exact ⟨_, (false), (by first | rfl | (simp; done) | (simp [*]; done)), H', ⟨by have := HJ2.out; have := HJ6.out; first | omega | exact Nat.le_refl _⟩, by repeat (first | exact Drawn0.refl _ | apply Drawn0.step)⟩
              case rest =>
                clear HC11
                try clear c1
                try clear c2
                try clear p2
                try clear c4
                try clear c4b0
                try clear c5
                try clear c6
                try clear c6b0
                try clear c8
                try clear c8b0
                try clear c9
                try clear c10
                try clear c10b0
                try clear c12
                try clear c12b0
                try clear p2
                obtain ⟨kq, x27_10, rfl, HA, HJ10, ⟨mc10, rfl⟩⟩ := hcut
                cases kq with
                | zero => exact absurd HA.out (by simp [posternref20_digit.j2])
                | succ kj10 =>
                  have H := HA.out
                  clear HA
                  simp only [posternref20_digit.j2] at H
                  by_cases c13 : x27_10 = true
                  · subst c13
                    have H1 : (if (((a0 - 65) % 256) + 10) ≥ a1 then (some (-1)) else (some (((a0 - 65) % 256) + 10))) = some r := by rw [if_pos rfl] at H; exact H
                    clear H
                    have H := H1
                    clear H1
                    by_cases c14 : (((a0 - 65) % 256) + 10) ≥ a1
                    · rw [if_pos c14] at H
                      have c14b0 : decide (a1 ≤ (((a0 - 65) % 256) + 10)) = true := decide_eq_true c14
                      clear c14
                      obtain rfl := Option.some.inj H
                      go_wp2
                      go_ret
                      exact ⟨by first | rfl | (simp; done) | (simp [*]; done), by repeat (first | exact Drawn0.refl _ | apply Drawn0.step)⟩
                    · rw [if_neg c14] at H
                      have c14b0 : decide (a1 ≤ (((a0 - 65) % 256) + 10)) = false := decide_eq_false c14
                      clear c14
                      obtain rfl := Option.some.inj H
                      go_wp2
                      go_ret
                      exact ⟨by first | rfl | (simp; done) | (simp [*]; done), by repeat (first | exact Drawn0.refl _ | apply Drawn0.step)⟩
                  · replace c13 := Bool.eq_false_iff.mpr c13
                    subst c13
                    have H1 : (if (-1) ≥ a1 then (some (-1)) else (some (-1))) = some r := by rw [if_neg (show ¬ (false = true) by decide)] at H; exact H
                    clear H
                    have H := H1
                    clear H1
                    by_cases c15 : (-1) ≥ a1
                    · rw [if_pos c15] at H
                      have c15b0 : decide (a1 ≤ (-1)) = true := decide_eq_true c15
                      clear c15
                      obtain rfl := Option.some.inj H
                      go_wp2
                      go_ret
                      exact ⟨by first | rfl | (simp; done) | (simp [*]; done), by repeat (first | exact Drawn0.refl _ | apply Drawn0.step)⟩
                    · rw [if_neg c15] at H
                      have c15b0 : decide (a1 ≤ (-1)) = false := decide_eq_false c15
                      clear c15
                      obtain rfl := Option.some.inj H
                      go_wp2
                      go_ret
                      exact ⟨by first | rfl | (simp; done) | (simp [*]; done), by repeat (first | exact Drawn0.refl _ | apply Drawn0.step)⟩
end Go.Proofs.YtgnahagnmodpdaaDoor.X
/-! X6 -/
namespace Go.Proofs.YtgnahagnmodpdaaDoor.X
open Go.RowKit Go.Proofs.YtgnahagnmodpdaaDoorW.PrintWords Go.Proofs.YtgnahagnmodpdaaDoorW.PrintLast Go.Proofs.YtgnahagnmodpdaaDoorW.PrintMore
attribute [local go_sem] max2_int min2_int max_two min_two max_three min_three max_four min_four
set_option linter.unusedVariables false
set_option linter.unusedSimpArgs false
mutual
def four_Strict.l0 : Nat → ByteArray → Int → Int → Int → Option (Int × Int × Int)
  | 0, _, _, _, _ => none
  | k + 1, x0, x5, x6, x11 => if x11 < 4 then (four_Strict.l1 k x0 x5 x6 x11 0 x6 x11) else (if x6 < (x0.size : Int) then (some (0, x6, 203)) else (some (x5, 0, 0)))
def four_Strict.l1 : Nat → ByteArray → Int → Int → Int → Int → Int → Int → Option (Int × Int × Int)
  | 0, _, _, _, _, _, _, _ => none
  | k + 1, x0, x5, x6, x7, x8, x9, x11 => if x6 < (x0.size : Int) then (if 0 ≤ x6 then (if (bt x0 x6) ≥ 48 then (four_Strict.j2 k x0 x5 x6 x7 x8 x9 x11 (decide ((bt x0 x6) ≤ 57))) else (four_Strict.j2 k x0 x5 x6 x7 x8 x9 x11 false)) else (none)) else (four_Strict.j2 k x0 x5 x6 x7 x8 x9 x11 false)
def four_Strict.j2 : Nat → ByteArray → Int → Int → Int → Int → Int → Int → Bool → Option (Int × Int × Int)
  | 0, _, _, _, _, _, _, _, _ => none
  | k + 1, x0, x5, x6, x7, x8, x9, x11, x30 => if x30 = true then (if 0 ≤ x6 then (if x6 < (x0.size : Int) then (if (wrap64 ((wrap64 (10 * x8)) + (((bt x0 x6) - 48) % 256))) > 255 then (some (0, x6, 203)) else (if x6 > x9 then (if x8 = 0 then (some (0, x6, 203)) else (four_Strict.l1 k x0 x5 (wrap64 (x6 + 1)) x7 (wrap64 ((wrap64 (10 * x8)) + (((bt x0 x6) - 48) % 256))) x9 x11)) else (four_Strict.l1 k x0 x5 (wrap64 (x6 + 1)) x7 (wrap64 ((wrap64 (10 * x8)) + (((bt x0 x6) - 48) % 256))) x9 x11))) else (none)) else (none)) else (if x6 = x9 then (some (0, x6, 203)) else (if x7 = 3 then (if x6 < (x0.size : Int) then (some (0, x6, 203)) else (some (Go.bits .or .u32 ((x5 * 256) % 4294967296) ((x8) % 4294967296), 0, 0))) else (if x6 = (x0.size : Int) then (some (0, x6, 203)) else (if 0 ≤ x6 then (if x6 < (x0.size : Int) then (if (bt x0 x6) = 46 then (four_Strict.l0 k x0 (Go.bits .or .u32 ((x5 * 256) % 4294967296) ((x8) % 4294967296)) (wrap64 (x6 + 1)) (wrap64 (x11 + 1))) else (some (0, x6, 203))) else (none)) else (none)))))
end
def four_Strict.f (k : Nat) (a0 : ByteArray) : Option (Int × Int × Int) := four_Strict.l0 k a0 0 0 0
set_option maxHeartbeats 8000000 in
set_option maxRecDepth 100000 in
theorem four_Strict.calls (k : Nat) (a0 : ByteArray) (r1 : Int) (r2 : Int) (r3 : Int) (w : World) (h : four_Strict.f k a0 = some (r1, r2, r3)) :
    Calls Tryd.prog 21 #[.string a0] w fun e w' => e = .returned (.tuple #[.int .u32 r1, .int .i64 r2, .int .i64 r3]) ∧ Drawn0 w w' := by
  have H : (four_Strict.l0 k a0 0 0 0) = some (r1, r2, r3) := h
  clear h
  have H' := Aside0.mk H
  clear H
  go_enter Tryd.func21, Tryd.ntmps21
  go_wp2
  go_loopg [5, 6, 11] k (fun kq v5 v6 v11 w' => ∃ (x5_1 : Int) (x6_1 : Int) (x11_1 : Int), v5 = .int .u32 x5_1 ∧ v6 = .int .i64 x6_1 ∧ v11 = .int .i64 x11_1 ∧ Aside0 (four_Strict.l0 kq a0 x5_1 x6_1 x11_1 = some (r1, r2, r3)) ∧ Aside0 (kq ≤ k) ∧ Drawn0 w w')
  case atStart => exact ⟨(0), (0), (0), (by first | rfl | (simp; done) | (simp [*]; done)), (by first | rfl | (simp; done) | (simp [*]; done)), (by first | rfl | (simp; done) | (simp [*]; done)), H', ⟨Nat.le_refl _⟩, by repeat (first | exact Drawn0.refl _ | apply Drawn0.step)⟩
  case round =>
    clear H'
    obtain ⟨x5_1, x6_1, x11_1, rfl, rfl, rfl, HA, HK1, ⟨m1, rfl⟩⟩ := hrel
    cases gk with
    | zero => exact absurd HA.out (by simp [four_Strict.l0])
    | succ k1 =>
      have H := HA.out
      clear HA
      simp only [four_Strict.l0] at H
      by_cases c2 : x11_1 < 4
      · rw [if_pos c2] at H
        have c2b0 : decide (x11_1 < 4) = true := decide_eq_true c2
        clear c2
        have H' := Aside0.mk H
        clear H
        go_wp2
        go_loopg [6, 8] k1 (fun kq v6 v8 w' => ∃ (x6_2 : Int) (x8_2 : Int), v6 = .int .i64 x6_2 ∧ v8 = .int .i64 x8_2 ∧ Aside0 (four_Strict.l1 kq a0 x5_1 x6_2 x11_1 x8_2 x6_1 x11_1 = some (r1, r2, r3)) ∧ Aside0 (kq ≤ k1) ∧ Drawn0 w w')
        case atStart => exact ⟨(x6_1), (0), (by first | rfl | (simp; done) | (simp [*]; done)), (by first | rfl | (simp; done) | (simp [*]; done)), H', ⟨Nat.le_refl _⟩, by repeat (first | exact Drawn0.refl _ | apply Drawn0.step)⟩
        case round =>
          clear H'
          try clear c2
          try clear c2b0
          try clear p2
          obtain ⟨x6_2, x8_2, rfl, rfl, HA, HK2, ⟨m2, rfl⟩⟩ := hrel
          cases gk with
          | zero => exact absurd HA.out (by simp [four_Strict.l1])
          | succ k2 =>
            have H := HA.out
            clear HA
            simp only [four_Strict.l1] at H
            have HC3 := Aside0.mk H
            clear H
            go_upto_region 6 with (fail)
            go_cut [30] (fun v30 wc => ∃ (kq : Nat) (x30_2 : Bool), v30 = .bool x30_2 ∧ Aside0 (four_Strict.j2 kq a0 x5_1 x6_2 x11_1 x8_2 x6_1 x11_1 x30_2 = some (r1, r2, r3)) ∧ Aside0 (kq ≤ k2) ∧ Drawn0 w wc)
            case first =>
              have H := HC3.out
              clear HC3
              by_cases c4 : x6_2 < (a0.size : Int)
              · rw [if_pos c4] at H
                have c4b0 : decide (x6_2 < (a0.size : Int)) = true := decide_eq_true c4
                clear c4
                (first | rw [c4b0] | (simp only [i64_w, i32_w]; rw [c4b0]) | skip)
                by_cases c5 : 0 ≤ x6_2
                · rw [if_pos c5] at H
                  have c5b0 : decide (0 ≤ x6_2) = true := decide_eq_true c5
                  clear c5
                  by_cases c7 : (bt a0 x6_2) ≥ 48
                  · rw [if_pos c7] at H
                    have c7b0 : decide (48 ≤ (bt a0 x6_2)) = true := decide_eq_true c7
                    clear c7
                    have H' := Aside0.mk H
                    clear H
                    have p6 : 0 ≤ (x6_2 : Int) := of_decide_eq_true (by first | (with_reducible assumption) | assumption)
                    have q6 : x6_2 < (a0.size : Int) := of_decide_eq_true (by first | (with_reducible assumption) | assumption)
                    have hx6 := bt_at a0 x6_2
                    replace p6 := eq_true p6
                    replace q6 := eq_true q6
                    have p8 : 0 ≤ (x6_2 : Int) := of_decide_eq_true (by first | (with_reducible assumption) | assumption)
                    have q8 : x6_2 < (a0.size : Int) := of_decide_eq_true (by first | (with_reducible assumption) | assumption)
                    have hx8 := bt_at a0 x6_2
                    replace p8 := eq_true p8
                    replace q8 := eq_true q8
                    go_wp2
                    go_meet
                    case rel => exact ⟨_, (decide ((bt a0 x6_2) ≤ 57)), (by first | rfl | (simp; done) | (simp [*]; done)), H', ⟨by have := HK1.out; have := HK2.out; first | omega | exact Nat.le_refl _⟩, by repeat (first | exact Drawn0.refl _ | apply Drawn0.step)⟩
                  · rw [if_neg c7] at H
                    have c7b0 : decide (48 ≤ (bt a0 x6_2)) = false := decide_eq_false c7
                    clear c7
                    have H' := Aside0.mk H
                    clear H
                    have p6 : 0 ≤ (x6_2 : Int) := of_decide_eq_true (by first | (with_reducible assumption) | assumption)
                    have q6 : x6_2 < (a0.size : Int) := of_decide_eq_true (by first | (with_reducible assumption) | assumption)
                    have hx6 := bt_at a0 x6_2
                    replace p6 := eq_true p6
                    replace q6 := eq_true q6
                    go_wp2
                    go_meet
                    case rel => exact ⟨_, (false), (by first | rfl | (simp; done) | (simp [*]; done)), H', ⟨by have := HK1.out; have := HK2.out; first | omega | exact Nat.le_refl _⟩, by repeat (first | exact Drawn0.refl _ | apply Drawn0.step)⟩
                · rw [if_neg c5] at H
                  exact absurd H (by simp)
              · rw [if_neg c4] at H
                have c4b0 : decide (x6_2 < (a0.size : Int)) = false := decide_eq_false c4
                clear c4
                (first | rw [c4b0] | (simp only [i64_w, i32_w]; rw [c4b0]) | skip)
                have H' := Aside0.mk H
                clear H
                go_wp2
                go_meet
                case rel => exact ⟨_, (false), (by first | rfl | (simp; done) | (simp [*]; done)), H', ⟨by have := HK1.out; have := HK2.out; first | omega | exact Nat.le_refl _⟩, by repeat (first | exact Drawn0.refl _ | apply Drawn0.step)⟩
            case rest =>
              clear HC3
              try clear c2
              try clear c2b0
              try clear p2
              try clear c4
              try clear c4b0
              try clear c5
              try clear c5b0
              try clear p6
              try clear q6
              try clear hx6
              try clear c7
              try clear c7b0
              try clear p8
              try clear q8
              try clear hx8
              try clear p2
              try clear p6
              try clear p8
              try clear q6
              try clear q8
              obtain ⟨kq, x30_2, rfl, HA, HJ2, ⟨mc2, rfl⟩⟩ := hcut
              cases kq with
              | zero => exact absurd HA.out (by simp [four_Strict.j2])
              | succ kj2 =>
                have H := HA.out
                clear HA
                simp only [four_Strict.j2] at H
                by_cases c9 : x30_2 = true
                · subst c9
                  have H1 : (if 0 ≤ x6_2 then (if x6_2 < (a0.size : Int) then (if (wrap64 ((wrap64 (10 * x8_2)) + (((bt a0 x6_2) - 48) % 256))) > 255 then (some (0, x6_2, 203)) else (if x6_2 > x6_1 then (if x8_2 = 0 then (some (0, x6_2, 203)) else (four_Strict.l1 kj2 a0 x5_1 (wrap64 (x6_2 + 1)) x11_1 (wrap64 ((wrap64 (10 * x8_2)) + (((bt a0 x6_2) - 48) % 256))) x6_1 x11_1)) else (four_Strict.l1 kj2 a0 x5_1 (wrap64 (x6_2 + 1)) x11_1 (wrap64 ((wrap64 (10 * x8_2)) + (((bt a0 x6_2) - 48) % 256))) x6_1 x11_1))) else (none)) else (none)) = some (r1, r2, r3) := by rw [if_pos rfl] at H; exact H
                  clear H
                  have H := H1
                  clear H1
                  by_cases c10 : 0 ≤ x6_2
                  · rw [if_pos c10] at H
                    have c10b0 : decide (0 ≤ x6_2) = true := decide_eq_true c10
                    clear c10
                    by_cases c11 : x6_2 < (a0.size : Int)
                    · rw [if_pos c11] at H
                      have c11b0 : decide (x6_2 < (a0.size : Int)) = true := decide_eq_true c11
                      clear c11
                      by_cases c13 : (wrap64 ((wrap64 (10 * x8_2)) + (((bt a0 x6_2) - 48) % 256))) > 255
                      · rw [if_pos c13] at H
                        have c13b0 : decide (255 < (wrap64 ((wrap64 (10 * x8_2)) + (((bt a0 x6_2) - 48) % 256)))) = true := decide_eq_true c13
                        clear c13
                        simp only [Option.some.injEq, Prod.mk.injEq] at H
                        obtain ⟨rfl, rfl, rfl⟩ := H
                        have p12 : 0 ≤ (x6_2 : Int) := of_decide_eq_true (by first | (with_reducible assumption) | assumption)
                        have q12 : x6_2 < (a0.size : Int) := of_decide_eq_true (by first | (with_reducible assumption) | assumption)
                        have hx12 := bt_at a0 x6_2
                        replace p12 := eq_true p12
                        replace q12 := eq_true q12
                        go_wp2
                        go_ret3
                        exact ⟨by first | rfl | (simp; done) | (simp [*]; done), by repeat (first | exact Drawn0.refl _ | apply Drawn0.step)⟩
                      · rw [if_neg c13] at H
                        have c13b0 : decide (255 < (wrap64 ((wrap64 (10 * x8_2)) + (((bt a0 x6_2) - 48) % 256)))) = false := decide_eq_false c13
                        clear c13
                        by_cases c14 : x6_2 > x6_1
                        · rw [if_pos c14] at H
                          have c14b0 : decide (x6_1 < x6_2) = true := decide_eq_true c14
                          clear c14
                          by_cases c15 : x8_2 = 0
                          · rw [if_pos c15] at H
                            have c15b0 : (x8_2 == 0) = true := beq_iff_eq.mpr c15
                            have c15b1 : (x8_2 != 0) = false := bne_eq_false_iff_eq.mpr c15
                            clear c15
                            simp only [Option.some.injEq, Prod.mk.injEq] at H
                            obtain ⟨rfl, rfl, rfl⟩ := H
                            have p12 : 0 ≤ (x6_2 : Int) := of_decide_eq_true (by first | (with_reducible assumption) | assumption)
                            have q12 : x6_2 < (a0.size : Int) := of_decide_eq_true (by first | (with_reducible assumption) | assumption)
                            have hx12 := bt_at a0 x6_2
                            replace p12 := eq_true p12
                            replace q12 := eq_true q12
                            go_wp2
                            go_ret3
                            exact ⟨by first | rfl | (simp; done) | (simp [*]; done), by repeat (first | exact Drawn0.refl _ | apply Drawn0.step)⟩
                          · rw [if_neg c15] at H
                            have c15b0 : (x8_2 == 0) = false := beq_eq_false_iff_ne.mpr c15
                            have c15b1 : (x8_2 != 0) = true := bne_iff_ne.mpr c15
                            have H' := Aside0.mk H
                            clear H
                            have p12 : 0 ≤ (x6_2 : Int) := of_decide_eq_true (by first | (with_reducible assumption) | assumption)
                            have q12 : x6_2 < (a0.size : Int) := of_decide_eq_true (by first | (with_reducible assumption) | assumption)
                            have hx12 := bt_at a0 x6_2
                            replace p12 := eq_true p12
                            replace q12 := eq_true q12
                            go_wp2
                            go_roundg kj2
                            case measure => have := HK1.out; have := HK2.out; have := HJ2.out; omega
                            case rel => exact ⟨(wrap64 (x6_2 + 1)), (wrap64 ((wrap64 (10 * x8_2)) + (((bt a0 x6_2) - 48) % 256))), (by first | rfl | (simp; done) | (simp [*]; done)), (by first | rfl | (simp; done) | (simp [*]; done)), H', ⟨by have := HK1.out; have := HK2.out; have := HJ2.out; omega⟩, by repeat (first | exact Drawn0.refl _ | apply Drawn0.step)⟩
                        · rw [if_neg c14] at H
                          have c14b0 : decide (x6_1 < x6_2) = false := decide_eq_false c14
                          clear c14
                          have H' := Aside0.mk H
                          clear H
                          have p12 : 0 ≤ (x6_2 : Int) := of_decide_eq_true (by first | (with_reducible assumption) | assumption)
                          have q12 : x6_2 < (a0.size : Int) := of_decide_eq_true (by first | (with_reducible assumption) | assumption)
                          have hx12 := bt_at a0 x6_2
                          replace p12 := eq_true p12
                          replace q12 := eq_true q12
                          go_wp2
                          go_roundg kj2
                          case measure => have := HK1.out; have := HK2.out; have := HJ2.out; omega
                          case rel => exact ⟨(wrap64 (x6_2 + 1)), (wrap64 ((wrap64 (10 * x8_2)) + (((bt a0 x6_2) - 48) % 256))), (by first | rfl | (simp; done) | (simp [*]; done)), (by first | rfl | (simp; done) | (simp [*]; done)), H', ⟨by have := HK1.out; have := HK2.out; have := HJ2.out; omega⟩, by repeat (first | exact Drawn0.refl _ | apply Drawn0.step)⟩
                    · rw [if_neg c11] at H
                      exact absurd H (by simp)
                  · rw [if_neg c10] at H
                    exact absurd H (by simp)
                · replace c9 := Bool.eq_false_iff.mpr c9
                  subst c9
                  have H1 : (if x6_2 = x6_1 then (some (0, x6_2, 203)) else (if x11_1 = 3 then (if x6_2 < (a0.size : Int) then (some (0, x6_2, 203)) else (some (Go.bits .or .u32 ((x5_1 * 256) % 4294967296) ((x8_2) % 4294967296), 0, 0))) else (if x6_2 = (a0.size : Int) then (some (0, x6_2, 203)) else (if 0 ≤ x6_2 then (if x6_2 < (a0.size : Int) then (if (bt a0 x6_2) = 46 then (four_Strict.l0 kj2 a0 (Go.bits .or .u32 ((x5_1 * 256) % 4294967296) ((x8_2) % 4294967296)) (wrap64 (x6_2 + 1)) (wrap64 (x11_1 + 1))) else (some (0, x6_2, 203))) else (none)) else (none))))) = some (r1, r2, r3) := by rw [if_neg (show ¬ (false = true) by decide)] at H; exact H
                  clear H
                  have H := H1
                  clear H1
                  by_cases c16 : x6_2 = x6_1
                  · rw [if_pos c16] at H
                    have c16b0 : (x6_2 == x6_1) = true := beq_iff_eq.mpr c16
                    have c16b1 : (x6_2 != x6_1) = false := bne_eq_false_iff_eq.mpr c16
                    clear c16
                    simp only [Option.some.injEq, Prod.mk.injEq] at H
                    obtain ⟨rfl, rfl, rfl⟩ := H
                    go_wp2
                    go_ret3
                    exact ⟨by first | rfl | (simp; done) | (simp [*]; done), by repeat (first | exact Drawn0.refl _ | apply Drawn0.step)⟩
                  · rw [if_neg c16] at H
                    have c16b0 : (x6_2 == x6_1) = false := beq_eq_false_iff_ne.mpr c16
                    have c16b1 : (x6_2 != x6_1) = true := bne_iff_ne.mpr c16
                    by_cases c17 : x11_1 = 3
                    · rw [if_pos c17] at H
                      have c17b0 : (x11_1 == 3) = true := beq_iff_eq.mpr c17
                      have c17b1 : (x11_1 != 3) = false := bne_eq_false_iff_eq.mpr c17
                      clear c17
                      by_cases c18 : x6_2 < (a0.size : Int)
                      · rw [if_pos c18] at H
                        have c18b0 : decide (x6_2 < (a0.size : Int)) = true := decide_eq_true c18
                        clear c18
                        simp only [Option.some.injEq, Prod.mk.injEq] at H
                        obtain ⟨rfl, rfl, rfl⟩ := H
                        go_wp2
                        go_ret3
                        exact ⟨by first | rfl | (simp; done) | (simp [*]; done), by repeat (first | exact Drawn0.refl _ | apply Drawn0.step)⟩
                      · rw [if_neg c18] at H
                        have c18b0 : decide (x6_2 < (a0.size : Int)) = false := decide_eq_false c18
                        clear c18
                        simp only [Option.some.injEq, Prod.mk.injEq] at H
                        obtain ⟨rfl, rfl, rfl⟩ := H
                        go_wp2
                        go_ret3
                        exact ⟨by first | rfl | (simp; done) | (simp [*]; done), by repeat (first | exact Drawn0.refl _ | apply Drawn0.step)⟩
                    · rw [if_neg c17] at H
                      have c17b0 : (x11_1 == 3) = false := beq_eq_false_iff_ne.mpr c17
                      have c17b1 : (x11_1 != 3) = true := bne_iff_ne.mpr c17
                      by_cases c19 : x6_2 = (a0.size : Int)
                      · rw [if_pos c19] at H
                        have c19b0 : (x6_2 == (a0.size : Int)) = true := beq_iff_eq.mpr c19
                        have c19b1 : (x6_2 != (a0.size : Int)) = false := bne_eq_false_iff_eq.mpr c19
                        clear c19
                        simp only [Option.some.injEq, Prod.mk.injEq] at H
                        obtain ⟨rfl, rfl, rfl⟩ := H
                        go_wp2
                        go_ret3
                        exact ⟨by first | rfl | (simp; done) | (simp [*]; done), by repeat (first | exact Drawn0.refl _ | apply Drawn0.step)⟩
                      · rw [if_neg c19] at H
                        have c19b0 : (x6_2 == (a0.size : Int)) = false := beq_eq_false_iff_ne.mpr c19
                        have c19b1 : (x6_2 != (a0.size : Int)) = true := bne_iff_ne.mpr c19
                        by_cases c20 : 0 ≤ x6_2
                        · rw [if_pos c20] at H
                          have c20b0 : decide (0 ≤ x6_2) = true := decide_eq_true c20
                          clear c20
                          by_cases c21 : x6_2 < (a0.size : Int)
                          · rw [if_pos c21] at H
                            have c21b0 : decide (x6_2 < (a0.size : Int)) = true := decide_eq_true c21
                            clear c21
                            by_cases c23 : (bt a0 x6_2) = 46
                            · rw [if_pos c23] at H
                              have c23b0 : ((bt a0 x6_2) == 46) = true := beq_iff_eq.mpr c23
                              have c23b1 : ((bt a0 x6_2) != 46) = false := bne_eq_false_iff_eq.mpr c23
                              clear c23
                              have H' := Aside0.mk H
                              clear H
                              have p22 : 0 ≤ (x6_2 : Int) := of_decide_eq_true (by first | (with_reducible assumption) | assumption)
                              have q22 : x6_2 < (a0.size : Int) := of_decide_eq_true (by first | (with_reducible assumption) | assumption)
                              have hx22 := bt_at a0 x6_2
                              replace p22 := eq_true p22
                              replace q22 := eq_true q22
                              go_wp2
                              go_roundg kj2
                              case measure => have := HK1.out; have := HK2.out; have := HJ2.out; omega
                              case rel => exact ⟨(Go.bits .or .u32 ((x5_1 * 256) % 4294967296) ((x8_2) % 4294967296)), (wrap64 (x6_2 + 1)), (wrap64 (x11_1 + 1)), (by first | rfl | (simp; done) | (simp [*]; done)), (by first | rfl | (simp; done) | (simp [*]; done)), (by first | rfl | (simp; done) | (simp [*]; done)), H', ⟨by have := HK1.out; have := HK2.out; have := HJ2.out; omega⟩, by repeat (first | exact Drawn0.refl _ | apply Drawn0.step)⟩
                            · rw [if_neg c23] at H
                              have c23b0 : ((bt a0 x6_2) == 46) = false := beq_eq_false_iff_ne.mpr c23
                              have c23b1 : ((bt a0 x6_2) != 46) = true := bne_iff_ne.mpr c23
                              simp only [Option.some.injEq, Prod.mk.injEq] at H
                              obtain ⟨rfl, rfl, rfl⟩ := H
                              have p22 : 0 ≤ (x6_2 : Int) := of_decide_eq_true (by first | (with_reducible assumption) | assumption)
                              have q22 : x6_2 < (a0.size : Int) := of_decide_eq_true (by first | (with_reducible assumption) | assumption)
                              have hx22 := bt_at a0 x6_2
                              replace p22 := eq_true p22
                              replace q22 := eq_true q22
                              go_wp2
                              go_ret3
                              exact ⟨by first | rfl | (simp; done) | (simp [*]; done), by repeat (first | exact Drawn0.refl _ | apply Drawn0.step)⟩
                          · rw [if_neg c21] at H
                            exact absurd H (by simp)
                        · rw [if_neg c20] at H
                          exact absurd H (by simp)
      · rw [if_neg c2] at H
        have c2b0 : decide (x11_1 < 4) = false := decide_eq_false c2
        clear c2
        by_cases c24 : x6_1 < (a0.size : Int)
        · rw [if_pos c24] at H
          have c24b0 : decide (x6_1 < (a0.size : Int)) = true := decide_eq_true c24
          clear c24
          simp only [Option.some.injEq, Prod.mk.injEq] at H
          obtain ⟨rfl, rfl, rfl⟩ := H
          go_wp2
          go_ret3
          exact ⟨by first | rfl | (simp; done) | (simp [*]; done), by repeat (first | exact Drawn0.refl _ | apply Drawn0.step)⟩
        · rw [if_neg c24] at H
          have c24b0 : decide (x6_1 < (a0.size : Int)) = false := decide_eq_false c24
          clear c24
          simp only [Option.some.injEq, Prod.mk.injEq] at H
          obtain ⟨rfl, rfl, rfl⟩ := H
          go_wp2
          go_ret3
          exact ⟨by first | rfl | (simp; done) | (simp [*]; done), by repeat (first | exact Drawn0.refl _ | apply Drawn0.step)⟩
end Go.Proofs.YtgnahagnmodpdaaDoor.X
/-! Itoa -/
namespace Go.Proofs.YtgnahagnmodpdaaDoor
open Go.RowKit Go.Proofs.YtgnahagnmodpdaaDoorW.PrintWords Go.Sort
set_option linter.unusedVariables false
set_option linter.unusedSimpArgs false
theorem below_grow (w : World) (n : Nat) (os : Array Obj) : Below w.heap.size w (grow (w.drewN n) os) :=
  ⟨rfl, rfl, rfl, by show w.heap.size ≤ (w.heap ++ os).size; rw [Array.size_append]; omega, fun _ hj => Sort.heap_grow_old (w.drewN n) os hj⟩
def strconv_Itoa.f (a0 : Int) : Option ByteArray := if -9223372036854775808 ≤ a0 ∧ a0 ≤ 9223372036854775807 then some ⟨(Lib.itoa a0).toArray⟩ else none
theorem strconv_Itoa.calls (a0 : Int) (r : ByteArray) (w : World) (hG : GW w) (h : strconv_Itoa.f a0 = some r) :
    Calls Tryd.prog 46 #[.int .i64 a0] w fun e w' => e = .returned (.string r) ∧ Below w.heap.size w w' := by
  unfold strconv_Itoa.f at h
  by_cases hs : -9223372036854775808 ≤ a0 ∧ a0 ≤ 9223372036854775807
  · rw [if_pos hs] at h
    obtain rfl := Option.some.inj h
    refine (Tryd.strconv_Itoa a0 hs.1 hs.2 w hG.pow10).mono ?_
    rintro e w' ⟨rfl, k, os, rfl⟩
    exact ⟨rfl, below_grow w k os⟩
  · rw [if_neg hs] at h
    cases h
def strings_Join.f (l0 : List ByteArray) (a1 : ByteArray) : Option ByteArray :=
  if l0.length ≤ 140737488355328 ∧ (Lib.join (l0.map (·.data.toList)) a1.data.toList).length ≤ 140737488355328 then some ⟨(Lib.join (l0.map (·.data.toList)) a1.data.toList).toArray⟩ else none
theorem strings_Join.calls (A0 : Option Addr) (c0 : Nat) (l0 : List ByteArray) (a1 : ByteArray) (r : ByteArray) (w : World) (hr0 : Kd.C Kd.string w A0 l0.length l0) (hc0 : l0.length ≤ c0) (h : strings_Join.f l0 a1 = some r) :
    Calls Tryd.prog 47 #[.slice A0 l0.length c0, .string a1] w fun e w' => e = .returned (.string r) ∧ Below w.heap.size w w' := by
  unfold strings_Join.f at h
  by_cases hs : l0.length ≤ 140737488355328 ∧ (Lib.join (l0.map (·.data.toList)) a1.data.toList).length ≤ 140737488355328
  · rw [if_pos hs] at h
    obtain rfl := Option.some.inj h
    by_cases h0 : l0 = []
    · subst h0
      refine (Tryd.strings_Join_none A0 c0 a1 w).mono ?_
      rintro e w' ⟨rfl, rfl⟩
      exact ⟨rfl, Below.refl _ _⟩
    · have hl : 0 < l0.length := List.length_pos_iff.2 h0
      obtain ⟨ad, rfl, hc⟩ := Kd.at_string hr0 0 (by omega) (by omega)
      obtain ⟨b, o, sp⟩ := ad
      have hsp : sp = none := by
        cases sp with
        | none => rfl
        | some x =>
          simp [World.cell?, Addr.add] at hc
          split at hc <;> cases hc
      subst hsp
      refine Tryd.strings_Join b o c0 l0 a1 w (fun j x hx => ?_) (World.block_lt_of_cell? w _ (by simpa [Addr.add] using hc)) hs.1 hc0 hs.2
      have hj : j < l0.length := (List.getElem?_eq_some_iff.1 hx).1
      obtain ⟨ad', e, hc'⟩ := Kd.at_string hr0 (j : Int) (by omega) (by omega)
      cases e
      have ev : rdOf ByteArray.empty l0 (j : Int) = x := by
        unfold rdOf
        rw [Int.toNat_natCast, List.getD_eq_getElem?_getD, hx]
        rfl
      rw [ev] at hc'
      have ea : ((⟨b, o, none⟩ : Addr).add (j : Int).toNat) = ⟨b, o + j, none⟩ := by unfold Addr.add; split <;> simp_all
      rw [ea] at hc'
      exact hc'
  · rw [if_neg hs] at h
    cases h
end Go.Proofs.YtgnahagnmodpdaaDoor
/-! App -/
namespace Go.Proofs.YtgnahagnmodpdaaDoor
open Go.RowKit
set_option linter.unusedVariables false
set_option linter.unusedSimpArgs false
theorem cells_new (w : World) (cs : List Value) (t : TypeId) : ∀ j u, cs[j]? = some u → (w.alloc (.cells cs.toArray t)).cell? ((⟨w.heap.size, 0, none⟩ : Addr).add j) = some u := by
  intro j u hj
  have hb : (w.alloc (.cells cs.toArray t)).heap[w.heap.size]? = some (.cells cs.toArray t (0, 0)) := heap_alloc_new w _
  have ha : ((⟨w.heap.size, 0, none⟩ : Addr).add j) = ⟨w.heap.size, j, none⟩ := by unfold Addr.add; split <;> simp_all
  rw [ha, Lib.cell_of_heap hb]
  simpa using hj
theorem app_one {P : Program} {w : World} {ops : Array Oper} {rest : List Oper} {o : Oper} {a : Act} {Q : Exit → Act → World → Prop} (hgd : o.guard = none) (s x : Operand) (t : TypeId)
    (ho : o.op = .call { callee := .builtin .append, args := #[s, x], argTypes := #[t, t] })
    (base : Nat) (e : TypeId) (i : TypeInfo) (z : Value) (size bytes : Nat) (ht : P.underlying t = some (.slice e)) (hi : P.info? e = some i) (hz : i.zero = some z)
    (hsize : i.size = size) (hby : i.bytes = bytes) (hzs : z.cells.size = size) (hsz : 0 < size)
    (v : Value) (n : Nat) (xs : List Value) (hs : a.eval s = v) (hown : w.ownsRow base e size v n xs)
    (cs : List Value) (hx : a.eval x = .slice (some ⟨w.heap.size, 0, none⟩) 1 1) (hcl : cs.length = size) (h1 : ∀ u ∈ cs, u.oneCell' = true)
    (h63 : n + 1 ≤ maxLen) (hbytes : (n + 1) * bytes ≤ 140737488355328) (hbase : base ≤ w.heap.size)
    (h : ∀ g cap w', base ≤ g → w'.ownsRow base e size (.slice (some ⟨g, 0, none⟩) (n + 1) cap) (n + 1) (xs ++ cs) → (w.alloc (.cells cs.toArray e)).grownBy w' v.ownBlock →
      (∀ B w0, B ≤ base → Below B w0 w → Below B w0 w') → wpList P ops Q rest (a.put o.dst (.slice (some ⟨g, 0, none⟩) (n + 1) cap)) w') :
    wpList P ops Q (o :: rest) a (w.alloc (.cells cs.toArray e)) := by
  refine wpList_append_own _ hgd s x t ho base e i z size bytes ht hi hz hsize hby hzs hsz v n xs hs (hown.alloc _) ⟨w.heap.size, 0, none⟩ 1 1 cs hx (by omega) (cells_new w cs e) h1 h63 hbytes (by simp; omega) ?_
  intro v' w' hown' hgrow _
  have hB : ∀ B w0, B ≤ base → Below B w0 w → Below B w0 w' := fun B w0 hb hw =>
    (hw.alloc (by omega) _).grown hgrow (by simp; omega) (fun k hk => Nat.le_trans hb (hown.lt k hk).1)
  rcases hown'.2 with ⟨_, h0⟩ | ⟨g, cap, cur, hv, hg, _⟩
  · omega
  · subst hv
    exact h g cap w' hg hown' hgrow hB
end Go.Proofs.YtgnahagnmodpdaaDoor
/-! FourPrint -/
namespace Go.Proofs.YtgnahagnmodpdaaDoor
open Go.RowKit Go.Proofs.YtgnahagnmodpdaaDoorW.PrintWords
set_option linter.unusedVariables false
set_option linter.unusedSimpArgs false
theorem own_below {w W : World} {base : Nat} {e : TypeId} {size n : Nat} {v : Value} {xs : List Value} (h : w.ownsRow base e size v n xs) (hb : Below w.heap.size w W) : W.ownsRow base e size v n xs :=
  own_move h (fun k hk => hb.block k (own_lt h k hk))
/-- The four bytes of an address. -/
def oct4 (n : Int) : List Int := [n / 16777216, n / 65536 % 256, n / 256 % 256, n % 256]
/-- An address as a text. -/
def printV (n : Int) : List UInt8 := Lib.join ((oct4 n).map Lib.itoa) [46]
theorem join4_len {b0 b1 b2 b3 : Int} (a0 : 0 ≤ b0) (a1 : 0 ≤ b1) (a2 : 0 ≤ b2) (a3 : 0 ≤ b3) (c0 : b0 ≤ 255) (c1 : b1 ≤ 255) (c2 : b2 ≤ 255) (c3 : b3 ≤ 255) : (Lib.join ([b0, b1, b2, b3].map Lib.itoa) [46]).length ≤ 140737488355328 := by
  have := itoa_len a0 c0
  have := itoa_len a1 c1
  have := itoa_len a2 c2
  have := itoa_len a3 c3
  simp only [List.map_cons, List.map_nil, join4, List.length_append, List.length_cons]
  omega
set_option maxHeartbeats 1000000 in
set_option maxRecDepth 100000 in
theorem octets_walk (n : Int) (h0 : 0 ≤ n) (h1 : n ≤ 4294967295) (w : World) :
    Calls Tryd.prog 24 #[.int .u32 n] w fun e w' => e = .returned (.agg #[.int .u8 (n / 16777216), .int .u8 (n / 65536 % 256), .int .u8 (n / 256 % 256), .int .u8 (n % 256)]) ∧ Below w.heap.size w w' := by
  go_enter Tryd.func24, Tryd.ntmps24
  go_wp2
  go_returns
  exact ⟨rfl, by go_grown⟩
set_option maxHeartbeats 4000000 in
set_option maxRecDepth 100000 in
theorem print_walk (n : Int) (h0 : 0 ≤ n) (h1 : n ≤ 4294967295) (w : World) (hG : GW w) :
    Calls Tryd.prog 23 #[.int .u32 n] w fun e w' => e = .returned (.string (BA (printV n))) ∧ Below w.heap.size w w' := by
  obtain ⟨b0, hb0⟩ : ∃ b, b = n / 16777216 := ⟨_, rfl⟩
  obtain ⟨b1, hb1⟩ : ∃ b, b = n / 65536 % 256 := ⟨_, rfl⟩
  obtain ⟨b2, hb2⟩ : ∃ b, b = n / 256 % 256 := ⟨_, rfl⟩
  obtain ⟨b3, hb3⟩ : ∃ b, b = n % 256 := ⟨_, rfl⟩
  have hO := octets_walk n h0 h1
  have hP : printV n = Lib.join ([b0, b1, b2, b3].map Lib.itoa) [46] := by rw [hb0, hb1, hb2, hb3]; rfl
  rw [← hb0, ← hb1, ← hb2, ← hb3] at hO
  have a0 : 0 ≤ b0 := by omega
  have a1 : 0 ≤ b1 := by omega
  have a2 : 0 ≤ b2 := by omega
  have a3 : 0 ≤ b3 := by omega
  have c0 : b0 ≤ 255 := by omega
  have c1 : b1 ≤ 255 := by omega
  have c2 : b2 ≤ 255 := by omega
  have c3 : b3 ≤ 255 := by omega
  have HO := Aside0.mk hO
  have HP := Aside0.mk hP
  have HG := Aside0.mk hG
  clear hO hP hG hb0 hb1 hb2 hb3
  go_enter Tryd.func23, Tryd.ntmps23
  go_wp2_with fail
  refine (HO.out _).mono ?_
  rintro e w1 ⟨rfl, hb1⟩
  go_wp2_with fail
  have i0 : ∀ w, (Instr.index 44 (.agg #[.int .u8 b0, .int .u8 b1, .int .u8 b2, .int .u8 b3]) (.int .i64 0)).run Tryd.prog w = .ok (.int .u8 b0) w := fun _ => by kernel_rfl
  have i1 : ∀ w, (Instr.index 44 (.agg #[.int .u8 b0, .int .u8 b1, .int .u8 b2, .int .u8 b3]) (.int .i64 1)).run Tryd.prog w = .ok (.int .u8 b1) w := fun _ => by kernel_rfl
  have i2 : ∀ w, (Instr.index 44 (.agg #[.int .u8 b0, .int .u8 b1, .int .u8 b2, .int .u8 b3]) (.int .i64 2)).run Tryd.prog w = .ok (.int .u8 b2) w := fun _ => by kernel_rfl
  have i3 : ∀ w, (Instr.index 44 (.agg #[.int .u8 b0, .int .u8 b1, .int .u8 b2, .int .u8 b3]) (.int .i64 3)).run Tryd.prog w = .ok (.int .u8 b3) w := fun _ => by kernel_rfl
  obtain ⟨i0_, hi, hz0, hz1, hz2⟩ := info_parts (show (Tryd.prog.info? 9).map (fun i => (i.zero, i.size, i.bytes)) = some (some (.string ⟨#[]⟩), 1, 16) by kernel_rfl)
  have R0 : w1.ownsRow w.heap.size 9 1 (.slice none 0 0) 0 [] := ⟨by simp, .inl ⟨rfl, rfl⟩⟩
  have B0 : Below w.heap.size w w1 := hb1
  clear hb1 HO
  refine wp_loop_rounds 5 ?_
  rw [rounds_succ]
  go_wp2_with (simp only [i0])
  refine (strconv_Itoa.calls b0 (BA (Lib.itoa b0)) _ (HG.out.keep B0) (if_pos ⟨by omega, by omega⟩)).mono ?_
  rintro e u0 ⟨rfl, hu0⟩
  have o0 := own_below R0 hu0
  have C0 := below_step B0 hu0
  have hs0 := C0.size
  clear R0 B0 hu0
  go_wp2_with (at_builtin; refine app_one rfl _ _ 39 rfl w.heap.size 9 i0_ (.string ⟨#[]⟩) 1 16 Tryd.underlying39 hi hz0 hz1 hz2 rfl (by decide) _ _ _ rfl o0 [.string (BA (Lib.itoa b0))] rfl rfl (by simp [Value.oneCell']) (by unfold maxLen; omega) (by omega) hs0 ?_; intro g1 cap1 v1 hg1 R1 hgrow1 hbel1)
  have B1 := hbel1 _ _ (Nat.le_refl _) C0
  clear o0 C0 hs0 hg1 hgrow1 hbel1
  rw [rounds_succ]
  go_wp2_with (simp only [i1])
  refine (strconv_Itoa.calls b1 (BA (Lib.itoa b1)) _ (HG.out.keep B1) (if_pos ⟨by omega, by omega⟩)).mono ?_
  rintro e u1 ⟨rfl, hu1⟩
  have o1 := own_below R1 hu1
  have C1 := below_step B1 hu1
  have hs1 := C1.size
  clear R1 B1 hu1
  go_wp2_with (at_builtin; refine app_one rfl _ _ 39 rfl w.heap.size 9 i0_ (.string ⟨#[]⟩) 1 16 Tryd.underlying39 hi hz0 hz1 hz2 rfl (by decide) _ _ _ rfl o1 [.string (BA (Lib.itoa b1))] rfl rfl (by simp [Value.oneCell']) (by unfold maxLen; omega) (by omega) hs1 ?_; intro g2 cap2 v2 hg2 R2 hgrow2 hbel2)
  have B2 := hbel2 _ _ (Nat.le_refl _) C1
  clear o1 C1 hs1 hg2 hgrow2 hbel2
  rw [rounds_succ]
  go_wp2_with (simp only [i2])
  refine (strconv_Itoa.calls b2 (BA (Lib.itoa b2)) _ (HG.out.keep B2) (if_pos ⟨by omega, by omega⟩)).mono ?_
  rintro e u2 ⟨rfl, hu2⟩
  have o2 := own_below R2 hu2
  have C2 := below_step B2 hu2
  have hs2 := C2.size
  clear R2 B2 hu2
  go_wp2_with (at_builtin; refine app_one rfl _ _ 39 rfl w.heap.size 9 i0_ (.string ⟨#[]⟩) 1 16 Tryd.underlying39 hi hz0 hz1 hz2 rfl (by decide) _ _ _ rfl o2 [.string (BA (Lib.itoa b2))] rfl rfl (by simp [Value.oneCell']) (by unfold maxLen; omega) (by omega) hs2 ?_; intro g3 cap3 v3 hg3 R3 hgrow3 hbel3)
  have B3 := hbel3 _ _ (Nat.le_refl _) C2
  clear o2 C2 hs2 hg3 hgrow3 hbel3
  rw [rounds_succ]
  go_wp2_with (simp only [i3])
  refine (strconv_Itoa.calls b3 (BA (Lib.itoa b3)) _ (HG.out.keep B3) (if_pos ⟨by omega, by omega⟩)).mono ?_
  rintro e u3 ⟨rfl, hu3⟩
  have o3 := own_below R3 hu3
  have C3 := below_step B3 hu3
  have hs3 := C3.size
  clear R3 B3 hu3
  go_wp2_with (at_builtin; refine app_one rfl _ _ 39 rfl w.heap.size 9 i0_ (.string ⟨#[]⟩) 1 16 Tryd.underlying39 hi hz0 hz1 hz2 rfl (by decide) _ _ _ rfl o3 [.string (BA (Lib.itoa b3))] rfl rfl (by simp [Value.oneCell']) (by unfold maxLen; omega) (by omega) hs3 ?_; intro g4 cap4 v4 hg4 R4 hgrow4 hbel4)
  have B4 := hbel4 _ _ (Nat.le_refl _) C3
  clear o3 C3 hs3 hg4 hgrow4 hbel4
  rw [rounds_succ]
  go_wp2_with fail
  have KR := kd_strings (xs := [BA (Lib.itoa b0), BA (Lib.itoa b1), BA (Lib.itoa b2), BA (Lib.itoa b3)]) R4
  obtain ⟨A, c, hv, hle, hC⟩ := Kd.R_reads KR
  injection hv with e1 _ e3
  subst e1 e3
  refine (strings_Join.calls _ cap4 _ (BA [46]) (BA (printV n)) _ hC hle ?_).mono ?_
  · unfold strings_Join.f
    have hl := join4_len a0 a1 a2 a3 c0 c1 c2 c3
    rw [if_pos ⟨by simp, by simpa [ba_list] using hl⟩, HP.out]
    rfl
  rintro e w9 ⟨rfl, hb9⟩
  have B5 := below_step B4 hb9
  go_wp2_with fail
  go_ret
  exact ⟨rfl, B5⟩
def four_Print.f (a0 : Int) : Option ByteArray := if 0 ≤ a0 ∧ a0 ≤ 4294967295 then some (BA (printV a0)) else none
theorem four_Print.calls (a0 : Int) (r : ByteArray) (w : World) (hG : GW w) (h : four_Print.f a0 = some r) :
    Calls Tryd.prog 23 #[.int .u32 a0] w fun e w' => e = .returned (.string r) ∧ Below w.heap.size w w' := by
  unfold four_Print.f at h
  by_cases hs : 0 ≤ a0 ∧ a0 ≤ 4294967295
  · rw [if_pos hs] at h
    obtain rfl := Option.some.inj h
    exact print_walk a0 hs.1 hs.2 w hG
  · rw [if_neg hs] at h
    cases h
end Go.Proofs.YtgnahagnmodpdaaDoor
/-! X10 -/
namespace Go.Proofs.YtgnahagnmodpdaaDoor.X
open Go.RowKit Go.Proofs.YtgnahagnmodpdaaDoorW.PrintWords Go.Proofs.YtgnahagnmodpdaaDoorW.PrintLast Go.Proofs.YtgnahagnmodpdaaDoorW.PrintMore
attribute [local go_sem] max2_int min2_int max_two min_two max_three min_three max_four min_four
set_option linter.unusedVariables false
set_option linter.unusedSimpArgs false
def posternlaw20_awake.f (k : Nat)  : Option (Bool) := (four_Parse.f (⟨#[49, 57, 50, 46, 48, 120, 48, 48, 65, 56, 48, 48, 48, 49]⟩ : ByteArray)).bind fun bt120 => (if bt120.1 = 3232235521 then (if bt120.2.1 = 0 then (if bt120.2.2 = 0 then ((four_Print.f bt120.1).bind fun t123 => (if t123.toList = ([49, 57, 50, 46, 49, 54, 56, 46, 48, 46, 49] : List UInt8) then ((four_Ends.f k (⟨#[49, 46, 50]⟩ : ByteArray)).bind fun t124 => (some t124)) else (some false))) else (some false)) else (some false)) else (some false))
set_option maxHeartbeats 8000000 in
set_option maxRecDepth 100000 in
theorem posternlaw20_awake.calls (k : Nat)  (r : Bool) (w : World) (hG : GW w) (h : posternlaw20_awake.f k  = some r) :
    Calls Tryd.prog 11 #[] w fun e w' => e = .returned (.bool r) ∧ Below w.heap.size w w' := by
  have HG := Aside0.mk hG
  clear hG
  have HB := Aside0.mk (Below.refl w.heap.size w)
  have H : ((four_Parse.f (⟨#[49, 57, 50, 46, 48, 120, 48, 48, 65, 56, 48, 48, 48, 49]⟩ : ByteArray)).bind fun bt120 => (if bt120.1 = 3232235521 then (if bt120.2.1 = 0 then (if bt120.2.2 = 0 then ((four_Print.f bt120.1).bind fun t123 => (if t123.toList = ([49, 57, 50, 46, 49, 54, 56, 46, 48, 46, 49] : List UInt8) then ((four_Ends.f k (⟨#[49, 46, 50]⟩ : ByteArray)).bind fun t124 => (some t124)) else (some false))) else (some false)) else (some false)) else (some false))) = some r := h
  clear h
  replace H := Option.bind_eq_some_iff.mp H
  obtain ⟨⟨t120, t121, t122⟩, A10, H⟩ := H
  replace H : (if t120 = 3232235521 then (if t121 = 0 then (if t122 = 0 then ((four_Print.f t120).bind fun t123 => (if t123.toList = ([49, 57, 50, 46, 49, 54, 56, 46, 48, 46, 49] : List UInt8) then ((four_Ends.f k (⟨#[49, 46, 50]⟩ : ByteArray)).bind fun t124 => (some t124)) else (some false))) else (some false)) else (some false)) else (some false)) = some r := H
  have A1 := Aside0.mk A10
  clear A10
  by_cases c2 : t120 = 3232235521
  · rw [if_pos c2] at H
    have c2b0 : (t120 == 3232235521) = true := beq_iff_eq.mpr c2
    have c2b1 : (t120 != 3232235521) = false := bne_eq_false_iff_eq.mpr c2
    clear c2
    by_cases c3 : t121 = 0
    · rw [if_pos c3] at H
      have c3b0 : (t121 == 0) = true := beq_iff_eq.mpr c3
      have c3b1 : (t121 != 0) = false := bne_eq_false_iff_eq.mpr c3
      clear c3
      by_cases c4 : t122 = 0
      · rw [if_pos c4] at H
        have c4b0 : (t122 == 0) = true := beq_iff_eq.mpr c4
        have c4b1 : (t122 != 0) = false := bne_eq_false_iff_eq.mpr c4
        clear c4
        replace H := Option.bind_eq_some_iff.mp H
        obtain ⟨t123, A50, H⟩ := H
        replace H : (if t123.toList = ([49, 57, 50, 46, 49, 54, 56, 46, 48, 46, 49] : List UInt8) then ((four_Ends.f k (⟨#[49, 46, 50]⟩ : ByteArray)).bind fun t124 => (some t124)) else (some false)) = some r := H
        have A5 := Aside0.mk A50
        clear A50
        by_cases c6 : t123.toList = ([49, 57, 50, 46, 49, 54, 56, 46, 48, 46, 49] : List UInt8)
        · rw [if_pos c6] at H
          have c6b0 : (t123.toList == ([49, 57, 50, 46, 49, 54, 56, 46, 48, 46, 49] : List UInt8)) = true := beq_iff_eq.mpr c6
          have c6b1 : (t123.toList != ([49, 57, 50, 46, 49, 54, 56, 46, 48, 46, 49] : List UInt8)) = false := bne_eq_false_iff_eq.mpr c6
          clear c6
          replace H := Option.bind_eq_some_iff.mp H
          obtain ⟨t124, A70, H⟩ := H
          replace H : (some t124) = some r := H
          have A7 := Aside0.mk A70
          clear A70
          obtain rfl := Option.some.inj H
          go_enter Tryd.func11, Tryd.ntmps11
          go_wp2_with (first | ((with_reducible refine gate_callee (f := 13) rfl ?_); refine goesL_ (some 5) rfl rfl Tryd.func13 (by kernel_rfl) rfl #[.string (⟨#[49, 57, 50, 46, 48, 120, 48, 48, 65, 56, 48, 48, 48, 49]⟩ : ByteArray)] rfl (by (try simp only [List.map_toArray, List.map_cons, List.map_nil]); first | done | rfl | (simp only [List.length_drop, List.length_take]; rfl)) ?_; (with_reducible refine (four_Parse.calls (⟨#[49, 57, 50, 46, 48, 120, 48, 48, 65, 56, 48, 48, 48, 49]⟩ : ByteArray) t120 t121 t122 _ (GW.keep HG.out (by repeat (first | (with_reducible first | exact HB.out | apply below_alloc | apply pw_below_drewN | apply below_drew1) | exact HB.out | exact Below.refl _ _))) A1.out).mono ?_); rintro e w8 ⟨rfl, hb⟩; refine ⟨_, rfl, ?_⟩; have n0_ := Aside0.mk (below_step (by repeat (first | (with_reducible first | exact HB.out | apply below_alloc | apply pw_below_drewN | apply below_drew1) | exact HB.out)) hb); clear HB; have HB := n0_; clear n0_; (try clear hb); (try clear hb2); (try clear hk); (try clear hi)) | (go_at_call 23; (with_reducible refine (four_Print.calls t120 t123 _ (GW.keep HG.out (by repeat (first | (with_reducible first | exact HB.out | apply below_alloc | apply pw_below_drewN | apply below_drew1) | exact HB.out | exact Below.refl _ _))) A5.out).mono ?_); rintro e w9 ⟨rfl, hb⟩; have n0_ := Aside0.mk (below_step (by repeat (first | (with_reducible first | exact HB.out | apply below_alloc | apply pw_below_drewN | apply below_drew1) | exact HB.out)) hb); clear HB; have HB := n0_; clear n0_; (try clear hb); (try clear hb2); (try clear hk); (try clear hi)) | (go_at_call 14; (with_reducible refine (four_Ends.calls k (⟨#[49, 46, 50]⟩ : ByteArray) t124 _ (GW.keep HG.out (by repeat (first | (with_reducible first | exact HB.out | apply below_alloc | apply pw_below_drewN | apply below_drew1) | exact HB.out | exact Below.refl _ _))) A7.out).mono ?_); rintro e w10 ⟨rfl, hb⟩; have n0_ := Aside0.mk (below_step (by repeat (first | (with_reducible first | exact HB.out | apply below_alloc | apply pw_below_drewN | apply below_drew1) | exact HB.out)) hb); clear HB; have HB := n0_; clear n0_; (try clear hb); (try clear hb2); (try clear hk); (try clear hi)))
          go_ret
          exact ⟨by first | rfl | (simp [errW_none, errW_some] <;> rfl) | (simp [*, errW_none, errW_some] <;> rfl), by repeat (first | (with_reducible first | exact HB.out | apply below_alloc | apply pw_below_drewN | apply below_drew1) | exact HB.out)⟩
        · rw [if_neg c6] at H
          have c6b0 : (t123.toList == ([49, 57, 50, 46, 49, 54, 56, 46, 48, 46, 49] : List UInt8)) = false := beq_eq_false_iff_ne.mpr c6
          have c6b1 : (t123.toList != ([49, 57, 50, 46, 49, 54, 56, 46, 48, 46, 49] : List UInt8)) = true := bne_iff_ne.mpr c6
          obtain rfl := Option.some.inj H
          go_enter Tryd.func11, Tryd.ntmps11
          go_wp2_with (first | ((with_reducible refine gate_callee (f := 13) rfl ?_); refine goesL_ (some 5) rfl rfl Tryd.func13 (by kernel_rfl) rfl #[.string (⟨#[49, 57, 50, 46, 48, 120, 48, 48, 65, 56, 48, 48, 48, 49]⟩ : ByteArray)] rfl (by (try simp only [List.map_toArray, List.map_cons, List.map_nil]); first | done | rfl | (simp only [List.length_drop, List.length_take]; rfl)) ?_; (with_reducible refine (four_Parse.calls (⟨#[49, 57, 50, 46, 48, 120, 48, 48, 65, 56, 48, 48, 48, 49]⟩ : ByteArray) t120 t121 t122 _ (GW.keep HG.out (by repeat (first | (with_reducible first | exact HB.out | apply below_alloc | apply pw_below_drewN | apply below_drew1) | exact HB.out | exact Below.refl _ _))) A1.out).mono ?_); rintro e w11 ⟨rfl, hb⟩; refine ⟨_, rfl, ?_⟩; have n0_ := Aside0.mk (below_step (by repeat (first | (with_reducible first | exact HB.out | apply below_alloc | apply pw_below_drewN | apply below_drew1) | exact HB.out)) hb); clear HB; have HB := n0_; clear n0_; (try clear hb); (try clear hb2); (try clear hk); (try clear hi)) | (go_at_call 23; (with_reducible refine (four_Print.calls t120 t123 _ (GW.keep HG.out (by repeat (first | (with_reducible first | exact HB.out | apply below_alloc | apply pw_below_drewN | apply below_drew1) | exact HB.out | exact Below.refl _ _))) A5.out).mono ?_); rintro e w12 ⟨rfl, hb⟩; have n0_ := Aside0.mk (below_step (by repeat (first | (with_reducible first | exact HB.out | apply below_alloc | apply pw_below_drewN | apply below_drew1) | exact HB.out)) hb); clear HB; have HB := n0_; clear n0_; (try clear hb); (try clear hb2); (try clear hk); (try clear hi)))
          go_ret
          exact ⟨by first | rfl | (simp [errW_none, errW_some] <;> rfl) | (simp [*, errW_none, errW_some] <;> rfl), by repeat (first | (with_reducible first | exact HB.out | apply below_alloc | apply pw_below_drewN | apply below_drew1) | exact HB.out)⟩
      · rw [if_neg c4] at H
        have c4b0 : (t122 == 0) = false := beq_eq_false_iff_ne.mpr c4
        have c4b1 : (t122 != 0) = true := bne_iff_ne.mpr c4
        obtain rfl := Option.some.inj H
        go_enter Tryd.func11, Tryd.ntmps11
        go_wp2_with (first | ((with_reducible refine gate_callee (f := 13) rfl ?_); refine goesL_ (some 5) rfl rfl Tryd.func13 (by kernel_rfl) rfl #[.string (⟨#[49, 57, 50, 46, 48, 120, 48, 48, 65, 56, 48, 48, 48, 49]⟩ : ByteArray)] rfl (by (try simp only [List.map_toArray, List.map_cons, List.map_nil]); first | done | rfl | (simp only [List.length_drop, List.length_take]; rfl)) ?_; (with_reducible refine (four_Parse.calls (⟨#[49, 57, 50, 46, 48, 120, 48, 48, 65, 56, 48, 48, 48, 49]⟩ : ByteArray) t120 t121 t122 _ (GW.keep HG.out (by repeat (first | (with_reducible first | exact HB.out | apply below_alloc | apply pw_below_drewN | apply below_drew1) | exact HB.out | exact Below.refl _ _))) A1.out).mono ?_); rintro e w13 ⟨rfl, hb⟩; refine ⟨_, rfl, ?_⟩; have n0_ := Aside0.mk (below_step (by repeat (first | (with_reducible first | exact HB.out | apply below_alloc | apply pw_below_drewN | apply below_drew1) | exact HB.out)) hb); clear HB; have HB := n0_; clear n0_; (try clear hb); (try clear hb2); (try clear hk); (try clear hi)))
        go_ret
        exact ⟨by first | rfl | (simp [errW_none, errW_some] <;> rfl) | (simp [*, errW_none, errW_some] <;> rfl), by repeat (first | (with_reducible first | exact HB.out | apply below_alloc | apply pw_below_drewN | apply below_drew1) | exact HB.out)⟩
    · rw [if_neg c3] at H
      have c3b0 : (t121 == 0) = false := beq_eq_false_iff_ne.mpr c3
      have c3b1 : (t121 != 0) = true := bne_iff_ne.mpr c3
      obtain rfl := Option.some.inj H
      go_enter Tryd.func11, Tryd.ntmps11
      go_wp2_with (first | ((with_reducible refine gate_callee (f := 13) rfl ?_); refine goesL_ (some 5) rfl rfl Tryd.func13 (by kernel_rfl) rfl #[.string (⟨#[49, 57, 50, 46, 48, 120, 48, 48, 65, 56, 48, 48, 48, 49]⟩ : ByteArray)] rfl (by (try simp only [List.map_toArray, List.map_cons, List.map_nil]); first | done | rfl | (simp only [List.length_drop, List.length_take]; rfl)) ?_; (with_reducible refine (four_Parse.calls (⟨#[49, 57, 50, 46, 48, 120, 48, 48, 65, 56, 48, 48, 48, 49]⟩ : ByteArray) t120 t121 t122 _ (GW.keep HG.out (by repeat (first | (with_reducible first | exact HB.out | apply below_alloc | apply pw_below_drewN | apply below_drew1) | exact HB.out | exact Below.refl _ _))) A1.out).mono ?_); rintro e w14 ⟨rfl, hb⟩; refine ⟨_, rfl, ?_⟩; have n0_ := Aside0.mk (below_step (by repeat (first | (with_reducible first | exact HB.out | apply below_alloc | apply pw_below_drewN | apply below_drew1) | exact HB.out)) hb); clear HB; have HB := n0_; clear n0_; (try clear hb); (try clear hb2); (try clear hk); (try clear hi)))
      go_ret
      exact ⟨by first | rfl | (simp [errW_none, errW_some] <;> rfl) | (simp [*, errW_none, errW_some] <;> rfl), by repeat (first | (with_reducible first | exact HB.out | apply below_alloc | apply pw_below_drewN | apply below_drew1) | exact HB.out)⟩
  · rw [if_neg c2] at H
    have c2b0 : (t120 == 3232235521) = false := beq_eq_false_iff_ne.mpr c2
    have c2b1 : (t120 != 3232235521) = true := bne_iff_ne.mpr c2
    obtain rfl := Option.some.inj H
    go_enter Tryd.func11, Tryd.ntmps11
    go_wp2_with (first | ((with_reducible refine gate_callee (f := 13) rfl ?_); refine goesL_ (some 5) rfl rfl Tryd.func13 (by kernel_rfl) rfl #[.string (⟨#[49, 57, 50, 46, 48, 120, 48, 48, 65, 56, 48, 48, 48, 49]⟩ : ByteArray)] rfl (by (try simp only [List.map_toArray, List.map_cons, List.map_nil]); first | done | rfl | (simp only [List.length_drop, List.length_take]; rfl)) ?_; (with_reducible refine (four_Parse.calls (⟨#[49, 57, 50, 46, 48, 120, 48, 48, 65, 56, 48, 48, 48, 49]⟩ : ByteArray) t120 t121 t122 _ (GW.keep HG.out (by repeat (first | (with_reducible first | exact HB.out | apply below_alloc | apply pw_below_drewN | apply below_drew1) | exact HB.out | exact Below.refl _ _))) A1.out).mono ?_); rintro e w15 ⟨rfl, hb⟩; refine ⟨_, rfl, ?_⟩; have n0_ := Aside0.mk (below_step (by repeat (first | (with_reducible first | exact HB.out | apply below_alloc | apply pw_below_drewN | apply below_drew1) | exact HB.out)) hb); clear HB; have HB := n0_; clear n0_; (try clear hb); (try clear hb2); (try clear hk); (try clear hi)))
    go_ret
    exact ⟨by first | rfl | (simp [errW_none, errW_some] <;> rfl) | (simp [*, errW_none, errW_some] <;> rfl), by repeat (first | (with_reducible first | exact HB.out | apply below_alloc | apply pw_below_drewN | apply below_drew1) | exact HB.out)⟩
end Go.Proofs.YtgnahagnmodpdaaDoor.X
/-! FourP1 -/
namespace Go.Proofs.YtgnahagnmodpdaaDoor
open Go.RowKit Go.Proofs.YtgnahagnmodpdaaDoorW.PrintWords Go.Proofs.YtgnahagnmodpdaaDoor.X Go.IntWalk
set_option linter.unusedVariables false
set_option linter.unusedSimpArgs false
theorem digV16 {c base : Int} (h2 : 2 ≤ base) (h16 : base ≤ 16) : digV c base = if 48 ≤ c ∧ c ≤ 57 then (if c - 48 < base then c - 48 else -1) else if 65 ≤ c ∧ c ≤ 70 then (if c - 55 < base then c - 55 else -1) else if 97 ≤ c ∧ c ≤ 102 then (if c - 87 < base then c - 87 else -1) else -1 := by
  unfold digV digN
  rw [if_neg (by omega)]
  (repeat' split) <;> omega
theorem ref_digit (c base : Int) (h0 : 0 ≤ c) (h1 : c < 256) (h2 : 2 ≤ base) (h16 : base ≤ 16) : Ev (fun k => posternref20_digit.f k c base) (digV c base) := by
  rw [digV16 h2 h16]
  have j2 : ∀ b : Bool, Ev (fun k => posternref20_digit.j2 k c base (-1) b) (if b = true then (if (c - 65) % 256 + 10 ≥ base then -1 else (c - 65) % 256 + 10) else -1) := by
    intro b
    refine Ev.step (f := fun k => some (if b = true then (if (c - 65) % 256 + 10 ≥ base then -1 else (c - 65) % 256 + 10) else -1)) (fun k => ?_) (Ev.now _)
    simp only [posternref20_digit.j2]
    (repeat' split) <;> first | rfl | omega
  have j1 : ∀ b : Bool, Ev (fun k => posternref20_digit.j1 k c base (-1) b) (if b = true then (if (c - 97) % 256 + 10 ≥ base then -1 else (c - 97) % 256 + 10) else if (decide (65 ≤ c) && decide (c ≤ 70)) = true then (if (c - 65) % 256 + 10 ≥ base then -1 else (c - 65) % 256 + 10) else -1) := by
    intro b
    by_cases hb : b = true
    · rw [if_pos hb]
      refine Ev.step (f := fun k => some (if (c - 97) % 256 + 10 ≥ base then -1 else (c - 97) % 256 + 10)) (fun k => ?_) (Ev.now _)
      simp only [posternref20_digit.j1]
      rw [if_pos hb]
      split <;> rfl
    · rw [if_neg hb]
      refine Ev.step (f := fun k => posternref20_digit.j2 k c base (-1) (decide (65 ≤ c) && decide (c ≤ 70))) (fun k => ?_) (j2 _)
      simp only [posternref20_digit.j1]
      rw [if_neg hb]
      by_cases h : c ≥ 65
      · rw [if_pos h, decide_eq_true (show 65 ≤ c from h), Bool.true_and]
      · rw [if_neg h, decide_eq_false (show ¬ 65 ≤ c from h), Bool.false_and]
  have j0 : ∀ b : Bool, Ev (fun k => posternref20_digit.j0 k c base (-1) b) (if b = true then (if (c - 48) % 256 ≥ base then -1 else (c - 48) % 256) else if (decide (97 ≤ c) && decide (c ≤ 102)) = true then (if (c - 97) % 256 + 10 ≥ base then -1 else (c - 97) % 256 + 10) else if (decide (65 ≤ c) && decide (c ≤ 70)) = true then (if (c - 65) % 256 + 10 ≥ base then -1 else (c - 65) % 256 + 10) else -1) := by
    intro b
    by_cases hb : b = true
    · rw [if_pos hb]
      refine Ev.step (f := fun k => some (if (c - 48) % 256 ≥ base then -1 else (c - 48) % 256)) (fun k => ?_) (Ev.now _)
      simp only [posternref20_digit.j0]
      rw [if_pos hb]
      split <;> rfl
    · rw [if_neg hb]
      refine Ev.step (f := fun k => posternref20_digit.j1 k c base (-1) (decide (97 ≤ c) && decide (c ≤ 102))) (fun k => ?_) (j1 _)
      simp only [posternref20_digit.j0]
      rw [if_neg hb]
      by_cases h : c ≥ 97
      · rw [if_pos h, decide_eq_true (show 97 ≤ c from h), Bool.true_and]
      · rw [if_neg h, decide_eq_false (show ¬ 97 ≤ c from h), Bool.false_and]
  have e := j0 (decide (48 ≤ c) && decide (c ≤ 57))
  refine Ev.congr (f := fun k => posternref20_digit.j0 k c base (-1) (decide (48 ≤ c) && decide (c ≤ 57))) (fun k => ?_) ?_
  · unfold posternref20_digit.f
    by_cases h : c ≥ 48
    · rw [if_pos h, decide_eq_true (show 48 ≤ c from h), Bool.true_and]
    · rw [if_neg h, decide_eq_false (show ¬ 48 ≤ c from h), Bool.false_and]
  · have er : ∀ a b : Int, a = b → Ev (fun k => posternref20_digit.j0 k c base (-1) (decide (48 ≤ c) && decide (c ≤ 57))) a → Ev (fun k => posternref20_digit.j0 k c base (-1) (decide (48 ≤ c) && decide (c ≤ 57))) b := fun a b h => h ▸ id
    refine er _ _ ?_ e
    simp only [Bool.and_eq_true, decide_eq_true_eq]
    (repeat' split) <;> omega
end Go.Proofs.YtgnahagnmodpdaaDoor
/-! FourP2 -/
namespace Go.Proofs.YtgnahagnmodpdaaDoor
open Go.RowKit Go.Proofs.YtgnahagnmodpdaaDoorW.PrintWords Go.Proofs.YtgnahagnmodpdaaDoor.X Go.IntWalk
set_option linter.unusedVariables false
set_option linter.unusedSimpArgs false
def isDec (c : UInt8) : Bool := decide (48 ≤ (c.toNat : Int)) && decide ((c.toNat : Int) ≤ 57)
def lastV (l : List UInt8) : List UInt8 := (partsV l).getLastD []
def endsV (l : List UInt8) : Bool := if lastV l = [] then false else if (lastV l).all isDec then true else (numberV (lastV l)).2.2 == 0
theorem parts_last (s : ByteArray) : rdOf ByteArray.empty ((partsV s.data.toList).map BA) (((partsV s.data.toList).length - 1 : Nat) : Int) = BA (lastV s.data.toList) := by
  have hpos : 0 < (partsV s.data.toList).length := List.length_pos_iff.2 (partsV_ne _)
  rw [rd_map _ _ (by omega)]
  unfold lastV
  rw [List.getLastD_eq_getLast?, List.getLast?_eq_getElem?, List.getElem?_eq_getElem (by omega)]
  rfl
theorem lastV_len (l : List UInt8) : (lastV l).length ≤ l.length := by
  unfold lastV
  rw [List.getLastD_eq_getLast?]
  cases h : (partsV l).getLast? with
  | none => simp
  | some x => exact partsV_part l x (List.mem_of_getLast? h)
theorem isDec_tab : ∀ b : Fin 256, [48, 49, 50, 51, 52, 53, 54, 55, 56, 57].contains (UInt8.ofNat b.val) = isDec (UInt8.ofNat b.val) := by decide +kernel
theorem isDec_is (c : UInt8) : ([48, 49, 50, 51, 52, 53, 54, 55, 56, 57] : List UInt8).contains c = isDec c := by
  have := isDec_tab ⟨c.toNat, c.toNat_lt⟩
  simpa using this
theorem dropWhile_nil {p : UInt8 → Bool} : ∀ {l : List UInt8}, l.dropWhile p = [] ↔ ∀ x ∈ l, p x = true
  | [] => by simp
  | b :: l => by
    by_cases hb : p b = true
    · rw [List.dropWhile_cons_of_pos hb, dropWhile_nil]
      simp [hb]
    · rw [List.dropWhile_cons_of_neg hb]
      simp [hb]
theorem dropWhile_head {p : UInt8 → Bool} : ∀ {l r : List UInt8} {b : UInt8}, l.dropWhile p = b :: r → p b = false ∧ ∀ x ∈ b :: r, x ∈ l
  | [], _, _, h => by simp at h
  | c :: l, r, b, h => by
    by_cases hb : p c = true
    · rw [List.dropWhile_cons_of_pos hb] at h
      obtain ⟨h1, h2⟩ := dropWhile_head h
      exact ⟨h1, fun x hx => List.mem_cons_of_mem _ (h2 x hx)⟩
    · rw [List.dropWhile_cons_of_neg hb] at h
      injection h with h1 h2
      subst h1 h2
      exact ⟨by simpa using hb, fun x hx => hx⟩
theorem trim_all (l : List UInt8) : Lib.trimS l [48, 49, 50, 51, 52, 53, 54, 55, 56, 57] = [] ↔ l.all isDec = true := by
  have e : (fun c : UInt8 => ([48, 49, 50, 51, 52, 53, 54, 55, 56, 57] : List UInt8).contains c) = isDec := funext isDec_is
  unfold Lib.trimS Lib.trimLeftS Lib.trimRightS
  rw [e, dropWhile_nil]
  simp only [List.mem_reverse, List.all_eq_true]
  constructor
  · intro h x hx
    cases hr : l.reverse.dropWhile isDec with
    | nil => exact dropWhile_nil.1 hr x (by simpa using hx)
    | cons b r =>
      obtain ⟨h1, h2⟩ := dropWhile_head hr
      rw [h b (by rw [hr]; simp)] at h1
      cases h1
  · intro h x hx
    cases hr : l.reverse.dropWhile isDec with
    | nil => rw [hr] at hx; cases hx
    | cons b r =>
      obtain ⟨h1, h2⟩ := dropWhile_head hr
      rw [hr] at hx
      exact h x (by simpa using h2 x hx)
theorem four_ends (s : ByteArray) (hs : s.size ≤ 4294967280) : Ev (fun k => four_Ends.f k s) (endsV s.data.toList) := by
  have hz := size_len s
  have hpos : 0 < (partsV s.data.toList).length := List.length_pos_iff.2 (partsV_ne _)
  have hple := partsL_len (splitC 46 s.data.toList)
  have hsl := splitC_len 46 s.data.toList
  have hpl : (partsV s.data.toList).length ≤ s.data.toList.length + 1 := by unfold partsV; omega
  have w1 : wrap64 (((partsV s.data.toList).length : Int) - 1) = (((partsV s.data.toList).length - 1 : Nat) : Int) := by rw [wrap64_in _ (by omega)]; omega
  have hlast := parts_last s
  have hll := lastV_len s.data.toList
  have htr : strings_Trim.f (BA (lastV s.data.toList)) (⟨#[48, 49, 50, 51, 52, 53, 54, 55, 56, 57]⟩ : ByteArray) = some (BA (Lib.trimS (lastV s.data.toList) [48, 49, 50, 51, 52, 53, 54, 55, 56, 57])) := by
    unfold strings_Trim.f
    rw [if_pos ⟨by rw [ba_size]; omega, by decide, by decide⟩]
    rfl
  unfold endsV
  have hn := number_ev (BA (lastV s.data.toList)) (by rw [ba_size]; omega)
  rw [ba_list] at hn
  have key : ∀ k, four_Ends.f k s = if lastV s.data.toList = [] then some false else if (lastV s.data.toList).all isDec = true then some true else (four_Number.f k (BA (lastV s.data.toList))).bind fun t => some (t.2.2 == 0) := by
    intro k
    unfold four_Ends.f
    rw [parts_f s hs]
    simp only [Option.bind_some, List.length_map]
    rw [w1, if_pos (by omega), if_pos (by omega), hlast, toList_data, ba_list, htr]
    simp only [Option.bind_some]
    rw [toList_data, ba_list]
    by_cases h0 : lastV s.data.toList = []
    · rw [if_pos h0, if_pos h0]
    · rw [if_neg h0, if_neg h0]
      by_cases ha : (lastV s.data.toList).all isDec = true
      · rw [if_pos ((trim_all _).2 ha), if_pos ha]
      · rw [if_neg (mt (trim_all _).1 ha), if_neg ha]
  refine Ev.congr key ?_
  by_cases h0 : lastV s.data.toList = []
  · simp only [if_pos h0]
    exact Ev.now _
  · by_cases ha : (lastV s.data.toList).all isDec = true
    · simp only [if_neg h0, if_pos ha]
      exact Ev.now _
    · simp only [if_neg h0, if_neg ha]
      exact Ev.bind hn (Ev.now _)
theorem awake_ev : Ev (fun k => posternlaw20_awake.f k) true := by
  have h1 : four_Parse.f (⟨#[49, 57, 50, 46, 48, 120, 48, 48, 65, 56, 48, 48, 48, 49]⟩ : ByteArray) = some (3232235521, 0, 0) := by
    unfold four_Parse.f
    rw [if_pos (by decide)]
    exact congrArg some (by decide +kernel)
  have h2 : four_Print.f 3232235521 = some (BA [49, 57, 50, 46, 49, 54, 56, 46, 48, 46, 49]) := by
    unfold four_Print.f
    rw [if_pos (by decide)]
    congr 2
    unfold printV oct4
    simp only [List.map_cons, List.map_nil]
    rw [itoa_small (by decide) (by decide), itoa_small (by decide) (by decide), itoa_small (by decide) (by decide), itoa_small (by decide) (by decide)]
    decide +kernel
  have h3 := four_ends (⟨#[49, 46, 50]⟩ : ByteArray) (by decide)
  rw [show endsV (⟨#[49, 46, 50]⟩ : ByteArray).data.toList = true by decide +kernel] at h3
  refine Ev.congr (f := fun k => (four_Ends.f k (⟨#[49, 46, 50]⟩ : ByteArray)).bind fun t => some t) (fun k => ?_) (Ev.bind h3 (Ev.now _))
  unfold posternlaw20_awake.f
  rw [h1]
  simp only [Option.bind_some]
  simp only [if_true]
  rw [h2]
  simp only [Option.bind_some]
  rw [toList_data, ba_list, if_pos rfl]
end Go.Proofs.YtgnahagnmodpdaaDoor
/-! FourS -/
namespace Go.Proofs.YtgnahagnmodpdaaDoor
open Go.RowKit Go.Proofs.YtgnahagnmodpdaaDoorW.PrintWords Go.Proofs.YtgnahagnmodpdaaDoor.X Go.IntWalk
set_option linter.unusedVariables false
set_option linter.unusedSimpArgs false
/-- The address of what is left: the place, the number and the count of the parts behind, the digits and the number of this part. -/
def strictL : List UInt8 → Nat → Int → Nat → Nat → Int → Int × Int × Int
  | [], i, n, part, size, x => if part < 3 ∨ size = 0 then (0, i, 203) else ((256 * n + x) % 4294967296, 0, 0)
  | c :: l, i, n, part, size, x => if 48 ≤ (c.toNat : Int) ∧ (c.toNat : Int) ≤ 57 ∧ (size = 0 ∨ 0 < x) ∧ 10 * x + ((c.toNat : Int) - 48) ≤ 255 then strictL l (i + 1) n part (size + 1) (10 * x + ((c.toNat : Int) - 48))
    else if c = 46 ∧ 0 < size ∧ part < 3 then strictL l (i + 1) ((256 * n + x) % 4294967296) (part + 1) 0 0 else (0, i, 203)
def strictV (l : List UInt8) : Int × Int × Int := strictL l 0 0 0 0 0
theorem or_part (n x : Int) (h0 : 0 ≤ n) (h1 : n < 4294967296) (k0 : 0 ≤ x) (k1 : x ≤ 255) : Go.bits .or .u32 ((n * 256) % 4294967296) (x % 4294967296) = (256 * n + x) % 4294967296 := by
  rw [Int.emod_eq_of_lt k0 (by omega)]
  obtain ⟨a, rfl⟩ := Int.eq_ofNat_of_zero_le h0
  obtain ⟨b, rfl⟩ := Int.eq_ofNat_of_zero_le k0
  rw [u32_or _ _ (by omega) (by omega) (by omega) (by omega)]
  have e : ((a : Int) * 256 % 4294967296).toNat = 2 ^ 8 * (a % 16777216) := by omega
  rw [e, Int.toNat_natCast, ← Nat.two_pow_add_eq_or_of_lt (show b < 2 ^ 8 by omega)]
  omega
theorem wdig (x c : Int) (x0 : 0 ≤ x) (x1 : x ≤ 255) (d0 : 48 ≤ c) (d1 : c ≤ 57) : wrap64 (wrap64 (10 * x) + (c - 48)) = 10 * x + (c - 48) := by
  rw [wrap64_in (10 * x) (by omega), wrap64_in _ (by omega)]
theorem wdigm (x c : Int) (x0 : 0 ≤ x) (x1 : x ≤ 255) (d0 : 48 ≤ c) (d1 : c ≤ 57) : wrap64 (wrap64 (10 * x) + (c - 48) % 256) = 10 * x + (c - 48) := by
  rw [show (c - 48) % 256 = c - 48 by omega, wdig x c x0 x1 d0 d1]
theorem wsucc (j : Nat) (h : j < 9223372036854775807) : wrap64 ((j : Int) + 1) = ((j + 1 : Nat) : Int) := by rw [wrap64_in _ (by omega)]; omega
theorem strict_l1 (s : ByteArray) (hs : s.size ≤ 9223372036854775807) : ∀ (m i : Nat) (n x : Int) (part start : Nat), i + m = s.data.toList.length → start ≤ i → part ≤ 3 → 0 ≤ x → x ≤ 255 → 0 ≤ n → n < 4294967296 →
    Ev (fun k => four_Strict.l1 k s n (i : Int) (part : Int) x (start : Int) (part : Int)) (strictL (s.data.toList.drop i) i n part (i - start) x) := by
  have hz := size_len s
  intro m
  induction m with
  | zero =>
    intro i n x part start hm hst hp x0 x1 n0 n1
    rw [List.drop_of_length_le (by omega)]
    refine Ev.step (f := fun k => four_Strict.j2 k s n (i : Int) (part : Int) x (start : Int) (part : Int) false) (fun k => ?_) ?_
    · simp only [four_Strict.l1]
      rw [if_neg (by omega)]
    · refine Ev.step (f := fun k => some (strictL [] i n part (i - start) x)) (fun k => ?_) (Ev.now _)
      simp only [four_Strict.j2, strictL]
      rw [if_neg (by simp)]
      by_cases h1 : i = start
      · rw [if_pos (by omega), if_pos (.inr (by omega))]
      · rw [if_neg (by omega)]
        by_cases h3 : part = 3
        · rw [if_pos (by omega), if_neg (by omega), if_neg (by omega), or_part n x n0 n1 x0 x1]
        · rw [if_neg (by omega), if_pos (by omega), if_pos (.inl (by omega))]
  | succ m ih =>
    intro i n x part start hm hst hp x0 x1 n0 n1
    have hi : i < s.data.toList.length := by omega
    have hb := bt_get s i hi
    have hlt := s.data.toList[i].toNat_lt
    rw [List.drop_eq_getElem_cons hi]
    have c46 := byte_eq s.data.toList[i] 46
    rw [show (((46 : UInt8).toNat : Nat) : Int) = 46 from rfl] at c46
    generalize s.data.toList[i] = c at *
    rw [strictL]
    refine Ev.step (f := fun k => four_Strict.j2 k s n (i : Int) (part : Int) x (start : Int) (part : Int) (decide (48 ≤ (c.toNat : Int)) && decide ((c.toNat : Int) ≤ 57))) (fun k => ?_) ?_
    · simp only [four_Strict.l1]
      rw [if_pos (by omega), if_pos (by omega), hb]
      by_cases h : (c.toNat : Int) ≥ 48
      · rw [if_pos h, decide_eq_true (show 48 ≤ (c.toNat : Int) from h), Bool.true_and]
      · rw [if_neg h, decide_eq_false (show ¬ 48 ≤ (c.toNat : Int) from h), Bool.false_and]
    · by_cases hd : 48 ≤ (c.toNat : Int) ∧ (c.toNat : Int) ≤ 57
      · obtain ⟨d0, d1⟩ := hd
        rw [decide_eq_true d0, decide_eq_true d1, Bool.and_true]
        have hc : ¬ c = 46 := fun e => by have := c46.2 e; omega
        by_cases hok : (i - start = 0 ∨ 0 < x) ∧ 10 * x + ((c.toNat : Int) - 48) ≤ 255
        · rw [if_pos ⟨d0, d1, hok⟩]
          have e := ih (i + 1) n (10 * x + ((c.toNat : Int) - 48)) part start (by omega) (by omega) hp (by omega) (by omega) n0 n1
          rw [show i + 1 - start = i - start + 1 by omega] at e
          refine Ev.step (fun k => ?_) e
          simp only [four_Strict.j2]
          rw [if_pos trivial, if_pos (by omega), if_pos (by omega), hb, wdigm x c.toNat x0 x1 d0 d1, if_neg (by omega), wsucc i (by omega)]
          by_cases h2 : (i : Int) > (start : Int)
          · rw [if_pos h2, if_neg (by omega)]
          · rw [if_neg h2]
        · rw [if_neg (fun h => hok h.2.2), if_neg (fun h => hc h.1)]
          refine Ev.step (f := fun k => some (0, (i : Int), 203)) (fun k => ?_) (Ev.now _)
          simp only [four_Strict.j2]
          rw [if_pos trivial, if_pos (by omega), if_pos (by omega), hb, wdigm x c.toNat x0 x1 d0 d1]
          by_cases h2 : 10 * x + ((c.toNat : Int) - 48) > 255
          · rw [if_pos h2]
          · rw [if_neg h2, if_pos (by omega), if_pos (by omega)]
      · rw [if_neg (fun h => hd ⟨h.1, h.2.1⟩)]
        have hf : (decide (48 ≤ (c.toNat : Int)) && decide ((c.toNat : Int) ≤ 57)) = false := by
          rw [Bool.and_eq_false_iff, decide_eq_false_iff_not, decide_eq_false_iff_not]
          omega
        rw [hf]
        by_cases hok : c = 46 ∧ 0 < i - start ∧ part < 3
        · rw [if_pos hok]
          have e := ih (i + 1) ((256 * n + x) % 4294967296) 0 (part + 1) (i + 1) (by omega) (by omega) (by omega) (by omega) (by omega) (by omega) (by omega)
          rw [show i + 1 - (i + 1) = 0 by omega] at e
          refine Ev.step (f := fun k => four_Strict.l0 k s ((256 * n + x) % 4294967296) ((i + 1 : Nat) : Int) ((part + 1 : Nat) : Int)) (fun k => ?_) (Ev.step (fun k => ?_) e)
          · simp only [four_Strict.j2]
            rw [if_neg (by simp), if_neg (by omega), if_neg (by omega), if_neg (by omega), if_pos (by omega), if_pos (by omega), hb, if_pos (c46.2 hok.1), or_part n x n0 n1 x0 x1, wsucc i (by omega), wsucc part (by omega)]
          · simp only [four_Strict.l0]
            rw [if_pos (by omega)]
        · rw [if_neg hok]
          refine Ev.step (f := fun k => some (0, (i : Int), 203)) (fun k => ?_) (Ev.now _)
          simp only [four_Strict.j2]
          rw [if_neg (by simp)]
          by_cases h1 : (i : Int) = (start : Int)
          · rw [if_pos h1]
          · rw [if_neg h1]
            by_cases h3 : (part : Int) = 3
            · rw [if_pos h3, if_pos (by omega)]
            · rw [if_neg h3, if_neg (by omega), if_pos (by omega), if_pos (by omega), hb, if_neg (fun e => hok ⟨c46.1 e, by omega, by omega⟩)]
theorem strict_ev (s : ByteArray) (hs : s.size ≤ 9223372036854775807) : Ev (fun k => four_Strict.f k s) (strictV s.data.toList) := by
  have e := strict_l1 s hs s.data.toList.length 0 0 0 0 0 (by omega) (by omega) (by omega) (by omega) (by omega) (by omega) (by omega)
  refine Ev.congr (f := fun k => four_Strict.l0 k s 0 0 0) (fun k => rfl) (Ev.step (fun k => ?_) e)
  simp only [four_Strict.l0]
  rw [if_pos (by decide)]
  rfl
theorem digV10 (c : Nat) (h : c < 256) : digV (c : Int) 10 = if 48 ≤ (c : Int) ∧ (c : Int) ≤ 57 then (c : Int) - 48 else -1 := by
  rw [digV16 (by decide) (by decide)]
  (repeat' split) <;> omega
end Go.Proofs.YtgnahagnmodpdaaDoor
/-! FourBackV -/
namespace Go.Proofs.YtgnahagnmodpdaaDoor
open Go.RowKit Go.Proofs.YtgnahagnmodpdaaDoorW.PrintWords
set_option linter.unusedVariables false
set_option linter.unusedSimpArgs false
theorem printV_dec (n : Int) (h0 : 0 ≤ n) (h1 : n ≤ 4294967295) : printV n = dec3 (n / 16777216).toNat ++ 46 :: (dec3 (n / 65536 % 256).toNat ++ 46 :: (dec3 (n / 256 % 256).toNat ++ 46 :: dec3 (n % 256).toNat)) := by
  unfold printV oct4
  simp only [List.map_cons, List.map_nil, join4]
  rw [itoa_small (by omega) (by omega), itoa_small (by omega) (by omega), itoa_small (by omega) (by omega), itoa_small (by omega) (by omega)]
theorem strict_dig (x : Nat) (hx : x < 10) (l : List UInt8) (i : Nat) (n : Int) (part size : Nat) (X : Int) (h : size = 0 ∨ 0 < X) (hb : 10 * X + (x : Int) ≤ 255) : strictL (dgt x :: l) i n part size X = strictL l (i + 1) n part (size + 1) (10 * X + (x : Int)) := by
  have hd : ((dgt x).toNat : Int) = 48 + (x : Int) := by rw [dgt_toNat hx]; omega
  rw [strictL, hd, if_pos ⟨by omega, by omega, h, by omega⟩, show 10 * X + (48 + (x : Int) - 48) = 10 * X + (x : Int) by omega]
theorem strict_dec (v : Nat) (hv : v < 256) (l : List UInt8) (i : Nat) (n : Int) (part : Nat) : ∃ s, 0 < s ∧ strictL (dec3 v ++ l) i n part 0 0 = strictL l (i + s) n part s (v : Int) := by
  unfold dec3
  by_cases h100 : 100 ≤ v
  · refine ⟨3, by decide, ?_⟩
    rw [if_pos h100, if_pos (by omega)]
    show strictL (dgt (v / 100) :: dgt (v / 10 % 10) :: dgt (v % 10) :: l) i n part 0 0 = _
    rw [strict_dig _ (by omega) _ _ _ _ _ _ (.inl rfl) (by omega), strict_dig _ (by omega) _ _ _ _ _ _ (.inr (by omega)) (by omega), strict_dig _ (by omega) _ _ _ _ _ _ (.inr (by omega)) (by omega)]
    rw [show 10 * (10 * (10 * (0 : Int) + ((v / 100 : Nat) : Int)) + ((v / 10 % 10 : Nat) : Int)) + ((v % 10 : Nat) : Int) = (v : Int) by omega]
  · by_cases h10 : 10 ≤ v
    · refine ⟨2, by decide, ?_⟩
      rw [if_neg h100, if_pos h10]
      show strictL (dgt (v / 10 % 10) :: dgt (v % 10) :: l) i n part 0 0 = _
      rw [strict_dig _ (by omega) _ _ _ _ _ _ (.inl rfl) (by omega), strict_dig _ (by omega) _ _ _ _ _ _ (.inr (by omega)) (by omega)]
      rw [show 10 * (10 * (0 : Int) + ((v / 10 % 10 : Nat) : Int)) + ((v % 10 : Nat) : Int) = (v : Int) by omega]
    · refine ⟨1, by decide, ?_⟩
      rw [if_neg h100, if_neg h10]
      show strictL (dgt (v % 10) :: l) i n part 0 0 = _
      rw [strict_dig _ (by omega) _ _ _ _ _ _ (.inl rfl) (by omega)]
      rw [show 10 * (0 : Int) + ((v % 10 : Nat) : Int) = (v : Int) by omega]
theorem strict_dot (l : List UInt8) (i : Nat) (n : Int) (part size : Nat) (X : Int) (hs : 0 < size) (hp : part < 3) : strictL (46 :: l) i n part size X = strictL l (i + 1) ((256 * n + X) % 4294967296) (part + 1) 0 0 := by
  rw [strictL, if_neg (fun h => absurd h.1 (by decide)), if_pos ⟨rfl, hs, hp⟩]
theorem print_strict (n : Int) (h0 : 0 ≤ n) (h1 : n ≤ 4294967295) : strictV (printV n) = (n, 0, 0) := by
  unfold strictV
  rw [printV_dec n h0 h1]
  obtain ⟨s0, p0, e0⟩ := strict_dec (n / 16777216).toNat (by omega) (46 :: (dec3 (n / 65536 % 256).toNat ++ 46 :: (dec3 (n / 256 % 256).toNat ++ 46 :: dec3 (n % 256).toNat))) 0 0 0
  rw [e0, strict_dot _ _ _ _ _ _ p0 (by decide)]
  obtain ⟨s1, p1, e1⟩ := strict_dec (n / 65536 % 256).toNat (by omega) (46 :: (dec3 (n / 256 % 256).toNat ++ 46 :: dec3 (n % 256).toNat)) (0 + s0 + 1) ((256 * 0 + ((n / 16777216).toNat : Int)) % 4294967296) (0 + 1)
  rw [e1, strict_dot _ _ _ _ _ _ p1 (by decide)]
  obtain ⟨s2, p2, e2⟩ := strict_dec (n / 256 % 256).toNat (by omega) (46 :: dec3 (n % 256).toNat) (0 + s0 + 1 + s1 + 1) ((256 * ((256 * 0 + ((n / 16777216).toNat : Int)) % 4294967296) + ((n / 65536 % 256).toNat : Int)) % 4294967296) (0 + 1 + 1)
  rw [e2, strict_dot _ _ _ _ _ _ p2 (by decide)]
  obtain ⟨s3, p3, e3⟩ := strict_dec (n % 256).toNat (by omega) [] (0 + s0 + 1 + s1 + 1 + s2 + 1) ((256 * ((256 * ((256 * 0 + ((n / 16777216).toNat : Int)) % 4294967296) + ((n / 65536 % 256).toNat : Int)) % 4294967296) + ((n / 256 % 256).toNat : Int)) % 4294967296) (0 + 1 + 1 + 1)
  rw [List.append_nil] at e3
  rw [e3, strictL, if_neg (by omega)]
  refine congrArg (fun x => (x, (0 : Int), (0 : Int))) ?_
  have k1 : (256 * 0 + ((n / 16777216).toNat : Int)) % 4294967296 = n / 16777216 := by omega
  have k2 : (256 * (n / 16777216) + ((n / 65536 % 256).toNat : Int)) % 4294967296 = n / 65536 := by omega
  have k3 : (256 * (n / 65536) + ((n / 256 % 256).toNat : Int)) % 4294967296 = n / 256 := by omega
  rw [k1, k2, k3]
  omega
end Go.Proofs.YtgnahagnmodpdaaDoor
