/- Several texts in one (wip/gen/pack.py): SoShelf X0 Shelf Oct Given Str X1 Itoa Tz X2 Ext FourSo JoinV FourJn CovV FourMask FourBitsA FourCov FourJoin FourJoinF Bytes DigL FourV. -/
import Derived.Shelf.SlSortCmp.NoneTotal
import Derived.Shelf.SlSortCmp.WholeK
import Derived.Shelf.SlicesE.Clone
import Derived.Shelf.SlicesQ.IndexFunc
import Derived.Test.YtgnahagnmodpdaaGreatDoorProg
import Derived.ArgAppend
import Derived.Below
import Derived.BigQuiet
import Derived.Deep.AppendLies
import Derived.Deep.CutBlock
import Derived.Deep.DeepCutAuto
import Derived.Deep.Draws
import Derived.Deep.LoopGhost
import Derived.Deep.OwnRows
import Derived.Deep.QuietTactic
import Derived.Deep.RegionHeld3
import Derived.KernelRfl
import Derived.Laws.BitsLemmas
import Derived.Laws.BytesArg
import Derived.Laws.IdiomCopy
import Derived.Laws.MakeOwn
import Derived.Laws.OwnMore
import Derived.Laws.Rows
import Derived.Laws.Slices
import Derived.Lib.AppendStr
import Derived.Lib.ConvBytes
import Derived.Maps.AppendAt
import Derived.OrdersHeld
import Derived.OwnWalk
import Derived.RowKit
import Derived.RowKit3
import Derived.Tactics
import Derived.Test.YtgnahagnmodpdaaGreatDoorWApart
import Derived.Test.YtgnahagnmodpdaaGreatDoorWArr
import Derived.Test.YtgnahagnmodpdaaGreatDoorWAt
import Derived.Test.YtgnahagnmodpdaaGreatDoorWEqStruct
import Derived.Test.YtgnahagnmodpdaaGreatDoorWFoot
import Derived.Test.YtgnahagnmodpdaaGreatDoorWFootNe
import Derived.Test.YtgnahagnmodpdaaGreatDoorWFour
import Derived.Test.YtgnahagnmodpdaaGreatDoorWGuard
import Derived.Test.YtgnahagnmodpdaaGreatDoorWInv
import Derived.Test.YtgnahagnmodpdaaGreatDoorWInvWords
import Derived.Test.YtgnahagnmodpdaaGreatDoorWKept
import Derived.Test.YtgnahagnmodpdaaGreatDoorWLast
import Derived.Test.YtgnahagnmodpdaaGreatDoorWMore
import Derived.Test.YtgnahagnmodpdaaGreatDoorWN
import Derived.Test.YtgnahagnmodpdaaGreatDoorWNEv
import Derived.Test.YtgnahagnmodpdaaGreatDoorWQPut
import Derived.Test.YtgnahagnmodpdaaGreatDoorWRepsOne
import Derived.Test.YtgnahagnmodpdaaGreatDoorWShare
import Derived.Test.YtgnahagnmodpdaaGreatDoorWTab
import Derived.Test.YtgnahagnmodpdaaGreatDoorWWords
import Derived.Test.YtgnahagnmodpdaaGreatDoorWZeros
import Derived.WalkKit
import Derived.WideLaws
import Derived.Shelf.LaysM
import Derived.Shelf.Small.Bits
import Derived.Shelf.Small.Strs
import Derived.Shelf.Small.Utf8
import Derived.Shelf.Strconv.Itoa0
import Derived.Shelf.Strconv.Itoa1
import Derived.Shelf.Strconv.Itoa2
import Derived.Shelf.Strconv.Itoa3
import Derived.Shelf.Strings.AsciiSet
import Derived.Shelf.Strings.Builder1
import Derived.Shelf.Strings.Builder2
import Derived.Shelf.Strings.BuilderF
import Derived.Shelf.Strings.Count
import Derived.Shelf.Strings.OnBuilder
import Derived.Shelf.Strings.Prefix
import Derived.Shelf.Strings.RuneCount
import Derived.Shelf.Strings.Runes
import Derived.Shelf.Strings.Search1
import Derived.Shelf.Strings.Search2
import Derived.Shelf.Strings.Search3
import Derived.Shelf.Strings.Shaped
import Derived.Shelf.Strings.Split
import Derived.Shelf.Strings.SplitShaped
import Derived.Shelf.Strings.Trim
import Derived.Shelf.Unicode.DecodeSlow
import Derived.WalkLawsBesides
import Derived.WalkSpells
import Derived.Lib.AppendIntMem
import Derived.Lib.OwnBridge
import Derived.Lib.TrailingZeros
import Derived.Shelf.RegionOpenPlain
import Derived.Shelf.Strings.SlTrimAscii
import Derived.Lib.ItoaNum
import Derived.Shelf.Spec.TrailingZeros
import Derived.Handy
import Derived.ProofKit
import Derived.Test.YtgnahagnmodpdaaGreatDoorRows
import Derived.Outline
import Derived.Laws.BitsAllLaws
import Derived.IntWalk
import Derived.Lib.IndexMore
import Derived.Lib.SlTrimSet
import Derived.Lib.SplitLaws
/-! SoShelf -/
namespace Go.Proofs
open Go.Shelf
def Tryz.soSort_ren : Go.Shelf.Ren := ⟨fun | 6 => 21 | 15 => 34 | 14 => 33 | 28 => 59 | 29 => 15 | 20 => 51 | 21 => 52 | 22 => 53 | 23 => 54 | 24 => 55 | 25 => 56 | 26 => 57 | 27 => 58 | 46 => 71 | 47 => 72 | 48 => 73 | 49 => 74 | 50 => 75 | 57 => 89 | n => n, fun | 22 => 23 | 24 => 30 | 25 => 51 | 3 => 3 | 39 => 66 | 0 => 0 | 53 => 22 | 55 => 43 | 4 => 4 | 46 => 95 | 45 => 94 | 50 => 99 | 5 => 5 | 9 => 9 | 66 => 111 | 70 => 115 | 76 => 127 | 77 => 128 | n => n, fun | n => n⟩
theorem Tryz.soSort : Go.Proofs.SlLaysF0.n6 Tryz.prog Tryz.soSort_ren := {
  mixed := by kernel_rfl
  f6 := ⟨Tryz.f21.name, by decide, Tryz.func21.trans (congrArg some (by kernel_rfl))⟩
  f14 := ⟨Tryz.f33.name, by decide, Tryz.func33.trans (congrArg some (by kernel_rfl))⟩
  f15 := Tryz.func34.trans (congrArg some (by kernel_rfl))
  f20 := ⟨Tryz.f51.name, by decide, Tryz.func51.trans (congrArg some (by kernel_rfl))⟩
  f21 := ⟨Tryz.f52.name, by decide, Tryz.func52.trans (congrArg some (by kernel_rfl))⟩
  f22 := ⟨Tryz.f53.name, by decide, Tryz.func53.trans (congrArg some (by kernel_rfl))⟩
  f23 := ⟨Tryz.f54.name, by decide, Tryz.func54.trans (congrArg some (by kernel_rfl))⟩
  f24 := ⟨Tryz.f55.name, by decide, Tryz.func55.trans (congrArg some (by kernel_rfl))⟩
  f25 := ⟨Tryz.f56.name, by decide, Tryz.func56.trans (congrArg some (by kernel_rfl))⟩
  f26 := ⟨Tryz.f57.name, by decide, Tryz.func57.trans (congrArg some (by kernel_rfl))⟩
  f27 := ⟨Tryz.f58.name, by decide, Tryz.func58.trans (congrArg some (by kernel_rfl))⟩
  f28 := Tryz.func59.trans (congrArg some (by kernel_rfl))
  f29 := Tryz.func15.trans (congrArg some (by kernel_rfl))
  f46 := ⟨Tryz.f71.name, by decide, Tryz.func71.trans (congrArg some (by kernel_rfl))⟩
  f47 := Tryz.func72.trans (congrArg some (by kernel_rfl))
  f48 := Tryz.func73.trans (congrArg some (by kernel_rfl))
  f49 := ⟨Tryz.f74.name, by decide, Tryz.func74.trans (congrArg some (by kernel_rfl))⟩
  f50 := ⟨Tryz.f75.name, by decide, Tryz.func75.trans (congrArg some (by kernel_rfl))⟩
  f57 := ⟨Tryz.f89.name, by decide, Tryz.func89.trans (congrArg some (by kernel_rfl))⟩
  t0 := Tryz.underlying0
  a0 := Tryz.isAgg0
  z0 := Tryz.sizeOf0
  v0 := Tryz.zeroValue0
  t3 := Tryz.underlying3
  a3 := Tryz.isAgg3
  z3 := Tryz.sizeOf3
  v3 := Tryz.zeroValue3
  t4 := Tryz.underlying4
  a4 := Tryz.isAgg4
  z4 := Tryz.sizeOf4
  v4 := Tryz.zeroValue4
  t5 := Tryz.underlying5
  a5 := Tryz.isAgg5
  z5 := Tryz.sizeOf5
  v5 := Tryz.zeroValue5
  t9 := Tryz.underlying9
  a9 := Tryz.isAgg9
  z9 := Tryz.sizeOf9
  v9 := Tryz.zeroValue9
  t22 := Tryz.underlying23
  a22 := Tryz.isAgg23
  z22 := Tryz.sizeOf23
  v22 := Tryz.zeroValue23
  t25 := Tryz.underlying51
  a25 := Tryz.isAgg51
  z25 := Tryz.sizeOf51
  v25 := Tryz.zeroValue51
  t39 := Tryz.underlying66
  a39 := Tryz.isAgg66
  z39 := Tryz.sizeOf66
  v39 := Tryz.zeroValue66
  t45 := Tryz.underlying94
  a45 := Tryz.isAgg94
  z45 := Tryz.sizeOf94
  v45 := Tryz.zeroValue94
  t46 := Tryz.underlying95
  a46 := Tryz.isAgg95
  z46 := Tryz.sizeOf95
  v46 := Tryz.zeroValue95
  t50 := Tryz.underlying99
  a50 := Tryz.isAgg99
  z50 := Tryz.sizeOf99
  v50 := Tryz.zeroValue99
  t53 := Tryz.underlying22
  a53 := Tryz.isAgg22
  z53 := Tryz.sizeOf22
  v53 := Tryz.zeroValue22
  t55 := Tryz.underlying43
  a55 := Tryz.isAgg43
  z55 := Tryz.sizeOf43
  v55 := Tryz.zeroValue43
  t66 := Tryz.underlying111
  a66 := Tryz.isAgg111
  z66 := Tryz.sizeOf111
  v66 := Tryz.zeroValue111
  t70 := Tryz.underlying115
  a70 := Tryz.isAgg115
  z70 := Tryz.sizeOf115
  v70 := Tryz.zeroValue115
  t76 := Tryz.underlying127
  a76 := Tryz.isAgg127
  z76 := Tryz.sizeOf127
  v76 := Tryz.zeroValue127
  t77 := Tryz.underlying128
  a77 := Tryz.isAgg128
  z77 := Tryz.sizeOf128
  v77 := Tryz.zeroValue128 }
def Tryz.soIndex_ren : Go.Shelf.Ren := ⟨fun | 6 => 17 | n => n, fun | 22 => 23 | 23 => 30 | 25 => 47 | 3 => 3 | 0 => 0 | 4 => 4 | n => n, fun | n => n⟩
theorem Tryz.soIndex : Go.Proofs.SlLaysH0.n6 Tryz.prog Tryz.soIndex_ren := {
  mixed := by kernel_rfl
  f6 := ⟨Tryz.f17.name, by decide, Tryz.func17.trans (congrArg some (by kernel_rfl))⟩
  t0 := Tryz.underlying0
  a0 := Tryz.isAgg0
  z0 := Tryz.sizeOf0
  v0 := Tryz.zeroValue0
  t3 := Tryz.underlying3
  a3 := Tryz.isAgg3
  z3 := Tryz.sizeOf3
  v3 := Tryz.zeroValue3
  t4 := Tryz.underlying4
  a4 := Tryz.isAgg4
  z4 := Tryz.sizeOf4
  v4 := Tryz.zeroValue4
  t22 := Tryz.underlying23
  a22 := Tryz.isAgg23
  z22 := Tryz.sizeOf23
  v22 := Tryz.zeroValue23
  t25 := Tryz.underlying47
  a25 := Tryz.isAgg47
  z25 := Tryz.sizeOf47
  v25 := Tryz.zeroValue47 }
def Tryz.soClone_ren : Go.Shelf.Ren := ⟨fun | 41 => 20 | n => n, fun | 22 => 23 | 23 => 30 | 4 => 4 | n => n, fun | n => n⟩
theorem Tryz.soClone : Go.Proofs.SlLaysE0.n41 Tryz.prog Tryz.soClone_ren := {
  mixed := by kernel_rfl
  f41 := ⟨Tryz.f20.name, by decide, Tryz.func20.trans (congrArg some (by kernel_rfl))⟩
  t4 := Tryz.underlying4
  a4 := Tryz.isAgg4
  z4 := Tryz.sizeOf4
  v4 := Tryz.zeroValue4
  t22 := Tryz.underlying23
  a22 := Tryz.isAgg23
  z22 := Tryz.sizeOf23
  v22 := Tryz.zeroValue23 }
end Go.Proofs
/-! X0 -/
namespace Go.Proofs.YtgnahagnmodpdaaGreatDoor.X
open Go.RowKit Go.Proofs.YtgnahagnmodpdaaGreatDoorW.PrintWords Go.Proofs.YtgnahagnmodpdaaGreatDoorW.PrintLast Go.Proofs.YtgnahagnmodpdaaGreatDoorW.PrintMore
attribute [local go_sem] max2_int min2_int max_two min_two max_three min_three max_four min_four
set_option linter.unusedVariables false
set_option linter.unusedSimpArgs false
def errW : Option Int → Value
  | none => .nilIface
  | some c => .iface 0 (.int .i64 c)
theorem errW_none : errW none = .nilIface := rfl
theorem errW_some (c : Int) : errW (some c) = .iface 0 (.int .i64 c) := rfl
theorem info9 : (Tryz.prog.info? 9).map (fun i => (i.zero, i.size, i.bytes)) = some (some (.string ⟨#[]⟩), 1, 16) := by kernel_rfl
theorem info30 : (Tryz.prog.info? 30).map (fun i => (i.zero, i.size, i.bytes)) = some (some (.agg #[(.int .u32 0), (.int .i64 0)]), 2, 16) := by kernel_rfl
theorem info31 : (Tryz.prog.info? 31).map (fun i => (i.zero, i.size, i.bytes)) = some (some (.agg #[(.int .u32 0), (.int .i64 0)]), 2, 16) := by kernel_rfl
structure S30 where
  f0 : Int
  f1 : Int
def z30 : S30 := ⟨(0 : Int), (0 : Int)⟩
def k30 : Kd S30 := Kd.iso (Kd.pair (Kd.int .u32) (Kd.int .i64)) (fun x : S30 => (x.f0, x.f1))
theorem k30_open {w : World} {x : S30} {cs : List Value} (h : k30.K w x cs) : cs = [.int .u32 x.f0, .int .i64 x.f1] := by
  obtain ⟨_, _, rfl, rfl, rfl⟩ := h
  exact rfl
theorem k30_openM {w : World} {base : Nat} {ok : Nat → Prop} {x : S30} {cs : List Value} (h : k30.M w base ok x cs) : cs = [.int .u32 x.f0, .int .i64 x.f1] := by
  obtain ⟨_, _, rfl, rfl, rfl⟩ := h
  exact rfl
theorem k30_mk (w : World) (x : S30)  : k30.K w x [.int .u32 x.f0, .int .i64 x.f1] := ⟨[.int .u32 x.f0], [.int .i64 x.f1], rfl, rfl, rfl⟩
theorem k30_mkM (w : World) (base : Nat) (ok : Nat → Prop) (x : S30)  : k30.M w base ok x [.int .u32 x.f0, .int .i64 x.f1] := ⟨[.int .u32 x.f0], [.int .i64 x.f1], rfl, rfl, rfl⟩
def rd_T30 (xs : List S30) (i : Int) : S30 := xs.getD i.toNat z30
theorem at_T30 {w : World} {A : Option Addr} {n : Nat} {xs : List S30} (h : Kd.C k30 w A n xs) (i : Int) (h0 : 0 ≤ i) (h1 : i < n) : ∃ ad , A = some ad ∧ w.cell? (ad.add (i.toNat * 2)) = some (.int .u32 (rd_T30 xs i).f0) ∧ w.cell? ⟨(ad.add (i.toNat * 2)).block, (ad.add (i.toNat * 2)).off + 1, none⟩ = some (.int .i64 (rd_T30 xs i).f1) := by
  obtain ⟨ad, c, e, _, hK, hc0⟩ := Kd.C_get h z30 i h0 h1
  have hc : ∀ j u, c[j]? = some u → w.cell? (ad.add (i.toNat * 2 + j)) = some u := hc0
  obtain rfl := k30_open hK
  exact ⟨ad, e, hc 0 _ rfl, by rw [← add_field _ _ 1 (by omega)]; exact hc 1 _ rfl⟩
structure S31 where
  f0 : Int
  f1 : Int
def z31 : S31 := ⟨(0 : Int), (0 : Int)⟩
def k31 : Kd S31 := Kd.iso (Kd.pair (Kd.int .u32) (Kd.int .i64)) (fun x : S31 => (x.f0, x.f1))
theorem k31_open {w : World} {x : S31} {cs : List Value} (h : k31.K w x cs) : cs = [.int .u32 x.f0, .int .i64 x.f1] := by
  obtain ⟨_, _, rfl, rfl, rfl⟩ := h
  exact rfl
theorem k31_mkM (w : World) (base : Nat) (ok : Nat → Prop) (x : S31)  : k31.M w base ok x [.int .u32 x.f0, .int .i64 x.f1] := ⟨[.int .u32 x.f0], [.int .i64 x.f1], rfl, rfl, rfl⟩
def rd_T31 (xs : List S31) (i : Int) : S31 := xs.getD i.toNat z31
theorem at_T31 {w : World} {A : Option Addr} {n : Nat} {xs : List S31} (h : Kd.C k31 w A n xs) (i : Int) (h0 : 0 ≤ i) (h1 : i < n) : ∃ ad , A = some ad ∧ w.cell? (ad.add (i.toNat * 2)) = some (.int .u32 (rd_T31 xs i).f0) ∧ w.cell? ⟨(ad.add (i.toNat * 2)).block, (ad.add (i.toNat * 2)).off + 1, none⟩ = some (.int .i64 (rd_T31 xs i).f1) := by
  obtain ⟨ad, c, e, _, hK, hc0⟩ := Kd.C_get h z31 i h0 h1
  have hc : ∀ j u, c[j]? = some u → w.cell? (ad.add (i.toNat * 2 + j)) = some u := hc0
  obtain rfl := k31_open hK
  exact ⟨ad, e, hc 0 _ rfl, by rw [← add_field _ _ 1 (by omega)]; exact hc 1 _ rfl⟩
end Go.Proofs.YtgnahagnmodpdaaGreatDoor.X
/-! Shelf -/
namespace Go.Proofs
open Go.Shelf
def Tryz.lays156_ren : Go.Shelf.Ren := ⟨fun | 156 => 30 | 165 => 41 | 166 => 42 | 169 => 43 | 240 => 65 | 241 => 66 | 276 => 84 | 277 => 85 | n => n, fun | 31 => 55 | 9 => 9 | 3 => 3 | 4 => 4 | 0 => 0 | 20 => 20 | 72 => 79 | 76 => 83 | 70 => 76 | 37 => 77 | 75 => 82 | 127 => 106 | 164 => 123 | 5 => 5 | 80 => 85 | n => n, fun | n => n⟩
theorem Tryz.lays156 : Go.Proofs.Lays.n156 Tryz.prog Tryz.lays156_ren := {
  mixed := by kernel_rfl
  f156 := Tryz.func30.trans (congrArg some (by kernel_rfl))
  f165 := Tryz.func41.trans (congrArg some (by kernel_rfl))
  f166 := Tryz.func42.trans (congrArg some (by kernel_rfl))
  f169 := Tryz.func43.trans (congrArg some (by kernel_rfl))
  f240 := Tryz.func65.trans (congrArg some (by kernel_rfl))
  f241 := Tryz.func66.trans (congrArg some (by kernel_rfl))
  f276 := Tryz.func84.trans (congrArg some (by kernel_rfl))
  f277 := Tryz.func85.trans (congrArg some (by kernel_rfl))
  t0 := Tryz.underlying0
  a0 := Tryz.isAgg0
  z0 := Tryz.sizeOf0
  v0 := Tryz.zeroValue0
  t3 := Tryz.underlying3
  a3 := Tryz.isAgg3
  z3 := Tryz.sizeOf3
  v3 := Tryz.zeroValue3
  t4 := Tryz.underlying4
  a4 := Tryz.isAgg4
  z4 := Tryz.sizeOf4
  v4 := Tryz.zeroValue4
  t9 := Tryz.underlying9
  a9 := Tryz.isAgg9
  z9 := Tryz.sizeOf9
  v9 := Tryz.zeroValue9
  t20 := Tryz.underlying20
  a20 := Tryz.isAgg20
  z20 := Tryz.sizeOf20
  v20 := Tryz.zeroValue20
  t31 := Tryz.underlying55
  a31 := Tryz.isAgg55
  z31 := Tryz.sizeOf55
  v31 := Tryz.zeroValue55
  t37 := Tryz.underlying77
  a37 := Tryz.isAgg77
  z37 := Tryz.sizeOf77
  v37 := Tryz.zeroValue77
  t70 := Tryz.underlying76
  a70 := Tryz.isAgg76
  z70 := Tryz.sizeOf76
  v70 := Tryz.zeroValue76
  t72 := Tryz.underlying79
  a72 := Tryz.isAgg79
  z72 := Tryz.sizeOf79
  v72 := Tryz.zeroValue79
  t75 := Tryz.underlying82
  a75 := Tryz.isAgg82
  z75 := Tryz.sizeOf82
  v75 := Tryz.zeroValue82
  t76 := Tryz.underlying83
  a76 := Tryz.isAgg83
  z76 := Tryz.sizeOf83
  v76 := Tryz.zeroValue83
  t127 := Tryz.underlying106
  a127 := Tryz.isAgg106
  z127 := Tryz.sizeOf106
  v127 := Tryz.zeroValue106
  t164 := Tryz.underlying123
  a164 := Tryz.isAgg123
  z164 := Tryz.sizeOf123
  v164 := Tryz.zeroValue123 }
theorem Tryz.Builder_Extra_156 : Builder.Extra Tryz.prog Tryz.lays156_ren := {
  sizeBuilder := by kernel_rfl
  liesBuilder := by kernel_rfl
  t5 := Tryz.underlying5
  a5 := Tryz.isAgg5
  z5 := Tryz.sizeOf5
  v5 := Tryz.zeroValue5
  infoByte := by kernel_rfl
  cellsByte := by kernel_rfl
  sizeByte := by kernel_rfl
  neB5 := by decide }
open Go.RowKit in
/-- No element: the empty string; the world is as it was. (Whatever the slice's address and capacity: a nil slice too.) (LAID: no walk: one application.) -/
theorem Tryz.strings_Join_none (a : Option Addr) (c : Nat) (sep : ByteArray) (w : World) :
    Calls Tryz.prog 30 #[.slice a 0 c, .string sep] w fun e w' => e = .returned (.string ⟨#[]⟩) ∧ w' = w := Any.strings_Join_none Tryz.lays156 Tryz.Builder_Extra_156 a c sep w
open Go.RowKit in
/-- strings.Join: "Join concatenates the elements of its first argument to create a single string. The separator string sep is placed between elements in the resulting string.": HOWEVER MANY ELEMENTS. Below the heap's end the world is as it was. (LAID: no walk: one application.) -/
theorem Tryz.strings_Join (bk o c : Nat) (xs : List ByteArray) (sep : ByteArray) (w : World) (hcells : ∀ (j : Nat) x, xs[j]? = some x → w.cell? ⟨bk, o + j, none⟩ = some (.string x)) (hbk : bk < w.heap.size) (hN : xs.length ≤ 140737488355328) (hcap : xs.length ≤ c) (hlen : (Lib.join (xs.map (·.data.toList)) sep.data.toList).length ≤ 140737488355328) :
    Calls Tryz.prog 30 #[.slice (some ⟨bk, o, none⟩) xs.length c, .string sep] w fun e w' => e = .returned (.string ⟨(Lib.join (xs.map (·.data.toList)) sep.data.toList).toArray⟩) ∧ Below w.heap.size w w' := Any.strings_Join Tryz.lays156 Tryz.Builder_Extra_156 bk o c xs sep w hcells hbk hN hcap hlen
def Tryz.lays160_ren : Go.Shelf.Ren := ⟨fun | 160 => 31 | 232 => 45 | 231 => 44 | 227 => 46 | 234 => 48 | 233 => 47 | 236 => 50 | 235 => 49 | 228 => 67 | 271 => 70 | 151 => 69 | 197 => 68 | 120 => 88 | 152 => 87 | 260 => 86 | 137 => 63 | 119 => 98 | 224 => 99 | 225 => 100 | 217 => 79 | 266 => 93 | n => n, fun | 9 => 9 | 4 => 4 | 3 => 3 | 5 => 5 | 117 => 89 | 116 => 88 | 0 => 0 | 124 => 92 | 21 => 21 | 105 => 108 | 46 => 66 | 119 => 136 | 139 => 139 | 138 => 138 | n => n, fun | 3 => 3 | 4 => 4 | n => n⟩
theorem Tryz.lays160 : Go.Proofs.Lays.n160 Tryz.prog Tryz.lays160_ren := {
  mixed := by kernel_rfl
  f119 := Tryz.func98.trans (congrArg some (by kernel_rfl))
  f120 := Tryz.func88.trans (congrArg some (by kernel_rfl))
  f137 := Tryz.func63.trans (congrArg some (by kernel_rfl))
  f151 := Tryz.func69.trans (congrArg some (by kernel_rfl))
  f152 := Tryz.func87.trans (congrArg some (by kernel_rfl))
  f160 := Tryz.func31.trans (congrArg some (by kernel_rfl))
  f197 := Tryz.func68.trans (congrArg some (by kernel_rfl))
  f217 := Tryz.func79.trans (congrArg some (by kernel_rfl))
  f224 := Tryz.func99.trans (congrArg some (by kernel_rfl))
  f225 := Tryz.func100.trans (congrArg some (by kernel_rfl))
  f227 := Tryz.func46.trans (congrArg some (by kernel_rfl))
  f228 := Tryz.func67.trans (congrArg some (by kernel_rfl))
  f231 := Tryz.func44.trans (congrArg some (by kernel_rfl))
  f232 := Tryz.func45.trans (congrArg some (by kernel_rfl))
  f233 := Tryz.func47.trans (congrArg some (by kernel_rfl))
  f234 := Tryz.func48.trans (congrArg some (by kernel_rfl))
  f235 := Tryz.func49.trans (congrArg some (by kernel_rfl))
  f236 := Tryz.func50.trans (congrArg some (by kernel_rfl))
  f260 := Tryz.func86.trans (congrArg some (by kernel_rfl))
  f266 := Tryz.func93.trans (congrArg some (by kernel_rfl))
  f271 := Tryz.func70.trans (congrArg some (by kernel_rfl))
  t0 := Tryz.underlying0
  a0 := Tryz.isAgg0
  z0 := Tryz.sizeOf0
  v0 := Tryz.zeroValue0
  t3 := Tryz.underlying3
  a3 := Tryz.isAgg3
  z3 := Tryz.sizeOf3
  v3 := Tryz.zeroValue3
  t4 := Tryz.underlying4
  a4 := Tryz.isAgg4
  z4 := Tryz.sizeOf4
  v4 := Tryz.zeroValue4
  t5 := Tryz.underlying5
  a5 := Tryz.isAgg5
  z5 := Tryz.sizeOf5
  v5 := Tryz.zeroValue5
  t9 := Tryz.underlying9
  a9 := Tryz.isAgg9
  z9 := Tryz.sizeOf9
  v9 := Tryz.zeroValue9
  t21 := Tryz.underlying21
  a21 := Tryz.isAgg21
  z21 := Tryz.sizeOf21
  v21 := Tryz.zeroValue21
  t46 := Tryz.underlying66
  a46 := Tryz.isAgg66
  z46 := Tryz.sizeOf66
  v46 := Tryz.zeroValue66
  t105 := Tryz.underlying108
  a105 := Tryz.isAgg108
  z105 := Tryz.sizeOf108
  v105 := Tryz.zeroValue108
  t116 := Tryz.underlying88
  a116 := Tryz.isAgg88
  z116 := Tryz.sizeOf88
  t117 := Tryz.underlying89
  a117 := Tryz.isAgg89
  z117 := Tryz.sizeOf89
  v117 := Tryz.zeroValue89
  t119 := Tryz.underlying136
  a119 := Tryz.isAgg136
  z119 := Tryz.sizeOf136
  t124 := Tryz.underlying92
  a124 := Tryz.isAgg92
  z124 := Tryz.sizeOf92
  v124 := Tryz.zeroValue92
  t138 := Tryz.underlying138
  a138 := Tryz.isAgg138
  z138 := Tryz.sizeOf138
  v138 := Tryz.zeroValue138
  t139 := Tryz.underlying139
  a139 := Tryz.isAgg139
  z139 := Tryz.sizeOf139
  v139 := Tryz.zeroValue139
  g3 := by kernel_rfl
  g4 := by kernel_rfl }
def Tryz.lays137_ren : Go.Shelf.Ren := ⟨fun | 137 => 63 | 217 => 79 | 266 => 93 | n => n, fun | 9 => 9 | 5 => 5 | 3 => 3 | n => n, fun | n => n⟩
theorem Tryz.lays137 : Go.Proofs.Lays.n137 Tryz.prog Tryz.lays137_ren := {
  mixed := by kernel_rfl
  f137 := Tryz.func63.trans (congrArg some (by kernel_rfl))
  f217 := Tryz.func79.trans (congrArg some (by kernel_rfl))
  f266 := Tryz.func93.trans (congrArg some (by kernel_rfl))
  t3 := Tryz.underlying3
  a3 := Tryz.isAgg3
  z3 := Tryz.sizeOf3
  v3 := Tryz.zeroValue3
  t5 := Tryz.underlying5
  a5 := Tryz.isAgg5
  z5 := Tryz.sizeOf5
  v5 := Tryz.zeroValue5
  t9 := Tryz.underlying9
  a9 := Tryz.isAgg9
  z9 := Tryz.sizeOf9
  v9 := Tryz.zeroValue9 }
open Go.RowKit in
/-- strings.IndexByte: "IndexByte returns the index of the first instance of c in s, or -1 if c is not present in s.": IT RETURNS 'Lib.indexByte s c'; the world is as it was. (LAID: no walk: one application.) -/
theorem Tryz.strings_IndexByte (s : ByteArray) (c : Int) (w : World) :
    Calls Tryz.prog 63 #[.string s, .int .u8 c] w fun e w' => e = .returned (.int .i64 (Lib.indexByte s.data.toList c.toNat.toUInt8)) ∧ w' = w := Any.strings_IndexByte Tryz.lays137 s c w
def Tryz.lays129_ren : Go.Shelf.Ren := ⟨fun | 129 => 15 | n => n, fun | 53 => 43 | 3 => 3 | 4 => 4 | 46 => 66 | 5 => 5 | 9 => 9 | n => n, fun | n => n⟩
theorem Tryz.lays129 : Go.Proofs.Lays.n129 Tryz.prog Tryz.lays129_ren := {
  mixed := by kernel_rfl
  f129 := Tryz.func15.trans (congrArg some (by kernel_rfl))
  t3 := Tryz.underlying3
  a3 := Tryz.isAgg3
  z3 := Tryz.sizeOf3
  v3 := Tryz.zeroValue3
  t4 := Tryz.underlying4
  a4 := Tryz.isAgg4
  z4 := Tryz.sizeOf4
  v4 := Tryz.zeroValue4
  t5 := Tryz.underlying5
  a5 := Tryz.isAgg5
  z5 := Tryz.sizeOf5
  v5 := Tryz.zeroValue5
  t9 := Tryz.underlying9
  a9 := Tryz.isAgg9
  z9 := Tryz.sizeOf9
  v9 := Tryz.zeroValue9
  t46 := Tryz.underlying66
  a46 := Tryz.isAgg66
  z46 := Tryz.sizeOf66
  v46 := Tryz.zeroValue66
  t53 := Tryz.underlying43
  a53 := Tryz.isAgg43
  z53 := Tryz.sizeOf43
  v53 := Tryz.zeroValue43 }
/-- bits.Len64: "Len64 returns the minimum number of bits required to represent x; the result is 0 for x == 0.": IT RETURNS 'Lib.bitLen x'; the world is as it was. ('h0', 'h1': x is a uint64.) (LAID: no walk: one application.) -/
theorem Tryz.bits_Len64 (x : Int) (w : World) (h0 : 0 ≤ x) (h1 : x ≤ 18446744073709551615) :
    Calls Tryz.prog 15 #[.int .u64 x] w fun e w' => e = .returned (.int .i64 (Lib.bitLen x.toNat)) ∧ w' = w := Any.bits_Len64 Tryz.lays129 x w h0 h1
def Tryz.laysM171_ren : Go.Shelf.Ren := ⟨fun | 171 => 29 | 243 => 40 | 246 => 64 | 283 => 80 | 284 => 81 | 285 => 82 | 286 => 83 | 129 => 15 | 317 => 94 | 318 => 95 | 319 => 96 | 320 => 97 | 337 => 102 | 338 => 14 | n => n, fun | 3 => 3 | 9 => 9 | 2 => 2 | 4 => 4 | 171 => 119 | 0 => 0 | 53 => 43 | 37 => 77 | 5 => 5 | 173 => 121 | 212 => 133 | 51 => 22 | 20 => 20 | 213 => 134 | 46 => 66 | 232 => 143 | 233 => 65 | n => n, fun | 17 => 1 | 18 => 5 | 19 => 0 | n => n⟩
theorem Tryz.laysM171 : Go.Proofs.LaysM.n171 Tryz.prog Tryz.laysM171_ren := {
  mixed := by kernel_rfl
  f129 := Tryz.func15.trans (congrArg some (by kernel_rfl))
  f171 := Tryz.func29.trans (congrArg some (by kernel_rfl))
  f243 := Tryz.func40.trans (congrArg some (by kernel_rfl))
  f246 := Tryz.func64.trans (congrArg some (by kernel_rfl))
  f283 := Tryz.func80.trans (congrArg some (by kernel_rfl))
  f284 := Tryz.func81.trans (congrArg some (by kernel_rfl))
  f285 := Tryz.func82.trans (congrArg some (by kernel_rfl))
  f286 := Tryz.func83.trans (congrArg some (by kernel_rfl))
  f317 := Tryz.func94.trans (congrArg some (by kernel_rfl))
  f318 := Tryz.func95.trans (congrArg some (by kernel_rfl))
  f319 := Tryz.func96.trans (congrArg some (by kernel_rfl))
  f320 := Tryz.func97.trans (congrArg some (by kernel_rfl))
  f337 := Tryz.func102.trans (congrArg some (by kernel_rfl))
  f338 := Tryz.func14.trans (congrArg some (by kernel_rfl))
  t0 := Tryz.underlying0
  a0 := Tryz.isAgg0
  z0 := Tryz.sizeOf0
  v0 := Tryz.zeroValue0
  t2 := Tryz.underlying2
  a2 := Tryz.isAgg2
  z2 := Tryz.sizeOf2
  v2 := Tryz.zeroValue2
  t3 := Tryz.underlying3
  a3 := Tryz.isAgg3
  z3 := Tryz.sizeOf3
  v3 := Tryz.zeroValue3
  t4 := Tryz.underlying4
  a4 := Tryz.isAgg4
  z4 := Tryz.sizeOf4
  v4 := Tryz.zeroValue4
  t5 := Tryz.underlying5
  a5 := Tryz.isAgg5
  z5 := Tryz.sizeOf5
  v5 := Tryz.zeroValue5
  t9 := Tryz.underlying9
  a9 := Tryz.isAgg9
  z9 := Tryz.sizeOf9
  v9 := Tryz.zeroValue9
  t20 := Tryz.underlying20
  a20 := Tryz.isAgg20
  z20 := Tryz.sizeOf20
  v20 := Tryz.zeroValue20
  t37 := Tryz.underlying77
  a37 := Tryz.isAgg77
  z37 := Tryz.sizeOf77
  v37 := Tryz.zeroValue77
  t46 := Tryz.underlying66
  a46 := Tryz.isAgg66
  z46 := Tryz.sizeOf66
  v46 := Tryz.zeroValue66
  t51 := Tryz.underlying22
  a51 := Tryz.isAgg22
  z51 := Tryz.sizeOf22
  v51 := Tryz.zeroValue22
  t53 := Tryz.underlying43
  a53 := Tryz.isAgg43
  z53 := Tryz.sizeOf43
  v53 := Tryz.zeroValue43
  t171 := Tryz.underlying119
  a171 := Tryz.isAgg119
  z171 := Tryz.sizeOf119
  v171 := Tryz.zeroValue119
  t173 := Tryz.underlying121
  a173 := Tryz.isAgg121
  z173 := Tryz.sizeOf121
  v173 := Tryz.zeroValue121
  t212 := Tryz.underlying133
  a212 := Tryz.isAgg133
  z212 := Tryz.sizeOf133
  v212 := Tryz.zeroValue133
  t213 := Tryz.underlying134
  a213 := Tryz.isAgg134
  z213 := Tryz.sizeOf134
  t232 := Tryz.underlying143
  a232 := Tryz.isAgg143
  z232 := Tryz.sizeOf143
  v232 := Tryz.zeroValue143
  t233 := Tryz.underlying65
  a233 := Tryz.isAgg65
  z233 := Tryz.sizeOf65
  v233 := Tryz.zeroValue65
  g17 := by kernel_rfl
  g18 := by kernel_rfl
  g19 := by kernel_rfl
  i0 := by kernel_rfl
  i2 := by kernel_rfl
  i3 := by kernel_rfl
  i4 := by kernel_rfl
  i5 := by kernel_rfl
  i9 := by kernel_rfl
  i20 := by kernel_rfl
  i37 := by kernel_rfl
  i46 := by kernel_rfl
  i51 := by kernel_rfl
  i53 := by kernel_rfl
  i171 := by kernel_rfl
  i173 := by kernel_rfl
  i212 := by kernel_rfl
  i232 := by kernel_rfl
  i233 := by kernel_rfl
  m17 := by kernel_rfl
  m18 := by kernel_rfl
  m19 := by kernel_rfl }
open Go.RowKit Go.Sort Go.Lib in
/-- strconv.Itoa: "Itoa is equivalent to FormatInt(int64(i), 10).": i's DECIMAL NUMERAL ('Lib.itoa': a '-' where i is negative, then the digits), FOR EVERY int. The world behind the call: the world before it, new blocks behind the heap (the library's 'var a [24]byte'), draws. (LAID: no walk: one application.) -/
theorem Tryz.strconv_Itoa (n : Int) (h0 : -9223372036854775808 ≤ n) (h1 : n ≤ 9223372036854775807) (w : World) (htab : Lib.TabIs Tryz.prog w "internal/strconv.uint64pow10" .u64 Lib.pow10Tab) :
    Calls Tryz.prog 29 #[.int .i64 n] w fun e w' => e = .returned (.string ⟨(Lib.itoa n).toArray⟩) ∧ ∃ k os, w' = grow (w.drewN k) os := Any.strconv_Itoa Tryz.laysM171 n h0 h1 w htab
def Tryz.laysM219_ren : Go.Shelf.Ren := ⟨fun | 219 => 92 | 217 => 79 | 225 => 100 | 224 => 99 | 267 => 101 | 266 => 93 | 314 => 103 | n => n, fun | 9 => 9 | 3 => 3 | 4 => 4 | 5 => 5 | 46 => 66 | 146 => 141 | 51 => 22 | n => n, fun | 1 => 2 | n => n⟩
theorem Tryz.laysM219 : Go.Proofs.LaysM.n219 Tryz.prog Tryz.laysM219_ren := {
  mixed := by kernel_rfl
  f217 := Tryz.func79.trans (congrArg some (by kernel_rfl))
  f219 := Tryz.func92.trans (congrArg some (by kernel_rfl))
  f224 := Tryz.func99.trans (congrArg some (by kernel_rfl))
  f225 := Tryz.func100.trans (congrArg some (by kernel_rfl))
  f266 := Tryz.func93.trans (congrArg some (by kernel_rfl))
  f267 := Tryz.func101.trans (congrArg some (by kernel_rfl))
  f314 := Tryz.func103.trans (congrArg some (by kernel_rfl))
  t3 := Tryz.underlying3
  a3 := Tryz.isAgg3
  z3 := Tryz.sizeOf3
  v3 := Tryz.zeroValue3
  t4 := Tryz.underlying4
  a4 := Tryz.isAgg4
  z4 := Tryz.sizeOf4
  v4 := Tryz.zeroValue4
  t5 := Tryz.underlying5
  a5 := Tryz.isAgg5
  z5 := Tryz.sizeOf5
  v5 := Tryz.zeroValue5
  t9 := Tryz.underlying9
  a9 := Tryz.isAgg9
  z9 := Tryz.sizeOf9
  v9 := Tryz.zeroValue9
  t46 := Tryz.underlying66
  a46 := Tryz.isAgg66
  z46 := Tryz.sizeOf66
  v46 := Tryz.zeroValue66
  t51 := Tryz.underlying22
  a51 := Tryz.isAgg22
  z51 := Tryz.sizeOf22
  v51 := Tryz.zeroValue22
  t146 := Tryz.underlying141
  a146 := Tryz.isAgg141
  z146 := Tryz.sizeOf141
  v146 := Tryz.zeroValue141
  g1 := by kernel_rfl
  i3 := by kernel_rfl
  i4 := by kernel_rfl
  i5 := by kernel_rfl
  i9 := by kernel_rfl
  i46 := by kernel_rfl
  i51 := by kernel_rfl
  i146 := by kernel_rfl
  m1 := by kernel_rfl
  s1_3 := fun w h => Go.Proofs.cell_of_shapedOpen_int (zero := #[.int .i64 0]) (t := 3) h (of_decide_eq_true (by kernel_rfl)) (by kernel_rfl) rfl (by kernel_rfl) (by kernel_rfl) Tryz.underlying3 }
def Tryz.lays146_ren : Go.Shelf.Ren := ⟨fun | 146 => 37 | 221 => 60 | 268 => 76 | 138 => 77 | 143 => 78 | 195 => 90 | 197 => 68 | 218 => 91 | 219 => 92 | 260 => 86 | 217 => 79 | 225 => 100 | 224 => 99 | 267 => 101 | 266 => 93 | 314 => 103 | n => n, fun | 9 => 9 | 31 => 55 | 3 => 3 | 4 => 4 | 0 => 0 | 105 => 108 | 21 => 21 | 5 => 5 | 46 => 66 | 119 => 136 | 139 => 139 | 138 => 138 | 146 => 141 | 51 => 22 | n => n, fun | 1 => 2 | 3 => 3 | 4 => 4 | n => n⟩
theorem Tryz.lays146 : Go.Proofs.Lays.n146 Tryz.prog Tryz.lays146_ren := {
  mixed := by kernel_rfl
  f138 := Tryz.func77.trans (congrArg some (by kernel_rfl))
  f143 := Tryz.func78.trans (congrArg some (by kernel_rfl))
  f146 := Tryz.func37.trans (congrArg some (by kernel_rfl))
  f195 := Tryz.func90.trans (congrArg some (by kernel_rfl))
  f197 := Tryz.func68.trans (congrArg some (by kernel_rfl))
  f217 := Tryz.func79.trans (congrArg some (by kernel_rfl))
  f218 := Tryz.func91.trans (congrArg some (by kernel_rfl))
  f219 := Tryz.func92.trans (congrArg some (by kernel_rfl))
  f221 := Tryz.func60.trans (congrArg some (by kernel_rfl))
  f224 := Tryz.func99.trans (congrArg some (by kernel_rfl))
  f225 := Tryz.func100.trans (congrArg some (by kernel_rfl))
  f260 := Tryz.func86.trans (congrArg some (by kernel_rfl))
  f266 := Tryz.func93.trans (congrArg some (by kernel_rfl))
  f267 := Tryz.func101.trans (congrArg some (by kernel_rfl))
  f268 := Tryz.func76.trans (congrArg some (by kernel_rfl))
  f314 := Tryz.func103.trans (congrArg some (by kernel_rfl))
  t0 := Tryz.underlying0
  a0 := Tryz.isAgg0
  z0 := Tryz.sizeOf0
  v0 := Tryz.zeroValue0
  t3 := Tryz.underlying3
  a3 := Tryz.isAgg3
  z3 := Tryz.sizeOf3
  v3 := Tryz.zeroValue3
  t4 := Tryz.underlying4
  a4 := Tryz.isAgg4
  z4 := Tryz.sizeOf4
  v4 := Tryz.zeroValue4
  t5 := Tryz.underlying5
  a5 := Tryz.isAgg5
  z5 := Tryz.sizeOf5
  v5 := Tryz.zeroValue5
  t9 := Tryz.underlying9
  a9 := Tryz.isAgg9
  z9 := Tryz.sizeOf9
  v9 := Tryz.zeroValue9
  t21 := Tryz.underlying21
  a21 := Tryz.isAgg21
  z21 := Tryz.sizeOf21
  v21 := Tryz.zeroValue21
  t31 := Tryz.underlying55
  a31 := Tryz.isAgg55
  z31 := Tryz.sizeOf55
  v31 := Tryz.zeroValue55
  t46 := Tryz.underlying66
  a46 := Tryz.isAgg66
  z46 := Tryz.sizeOf66
  v46 := Tryz.zeroValue66
  t51 := Tryz.underlying22
  a51 := Tryz.isAgg22
  z51 := Tryz.sizeOf22
  v51 := Tryz.zeroValue22
  t105 := Tryz.underlying108
  a105 := Tryz.isAgg108
  z105 := Tryz.sizeOf108
  v105 := Tryz.zeroValue108
  t119 := Tryz.underlying136
  a119 := Tryz.isAgg136
  z119 := Tryz.sizeOf136
  t138 := Tryz.underlying138
  a138 := Tryz.isAgg138
  z138 := Tryz.sizeOf138
  v138 := Tryz.zeroValue138
  t139 := Tryz.underlying139
  a139 := Tryz.isAgg139
  z139 := Tryz.sizeOf139
  v139 := Tryz.zeroValue139
  t146 := Tryz.underlying141
  a146 := Tryz.isAgg141
  z146 := Tryz.sizeOf141
  v146 := Tryz.zeroValue141
  g1 := by kernel_rfl
  g3 := by kernel_rfl
  g4 := by kernel_rfl }
open Go.RowKit Go.Lib in
/-- strings.Split. (LAID: no walk: one application.) -/
theorem Tryz.strings_Split (s sep : ByteArray) (m : Int) (w : World) (hs : s.size < 4294967281) (hm : w.cell? ⟨2, 0, none⟩ = some (.int .i64 m)) (h1 : 1 ≤ sep.size) :
    Calls Tryz.prog 37 #[.string s, .string sep] w fun e w' =>
      e = .returned (.slice (some ⟨w.heap.size, 0, none⟩) (Lib.countB s sep + 1) (Lib.countB s sep + 1)) ∧ w' = w.alloc (.cells ((Lib.splitB sep 0 (Lib.countB s sep) s).map Value.string).toArray 9) := Any.strings_Split Tryz.lays146 (by kernel_rfl) s sep m w hs hm h1
end Go.Proofs
/-! Oct -/
namespace Go.Proofs.YtgnahagnmodpdaaGreatDoor
open Go.RowKit Go.Proofs.YtgnahagnmodpdaaGreatDoorW.PrintWords
set_option linter.unusedVariables false
set_option linter.unusedSimpArgs false
theorem ret_int {k : IntKind} {a b : Int} (h : a = b) : Ending.returned (.int k a) = .returned (.int k b) := by rw [h]
theorem drawn_same {w w' : World} (h : w = w') : Drawn0 w w' := h ▸ Drawn0.refl w
/-- The digits to the base 36. -/
def digs : List UInt8 := [48, 49, 50, 51, 52, 53, 54, 55, 56, 57, 97, 98, 99, 100, 101, 102, 103, 104, 105, 106, 107, 108, 109, 110, 111, 112, 113, 114, 115, 116, 117, 118, 119, 120, 121, 122]
/-- What a byte says. -/
def digN (b : Int) : Int := if 48 ≤ b ∧ b ≤ 57 then b - 48 else if 65 ≤ b ∧ b ≤ 90 then b - 55 else if 97 ≤ b ∧ b ≤ 122 then b - 87 else -1
/-- .. to a base. -/
def digV (b base : Int) : Int := if base < 2 ∨ 36 < base then -1 else if digN b < base then digN b else -1
theorem idx_digs : ∀ n : Fin 256, Lib.indexByte digs (n.val.toUInt8) = digN (if 65 ≤ (n.val : Int) ∧ (n.val : Int) ≤ 90 then -1 else n.val) := by decide +kernel
theorem idx_of (b : Int) (h0 : 0 ≤ b) (h1 : b < 256) (h2 : ¬ (65 ≤ b ∧ b ≤ 90)) : Lib.indexByte digs b.toNat.toUInt8 = digN b := by
  obtain ⟨n, rfl⟩ := Int.eq_ofNat_of_zero_le h0
  have := idx_digs ⟨n, by omega⟩
  rw [if_neg (by simpa using h2)] at this
  simpa using this
theorem idx_up (b : Int) (h0 : 65 ≤ b) (h1 : b ≤ 90) : Lib.indexByte digs (b + 32).toNat.toUInt8 = digN b := by
  rw [idx_of (b + 32) (by omega) (by omega) (by omega)]
  unfold digN
  rw [if_neg (by omega), if_neg (by omega), if_pos (by omega), if_neg (by omega), if_pos (by omega)]
  omega
/-- The class of a byte. -/
def classV (b : Int) : Int :=
  if 48 ≤ b ∧ b ≤ 57 then 9 else if 65 ≤ b ∧ b ≤ 70 then 10 else if 97 ≤ b ∧ b ≤ 102 then 12 else if 65 ≤ b ∧ b ≤ 90 then 2 else if 97 ≤ b ∧ b ≤ 122 then 4 else if b < 32 ∨ b = 127 then 16 else if 127 < b then 32 else if b = 32 then 128 else 64
set_option maxHeartbeats 4000000 in
set_option maxRecDepth 100000 in
theorem class_walk (b : Int) (h0 : 0 ≤ b) (h1 : b < 256) (w : World) : Calls Tryz.prog 62 #[.int .u8 b] w fun e w' => e = .returned (.int .i64 (classV b)) ∧ w = w' := by
  go_enter Tryz.func62, Tryz.ntmps62
  go_wp2
  all_goals go_ret
  all_goals refine ⟨ret_int ?_, rfl⟩
  all_goals (try simp only [beq_iff_eq, beq_eq_false_iff_ne, ne_eq] at *)
  all_goals unfold classV
  all_goals (repeat' split)
  all_goals omega
theorem class_bits (b : Int) : (bits BinOp.and IntKind.i64 (classV b) 2 != 0) = decide (65 ≤ b ∧ b ≤ 90) := by
  unfold classV
  (repeat' split) <;> rw [eq_comm] <;> first
    | (rw [decide_eq_true (by omega)]; rfl)
    | (rw [decide_eq_false (by omega)]; rfl)
theorem digV_of {b base : Int} (h : ¬ (base < 2 ∨ 36 < base)) : digV b base = if digN b < base then digN b else -1 := if_neg h
theorem dig_case {b base i : Int} (h : ¬ (base < 2 ∨ 36 < base)) (hi : i = digN b) : (base ≤ i → digV b base = -1) ∧ (i < base → digV b base = i) := by
  rw [digV_of h, hi]
  exact ⟨fun h => if_neg (by omega), fun h => if_pos h⟩
theorem idx_up' (b : Int) (h : 65 ≤ b ∧ b ≤ 90) : Lib.indexByte [48, 49, 50, 51, 52, 53, 54, 55, 56, 57, 97, 98, 99, 100, 101, 102, 103, 104, 105, 106, 107, 108, 109, 110, 111, 112, 113, 114, 115, 116, 117, 118, 119, 120, 121, 122] (UInt8.ofNat ((b + 32) % 256).toNat) = digN b := by
  rw [show (b + 32) % 256 = b + 32 by omega]
  exact idx_up b h.1 h.2
theorem idx_lo' (b : Int) (h0 : 0 ≤ b) (h1 : b < 256) (h : ¬ (65 ≤ b ∧ b ≤ 90)) : Lib.indexByte [48, 49, 50, 51, 52, 53, 54, 55, 56, 57, 97, 98, 99, 100, 101, 102, 103, 104, 105, 106, 107, 108, 109, 110, 111, 112, 113, 114, 115, 116, 117, 118, 119, 120, 121, 122] (UInt8.ofNat b.toNat) = digN b :=
  idx_of b h0 h1 h
set_option maxHeartbeats 4000000 in
set_option maxRecDepth 100000 in
theorem digit_walk (b base : Int) (h0 : 0 ≤ b) (h1 : b < 256) (w : World) : Calls Tryz.prog 39 #[.int .u8 b, .int .i64 base] w fun e w' => e = .returned (.int .i64 (digV b base)) ∧ w = w' := by
  have HB := class_bits b
  have HC := Aside0.mk HB
  clear HB
  go_enter Tryz.func39, Tryz.ntmps39
  go_wp2_with (first | (go_at_call 62; refine (class_walk b h0 h1 _).mono ?_; rintro e w' ⟨rfl, rfl⟩) | (go_at_call 63; refine (Tryz.strings_IndexByte _ _ _).mono ?_; rintro e w' ⟨rfl, rfl⟩))
  all_goals go_ret
  all_goals refine ⟨ret_int ?_, rfl⟩
  all_goals go_tidy
  all_goals have hB := HC.out
  all_goals clear HC
  all_goals first
    | (rw [show digV b base = -1 from if_pos (by omega)])
    | (rw [‹(bits BinOp.and IntKind.i64 (classV b) 2 != 0) = true›] at hB
       have hu := of_decide_eq_true hB.symm
       have e := idx_up' b hu
       simp only [e] at *
       first | exact ((dig_case (by omega) rfl).1 (by omega)).symm | exact ((dig_case (by omega) rfl).2 (by omega)).symm)
    | (rw [‹(bits BinOp.and IntKind.i64 (classV b) 2 != 0) = false›] at hB
       have hu := of_decide_eq_false hB.symm
       have e := idx_lo' b h0 h1 hu
       simp only [e] at *
       first | exact ((dig_case (by omega) rfl).1 (by omega)).symm | exact ((dig_case (by omega) rfl).2 (by omega)).symm)
    | trace_state
end Go.Proofs.YtgnahagnmodpdaaGreatDoor
/-! Given -/
namespace Go.Proofs.YtgnahagnmodpdaaGreatDoor
open Go.RowKit Go.Proofs.YtgnahagnmodpdaaGreatDoorW.PrintWords
set_option linter.unusedVariables false
def octet_Digit.f (a0 a1 : Int) : Option Int := if 0 ≤ a0 ∧ a0 < 256 then some (digV a0 a1) else none
theorem octet_Digit.calls (a0 a1 : Int) (r : Int) (w : World) (h : octet_Digit.f a0 a1 = some r) :
    Calls Tryz.prog 39 #[.int .u8 a0, .int .i64 a1] w fun e w' => e = .returned (.int .i64 r) ∧ Drawn0 w w' := by
  unfold octet_Digit.f at h
  by_cases hs : 0 ≤ a0 ∧ a0 < 256
  · rw [if_pos hs] at h
    obtain rfl := Option.some.inj h
    exact (digit_walk a0 a1 hs.1 hs.2 w).mono fun e w' ⟨he, hw⟩ => ⟨he, drawn_same hw⟩
  · rw [if_neg hs] at h
    cases h
end Go.Proofs.YtgnahagnmodpdaaGreatDoor
/-! Str -/
namespace Go.Proofs.YtgnahagnmodpdaaGreatDoor
open Go.RowKit Go.Proofs.YtgnahagnmodpdaaGreatDoorW.PrintWords
set_option linter.unusedVariables false
set_option linter.unusedSimpArgs false
/-- What is asked of the library's variables: bytealg.MaxLen is a number. -/
structure GW (w : World) : Prop where
  maxLen : ∃ m : Int, w.cell? ⟨2, 0, none⟩ = some (.int .i64 m)
  pow10 : Lib.TabIs Tryz.prog w "internal/strconv.uint64pow10" .u64 Lib.pow10Tab
  tz : Lib.TabIs Tryz.prog w "math/bits.deBruijn64tab" .u8 (Lib.deBruijn64tab.map fun n : Nat => (n : Int))
theorem maxLen_keep {w w' : World} (h : ∃ m : Int, w.cell? ⟨2, 0, none⟩ = some (.int .i64 m)) (hb : Below w.heap.size w w') : ∃ m : Int, w'.cell? ⟨2, 0, none⟩ = some (.int .i64 m) := by
  obtain ⟨m, hm⟩ := h
  refine ⟨m, ?_⟩
  rw [hb.cell (p := ⟨2, 0, none⟩) (World.block_lt_of_cell? w _ hm)]
  exact hm
theorem tab_keep {w w' : World} {name : String} {k : IntKind} {l : List Int} (h : Lib.TabIs Tryz.prog w name k l) (hb : Below w.heap.size w w') : Lib.TabIs Tryz.prog w' name k l := Lib.tabBelow_of_tabIs h w' hb
theorem GW.keep {w w' : World} (h : GW w) (hb : Below w.heap.size w w') : GW w' where
  maxLen := maxLen_keep h.maxLen hb
  pow10 := tab_keep h.pow10 hb
  tz := tab_keep h.tz hb
/-- A row of strings of the call's own. -/
theorem kd_strings {w : World} {base : Nat} {e : TypeId} {v : Value} {n : Nat} {xs : List ByteArray} (h : w.ownsRow base e 1 v n (xs.map Value.string)) : Kd.R Kd.string e w base (fun _ => True) v xs := by
  have hn : n = xs.length := by simpa using h.1.symm
  subst hn
  refine ⟨fun _ _ => trivial, xs.map Value.string, h, by show (xs.map Value.string).length = xs.length * 1; simp, fun j p hj => ?_⟩
  show ((xs.map Value.string).drop (j * 1)).take 1 = [Value.string p]
  have hj' : j < xs.length := by
    rcases Nat.lt_or_ge j xs.length with h | h
    · exact h
    · rw [List.getElem?_eq_none h] at hj; cases hj
  rw [List.getElem?_eq_getElem hj'] at hj
  obtain rfl := Option.some.inj hj
  rw [Nat.mul_one, List.drop_eq_getElem_cons (by simpa using hj')]
  simp
/-- A block that was just made, whole. -/
theorem own_made (w : World) (base : Nat) (e : TypeId) (cs : List Value) (h : cs.length ≤ maxLen) (hb : base ≤ w.heap.size) : (w.alloc (.cells cs.toArray e)).ownsRow base e 1 (.slice (some ⟨w.heap.size, 0, none⟩) cs.length cs.length) cs.length cs :=
  ⟨by simp, .inr ⟨w.heap.size, cs.length, cs.toArray, rfl, hb, by simpa using heap_alloc_new w _, Nat.le_refl _, h, by simp, by simp⟩⟩
def strings_Split.f (a0 a1 : ByteArray) : Option (List ByteArray) :=
  if a0.size < 4294967281 ∧ 1 ≤ a1.size then some (Lib.splitB a1 0 (Lib.countB a0 a1) a0) else none
theorem strings_Split.calls (a0 a1 : ByteArray) (r : List ByteArray) (w : World) (hG : GW w) (h : strings_Split.f a0 a1 = some r) :
    Calls Tryz.prog 37 #[.string a0, .string a1] w fun e w' => ∃ v0_ : Value, e = .returned v0_ ∧ Kd.R Kd.string 9 w' w.heap.size (fun _ => True) v0_ r ∧ Below w.heap.size w w' := by
  unfold strings_Split.f at h
  by_cases hs : a0.size < 4294967281 ∧ 1 ≤ a1.size
  · rw [if_pos hs] at h
    obtain rfl := Option.some.inj h
    obtain ⟨m, hm⟩ := hG.maxLen
    refine (Tryz.strings_Split a0 a1 m w hs.1 hm hs.2).mono ?_
    rintro e w' ⟨rfl, rfl⟩
    have hl := Lib.splitB_all a1 hs.2 0 _ a0 rfl
    have hc := Lib.countB_le a1 hs.2 _ a0 (Nat.le_refl _)
    refine ⟨_, rfl, kd_strings (n := Lib.countB a0 a1 + 1) ?_, (Below.refl _ _).alloc (Nat.le_refl _) _⟩
    have := own_made w w.heap.size 9 ((Lib.splitB a1 0 (Lib.countB a0 a1) a0).map Value.string) (by rw [List.length_map, hl]; unfold maxLen; omega) (Nat.le_refl _)
    rw [List.length_map, hl] at this
    exact this
  · rw [if_neg hs] at h
    cases h
def strings_Trim.f (a0 a1 : ByteArray) : Option ByteArray :=
  if a0.size ≤ 9223372036854775807 ∧ a1.size < 4294967281 ∧ a1.data.toList.all (fun b => decide (b.toNat < 128)) = true then some ⟨(Lib.trimS a0.data.toList a1.data.toList).toArray⟩ else none
theorem strings_Trim.calls (a0 a1 : ByteArray) (r : ByteArray) (w : World) (h : strings_Trim.f a0 a1 = some r) :
    Calls Tryz.prog 31 #[.string a0, .string a1] w fun e w' => e = .returned (.string r) ∧ Below w.heap.size w w' := by
  unfold strings_Trim.f at h
  by_cases hs : a0.size ≤ 9223372036854775807 ∧ a1.size < 4294967281 ∧ a1.data.toList.all (fun b => decide (b.toNat < 128)) = true
  · rw [if_pos hs] at h
    obtain rfl := Option.some.inj h
    exact Any.strings_Trim_laid Tryz.lays160 (by kernel_rfl) a0 a1 w hs.1 hs.2.1 (ascii_of_all hs.2.2)
  · rw [if_neg hs] at h
    cases h
end Go.Proofs.YtgnahagnmodpdaaGreatDoor
/-! X1 -/
namespace Go.Proofs.YtgnahagnmodpdaaGreatDoor.X
open Go.RowKit Go.Proofs.YtgnahagnmodpdaaGreatDoorW.PrintWords Go.Proofs.YtgnahagnmodpdaaGreatDoorW.PrintLast Go.Proofs.YtgnahagnmodpdaaGreatDoorW.PrintMore
attribute [local go_sem] max2_int min2_int max_two min_two max_three min_three max_four min_four
set_option linter.unusedVariables false
set_option linter.unusedSimpArgs false
def four_parts.f (a0 : ByteArray) : Option (List ByteArray) := (strings_Split.f a0 (⟨#[46]⟩ : ByteArray)).bind fun t101 => (if (t101.length : Int) > 1 then (if 0 ≤ (wrap64 ((t101.length : Int) - 1)) then (if (wrap64 ((t101.length : Int) - 1)) < (t101.length : Int) then (if (rdOf ByteArray.empty t101 (wrap64 ((t101.length : Int) - 1))).toList = ([] : List UInt8) then (if (wrap64 ((t101.length : Int) - 1)) ≤ (t101.length : Int) then (some (t101.take ((wrap64 ((t101.length : Int) - 1)) : Int).toNat)) else (none)) else (some t101)) else (none)) else (none)) else (some t101))
set_option maxHeartbeats 8000000 in
set_option maxRecDepth 100000 in
theorem four_parts.calls (a0 : ByteArray) (r : List ByteArray) (w : World) (hG : GW w) (h : four_parts.f a0 = some r) :
    Calls Tryz.prog 26 #[.string a0] w fun e w' => ∃ v0_ : Value, e = .returned (v0_) ∧ Kd.R Kd.string 9 w' w.heap.size (fun _ => True) v0_ r ∧ Below w.heap.size w w' := by
  have HG := Aside0.mk hG
  clear hG
  have HB := Aside0.mk (Below.refl w.heap.size w)
  have H : ((strings_Split.f a0 (⟨#[46]⟩ : ByteArray)).bind fun t101 => (if (t101.length : Int) > 1 then (if 0 ≤ (wrap64 ((t101.length : Int) - 1)) then (if (wrap64 ((t101.length : Int) - 1)) < (t101.length : Int) then (if (rdOf ByteArray.empty t101 (wrap64 ((t101.length : Int) - 1))).toList = ([] : List UInt8) then (if (wrap64 ((t101.length : Int) - 1)) ≤ (t101.length : Int) then (some (t101.take ((wrap64 ((t101.length : Int) - 1)) : Int).toNat)) else (none)) else (some t101)) else (none)) else (none)) else (some t101))) = some r := h
  clear h
  replace H := Option.bind_eq_some_iff.mp H
  obtain ⟨t101, A20, H⟩ := H
  replace H : (if (t101.length : Int) > 1 then (if 0 ≤ (wrap64 ((t101.length : Int) - 1)) then (if (wrap64 ((t101.length : Int) - 1)) < (t101.length : Int) then (if (rdOf ByteArray.empty t101 (wrap64 ((t101.length : Int) - 1))).toList = ([] : List UInt8) then (if (wrap64 ((t101.length : Int) - 1)) ≤ (t101.length : Int) then (some (t101.take ((wrap64 ((t101.length : Int) - 1)) : Int).toNat)) else (none)) else (some t101)) else (none)) else (none)) else (some t101)) = some r := H
  have A2 := Aside0.mk A20
  clear A20
  by_cases c3 : (t101.length : Int) > 1
  · rw [if_pos c3] at H
    have c3b0 : decide (1 < (t101.length : Int)) = true := decide_eq_true c3
    have c3b1 : decide (1 < t101.length) = true := decide_eq_true (by omega)
    clear c3
    obtain ⟨ji4, hji4⟩ : ∃ j_ : Int, (wrap64 ((t101.length : Int) - 1)) = j_ := ⟨_, rfl⟩
    replace H : (if 0 ≤ (ji4) then (if (ji4) < (t101.length : Int) then (if (rdOf ByteArray.empty t101 (ji4)).toList = ([] : List UInt8) then (if (ji4) ≤ (t101.length : Int) then (some (t101.take ((ji4) : Int).toNat)) else (none)) else (some t101)) else (none)) else (none)) = some r := by first | (rw [hji4] at H; exact H) | (simp only [hji4] at H ⊢; exact H)
    (try rw [hji4] at A2)
    have hji4w : (IntKind.i64.wrap ((t101.length : Int) - 1)) = ji4 := (i64_w _).trans hji4
    by_cases c5 : 0 ≤ (ji4)
    · rw [if_pos c5] at H
      have c5b0 : decide (0 ≤ (ji4)) = true := decide_eq_true c5
      clear c5
      by_cases c6 : (ji4) < (t101.length : Int)
      · rw [if_pos c6] at H
        have c6b0 : decide ((ji4) < (t101.length : Int)) = true := decide_eq_true c6
        clear c6
        by_cases c7 : (rdOf ByteArray.empty t101 (ji4)).toList = ([] : List UInt8)
        · rw [if_pos c7] at H
          have c7b0 : ((rdOf ByteArray.empty t101 (ji4)).toList == ([] : List UInt8)) = true := beq_iff_eq.mpr c7
          have c7b1 : ((rdOf ByteArray.empty t101 (ji4)).toList != ([] : List UInt8)) = false := bne_eq_false_iff_eq.mpr c7
          clear c7
          by_cases c8 : (ji4) ≤ (t101.length : Int)
          · rw [if_pos c8] at H
            have c8b0 := eq_true c8
            have c8b1 : decide ((ji4) ≤ (t101.length : Int)) = true := decide_eq_true c8
            clear c8
            obtain ⟨y105, hy105⟩ : ∃ y_ : List ByteArray, y_ = (t101.take ((ji4) : Int).toNat) := ⟨_, rfl⟩
            replace H : (some y105) = some r := by first | (rw [hy105]; with_reducible exact H) | (have H2_ := (Option.bind_some _ _).symm.trans H; rw [hy105]; with_reducible exact H2_) | (have H2_ := (Option.bind_some _ _).symm.trans H; with_reducible exact H2_) | with_reducible exact H | (rw [hy105]; exact H) | exact H
            have Ny105 := Aside0.mk hy105
            clear hy105
            obtain rfl := Option.some.inj H
            go_enter Tryz.func26, Tryz.ntmps26
            go_wp2_with (first | ((with_reducible refine gate_callee (f := 37) rfl ?_); refine goesL_ (some 6) rfl rfl Tryz.func37 (by kernel_rfl) rfl #[.string a0, .string (⟨#[46]⟩ : ByteArray)] rfl (by (try simp only [List.map_toArray, List.map_cons, List.map_nil]); first | done | rfl | (simp only [List.length_drop, List.length_take]; rfl)) ?_; (with_reducible refine (strings_Split.calls a0 (⟨#[46]⟩ : ByteArray) t101 _ (GW.keep HG.out (by repeat (first | (with_reducible first | exact HB.out | apply below_alloc | apply pw_below_drewN | apply below_drew1) | exact HB.out | exact Below.refl _ _))) A2.out).mono ?_); rintro e w9 ⟨v102, rfl, ho0, hb⟩; refine ⟨_, rfl, ?_⟩; have n0_ := Aside0.mk (Kd.R_lower ho0 (below_size (by repeat (first | (with_reducible first | exact HB.out | apply below_alloc | apply pw_below_drewN | apply below_drew1) | exact HB.out)))); have n1_ := Aside0.mk (below_step (by repeat (first | (with_reducible first | exact HB.out | apply below_alloc | apply pw_below_drewN | apply below_drew1) | exact HB.out)) hb); clear HB; have HO103 := n0_; have HB := n1_; clear n0_ n1_; (try clear hb); (try clear hb2); (try clear hk); (try clear hi); (try clear ho0); obtain ⟨Ao10, co10, eo10⟩ := Kd.R_slice HO103.out; subst eo10; have p104 : 0 ≤ ((ji4) : Int) := of_decide_eq_true (by first | (with_reducible assumption) | assumption); have q104 : (ji4) < (t101.length : Int) := of_decide_eq_true (by first | (with_reducible assumption) | assumption); obtain ⟨ad104, e104, hx104_0⟩ := Kd.at_string (Kd.R_reads' HO103.out).2.2 (ji4) p104 q104; cases e104; replace p104 := eq_true p104; replace q104 := eq_true q104; have q11 : ((ji4) : Int) ≤ ((t101.length : Int) : Int) := of_decide_eq_true (by first | (with_reducible assumption) | assumption); obtain ⟨i011, hi011, _, hsz11, _⟩ := info_parts info9; have hcut11 := cut_to (P := Tryz.prog) 55 9 .i64 Tryz.underlying55 hi011 (some ad104) t101.length co10 (ji4) (of_decide_eq_true (by first | (with_reducible assumption) | assumption)) q11 (Kd.R_reads' HO103.out).2.1; have hr11 := Kd.R_take (m := ((ji4) : Int).toNat) HO103.out (by omega); have hy11 : y105.length = ((ji4) : Int).toNat := (by rw [Ny105.out, List.length_take]; omega); rw [← Ny105.out] at hr11; rw [← hy11] at hr11 hcut11; clear hy11 hi011 hsz11 HO103; have HO107 := Aside0.mk hr11; clear hr11; replace q11 := eq_true q11))
            go_ret
            exact ⟨_, by first | rfl | (simp [errW_none, errW_some] <;> rfl) | (simp only [← hji4]; first | rfl | (simp [errW_none, errW_some] <;> rfl)) | (simp [*, errW_none, errW_some] <;> rfl), by (with_reducible repeat (first | apply Kd.R_alloc | apply Kd.R_drewN | apply Kd.R_drew)); exact HO107.out, by repeat (first | (with_reducible first | exact HB.out | apply below_alloc | apply pw_below_drewN | apply below_drew1) | exact HB.out)⟩
          · rw [if_neg c8] at H
            exact absurd H (by simp)
        · rw [if_neg c7] at H
          have c7b0 : ((rdOf ByteArray.empty t101 (ji4)).toList == ([] : List UInt8)) = false := beq_eq_false_iff_ne.mpr c7
          have c7b1 : ((rdOf ByteArray.empty t101 (ji4)).toList != ([] : List UInt8)) = true := bne_iff_ne.mpr c7
          obtain rfl := Option.some.inj H
          go_enter Tryz.func26, Tryz.ntmps26
          go_wp2_with (first | ((with_reducible refine gate_callee (f := 37) rfl ?_); refine goesL_ (some 6) rfl rfl Tryz.func37 (by kernel_rfl) rfl #[.string a0, .string (⟨#[46]⟩ : ByteArray)] rfl (by (try simp only [List.map_toArray, List.map_cons, List.map_nil]); first | done | rfl | (simp only [List.length_drop, List.length_take]; rfl)) ?_; (with_reducible refine (strings_Split.calls a0 (⟨#[46]⟩ : ByteArray) t101 _ (GW.keep HG.out (by repeat (first | (with_reducible first | exact HB.out | apply below_alloc | apply pw_below_drewN | apply below_drew1) | exact HB.out | exact Below.refl _ _))) A2.out).mono ?_); rintro e w12 ⟨v102, rfl, ho0, hb⟩; refine ⟨_, rfl, ?_⟩; have n0_ := Aside0.mk (Kd.R_lower ho0 (below_size (by repeat (first | (with_reducible first | exact HB.out | apply below_alloc | apply pw_below_drewN | apply below_drew1) | exact HB.out)))); have n1_ := Aside0.mk (below_step (by repeat (first | (with_reducible first | exact HB.out | apply below_alloc | apply pw_below_drewN | apply below_drew1) | exact HB.out)) hb); clear HB; have HO103 := n0_; have HB := n1_; clear n0_ n1_; (try clear hb); (try clear hb2); (try clear hk); (try clear hi); (try clear ho0); obtain ⟨Ao13, co13, eo13⟩ := Kd.R_slice HO103.out; subst eo13; have p104 : 0 ≤ ((ji4) : Int) := of_decide_eq_true (by first | (with_reducible assumption) | assumption); have q104 : (ji4) < (t101.length : Int) := of_decide_eq_true (by first | (with_reducible assumption) | assumption); obtain ⟨ad104, e104, hx104_0⟩ := Kd.at_string (Kd.R_reads' HO103.out).2.2 (ji4) p104 q104; cases e104; replace p104 := eq_true p104; replace q104 := eq_true q104))
          go_ret
          exact ⟨_, by first | rfl | (simp [errW_none, errW_some] <;> rfl) | (simp only [← hji4]; first | rfl | (simp [errW_none, errW_some] <;> rfl)) | (simp [*, errW_none, errW_some] <;> rfl), by (with_reducible repeat (first | apply Kd.R_alloc | apply Kd.R_drewN | apply Kd.R_drew)); exact HO103.out, by repeat (first | (with_reducible first | exact HB.out | apply below_alloc | apply pw_below_drewN | apply below_drew1) | exact HB.out)⟩
      · rw [if_neg c6] at H
        exact absurd H (by simp)
    · rw [if_neg c5] at H
      exact absurd H (by simp)
  · rw [if_neg c3] at H
    have c3b0 : decide (1 < (t101.length : Int)) = false := decide_eq_false c3
    have c3b1 : decide (1 < t101.length) = false := decide_eq_false (by omega)
    clear c3
    obtain rfl := Option.some.inj H
    go_enter Tryz.func26, Tryz.ntmps26
    go_wp2_with (first | ((with_reducible refine gate_callee (f := 37) rfl ?_); refine goesL_ (some 6) rfl rfl Tryz.func37 (by kernel_rfl) rfl #[.string a0, .string (⟨#[46]⟩ : ByteArray)] rfl (by (try simp only [List.map_toArray, List.map_cons, List.map_nil]); first | done | rfl | (simp only [List.length_drop, List.length_take]; rfl)) ?_; (with_reducible refine (strings_Split.calls a0 (⟨#[46]⟩ : ByteArray) t101 _ (GW.keep HG.out (by repeat (first | (with_reducible first | exact HB.out | apply below_alloc | apply pw_below_drewN | apply below_drew1) | exact HB.out | exact Below.refl _ _))) A2.out).mono ?_); rintro e w14 ⟨v102, rfl, ho0, hb⟩; refine ⟨_, rfl, ?_⟩; have n0_ := Aside0.mk (Kd.R_lower ho0 (below_size (by repeat (first | (with_reducible first | exact HB.out | apply below_alloc | apply pw_below_drewN | apply below_drew1) | exact HB.out)))); have n1_ := Aside0.mk (below_step (by repeat (first | (with_reducible first | exact HB.out | apply below_alloc | apply pw_below_drewN | apply below_drew1) | exact HB.out)) hb); clear HB; have HO103 := n0_; have HB := n1_; clear n0_ n1_; (try clear hb); (try clear hb2); (try clear hk); (try clear hi); (try clear ho0); obtain ⟨Ao15, co15, eo15⟩ := Kd.R_slice HO103.out; subst eo15))
    go_ret
    exact ⟨_, by first | rfl | (simp [errW_none, errW_some] <;> rfl) | (simp [*, errW_none, errW_some] <;> rfl), by (with_reducible repeat (first | apply Kd.R_alloc | apply Kd.R_drewN | apply Kd.R_drew)); exact HO103.out, by repeat (first | (with_reducible first | exact HB.out | apply below_alloc | apply pw_below_drewN | apply below_drew1) | exact HB.out)⟩
def stringslite_HasPrefix.f (a0 : ByteArray) (a1 : ByteArray) : Option (Bool) := if (a0.size : Int) ≥ (a1.size : Int) then (if 0 ≤ (a1.size : Int) then (if (a1.size : Int) ≤ (a0.size : Int) then (some ((a0.extract 0 ((a1.size : Int) : Int).toNat).toList == a1.toList)) else (none)) else (none)) else (some false)
set_option maxHeartbeats 8000000 in
set_option maxRecDepth 100000 in
theorem stringslite_HasPrefix.calls (a0 : ByteArray) (a1 : ByteArray) (r : Bool) (w : World) (h : stringslite_HasPrefix.f a0 a1 = some r) :
    Calls Tryz.prog 61 #[.string a0, .string a1] w fun e w' => e = .returned (.bool r) ∧ Drawn0 w w' := by
  have H : (if (a0.size : Int) ≥ (a1.size : Int) then (if 0 ≤ (a1.size : Int) then (if (a1.size : Int) ≤ (a0.size : Int) then (some ((a0.extract 0 ((a1.size : Int) : Int).toNat).toList == a1.toList)) else (none)) else (none)) else (some false)) = some r := h
  clear h
  by_cases c3 : (a0.size : Int) ≥ (a1.size : Int)
  · rw [if_pos c3] at H
    have c3b0 : decide ((a1.size : Int) ≤ (a0.size : Int)) = true := decide_eq_true c3
    have c3b1 : decide (a1.size ≤ a0.size) = true := decide_eq_true (Int.ofNat_le.mp c3)
    clear c3
    by_cases c4 : 0 ≤ (a1.size : Int)
    · rw [if_pos c4] at H
      have c4b0 := eq_true c4
      have c4b1 : decide (0 ≤ (a1.size : Int)) = true := decide_eq_true c4
      clear c4
      by_cases c5 : (a1.size : Int) ≤ (a0.size : Int)
      · rw [if_pos c5] at H
        have c5b0 := eq_true c5
        have c5b1 : decide ((a1.size : Int) ≤ (a0.size : Int)) = true := decide_eq_true c5
        clear c5
        obtain rfl := Option.some.inj H
        go_enter Tryz.func61, Tryz.ntmps61
        go_wp2
        go_ret
        exact ⟨by first | rfl | (simp; done) | (simp [*]; done), by repeat (first | exact Drawn0.refl _ | apply Drawn0.step)⟩
      · rw [if_neg c5] at H
        exact absurd H (by simp)
    · rw [if_neg c4] at H
      exact absurd H (by simp)
  · rw [if_neg c3] at H
    have c3b0 : decide ((a1.size : Int) ≤ (a0.size : Int)) = false := decide_eq_false c3
    have c3b1 : decide (a1.size ≤ a0.size) = false := decide_eq_false (fun h => c3 (Int.ofNat_le.mpr h))
    clear c3
    obtain rfl := Option.some.inj H
    go_enter Tryz.func61, Tryz.ntmps61
    go_wp2
    go_ret
    exact ⟨by first | rfl | (simp; done) | (simp [*]; done), by repeat (first | exact Drawn0.refl _ | apply Drawn0.step)⟩
def strings_HasPrefix.f (a0 : ByteArray) (a1 : ByteArray) : Option (Bool) := (stringslite_HasPrefix.f a0 a1).bind fun t108 => (some t108)
set_option maxHeartbeats 8000000 in
set_option maxRecDepth 100000 in
theorem strings_HasPrefix.calls (a0 : ByteArray) (a1 : ByteArray) (r : Bool) (w : World) (h : strings_HasPrefix.f a0 a1 = some r) :
    Calls Tryz.prog 38 #[.string a0, .string a1] w fun e w' => e = .returned (.bool r) ∧ Drawn0 w w' := by
  have H : ((stringslite_HasPrefix.f a0 a1).bind fun t108 => (some t108)) = some r := h
  clear h
  replace H := Option.bind_eq_some_iff.mp H
  obtain ⟨t108, A30, H⟩ := H
  replace H : (some t108) = some r := H
  have A3 := Aside0.mk A30
  clear A30
  obtain rfl := Option.some.inj H
  go_enter Tryz.func38, Tryz.ntmps38
  go_wp2_with (first | ((with_reducible refine gate_callee (f := 61) rfl ?_); refine goesL_ (some 7) rfl rfl Tryz.func61 (by kernel_rfl) rfl #[.string a0, .string a1] rfl (by (try simp only [List.map_toArray, List.map_cons, List.map_nil]); first | done | rfl | (simp only [List.length_drop, List.length_take]; rfl)) ?_; (with_reducible refine (stringslite_HasPrefix.calls a0 a1 t108 _ A3.out).mono ?_); rintro e w' ⟨rfl, ⟨nd, rfl⟩⟩; refine ⟨_, rfl, ?_⟩))
  go_ret
  exact ⟨by first | rfl | (simp; done) | (simp [*]; done), by repeat (first | exact Drawn0.refl _ | apply Drawn0.step)⟩
mutual
def four_Number.j1 : Nat → Int → ByteArray → Option (Int × Int × Int)
  | 0, _, _ => none
  | k + 1, x5, x6 => four_Number.l0 k x5 x6 0 (x6.size : Int) 0
def four_Number.l0 : Nat → Int → ByteArray → Int → Int → Int → Option (Int × Int × Int)
  | 0, _, _, _, _, _ => none
  | k + 1, x5, x6, x7, x34, x35 => if x35 < x34 then (if 0 ≤ x35 then (if x35 < (x6.size : Int) then ((octet_Digit.f (bt x6 x35) x5).bind fun t111 => (if t111 < 0 then (some (0, 0, 200)) else (four_Number.l0 k x5 x6 (mn (IntKind.u64.wrap ((IntKind.u64.wrap (x7 * (IntKind.u64.wrap (x5)))) + (IntKind.u64.wrap (t111)))) 4294967296) x34 (wrap64 (x35 + 1))))) else (none)) else (none)) else (some (x7, x5, 0))
def four_Number.j0 : Nat → ByteArray → Int → ByteArray → Bool → Option (Int × Int × Int)
  | 0, _, _, _, _ => none
  | k + 1, x0, x5, x6, x13 => if x13 = true then (if 2 ≤ (x0.size : Int) then (four_Number.j1 k 16 (x0.extract 2 x0.size)) else (none)) else (if (x0.size : Int) > 1 then (if 0 < (x0.size : Int) then (if (bt x0 0) = 48 then (if 1 ≤ (x0.size : Int) then (four_Number.j1 k 8 (x0.extract 1 x0.size)) else (none)) else (four_Number.j1 k x5 x6)) else (none)) else (four_Number.j1 k x5 x6))
end
def four_Number.f (k : Nat) (a0 : ByteArray) : Option (Int × Int × Int) := if a0.toList = ([] : List UInt8) then (some (0, 0, 200)) else ((strings_HasPrefix.f a0 (⟨#[48, 120]⟩ : ByteArray)).bind fun t109 => (if t109 = true then (four_Number.j0 k a0 10 a0 true) else ((strings_HasPrefix.f a0 (⟨#[48, 88]⟩ : ByteArray)).bind fun t110 => (four_Number.j0 k a0 10 a0 t110))))
set_option maxHeartbeats 8000000 in
set_option maxRecDepth 100000 in
theorem four_Number.calls (k : Nat) (a0 : ByteArray) (r1 : Int) (r2 : Int) (r3 : Int) (w : World) (h : four_Number.f k a0 = some (r1, r2, r3)) :
    Calls Tryz.prog 27 #[.string a0] w fun e w' => e = .returned (.tuple #[.int .u64 r1, .int .i64 r2, .int .i64 r3]) ∧ Below w.heap.size w w' := by
  have HB := Aside0.mk (Below.refl w.heap.size w)
  have H : (if a0.toList = ([] : List UInt8) then (some (0, 0, 200)) else ((strings_HasPrefix.f a0 (⟨#[48, 120]⟩ : ByteArray)).bind fun t109 => (if t109 = true then (four_Number.j0 k a0 10 a0 true) else ((strings_HasPrefix.f a0 (⟨#[48, 88]⟩ : ByteArray)).bind fun t110 => (four_Number.j0 k a0 10 a0 t110))))) = some (r1, r2, r3) := h
  clear h
  by_cases c2 : a0.toList = ([] : List UInt8)
  · rw [if_pos c2] at H
    have c2b0 : (a0.toList == ([] : List UInt8)) = true := beq_iff_eq.mpr c2
    have c2b1 : (a0.toList != ([] : List UInt8)) = false := bne_eq_false_iff_eq.mpr c2
    clear c2
    simp only [Option.some.injEq, Prod.mk.injEq] at H
    obtain ⟨rfl, rfl, rfl⟩ := H
    go_enter Tryz.func27, Tryz.ntmps27
    go_wp2
    repeat (go_quiet (fail); try go_wp2)
    go_ret3
    exact ⟨by first | rfl | (simp [errW_none, errW_some] <;> rfl) | (simp [*, errW_none, errW_some] <;> rfl), by repeat (first | (with_reducible first | exact HB.out | apply below_alloc | apply pw_below_drewN | apply below_drew1) | exact HB.out)⟩
  · rw [if_neg c2] at H
    have c2b0 : (a0.toList == ([] : List UInt8)) = false := beq_eq_false_iff_ne.mpr c2
    have c2b1 : (a0.toList != ([] : List UInt8)) = true := bne_iff_ne.mpr c2
    have HC3 := Aside0.mk H
    clear H
    go_enter Tryz.func27, Tryz.ntmps27
    go_upto_block 0 with (fail)
    repeat (go_quiet (fail); go_upto_block 0 with (fail))
    go_cut [5, 6] (fun v5 v6 wc => ∃ (kq : Nat) (x5_2 : Int) (x6_2 : ByteArray), v5 = .int .i64 x5_2 ∧ v6 = .string x6_2 ∧ Aside0 (four_Number.j1 kq x5_2 x6_2 = some (r1, r2, r3)) ∧ Aside0 (kq ≤ k) ∧ Aside0 (Below w.heap.size w wc))
    case first =>
      have H := HC3.out
      clear HC3
      have HC4 := Aside0.mk H
      clear H
      go_upto_region 4 with (fail)
      repeat (go_quiet (fail); go_upto_region 4 with (fail))
      go_cut [13] (fun v13 wc => ∃ (kq : Nat) (x13_3 : Bool), v13 = .bool x13_3 ∧ Aside0 (four_Number.j0 kq a0 10 a0 x13_3 = some (r1, r2, r3)) ∧ Aside0 (kq ≤ k) ∧ Aside0 (Below w.heap.size w wc))
      case first =>
        have H := HC4.out
        clear HC4
        replace H := Option.bind_eq_some_iff.mp H
        obtain ⟨t109, A50, H⟩ := H
        replace H : (if t109 = true then (four_Number.j0 k a0 10 a0 true) else ((strings_HasPrefix.f a0 (⟨#[48, 88]⟩ : ByteArray)).bind fun t110 => (four_Number.j0 k a0 10 a0 t110))) = some (r1, r2, r3) := H
        have A5 := Aside0.mk A50
        clear A50
        by_cases c6 : t109 = true
        · subst c6
          have H1 : (four_Number.j0 k a0 10 a0 true) = some (r1, r2, r3) := by rw [if_pos rfl] at H; exact H
          clear H
          have H := H1
          clear H1
          have H' := Aside0.mk H
          clear H
          go_wp2_with (first | (go_at_call 38; (with_reducible refine (strings_HasPrefix.calls a0 (⟨#[48, 120]⟩ : ByteArray) true _ A5.out).mono ?_); rintro e w' ⟨rfl, ⟨nd, rfl⟩⟩; (try first | exact ⟨rfl, _, World.drewN_drewN _ _ _⟩ | exact ⟨rfl, _, Eq.trans (World.drewN_drewN _ _ _) (congrArg (World.drewN _) (Nat.add_assoc _ _ _))⟩)))
          repeat (go_quiet (first | (go_at_call 38; (with_reducible refine (strings_HasPrefix.calls a0 (⟨#[48, 120]⟩ : ByteArray) true _ A5.out).mono ?_); rintro e w' ⟨rfl, ⟨nd, rfl⟩⟩; (try first | exact ⟨rfl, _, World.drewN_drewN _ _ _⟩ | exact ⟨rfl, _, Eq.trans (World.drewN_drewN _ _ _) (congrArg (World.drewN _) (Nat.add_assoc _ _ _))⟩))); try go_wp2_with (first | (go_at_call 38; (with_reducible refine (strings_HasPrefix.calls a0 (⟨#[48, 120]⟩ : ByteArray) true _ A5.out).mono ?_); rintro e w' ⟨rfl, ⟨nd, rfl⟩⟩; (try first | exact ⟨rfl, _, World.drewN_drewN _ _ _⟩ | exact ⟨rfl, _, Eq.trans (World.drewN_drewN _ _ _) (congrArg (World.drewN _) (Nat.add_assoc _ _ _))⟩))))
          go_meet
          case rel => exact ⟨_, (true), (by first | rfl | (simp; done) | (simp [*]; done)), H', ⟨by first | omega | exact Nat.le_refl _⟩, ⟨by repeat (first | (with_reducible first | exact HB.out | apply below_alloc | apply pw_below_drewN | apply below_drew1) | exact HB.out)⟩⟩
        · replace c6 := Bool.eq_false_iff.mpr c6
          subst c6
          have H1 : ((strings_HasPrefix.f a0 (⟨#[48, 88]⟩ : ByteArray)).bind fun t110 => (four_Number.j0 k a0 10 a0 t110)) = some (r1, r2, r3) := by rw [if_neg (show ¬ (false = true) by decide)] at H; exact H
          clear H
          have H := H1
          clear H1
          replace H := Option.bind_eq_some_iff.mp H
          obtain ⟨t110, A70, H⟩ := H
          replace H : (four_Number.j0 k a0 10 a0 t110) = some (r1, r2, r3) := H
          have A7 := Aside0.mk A70
          clear A70
          have H' := Aside0.mk H
          clear H
          go_wp2_with (first | (go_at_call 38; (with_reducible refine (strings_HasPrefix.calls a0 (⟨#[48, 120]⟩ : ByteArray) false _ A5.out).mono ?_); rintro e w' ⟨rfl, ⟨nd, rfl⟩⟩; (try first | exact ⟨rfl, _, World.drewN_drewN _ _ _⟩ | exact ⟨rfl, _, Eq.trans (World.drewN_drewN _ _ _) (congrArg (World.drewN _) (Nat.add_assoc _ _ _))⟩)) | (go_at_call 38; (with_reducible refine (strings_HasPrefix.calls a0 (⟨#[48, 88]⟩ : ByteArray) t110 _ A7.out).mono ?_); rintro e w' ⟨rfl, ⟨nd, rfl⟩⟩; (try first | exact ⟨rfl, _, World.drewN_drewN _ _ _⟩ | exact ⟨rfl, _, Eq.trans (World.drewN_drewN _ _ _) (congrArg (World.drewN _) (Nat.add_assoc _ _ _))⟩)))
          repeat (go_quiet (first | (go_at_call 38; (with_reducible refine (strings_HasPrefix.calls a0 (⟨#[48, 120]⟩ : ByteArray) false _ A5.out).mono ?_); rintro e w' ⟨rfl, ⟨nd, rfl⟩⟩; (try first | exact ⟨rfl, _, World.drewN_drewN _ _ _⟩ | exact ⟨rfl, _, Eq.trans (World.drewN_drewN _ _ _) (congrArg (World.drewN _) (Nat.add_assoc _ _ _))⟩)) | (go_at_call 38; (with_reducible refine (strings_HasPrefix.calls a0 (⟨#[48, 88]⟩ : ByteArray) t110 _ A7.out).mono ?_); rintro e w' ⟨rfl, ⟨nd, rfl⟩⟩; (try first | exact ⟨rfl, _, World.drewN_drewN _ _ _⟩ | exact ⟨rfl, _, Eq.trans (World.drewN_drewN _ _ _) (congrArg (World.drewN _) (Nat.add_assoc _ _ _))⟩))); try go_wp2_with (first | (go_at_call 38; (with_reducible refine (strings_HasPrefix.calls a0 (⟨#[48, 120]⟩ : ByteArray) false _ A5.out).mono ?_); rintro e w' ⟨rfl, ⟨nd, rfl⟩⟩; (try first | exact ⟨rfl, _, World.drewN_drewN _ _ _⟩ | exact ⟨rfl, _, Eq.trans (World.drewN_drewN _ _ _) (congrArg (World.drewN _) (Nat.add_assoc _ _ _))⟩)) | (go_at_call 38; (with_reducible refine (strings_HasPrefix.calls a0 (⟨#[48, 88]⟩ : ByteArray) t110 _ A7.out).mono ?_); rintro e w' ⟨rfl, ⟨nd, rfl⟩⟩; (try first | exact ⟨rfl, _, World.drewN_drewN _ _ _⟩ | exact ⟨rfl, _, Eq.trans (World.drewN_drewN _ _ _) (congrArg (World.drewN _) (Nat.add_assoc _ _ _))⟩))))
          go_meet
          case rel => exact ⟨_, (t110), (by first | rfl | (simp; done) | (simp [*]; done)), H', ⟨by first | omega | exact Nat.le_refl _⟩, ⟨by repeat (first | (with_reducible first | exact HB.out | apply below_alloc | apply pw_below_drewN | apply below_drew1) | exact HB.out)⟩⟩
      case rest =>
        clear HC4
        try clear c2
        try clear c2b0
        try clear c2b1
        try clear p2
        try clear c6
        obtain ⟨kq, x13_3, rfl, HA, HJ3, HB⟩ := hcut
        cases kq with
        | zero => exact absurd HA.out (by simp [four_Number.j0])
        | succ kj3 =>
          have H := HA.out
          clear HA
          simp only [four_Number.j0] at H
          by_cases c8 : x13_3 = true
          · subst c8
            have H1 : (if 2 ≤ (a0.size : Int) then (four_Number.j1 kj3 16 (a0.extract 2 a0.size)) else (none)) = some (r1, r2, r3) := by rw [if_pos rfl] at H; exact H
            clear H
            have H := H1
            clear H1
            by_cases c9 : 2 ≤ (a0.size : Int)
            · rw [if_pos c9] at H
              have c9b0 := eq_true c9
              have c9b1 : decide (2 ≤ (a0.size : Int)) = true := decide_eq_true c9
              clear c9
              have H' := Aside0.mk H
              clear H
              go_wp2
              repeat (go_quiet (fail); try go_wp2)
              go_meet
              case rel => exact ⟨_, (16), (a0.extract 2 a0.size), (by first | rfl | (simp; done) | (simp [*]; done)), (by first | rfl | (simp; done) | (simp [*]; done)), H', ⟨by have := HJ3.out; first | omega | exact Nat.le_refl _⟩, ⟨by repeat (first | (with_reducible first | exact HB.out | apply below_alloc | apply pw_below_drewN | apply below_drew1) | exact HB.out)⟩⟩
            · rw [if_neg c9] at H
              exact absurd H (by simp)
          · replace c8 := Bool.eq_false_iff.mpr c8
            subst c8
            have H1 : (if (a0.size : Int) > 1 then (if 0 < (a0.size : Int) then (if (bt a0 0) = 48 then (if 1 ≤ (a0.size : Int) then (four_Number.j1 kj3 8 (a0.extract 1 a0.size)) else (none)) else (four_Number.j1 kj3 10 a0)) else (none)) else (four_Number.j1 kj3 10 a0)) = some (r1, r2, r3) := by rw [if_neg (show ¬ (false = true) by decide)] at H; exact H
            clear H
            have H := H1
            clear H1
            by_cases c10 : (a0.size : Int) > 1
            · rw [if_pos c10] at H
              have c10b0 : decide (1 < (a0.size : Int)) = true := decide_eq_true c10
              have c10b1 : decide (1 < a0.size) = true := decide_eq_true (by omega)
              clear c10
              by_cases c11 : 0 < (a0.size : Int)
              · rw [if_pos c11] at H
                have c11b0 : decide (0 < (a0.size : Int)) = true := decide_eq_true c11
                have c11b1 : decide (0 < a0.size) = true := decide_eq_true (by omega)
                clear c11
                by_cases c13 : (bt a0 0) = 48
                · rw [if_pos c13] at H
                  have c13b0 : ((bt a0 0) == 48) = true := beq_iff_eq.mpr c13
                  have c13b1 : ((bt a0 0) != 48) = false := bne_eq_false_iff_eq.mpr c13
                  clear c13
                  by_cases c14 : 1 ≤ (a0.size : Int)
                  · rw [if_pos c14] at H
                    have c14b0 := eq_true c14
                    have c14b1 : decide (1 ≤ (a0.size : Int)) = true := decide_eq_true c14
                    clear c14
                    have H' := Aside0.mk H
                    clear H
                    have p12 : 0 ≤ (0 : Int) := (by omega)
                    have q12 : 0 < a0.size := (by have : (0 : Int) < (a0.size : Int) := of_decide_eq_true (by first | (with_reducible assumption) | assumption); omega)
                    have hx12 : ∀ h : 0 < a0.size, ((a0[0]'h).toNat : Int) = bt a0 0 := bt_at a0 0
                    clear p12
                    have qi12 : (0 < (a0.size : Int)) = True := eq_true (of_decide_eq_true (by first | (with_reducible assumption) | assumption))
                    replace q12 := eq_true q12
                    go_wp2
                    repeat (go_quiet (fail); try go_wp2)
                    go_meet
                    case rel => exact ⟨_, (8), (a0.extract 1 a0.size), (by first | rfl | (simp; done) | (simp [*]; done)), (by first | rfl | (simp; done) | (simp [*]; done)), H', ⟨by have := HJ3.out; first | omega | exact Nat.le_refl _⟩, ⟨by repeat (first | (with_reducible first | exact HB.out | apply below_alloc | apply pw_below_drewN | apply below_drew1) | exact HB.out)⟩⟩
                  · rw [if_neg c14] at H
                    exact absurd H (by simp)
                · rw [if_neg c13] at H
                  have c13b0 : ((bt a0 0) == 48) = false := beq_eq_false_iff_ne.mpr c13
                  have c13b1 : ((bt a0 0) != 48) = true := bne_iff_ne.mpr c13
                  have H' := Aside0.mk H
                  clear H
                  have p12 : 0 ≤ (0 : Int) := (by omega)
                  have q12 : 0 < a0.size := (by have : (0 : Int) < (a0.size : Int) := of_decide_eq_true (by first | (with_reducible assumption) | assumption); omega)
                  have hx12 : ∀ h : 0 < a0.size, ((a0[0]'h).toNat : Int) = bt a0 0 := bt_at a0 0
                  clear p12
                  have qi12 : (0 < (a0.size : Int)) = True := eq_true (of_decide_eq_true (by first | (with_reducible assumption) | assumption))
                  replace q12 := eq_true q12
                  go_wp2
                  repeat (go_quiet (fail); try go_wp2)
                  go_meet
                  case rel => exact ⟨_, (10), (a0), (by first | rfl | (simp; done) | (simp [*]; done)), (by first | rfl | (simp; done) | (simp [*]; done)), H', ⟨by have := HJ3.out; first | omega | exact Nat.le_refl _⟩, ⟨by repeat (first | (with_reducible first | exact HB.out | apply below_alloc | apply pw_below_drewN | apply below_drew1) | exact HB.out)⟩⟩
              · rw [if_neg c11] at H
                exact absurd H (by simp)
            · rw [if_neg c10] at H
              have c10b0 : decide (1 < (a0.size : Int)) = false := decide_eq_false c10
              have c10b1 : decide (1 < a0.size) = false := decide_eq_false (by omega)
              clear c10
              have H' := Aside0.mk H
              clear H
              go_wp2
              repeat (go_quiet (fail); try go_wp2)
              go_meet
              case rel => exact ⟨_, (10), (a0), (by first | rfl | (simp; done) | (simp [*]; done)), (by first | rfl | (simp; done) | (simp [*]; done)), H', ⟨by have := HJ3.out; first | omega | exact Nat.le_refl _⟩, ⟨by repeat (first | (with_reducible first | exact HB.out | apply below_alloc | apply pw_below_drewN | apply below_drew1) | exact HB.out)⟩⟩
    case rest =>
      clear HC3
      try clear c1
      try clear p1
      try clear q1
      try clear hx1
      try clear qi1
      try clear c2
      try clear c2b0
      try clear c2b1
      try clear p2
      try clear c6
      try clear c8
      try clear c9
      try clear c9b0
      try clear c9b1
      try clear c10
      try clear c10b0
      try clear c10b1
      try clear c11
      try clear c11b0
      try clear c11b1
      try clear p12
      try clear q12
      try clear hx12
      try clear qi12
      try clear c13
      try clear c13b0
      try clear c13b1
      try clear c14
      try clear c14b0
      try clear c14b1
      try clear p12
      try clear p2
      try clear q12
      obtain ⟨kq, x5_2, x6_2, rfl, rfl, HA, HJ2, HB⟩ := hcut
      cases kq with
      | zero => exact absurd HA.out (by simp [four_Number.j1])
      | succ kj2 =>
        have H := HA.out
        clear HA
        simp only [four_Number.j1] at H
        have H' := Aside0.mk H
        clear H
        go_wp2
        repeat (go_quiet (fail); try go_wp2)
        go_loopg [7, 35] kj2 (fun kq v7 v35 w' => ∃ (x7_2 : Int) (x35_2 : Int), v7 = .int .u64 x7_2 ∧ v35 = .int .i64 x35_2 ∧ Aside0 (four_Number.l0 kq x5_2 x6_2 x7_2 (x6_2.size : Int) x35_2 = some (r1, r2, r3)) ∧ Aside0 (kq ≤ kj2) ∧ Aside0 (Below w.heap.size w w'))
        case atStart => exact ⟨(0), (0), (by first | rfl | (simp; done) | (simp [*]; done)), (by first | rfl | (simp; done) | (simp [*]; done)), H', ⟨Nat.le_refl _⟩, ⟨by repeat (first | (with_reducible first | exact HB.out | apply below_alloc | apply pw_below_drewN | apply below_drew1) | exact HB.out)⟩⟩
        case round =>
          clear H'
          try clear c1
          try clear p1
          try clear q1
          try clear hx1
          try clear qi1
          try clear c2
          try clear c2b0
          try clear c2b1
          try clear p2
          try clear c6
          try clear c8
          try clear c9
          try clear c9b0
          try clear c9b1
          try clear c10
          try clear c10b0
          try clear c10b1
          try clear c11
          try clear c11b0
          try clear c11b1
          try clear p12
          try clear q12
          try clear hx12
          try clear qi12
          try clear c13
          try clear c13b0
          try clear c13b1
          try clear c14
          try clear c14b0
          try clear c14b1
          try clear p1
          try clear p12
          try clear p2
          try clear q1
          try clear q12
          obtain ⟨x7_2, x35_2, rfl, rfl, HA, HK2, HB⟩ := hrel
          cases gk with
          | zero => exact absurd HA.out (by simp [four_Number.l0])
          | succ k2 =>
            have H := HA.out
            clear HA
            simp only [four_Number.l0] at H
            by_cases c15 : x35_2 < (x6_2.size : Int)
            · rw [if_pos c15] at H
              have c15b0 : decide (x35_2 < (x6_2.size : Int)) = true := decide_eq_true c15
              clear c15
              by_cases c16 : 0 ≤ x35_2
              · rw [if_pos c16] at H
                have c16b0 : decide (0 ≤ x35_2) = true := decide_eq_true c16
                clear c16
                by_cases c17 : x35_2 < (x6_2.size : Int)
                · rw [if_pos c17] at H
                  have c17b0 : decide (x35_2 < (x6_2.size : Int)) = true := decide_eq_true c17
                  clear c17
                  replace H := Option.bind_eq_some_iff.mp H
                  obtain ⟨t111, A190, H⟩ := H
                  replace H : (if t111 < 0 then (some (0, 0, 200)) else (four_Number.l0 k2 x5_2 x6_2 (mn (IntKind.u64.wrap ((IntKind.u64.wrap (x7_2 * (IntKind.u64.wrap (x5_2)))) + (IntKind.u64.wrap (t111)))) 4294967296) (x6_2.size : Int) (wrap64 (x35_2 + 1)))) = some (r1, r2, r3) := H
                  have A19 := Aside0.mk A190
                  clear A190
                  by_cases c20 : t111 < 0
                  · rw [if_pos c20] at H
                    have c20b0 : decide (t111 < 0) = true := decide_eq_true c20
                    clear c20
                    simp only [Option.some.injEq, Prod.mk.injEq] at H
                    obtain ⟨rfl, rfl, rfl⟩ := H
                    have p18 : 0 ≤ (x35_2 : Int) := of_decide_eq_true (by first | (with_reducible assumption) | assumption)
                    have q18 : x35_2 < (x6_2.size : Int) := of_decide_eq_true (by first | (with_reducible assumption) | assumption)
                    have hx18 := bt_at x6_2 x35_2
                    replace p18 := eq_true p18
                    replace q18 := eq_true q18
                    go_wp2_with (first | (go_at_call 39; (with_reducible refine (octet_Digit.calls (bt x6_2 x35_2) x5_2 t111 _ A19.out).mono ?_); rintro e w' ⟨rfl, ⟨nd, rfl⟩⟩; (try first | exact ⟨rfl, _, World.drewN_drewN _ _ _⟩ | exact ⟨rfl, _, Eq.trans (World.drewN_drewN _ _ _) (congrArg (World.drewN _) (Nat.add_assoc _ _ _))⟩)))
                    repeat (go_quiet (first | (go_at_call 39; (with_reducible refine (octet_Digit.calls (bt x6_2 x35_2) x5_2 t111 _ A19.out).mono ?_); rintro e w' ⟨rfl, ⟨nd, rfl⟩⟩; (try first | exact ⟨rfl, _, World.drewN_drewN _ _ _⟩ | exact ⟨rfl, _, Eq.trans (World.drewN_drewN _ _ _) (congrArg (World.drewN _) (Nat.add_assoc _ _ _))⟩))); try go_wp2_with (first | (go_at_call 39; (with_reducible refine (octet_Digit.calls (bt x6_2 x35_2) x5_2 t111 _ A19.out).mono ?_); rintro e w' ⟨rfl, ⟨nd, rfl⟩⟩; (try first | exact ⟨rfl, _, World.drewN_drewN _ _ _⟩ | exact ⟨rfl, _, Eq.trans (World.drewN_drewN _ _ _) (congrArg (World.drewN _) (Nat.add_assoc _ _ _))⟩))))
                    go_ret3
                    exact ⟨by first | rfl | (simp [errW_none, errW_some] <;> rfl) | (simp [*, errW_none, errW_some] <;> rfl), by repeat (first | (with_reducible first | exact HB.out | apply below_alloc | apply pw_below_drewN | apply below_drew1) | exact HB.out)⟩
                  · rw [if_neg c20] at H
                    have c20b0 : decide (t111 < 0) = false := decide_eq_false c20
                    clear c20
                    obtain ⟨ji21, hji21⟩ : ∃ j_ : Int, (mn (IntKind.u64.wrap ((IntKind.u64.wrap (x7_2 * (IntKind.u64.wrap (x5_2)))) + (IntKind.u64.wrap (t111)))) 4294967296) = j_ := ⟨_, rfl⟩
                    replace H : (four_Number.l0 k2 x5_2 x6_2 ji21 (x6_2.size : Int) (wrap64 (x35_2 + 1))) = some (r1, r2, r3) := by first | (rw [hji21] at H; exact H) | (simp only [hji21] at H ⊢; exact H)
                    (try rw [hji21] at A19)
                    have hji21_ : (if 4294967296 < (IntKind.u64.wrap ((IntKind.u64.wrap (x7_2 * (IntKind.u64.wrap (x5_2)))) + (IntKind.u64.wrap (t111)))) then 4294967296 else (IntKind.u64.wrap ((IntKind.u64.wrap (x7_2 * (IntKind.u64.wrap (x5_2)))) + (IntKind.u64.wrap (t111))))) = ji21 := hji21
                    have H' := Aside0.mk H
                    clear H
                    have p18 : 0 ≤ (x35_2 : Int) := of_decide_eq_true (by first | (with_reducible assumption) | assumption)
                    have q18 : x35_2 < (x6_2.size : Int) := of_decide_eq_true (by first | (with_reducible assumption) | assumption)
                    have hx18 := bt_at x6_2 x35_2
                    replace p18 := eq_true p18
                    replace q18 := eq_true q18
                    go_wp2_with (first | (go_at_call 39; (with_reducible refine (octet_Digit.calls (bt x6_2 x35_2) x5_2 t111 _ A19.out).mono ?_); rintro e w' ⟨rfl, ⟨nd, rfl⟩⟩; (try first | exact ⟨rfl, _, World.drewN_drewN _ _ _⟩ | exact ⟨rfl, _, Eq.trans (World.drewN_drewN _ _ _) (congrArg (World.drewN _) (Nat.add_assoc _ _ _))⟩)))
                    repeat (go_quiet (first | (go_at_call 39; (with_reducible refine (octet_Digit.calls (bt x6_2 x35_2) x5_2 t111 _ A19.out).mono ?_); rintro e w' ⟨rfl, ⟨nd, rfl⟩⟩; (try first | exact ⟨rfl, _, World.drewN_drewN _ _ _⟩ | exact ⟨rfl, _, Eq.trans (World.drewN_drewN _ _ _) (congrArg (World.drewN _) (Nat.add_assoc _ _ _))⟩))); try go_wp2_with (first | (go_at_call 39; (with_reducible refine (octet_Digit.calls (bt x6_2 x35_2) x5_2 t111 _ A19.out).mono ?_); rintro e w' ⟨rfl, ⟨nd, rfl⟩⟩; (try first | exact ⟨rfl, _, World.drewN_drewN _ _ _⟩ | exact ⟨rfl, _, Eq.trans (World.drewN_drewN _ _ _) (congrArg (World.drewN _) (Nat.add_assoc _ _ _))⟩))))
                    go_roundg k2
                    case measure => have := HJ2.out; have := HK2.out; omega
                    case rel => exact ⟨(ji21), (wrap64 (x35_2 + 1)), (by first | rfl | (simp; done) | (simp only [← hji21] <;> (first | rfl | simp)) | (simp [*]; done)), (by first | rfl | (simp; done) | (simp [*]; done)), H', ⟨by have := HJ2.out; have := HK2.out; omega⟩, ⟨by repeat (first | (with_reducible first | exact HB.out | apply below_alloc | apply pw_below_drewN | apply below_drew1) | exact HB.out)⟩⟩
                · rw [if_neg c17] at H
                  exact absurd H (by simp)
              · rw [if_neg c16] at H
                exact absurd H (by simp)
            · rw [if_neg c15] at H
              have c15b0 : decide (x35_2 < (x6_2.size : Int)) = false := decide_eq_false c15
              clear c15
              simp only [Option.some.injEq, Prod.mk.injEq] at H
              obtain ⟨rfl, rfl, rfl⟩ := H
              go_wp2
              repeat (go_quiet (fail); try go_wp2)
              go_ret3
              exact ⟨by first | rfl | (simp [errW_none, errW_some] <;> rfl) | (simp [*, errW_none, errW_some] <;> rfl), by repeat (first | (with_reducible first | exact HB.out | apply below_alloc | apply pw_below_drewN | apply below_drew1) | exact HB.out)⟩
def four_Ends.f (k : Nat) (a0 : ByteArray) : Option (Bool) := (four_parts.f a0).bind fun t112 => (if 0 ≤ (wrap64 ((t112.length : Int) - 1)) then (if (wrap64 ((t112.length : Int) - 1)) < (t112.length : Int) then (if (rdOf ByteArray.empty t112 (wrap64 ((t112.length : Int) - 1))).toList = ([] : List UInt8) then (some false) else ((strings_Trim.f (rdOf ByteArray.empty t112 (wrap64 ((t112.length : Int) - 1))) (⟨#[48, 49, 50, 51, 52, 53, 54, 55, 56, 57]⟩ : ByteArray)).bind fun t116 => (if t116.toList = ([] : List UInt8) then (some true) else ((four_Number.f k (rdOf ByteArray.empty t112 (wrap64 ((t112.length : Int) - 1)))).bind fun bt117 => (some (bt117.2.2 == 0)))))) else (none)) else (none))
set_option maxHeartbeats 8000000 in
set_option maxRecDepth 100000 in
theorem four_Ends.calls (k : Nat) (a0 : ByteArray) (r : Bool) (w : World) (hG : GW w) (h : four_Ends.f k a0 = some r) :
    Calls Tryz.prog 12 #[.string a0] w fun e w' => e = .returned (.bool r) ∧ Below w.heap.size w w' := by
  have HG := Aside0.mk hG
  clear hG
  have HB := Aside0.mk (Below.refl w.heap.size w)
  have H : ((four_parts.f a0).bind fun t112 => (if 0 ≤ (wrap64 ((t112.length : Int) - 1)) then (if (wrap64 ((t112.length : Int) - 1)) < (t112.length : Int) then (if (rdOf ByteArray.empty t112 (wrap64 ((t112.length : Int) - 1))).toList = ([] : List UInt8) then (some false) else ((strings_Trim.f (rdOf ByteArray.empty t112 (wrap64 ((t112.length : Int) - 1))) (⟨#[48, 49, 50, 51, 52, 53, 54, 55, 56, 57]⟩ : ByteArray)).bind fun t116 => (if t116.toList = ([] : List UInt8) then (some true) else ((four_Number.f k (rdOf ByteArray.empty t112 (wrap64 ((t112.length : Int) - 1)))).bind fun bt117 => (some (bt117.2.2 == 0)))))) else (none)) else (none))) = some r := h
  clear h
  replace H := Option.bind_eq_some_iff.mp H
  obtain ⟨t112, A20, H⟩ := H
  replace H : (if 0 ≤ (wrap64 ((t112.length : Int) - 1)) then (if (wrap64 ((t112.length : Int) - 1)) < (t112.length : Int) then (if (rdOf ByteArray.empty t112 (wrap64 ((t112.length : Int) - 1))).toList = ([] : List UInt8) then (some false) else ((strings_Trim.f (rdOf ByteArray.empty t112 (wrap64 ((t112.length : Int) - 1))) (⟨#[48, 49, 50, 51, 52, 53, 54, 55, 56, 57]⟩ : ByteArray)).bind fun t116 => (if t116.toList = ([] : List UInt8) then (some true) else ((four_Number.f k (rdOf ByteArray.empty t112 (wrap64 ((t112.length : Int) - 1)))).bind fun bt117 => (some (bt117.2.2 == 0)))))) else (none)) else (none)) = some r := H
  have A2 := Aside0.mk A20
  clear A20
  obtain ⟨ji3, hji3⟩ : ∃ j_ : Int, (wrap64 ((t112.length : Int) - 1)) = j_ := ⟨_, rfl⟩
  replace H : (if 0 ≤ (ji3) then (if (ji3) < (t112.length : Int) then (if (rdOf ByteArray.empty t112 (ji3)).toList = ([] : List UInt8) then (some false) else ((strings_Trim.f (rdOf ByteArray.empty t112 (ji3)) (⟨#[48, 49, 50, 51, 52, 53, 54, 55, 56, 57]⟩ : ByteArray)).bind fun t116 => (if t116.toList = ([] : List UInt8) then (some true) else ((four_Number.f k (rdOf ByteArray.empty t112 (ji3))).bind fun bt117 => (some (bt117.2.2 == 0)))))) else (none)) else (none)) = some r := by first | (rw [hji3] at H; exact H) | (simp only [hji3] at H ⊢; exact H)
  (try rw [hji3] at A2)
  have hji3w : (IntKind.i64.wrap ((t112.length : Int) - 1)) = ji3 := (i64_w _).trans hji3
  by_cases c4 : 0 ≤ (ji3)
  · rw [if_pos c4] at H
    have c4b0 : decide (0 ≤ (ji3)) = true := decide_eq_true c4
    clear c4
    by_cases c5 : (ji3) < (t112.length : Int)
    · rw [if_pos c5] at H
      have c5b0 : decide ((ji3) < (t112.length : Int)) = true := decide_eq_true c5
      clear c5
      by_cases c6 : (rdOf ByteArray.empty t112 (ji3)).toList = ([] : List UInt8)
      · rw [if_pos c6] at H
        have c6b0 : ((rdOf ByteArray.empty t112 (ji3)).toList == ([] : List UInt8)) = true := beq_iff_eq.mpr c6
        have c6b1 : ((rdOf ByteArray.empty t112 (ji3)).toList != ([] : List UInt8)) = false := bne_eq_false_iff_eq.mpr c6
        clear c6
        obtain rfl := Option.some.inj H
        go_enter Tryz.func12, Tryz.ntmps12
        go_wp2_with (first | ((with_reducible refine gate_callee (f := 26) rfl ?_); refine goesL_ (some 9) rfl rfl Tryz.func26 (by kernel_rfl) rfl #[.string a0] rfl (by (try simp only [List.map_toArray, List.map_cons, List.map_nil]); first | done | rfl | (simp only [List.length_drop, List.length_take]; rfl)) ?_; (with_reducible refine (four_parts.calls a0 t112 _ (GW.keep HG.out (by repeat (first | (with_reducible first | exact HB.out | apply below_alloc | apply pw_below_drewN | apply below_drew1) | exact HB.out | exact Below.refl _ _))) A2.out).mono ?_); rintro e w7 ⟨v113, rfl, ho0, hb⟩; refine ⟨_, rfl, ?_⟩; have n0_ := Aside0.mk (Kd.R_lower ho0 (below_size (by repeat (first | (with_reducible first | exact HB.out | apply below_alloc | apply pw_below_drewN | apply below_drew1) | exact HB.out)))); have n1_ := Aside0.mk (below_step (by repeat (first | (with_reducible first | exact HB.out | apply below_alloc | apply pw_below_drewN | apply below_drew1) | exact HB.out)) hb); clear HB; have HO114 := n0_; have HB := n1_; clear n0_ n1_; (try clear hb); (try clear hb2); (try clear hk); (try clear hi); (try clear ho0); obtain ⟨Ao8, co8, eo8⟩ := Kd.R_slice HO114.out; subst eo8; have p115 : 0 ≤ ((ji3) : Int) := of_decide_eq_true (by first | (with_reducible assumption) | assumption); have q115 : (ji3) < (t112.length : Int) := of_decide_eq_true (by first | (with_reducible assumption) | assumption); obtain ⟨ad115, e115, hx115_0⟩ := Kd.at_string (Kd.R_reads' HO114.out).2.2 (ji3) p115 q115; cases e115; replace p115 := eq_true p115; replace q115 := eq_true q115))
        go_ret
        exact ⟨by first | rfl | (simp [errW_none, errW_some] <;> rfl) | (simp only [← hji3]; first | rfl | (simp [errW_none, errW_some] <;> rfl)) | (simp [*, errW_none, errW_some] <;> rfl), by repeat (first | (with_reducible first | exact HB.out | apply below_alloc | apply pw_below_drewN | apply below_drew1) | exact HB.out)⟩
      · rw [if_neg c6] at H
        have c6b0 : ((rdOf ByteArray.empty t112 (ji3)).toList == ([] : List UInt8)) = false := beq_eq_false_iff_ne.mpr c6
        have c6b1 : ((rdOf ByteArray.empty t112 (ji3)).toList != ([] : List UInt8)) = true := bne_iff_ne.mpr c6
        replace H := Option.bind_eq_some_iff.mp H
        obtain ⟨t116, A90, H⟩ := H
        replace H : (if t116.toList = ([] : List UInt8) then (some true) else ((four_Number.f k (rdOf ByteArray.empty t112 (ji3))).bind fun bt117 => (some (bt117.2.2 == 0)))) = some r := H
        have A9 := Aside0.mk A90
        clear A90
        by_cases c10 : t116.toList = ([] : List UInt8)
        · rw [if_pos c10] at H
          have c10b0 : (t116.toList == ([] : List UInt8)) = true := beq_iff_eq.mpr c10
          have c10b1 : (t116.toList != ([] : List UInt8)) = false := bne_eq_false_iff_eq.mpr c10
          clear c10
          obtain rfl := Option.some.inj H
          go_enter Tryz.func12, Tryz.ntmps12
          go_wp2_with (first | ((with_reducible refine gate_callee (f := 26) rfl ?_); refine goesL_ (some 9) rfl rfl Tryz.func26 (by kernel_rfl) rfl #[.string a0] rfl (by (try simp only [List.map_toArray, List.map_cons, List.map_nil]); first | done | rfl | (simp only [List.length_drop, List.length_take]; rfl)) ?_; (with_reducible refine (four_parts.calls a0 t112 _ (GW.keep HG.out (by repeat (first | (with_reducible first | exact HB.out | apply below_alloc | apply pw_below_drewN | apply below_drew1) | exact HB.out | exact Below.refl _ _))) A2.out).mono ?_); rintro e w11 ⟨v113, rfl, ho0, hb⟩; refine ⟨_, rfl, ?_⟩; have n0_ := Aside0.mk (Kd.R_lower ho0 (below_size (by repeat (first | (with_reducible first | exact HB.out | apply below_alloc | apply pw_below_drewN | apply below_drew1) | exact HB.out)))); have n1_ := Aside0.mk (below_step (by repeat (first | (with_reducible first | exact HB.out | apply below_alloc | apply pw_below_drewN | apply below_drew1) | exact HB.out)) hb); clear HB; have HO114 := n0_; have HB := n1_; clear n0_ n1_; (try clear hb); (try clear hb2); (try clear hk); (try clear hi); (try clear ho0); obtain ⟨Ao12, co12, eo12⟩ := Kd.R_slice HO114.out; subst eo12; have p115 : 0 ≤ ((ji3) : Int) := of_decide_eq_true (by first | (with_reducible assumption) | assumption); have q115 : (ji3) < (t112.length : Int) := of_decide_eq_true (by first | (with_reducible assumption) | assumption); obtain ⟨ad115, e115, hx115_0⟩ := Kd.at_string (Kd.R_reads' HO114.out).2.2 (ji3) p115 q115; cases e115; replace p115 := eq_true p115; replace q115 := eq_true q115) | ((with_reducible refine gate_callee (f := 31) rfl ?_); refine goesL_ (some 19) rfl rfl Tryz.func31 (by kernel_rfl) rfl #[.string (rdOf ByteArray.empty t112 (ji3)), .string (⟨#[48, 49, 50, 51, 52, 53, 54, 55, 56, 57]⟩ : ByteArray)] rfl (by (try simp only [List.map_toArray, List.map_cons, List.map_nil]); first | done | (simp only [hji3]; rfl) | rfl | (simp only [List.length_drop, List.length_take]; rfl)) ?_; (with_reducible refine (strings_Trim.calls (rdOf ByteArray.empty t112 (ji3)) (⟨#[48, 49, 50, 51, 52, 53, 54, 55, 56, 57]⟩ : ByteArray) t116 _ A9.out).mono ?_); rintro e w13 ⟨rfl, hb⟩; refine ⟨_, rfl, ?_⟩; have n0_ := Aside0.mk (Kd.R_below (by (with_reducible repeat (first | apply Kd.R_alloc | apply Kd.R_drewN | apply Kd.R_drew)); exact HO114.out) hb); have n1_ := Aside0.mk (below_step (by repeat (first | (with_reducible first | exact HB.out | apply below_alloc | apply pw_below_drewN | apply below_drew1) | exact HB.out)) hb); clear HO114; clear HB; have HO114 := n0_; have HB := n1_; clear n0_ n1_; (try clear hb); (try clear hb2); (try clear hk); (try clear hi)))
          go_ret
          exact ⟨by first | rfl | (simp [errW_none, errW_some] <;> rfl) | (simp only [← hji3]; first | rfl | (simp [errW_none, errW_some] <;> rfl)) | (simp [*, errW_none, errW_some] <;> rfl), by repeat (first | (with_reducible first | exact HB.out | apply below_alloc | apply pw_below_drewN | apply below_drew1) | exact HB.out)⟩
        · rw [if_neg c10] at H
          have c10b0 : (t116.toList == ([] : List UInt8)) = false := beq_eq_false_iff_ne.mpr c10
          have c10b1 : (t116.toList != ([] : List UInt8)) = true := bne_iff_ne.mpr c10
          replace H := Option.bind_eq_some_iff.mp H
          obtain ⟨⟨t117, t118, t119⟩, A140, H⟩ := H
          replace H : (some (t119 == 0)) = some r := H
          have A14 := Aside0.mk A140
          clear A140
          obtain rfl := Option.some.inj H
          go_enter Tryz.func12, Tryz.ntmps12
          go_wp2_with (first | ((with_reducible refine gate_callee (f := 26) rfl ?_); refine goesL_ (some 9) rfl rfl Tryz.func26 (by kernel_rfl) rfl #[.string a0] rfl (by (try simp only [List.map_toArray, List.map_cons, List.map_nil]); first | done | rfl | (simp only [List.length_drop, List.length_take]; rfl)) ?_; (with_reducible refine (four_parts.calls a0 t112 _ (GW.keep HG.out (by repeat (first | (with_reducible first | exact HB.out | apply below_alloc | apply pw_below_drewN | apply below_drew1) | exact HB.out | exact Below.refl _ _))) A2.out).mono ?_); rintro e w15 ⟨v113, rfl, ho0, hb⟩; refine ⟨_, rfl, ?_⟩; have n0_ := Aside0.mk (Kd.R_lower ho0 (below_size (by repeat (first | (with_reducible first | exact HB.out | apply below_alloc | apply pw_below_drewN | apply below_drew1) | exact HB.out)))); have n1_ := Aside0.mk (below_step (by repeat (first | (with_reducible first | exact HB.out | apply below_alloc | apply pw_below_drewN | apply below_drew1) | exact HB.out)) hb); clear HB; have HO114 := n0_; have HB := n1_; clear n0_ n1_; (try clear hb); (try clear hb2); (try clear hk); (try clear hi); (try clear ho0); obtain ⟨Ao16, co16, eo16⟩ := Kd.R_slice HO114.out; subst eo16; have p115 : 0 ≤ ((ji3) : Int) := of_decide_eq_true (by first | (with_reducible assumption) | assumption); have q115 : (ji3) < (t112.length : Int) := of_decide_eq_true (by first | (with_reducible assumption) | assumption); obtain ⟨ad115, e115, hx115_0⟩ := Kd.at_string (Kd.R_reads' HO114.out).2.2 (ji3) p115 q115; cases e115; replace p115 := eq_true p115; replace q115 := eq_true q115) | ((with_reducible refine gate_callee (f := 31) rfl ?_); refine goesL_ (some 19) rfl rfl Tryz.func31 (by kernel_rfl) rfl #[.string (rdOf ByteArray.empty t112 (ji3)), .string (⟨#[48, 49, 50, 51, 52, 53, 54, 55, 56, 57]⟩ : ByteArray)] rfl (by (try simp only [List.map_toArray, List.map_cons, List.map_nil]); first | done | (simp only [hji3]; rfl) | rfl | (simp only [List.length_drop, List.length_take]; rfl)) ?_; (with_reducible refine (strings_Trim.calls (rdOf ByteArray.empty t112 (ji3)) (⟨#[48, 49, 50, 51, 52, 53, 54, 55, 56, 57]⟩ : ByteArray) t116 _ A9.out).mono ?_); rintro e w17 ⟨rfl, hb⟩; refine ⟨_, rfl, ?_⟩; have n0_ := Aside0.mk (Kd.R_below (by (with_reducible repeat (first | apply Kd.R_alloc | apply Kd.R_drewN | apply Kd.R_drew)); exact HO114.out) hb); have n1_ := Aside0.mk (below_step (by repeat (first | (with_reducible first | exact HB.out | apply below_alloc | apply pw_below_drewN | apply below_drew1) | exact HB.out)) hb); clear HO114; clear HB; have HO114 := n0_; have HB := n1_; clear n0_ n1_; (try clear hb); (try clear hb2); (try clear hk); (try clear hi)) | ((with_reducible refine gate_callee (f := 27) rfl ?_); refine goesL_ (some 23) rfl rfl Tryz.func27 (by kernel_rfl) rfl #[.string (rdOf ByteArray.empty t112 (ji3))] rfl (by (try simp only [List.map_toArray, List.map_cons, List.map_nil]); first | done | (simp only [hji3]; rfl) | rfl | (simp only [List.length_drop, List.length_take]; rfl)) ?_; (with_reducible refine (four_Number.calls k (rdOf ByteArray.empty t112 (ji3)) t117 t118 t119 _ A14.out).mono ?_); rintro e w18 ⟨rfl, hb⟩; refine ⟨_, rfl, ?_⟩; have n0_ := Aside0.mk (Kd.R_below (by (with_reducible repeat (first | apply Kd.R_alloc | apply Kd.R_drewN | apply Kd.R_drew)); exact HO114.out) hb); have n1_ := Aside0.mk (below_step (by repeat (first | (with_reducible first | exact HB.out | apply below_alloc | apply pw_below_drewN | apply below_drew1) | exact HB.out)) hb); clear HO114; clear HB; have HO114 := n0_; have HB := n1_; clear n0_ n1_; (try clear hb); (try clear hb2); (try clear hk); (try clear hi)))
          go_ret
          exact ⟨by first | rfl | (simp [errW_none, errW_some] <;> rfl) | (simp only [← hji3]; first | rfl | (simp [errW_none, errW_some] <;> rfl)) | (simp [*, errW_none, errW_some] <;> rfl), by repeat (first | (with_reducible first | exact HB.out | apply below_alloc | apply pw_below_drewN | apply below_drew1) | exact HB.out)⟩
    · rw [if_neg c5] at H
      exact absurd H (by simp)
  · rw [if_neg c4] at H
    exact absurd H (by simp)
def posternlaw20_block.f (a0_0 : Int) (a0_1 : Int) (a1_0 : Int) (a1_1 : Int) : Option (Bool) := if a0_0 = a1_0 then (some (a0_1 == a1_1)) else (some false)
set_option maxHeartbeats 8000000 in
set_option maxRecDepth 100000 in
theorem posternlaw20_block.calls (a0_0 : Int) (a0_1 : Int) (a1_0 : Int) (a1_1 : Int) (r : Bool) (w : World) (h : posternlaw20_block.f a0_0 a0_1 a1_0 a1_1 = some r) :
    Calls Tryz.prog 13 #[.agg #[.int .u32 a0_0, .int .i64 a0_1], .agg #[.int .u32 a1_0, .int .i64 a1_1]] w fun e w' => e = .returned (.bool r) ∧ Below w.heap.size w w' := by
  have hu30 := Tryz.underlying30
  have hu31 := Tryz.underlying31
  have HB := Aside0.mk (Below.refl w.heap.size w)
  have H : (if a0_0 = a1_0 then (some (a0_1 == a1_1)) else (some false)) = some r := h
  clear h
  by_cases c3 : a0_0 = a1_0
  · rw [if_pos c3] at H
    have c3b0 : (a0_0 == a1_0) = true := beq_iff_eq.mpr c3
    have c3b1 : (a0_0 != a1_0) = false := bne_eq_false_iff_eq.mpr c3
    clear c3
    obtain rfl := Option.some.inj H
    go_enter Tryz.func13, Tryz.ntmps13
    go_wp2_with (first | ((with_reducible refine gate_dst (N := 2) rfl ?_); refine box_event ?hg (N := 2) ?hd (cs := #[.int .u32 a0_0, .int .i64 a0_1]) (t := 30) ?hr ?_; (case hd => rfl); (case hg => rfl); (case hr => first | (go_simp; done) | (go_simp; rfl)); intro gb125 hg w4 hbox hb; have n0_ := Aside0.mk (below_step (by repeat (first | (with_reducible first | exact HB.out | apply below_alloc | apply pw_below_drewN | apply below_drew1) | exact HB.out)) hb); have n1_ := Aside0.mk (hbox); have n2_ := Aside0.mk ((by rw [hg]; exact (below_size (by repeat (first | (with_reducible first | exact HB.out | apply below_alloc | apply pw_below_drewN | apply below_drew1) | exact HB.out))) : w.heap.size ≤ gb125)); have n3_ := Aside0.mk ((by rw [hg]; exact (below_size (by repeat (first | (with_reducible first | exact HB.out | apply below_alloc | apply pw_below_drewN | apply below_drew1) | exact HB.out))) : w.heap.size ≤ gb125)); clear HB; have HB := n0_; have BK125 := n1_; have GW125 := n2_; have GE125 := n3_; clear n0_ n1_ n2_ n3_; clear hb hbox hg) | ((with_reducible refine gate_dst (N := 3) rfl ?_); refine box_event ?hg (N := 3) ?hd (cs := #[.int .u32 a1_0, .int .i64 a1_1]) (t := 31) ?hr ?_; (case hd => rfl); (case hg => rfl); (case hr => first | (go_simp; done) | (go_simp; rfl)); intro gb126 hg w5 hbox hb; have n0_ := Aside0.mk (blk_below (g := gb125) (o := .cells #[.int .u32 a0_0, .int .i64 a0_1] 30 (0, 0)) (by (with_reducible repeat (first | refine blk_drewN ?_ _ | refine blk_drew ?_ | refine blk_alloc ?_ _)); exact BK125.out) hb); have n1_ := Aside0.mk (below_step (by repeat (first | (with_reducible first | exact HB.out | apply below_alloc | apply pw_below_drewN | apply below_drew1 | refine below_set ?_ GE125.out) | exact HB.out)) hb); have n2_ := Aside0.mk (hbox); have n3_ := Aside0.mk ((by rw [hg]; exact (below_size (by repeat (first | (with_reducible first | exact HB.out | apply below_alloc | apply pw_below_drewN | apply below_drew1 | refine below_set ?_ GE125.out) | exact HB.out))) : w.heap.size ≤ gb126)); have n4_ := Aside0.mk ((by rw [hg]; exact (below_size (by repeat (first | (with_reducible first | exact HB.out | apply below_alloc | apply pw_below_drewN | apply below_drew1 | refine below_set ?_ GE125.out) | exact HB.out))) : w.heap.size ≤ gb126)); have n5_ := Aside0.mk ((by rw [hg]; exact Nat.ne_of_lt (blk_lt (g := gb125) (o := .cells #[.int .u32 a0_0, .int .i64 a0_1] 30 (0, 0)) (by (with_reducible repeat (first | refine blk_drewN ?_ _ | refine blk_drew ?_ | refine blk_alloc ?_ _)); exact BK125.out)) : gb125 ≠ gb126)); have n6_ := Aside0.mk ((by rw [hg]; exact Nat.ne_of_gt (blk_lt (g := gb125) (o := .cells #[.int .u32 a0_0, .int .i64 a0_1] 30 (0, 0)) (by (with_reducible repeat (first | refine blk_drewN ?_ _ | refine blk_drew ?_ | refine blk_alloc ?_ _)); exact BK125.out)) : gb126 ≠ gb125)); clear BK125; clear HB; have BK125 := n0_; have HB := n1_; have BK126 := n2_; have GW126 := n3_; have GE126 := n4_; have NB125_126 := n5_; have NB126_125 := n6_; clear n0_ n1_ n2_ n3_ n4_ n5_ n6_; clear hb hbox hg; have hnb6 := NB125_126.out; have hnc6 := NB126_125.out; have hcz7_0 : w5.cell? ⟨gb125, 0, none⟩ = some (.int .u32 a0_0) := (blk_cell BK125.out 0).trans rfl; have hcz7_1 : w5.cell? ⟨gb125, 1, none⟩ = some (.int .i64 a0_1) := (blk_cell BK125.out 1).trans rfl; have hfz7_0 := blk_frozen BK125.out 0; have hfz7_1 := blk_frozen BK125.out 1; have hcz8_0 : w5.cell? ⟨gb126, 0, none⟩ = some (.int .u32 a1_0) := (blk_cell BK126.out 0).trans rfl; have hcz8_1 : w5.cell? ⟨gb126, 1, none⟩ = some (.int .i64 a1_1) := (blk_cell BK126.out 1).trans rfl; have hfz8_0 := blk_frozen BK126.out 0; have hfz8_1 := blk_frozen BK126.out 1))
    go_ret
    exact ⟨by first | rfl | (simp [errW_none, errW_some] <;> rfl) | (simp [*, errW_none, errW_some] <;> rfl), by repeat (first | (with_reducible first | exact HB.out | apply below_alloc | apply pw_below_drewN | apply below_drew1 | refine below_set ?_ GE125.out | refine below_set ?_ GE126.out) | exact HB.out)⟩
  · rw [if_neg c3] at H
    have c3b0 : (a0_0 == a1_0) = false := beq_eq_false_iff_ne.mpr c3
    have c3b1 : (a0_0 != a1_0) = true := bne_iff_ne.mpr c3
    obtain rfl := Option.some.inj H
    go_enter Tryz.func13, Tryz.ntmps13
    go_wp2_with (first | ((with_reducible refine gate_dst (N := 2) rfl ?_); refine box_event ?hg (N := 2) ?hd (cs := #[.int .u32 a0_0, .int .i64 a0_1]) (t := 30) ?hr ?_; (case hd => rfl); (case hg => rfl); (case hr => first | (go_simp; done) | (go_simp; rfl)); intro gb125 hg w9 hbox hb; have n0_ := Aside0.mk (below_step (by repeat (first | (with_reducible first | exact HB.out | apply below_alloc | apply pw_below_drewN | apply below_drew1) | exact HB.out)) hb); have n1_ := Aside0.mk (hbox); have n2_ := Aside0.mk ((by rw [hg]; exact (below_size (by repeat (first | (with_reducible first | exact HB.out | apply below_alloc | apply pw_below_drewN | apply below_drew1) | exact HB.out))) : w.heap.size ≤ gb125)); have n3_ := Aside0.mk ((by rw [hg]; exact (below_size (by repeat (first | (with_reducible first | exact HB.out | apply below_alloc | apply pw_below_drewN | apply below_drew1) | exact HB.out))) : w.heap.size ≤ gb125)); clear HB; have HB := n0_; have BK125 := n1_; have GW125 := n2_; have GE125 := n3_; clear n0_ n1_ n2_ n3_; clear hb hbox hg) | ((with_reducible refine gate_dst (N := 3) rfl ?_); refine box_event ?hg (N := 3) ?hd (cs := #[.int .u32 a1_0, .int .i64 a1_1]) (t := 31) ?hr ?_; (case hd => rfl); (case hg => rfl); (case hr => first | (go_simp; done) | (go_simp; rfl)); intro gb126 hg w10 hbox hb; have n0_ := Aside0.mk (blk_below (g := gb125) (o := .cells #[.int .u32 a0_0, .int .i64 a0_1] 30 (0, 0)) (by (with_reducible repeat (first | refine blk_drewN ?_ _ | refine blk_drew ?_ | refine blk_alloc ?_ _)); exact BK125.out) hb); have n1_ := Aside0.mk (below_step (by repeat (first | (with_reducible first | exact HB.out | apply below_alloc | apply pw_below_drewN | apply below_drew1 | refine below_set ?_ GE125.out) | exact HB.out)) hb); have n2_ := Aside0.mk (hbox); have n3_ := Aside0.mk ((by rw [hg]; exact (below_size (by repeat (first | (with_reducible first | exact HB.out | apply below_alloc | apply pw_below_drewN | apply below_drew1 | refine below_set ?_ GE125.out) | exact HB.out))) : w.heap.size ≤ gb126)); have n4_ := Aside0.mk ((by rw [hg]; exact (below_size (by repeat (first | (with_reducible first | exact HB.out | apply below_alloc | apply pw_below_drewN | apply below_drew1 | refine below_set ?_ GE125.out) | exact HB.out))) : w.heap.size ≤ gb126)); have n5_ := Aside0.mk ((by rw [hg]; exact Nat.ne_of_lt (blk_lt (g := gb125) (o := .cells #[.int .u32 a0_0, .int .i64 a0_1] 30 (0, 0)) (by (with_reducible repeat (first | refine blk_drewN ?_ _ | refine blk_drew ?_ | refine blk_alloc ?_ _)); exact BK125.out)) : gb125 ≠ gb126)); have n6_ := Aside0.mk ((by rw [hg]; exact Nat.ne_of_gt (blk_lt (g := gb125) (o := .cells #[.int .u32 a0_0, .int .i64 a0_1] 30 (0, 0)) (by (with_reducible repeat (first | refine blk_drewN ?_ _ | refine blk_drew ?_ | refine blk_alloc ?_ _)); exact BK125.out)) : gb126 ≠ gb125)); clear BK125; clear HB; have BK125 := n0_; have HB := n1_; have BK126 := n2_; have GW126 := n3_; have GE126 := n4_; have NB125_126 := n5_; have NB126_125 := n6_; clear n0_ n1_ n2_ n3_ n4_ n5_ n6_; clear hb hbox hg; have hnb11 := NB125_126.out; have hnc11 := NB126_125.out; have hcz12_0 : w10.cell? ⟨gb125, 0, none⟩ = some (.int .u32 a0_0) := (blk_cell BK125.out 0).trans rfl; have hcz12_1 : w10.cell? ⟨gb125, 1, none⟩ = some (.int .i64 a0_1) := (blk_cell BK125.out 1).trans rfl; have hfz12_0 := blk_frozen BK125.out 0; have hfz12_1 := blk_frozen BK125.out 1; have hcz13_0 : w10.cell? ⟨gb126, 0, none⟩ = some (.int .u32 a1_0) := (blk_cell BK126.out 0).trans rfl; have hcz13_1 : w10.cell? ⟨gb126, 1, none⟩ = some (.int .i64 a1_1) := (blk_cell BK126.out 1).trans rfl; have hfz13_0 := blk_frozen BK126.out 0; have hfz13_1 := blk_frozen BK126.out 1))
    go_ret
    exact ⟨by first | rfl | (simp [errW_none, errW_some] <;> rfl) | (simp [*, errW_none, errW_some] <;> rfl), by repeat (first | (with_reducible first | exact HB.out | apply below_alloc | apply pw_below_drewN | apply below_drew1 | refine below_set ?_ GE125.out | refine below_set ?_ GE126.out) | exact HB.out)⟩
end Go.Proofs.YtgnahagnmodpdaaGreatDoor.X
/-! Itoa -/
namespace Go.Proofs.YtgnahagnmodpdaaGreatDoor
open Go.RowKit Go.Proofs.YtgnahagnmodpdaaGreatDoorW.PrintWords Go.Sort
set_option linter.unusedVariables false
set_option linter.unusedSimpArgs false
theorem below_grow (w : World) (n : Nat) (os : Array Obj) : Below w.heap.size w (grow (w.drewN n) os) :=
  ⟨rfl, rfl, rfl, by show w.heap.size ≤ (w.heap ++ os).size; rw [Array.size_append]; omega, fun _ hj => Sort.heap_grow_old (w.drewN n) os hj⟩
def strconv_Itoa.f (a0 : Int) : Option ByteArray := if -9223372036854775808 ≤ a0 ∧ a0 ≤ 9223372036854775807 then some ⟨(Lib.itoa a0).toArray⟩ else none
theorem strconv_Itoa.calls (a0 : Int) (r : ByteArray) (w : World) (hG : GW w) (h : strconv_Itoa.f a0 = some r) :
    Calls Tryz.prog 29 #[.int .i64 a0] w fun e w' => e = .returned (.string r) ∧ Below w.heap.size w w' := by
  unfold strconv_Itoa.f at h
  by_cases hs : -9223372036854775808 ≤ a0 ∧ a0 ≤ 9223372036854775807
  · rw [if_pos hs] at h
    obtain rfl := Option.some.inj h
    refine (Tryz.strconv_Itoa a0 hs.1 hs.2 w hG.pow10).mono ?_
    rintro e w' ⟨rfl, k, os, rfl⟩
    exact ⟨rfl, below_grow w k os⟩
  · rw [if_neg hs] at h
    cases h
def bits_Len64.f (a0 : Int) : Option Int := if 0 ≤ a0 ∧ a0 ≤ 18446744073709551615 then some (Lib.bitLen a0.toNat) else none
theorem bits_Len64.calls (a0 : Int) (r : Int) (w : World) (h : bits_Len64.f a0 = some r) :
    Calls Tryz.prog 15 #[.int .u64 a0] w fun e w' => e = .returned (.int .i64 r) ∧ Drawn0 w w' := by
  unfold bits_Len64.f at h
  by_cases hs : 0 ≤ a0 ∧ a0 ≤ 18446744073709551615
  · rw [if_pos hs] at h
    obtain rfl := Option.some.inj h
    refine (Tryz.bits_Len64 a0 w hs.1 hs.2).mono ?_
    rintro e w' ⟨rfl, rfl⟩
    exact ⟨rfl, Drawn0.refl _⟩
  · rw [if_neg hs] at h
    cases h
def strings_Join.f (l0 : List ByteArray) (a1 : ByteArray) : Option ByteArray :=
  if l0.length ≤ 140737488355328 ∧ (Lib.join (l0.map (·.data.toList)) a1.data.toList).length ≤ 140737488355328 then some ⟨(Lib.join (l0.map (·.data.toList)) a1.data.toList).toArray⟩ else none
theorem strings_Join.calls (A0 : Option Addr) (c0 : Nat) (l0 : List ByteArray) (a1 : ByteArray) (r : ByteArray) (w : World) (hr0 : Kd.C Kd.string w A0 l0.length l0) (hc0 : l0.length ≤ c0) (h : strings_Join.f l0 a1 = some r) :
    Calls Tryz.prog 30 #[.slice A0 l0.length c0, .string a1] w fun e w' => e = .returned (.string r) ∧ Below w.heap.size w w' := by
  unfold strings_Join.f at h
  by_cases hs : l0.length ≤ 140737488355328 ∧ (Lib.join (l0.map (·.data.toList)) a1.data.toList).length ≤ 140737488355328
  · rw [if_pos hs] at h
    obtain rfl := Option.some.inj h
    by_cases h0 : l0 = []
    · subst h0
      refine (Tryz.strings_Join_none A0 c0 a1 w).mono ?_
      rintro e w' ⟨rfl, rfl⟩
      exact ⟨rfl, Below.refl _ _⟩
    · have hl : 0 < l0.length := List.length_pos_iff.2 h0
      obtain ⟨ad, rfl, hc⟩ := Kd.at_string hr0 0 (by omega) (by omega)
      obtain ⟨b, o, sp⟩ := ad
      have hsp : sp = none := by
        cases sp with
        | none => rfl
        | some x =>
          simp [World.cell?, Addr.add] at hc
          split at hc <;> cases hc
      subst hsp
      refine Tryz.strings_Join b o c0 l0 a1 w (fun j x hx => ?_) (World.block_lt_of_cell? w _ (by simpa [Addr.add] using hc)) hs.1 hc0 hs.2
      have hj : j < l0.length := (List.getElem?_eq_some_iff.1 hx).1
      obtain ⟨ad', e, hc'⟩ := Kd.at_string hr0 (j : Int) (by omega) (by omega)
      cases e
      have ev : rdOf ByteArray.empty l0 (j : Int) = x := by
        unfold rdOf
        rw [Int.toNat_natCast, List.getD_eq_getElem?_getD, hx]
        rfl
      rw [ev] at hc'
      have ea : ((⟨b, o, none⟩ : Addr).add (j : Int).toNat) = ⟨b, o + j, none⟩ := by unfold Addr.add; split <;> simp_all
      rw [ea] at hc'
      exact hc'
  · rw [if_neg hs] at h
    cases h
end Go.Proofs.YtgnahagnmodpdaaGreatDoor
/-! Tz -/
namespace Go.Proofs.YtgnahagnmodpdaaGreatDoor
open Go.RowKit Go.Proofs.YtgnahagnmodpdaaGreatDoorW.PrintWords
set_option linter.unusedVariables false
set_option linter.unusedSimpArgs false
set_option maxRecDepth 100000 in
theorem tz64_core (x k idx : Nat) (w : World) (hx0 : ((x : Int) == 0) = false)
    (key : IntKind.u64.wrap (bits BinOp.and IntKind.u64 (x : Int) (IntKind.u64.wrap (-(x : Int))) * 285870213051353865) / 288230376151711744 = (idx : Int))
    (hi : idx < 64) (hk : k < 64) (hcell : w.cell? ⟨0, idx, none⟩ = some (.int .u8 k)) :
    Calls Tryz.prog 14 #[.int .u64 x] w fun e w' => e = .returned (.int .i64 k) ∧ w = w' := by
  go_enter Tryz.func14, Tryz.ntmps14
  go_wp2_with (simp only [key])
  go_ret
  exact ⟨rfl, rfl⟩
set_option maxRecDepth 100000 in
theorem tz64_zero (w : World) :
    Calls Tryz.prog 14 #[.int .u64 0] w fun e w' => e = .returned (.int .i64 64) ∧ w = w' := by
  go_enter Tryz.func14, Tryz.ntmps14
  go_wp2
  go_ret
  exact ⟨rfl, rfl⟩
theorem tz64_global : Tryz.prog.globalNamed "math/bits.deBruijn64tab" = some 0 := by kernel_rfl
theorem tz64_walk (x : Nat) (hx : x < 18446744073709551616) (w : World) (hT : Lib.TabIs Tryz.prog w "math/bits.deBruijn64tab" .u8 (Lib.deBruijn64tab.map fun n : Nat => (n : Int))) :
    Calls Tryz.prog 14 #[.int .u64 x] w fun e w' => e = .returned (.int .i64 (Lib.ctz 64 x)) ∧ w = w' := by
  by_cases hx0 : x = 0
  · subst hx0
    exact tz64_zero w
  · obtain ⟨hlow, hk⟩ := Lib.lowest_bit 64 x hx0 hx
    obtain ⟨hi, htab⟩ := Lib.deBruijn64_at _ hk
    have hcell := hT.cell tz64_global _ (by rw [List.length_map]; exact hi)
    have e : ∀ i, (Lib.deBruijn64tab.map fun n : Nat => (n : Int)).getD i 0 = ((Lib.deBruijn64tab.getD i 0 : Nat) : Int) := fun i => by
      rw [List.getD_eq_getElem?_getD, List.getD_eq_getElem?_getD, List.getElem?_map]
      cases Lib.deBruijn64tab[i]? <;> rfl
    rw [e, htab] at hcell
    exact tz64_core x _ _ w (by simp; omega) (tz64_key x _ hx hx0 hlow) hi hk hcell
def bits_TrailingZeros64.f (a0 : Int) : Option Int := if 0 ≤ a0 ∧ a0 ≤ 18446744073709551615 then some (Lib.ctz 64 a0.toNat) else none
theorem bits_TrailingZeros64.calls (a0 : Int) (r : Int) (w : World) (hG : GW w) (h : bits_TrailingZeros64.f a0 = some r) :
    Calls Tryz.prog 14 #[.int .u64 a0] w fun e w' => e = .returned (.int .i64 r) ∧ Drawn0 w w' := by
  unfold bits_TrailingZeros64.f at h
  by_cases hs : 0 ≤ a0 ∧ a0 ≤ 18446744073709551615
  · rw [if_pos hs] at h
    obtain rfl := Option.some.inj h
    obtain ⟨n, rfl⟩ := Int.eq_ofNat_of_zero_le hs.1
    refine (tz64_walk n (by omega) w hG.tz).mono ?_
    rintro e w' ⟨rfl, rfl⟩
    exact ⟨rfl, Drawn0.refl _⟩
  · rw [if_neg hs] at h
    cases h
end Go.Proofs.YtgnahagnmodpdaaGreatDoor
/-! X2 -/
namespace Go.Proofs.YtgnahagnmodpdaaGreatDoor.X
open Go.RowKit Go.Proofs.YtgnahagnmodpdaaGreatDoorW.PrintWords Go.Proofs.YtgnahagnmodpdaaGreatDoorW.PrintLast Go.Proofs.YtgnahagnmodpdaaGreatDoorW.PrintMore
attribute [local go_sem] max2_int min2_int max_two min_two max_three min_three max_four min_four
set_option linter.unusedVariables false
set_option linter.unusedSimpArgs false
def posternlaw20_blocks.l0 : Nat → List (S30) → List (S31) → Int → Int → Option (Bool)
  | 0, _, _, _, _ => none
  | k + 1, x0, x1, x12, x13 => if x13 < x12 then (if 0 ≤ x13 then (if x13 < (x0.length : Int) then (if x13 < (x1.length : Int) then ((posternlaw20_block.f ((rd_T30 x0 x13).f0) ((rd_T30 x0 x13).f1) ((rd_T31 x1 x13).f0) ((rd_T31 x1 x13).f1)).bind fun t129 => (if t129 = true then (posternlaw20_blocks.l0 k x0 x1 x12 (wrap64 (x13 + 1))) else (some false))) else (none)) else (none)) else (none)) else (some true)
def posternlaw20_blocks.f (k : Nat) (l0 : List (S30)) (l1 : List (S31)) : Option (Bool) := if (l0.length : Int) = (l1.length : Int) then (posternlaw20_blocks.l0 k l0 l1 (l0.length : Int) 0) else (some false)
def posternlaw20_blocks.T6 : Bool × List (List Nat × List Nat) := (true, [([], []), ([], []), ([0, 1], [0, 1]), ([2], [2]), ([], []), ([], []), ([4, 5], [4, 5]), ([6], [6]), ([3, 7], [3, 7]), ([8], [8])])
def posternlaw20_blocks.B6 : List Nat := [0, 0, 3, 7, 0, 0, 48, 112, 255, 511]
theorem posternlaw20_blocks.tab6 : rtab .any (opsOf Tryz.f5 6) = posternlaw20_blocks.T6 := by kernel_rfl
theorem posternlaw20_blocks.bits6 : waitsOk posternlaw20_blocks.T6.2 posternlaw20_blocks.B6 = true := by kernel_rfl
set_option maxHeartbeats 8000000 in
set_option maxRecDepth 100000 in
theorem posternlaw20_blocks.calls (k : Nat) (A0 : Option Addr) (c0 : Nat) (l0 : List (S30)) (A1 : Option Addr) (c1 : Nat) (l1 : List (S31)) (r : Bool) (w : World) (hr0 : Kd.C k30 w A0 l0.length l0) (hc0 : l0.length ≤ c0) (hr1 : Kd.C k31 w A1 l1.length l1) (hc1 : l1.length ≤ c1) (h : posternlaw20_blocks.f k l0 l1 = some r) :
    Calls Tryz.prog 5 #[.slice A0 l0.length c0, .slice A1 l1.length c1] w fun e w' => e = .returned (.bool r) ∧ Below w.heap.size w w' := by
  have hu30 := Tryz.underlying30
  have hu31 := Tryz.underlying31
  have HR0 := Aside0.mk hr0
  have HC0 := Aside0.mk hc0
  clear hr0 hc0
  have HR1 := Aside0.mk hr1
  have HC1 := Aside0.mk hc1
  clear hr1 hc1
  have HB := Aside0.mk (Below.refl w.heap.size w)
  have H : (if (l0.length : Int) = (l1.length : Int) then (posternlaw20_blocks.l0 k l0 l1 (l0.length : Int) 0) else (some false)) = some r := h
  clear h
  by_cases c3 : (l0.length : Int) = (l1.length : Int)
  · rw [if_pos c3] at H
    have c3b0 : ((l0.length : Int) == (l1.length : Int)) = true := beq_iff_eq.mpr c3
    have c3b1 : ((l0.length : Int) != (l1.length : Int)) = false := bne_eq_false_iff_eq.mpr c3
    have c3b2 : (l0.length == l1.length) = true := by first | simpa using c3 | (simp at c3 ⊢; omega)
    clear c3
    have H' := Aside0.mk H
    clear H
    go_enter Tryz.func5, Tryz.ntmps5
    go_wp2
    go_loopg [13] k (fun kq v13 w' => ∃ (x13_1 : Int), v13 = .int .i64 x13_1 ∧ Aside0 (posternlaw20_blocks.l0 kq l0 l1 (l0.length : Int) x13_1 = some r) ∧ Aside0 (kq ≤ k) ∧ Aside0 (Below w.heap.size w w'))
    case atStart => exact ⟨(0), (by first | rfl | (simp; done) | (simp [*]; done)), H', ⟨Nat.le_refl _⟩, ⟨by repeat (first | (with_reducible first | exact HB.out | apply below_alloc | apply pw_below_drewN | apply below_drew1) | exact HB.out)⟩⟩
    case round =>
      clear H'
      try clear c1
      try clear p2
      try clear c3
      try clear c3b0
      try clear c3b1
      try clear c3b2
      obtain ⟨x13_1, rfl, HA, HK1, HB⟩ := hrel
      cases gk with
      | zero => exact absurd HA.out (by simp [posternlaw20_blocks.l0])
      | succ k1 =>
        have H := HA.out
        clear HA
        simp only [posternlaw20_blocks.l0] at H
        by_cases c4 : x13_1 < (l0.length : Int)
        · rw [if_pos c4] at H
          have c4b0 : decide (x13_1 < (l0.length : Int)) = true := decide_eq_true c4
          clear c4
          by_cases c5 : 0 ≤ x13_1
          · rw [if_pos c5] at H
            have c5b0 : decide (0 ≤ x13_1) = true := decide_eq_true c5
            clear c5
            by_cases c6 : x13_1 < (l0.length : Int)
            · rw [if_pos c6] at H
              have c6b0 : decide (x13_1 < (l0.length : Int)) = true := decide_eq_true c6
              clear c6
              by_cases c7 : x13_1 < (l1.length : Int)
              · rw [if_pos c7] at H
                have c7b0 : decide (x13_1 < (l1.length : Int)) = true := decide_eq_true c7
                clear c7
                replace H := Option.bind_eq_some_iff.mp H
                obtain ⟨t129, A80, H⟩ := H
                replace H : (if t129 = true then (posternlaw20_blocks.l0 k1 l0 l1 (l0.length : Int) (wrap64 (x13_1 + 1))) else (some false)) = some r := H
                have A8 := Aside0.mk A80
                clear A80
                by_cases c9 : t129 = true
                · subst c9
                  have H1 : (posternlaw20_blocks.l0 k1 l0 l1 (l0.length : Int) (wrap64 (x13_1 + 1))) = some r := by rw [if_pos rfl] at H; exact H
                  clear H
                  have H := H1
                  clear H1
                  have H' := Aside0.mk H
                  clear H
                  try go_wp2
                  have n0_ := Aside0.mk (below_drew1 HB.out)
                  clear HB
                  have HB := n0_
                  clear n0_
                  have p127 : 0 ≤ (x13_1 : Int) := of_decide_eq_true (by first | (with_reducible assumption) | assumption)
                  have q127 : x13_1 < (l0.length : Int) := of_decide_eq_true (by first | (with_reducible assumption) | assumption)
                  obtain ⟨ad127, e127, hx127_0, hx127_1⟩ := at_T30 HR0.out x13_1 p127 q127
                  have hw127_1 := hx127_1
                  have hw127_0 := hx127_0
                  cases e127
                  replace hx127_0 := (HB.out.cell (World.block_lt_of_cell? w _ hx127_0)).trans hx127_0
                  replace hx127_1 := (HB.out.cell (World.block_lt_of_cell? w _ hx127_1)).trans hx127_1
                  replace p127 := eq_true p127
                  replace q127 := eq_true q127
                  have p128 : 0 ≤ (x13_1 : Int) := of_decide_eq_true (by first | (with_reducible assumption) | assumption)
                  have q128 : x13_1 < (l1.length : Int) := of_decide_eq_true (by first | (with_reducible assumption) | assumption)
                  obtain ⟨ad128, e128, hx128_0, hx128_1⟩ := at_T31 HR1.out x13_1 p128 q128
                  have hw128_1 := hx128_1
                  have hw128_0 := hx128_0
                  cases e128
                  replace hx128_0 := (HB.out.cell (World.block_lt_of_cell? w _ hx128_0)).trans hx128_0
                  replace hx128_1 := (HB.out.cell (World.block_lt_of_cell? w _ hx128_1)).trans hx128_1
                  replace p128 := eq_true p128
                  replace q128 := eq_true q128
                  refine start_ (n := 10) (S := fun w' => w'.cell? (ad127.add ((x13_1).toNat * 2)) = some (.int .u32 ((rd_T30 l0 x13_1).f0)) ∧ w'.cell? ⟨(ad127.add ((x13_1).toNat * 2)).block, (ad127.add ((x13_1).toNat * 2)).off + 1, none⟩ = some (.int .i64 ((rd_T30 l0 x13_1).f1)) ∧ w'.cell? (ad128.add ((x13_1).toNat * 2)) = some (.int .u32 ((rd_T31 l1 x13_1).f0)) ∧ w'.cell? ⟨(ad128.add ((x13_1).toNat * 2)).block, (ad128.add ((x13_1).toNat * 2)).off + 1, none⟩ = some (.int .i64 ((rd_T31 l1 x13_1).f1))) (ds := []) #[false, false, false, false, false, false, false, false, false, false] (by kernel_rfl) rfl rfl ⟨((HB.out.cell (World.block_lt_of_cell? w _ hw127_0)).trans hw127_0), ((HB.out.cell (World.block_lt_of_cell? w _ hw127_1)).trans hw127_1), ((HB.out.cell (World.block_lt_of_cell? w _ hw128_0)).trans hw128_0), ((HB.out.cell (World.block_lt_of_cell? w _ hw128_1)).trans hw128_1)⟩ (fun hHeld => ?_); refine with_tabW posternlaw20_blocks.tab6 posternlaw20_blocks.bits6 (fun HT_ HW_ => ?_)
                  generalize wr.drew = w10 at HB hx127_0 hx127_1 hx128_0 hx128_1 hHeld ⊢
                  refine pure_ (i := 0) (N := some 16) (v := ?_) (a' := ?_) #[true, false, false, false, false, false, false, false, false, false] rfl rfl (any_of HT_.out (by kernel_rfl)) (fun _ _ _ h => h) (Or.inl ⟨by rfl, ?_⟩) ?_ ?_
                  rotate_left
                  · intro w'
                    go_simp
                    with_reducible rfl
                  rotate_left
                  · simp only [Act.put, List.setIfInBounds_toArray, List.set_cons_zero, List.set_cons_succ, i64_w, i32_w]
                    rfl
                  refine pure_ (i := 1) (N := some 17) (v := ?_) (a' := ?_) #[true, true, false, false, false, false, false, false, false, false] rfl rfl (any_of HT_.out (by kernel_rfl)) (fun _ _ _ h => h) (Or.inl ⟨by rfl, ?_⟩) ?_ ?_
                  rotate_left
                  · intro w'
                    go_simp
                    with_reducible rfl
                  rotate_left
                  · simp only [Act.put, List.setIfInBounds_toArray, List.set_cons_zero, List.set_cons_succ, i64_w, i32_w]
                    rfl
                  refine pure_ (i := 2) (N := some 18) (v := ?_) (a' := ?_) #[true, true, true, false, false, false, false, false, false, false] rfl rfl (any_of HT_.out (by kernel_rfl)) (fun _ _ _ h => h) (Or.inl ⟨by rfl, ?_⟩) ?_ ?_
                  rotate_left
                  · intro w'
                    go_simp
                    with_reducible rfl
                  rotate_left
                  · simp only [Act.put, List.setIfInBounds_toArray, List.set_cons_zero, List.set_cons_succ, i64_w, i32_w]
                    rfl
                  refine pure_ (i := 4) (N := some 20) (v := ?_) (a' := ?_) #[true, true, true, false, true, false, false, false, false, false] rfl rfl (any_of HT_.out (by kernel_rfl)) (fun _ _ _ h => h) (Or.inl ⟨by rfl, ?_⟩) ?_ ?_
                  rotate_left
                  · intro w'
                    go_simp
                    with_reducible rfl
                  rotate_left
                  · simp only [Act.put, List.setIfInBounds_toArray, List.set_cons_zero, List.set_cons_succ, i64_w, i32_w]
                    rfl
                  refine pure_ (i := 5) (N := some 21) (v := ?_) (a' := ?_) #[true, true, true, false, true, true, false, false, false, false] rfl rfl (any_of HT_.out (by kernel_rfl)) (fun _ _ _ h => h) (Or.inl ⟨by rfl, ?_⟩) ?_ ?_
                  rotate_left
                  · intro w'
                    go_simp
                    with_reducible rfl
                  rotate_left
                  · simp only [Act.put, List.setIfInBounds_toArray, List.set_cons_zero, List.set_cons_succ, i64_w, i32_w]
                    rfl
                  refine pure_ (i := 6) (N := some 22) (v := ?_) (a' := ?_) #[true, true, true, false, true, true, true, false, false, false] rfl rfl (any_of HT_.out (by kernel_rfl)) (fun _ _ _ h => h) (Or.inl ⟨by rfl, ?_⟩) ?_ ?_
                  rotate_left
                  · intro w'
                    go_simp
                    with_reducible rfl
                  rotate_left
                  · simp only [Act.put, List.setIfInBounds_toArray, List.set_cons_zero, List.set_cons_succ, i64_w, i32_w]
                    rfl
                  refine take_ (i := 3) (N := some 19) (v := ?_) (a' := ?_) #[true, true, true, true, true, true, true, false, false, false] rfl rfl (take_ofW HT_.out HW_.out (by kernel_rfl)) (fun _ _ _ h => h) (Or.inl ⟨by rfl, ?_⟩) hHeld ?_ ?_
                  rotate_left
                  · rintro w' ⟨s0, s1, s2, s3⟩
                    go_simp
                    with_reducible rfl
                  rotate_left
                  · simp only [Act.put, List.setIfInBounds_toArray, List.set_cons_zero, List.set_cons_succ, i64_w, i32_w]
                    rfl
                  refine take_ (i := 7) (N := some 23) (v := ?_) (a' := ?_) #[true, true, true, true, true, true, true, true, false, false] rfl rfl (take_ofW HT_.out HW_.out (by kernel_rfl)) (fun _ _ _ h => h) (Or.inl ⟨by rfl, ?_⟩) hHeld ?_ ?_
                  rotate_left
                  · rintro w' ⟨s0, s1, s2, s3⟩
                    go_simp
                    with_reducible rfl
                  rotate_left
                  · simp only [Act.put, List.setIfInBounds_toArray, List.set_cons_zero, List.set_cons_succ, i64_w, i32_w]
                    rfl
                  refine one_ (i := 8) (N := some 24) #[true, true, true, true, true, true, true, true, true, false] rfl rfl (one_of HT_.out (by kernel_rfl)) (by decide) (fun K hK => ?_)
                  refine goes_ Tryz.func13 (by kernel_rfl) rfl #[.agg #[.int .u32 ((rd_T30 l0 x13_1).f0), .int .i64 ((rd_T30 l0 x13_1).f1)], .agg #[.int .u32 ((rd_T31 l1 x13_1).f0), .int .i64 ((rd_T31 l1 x13_1).f1)]] (by rfl) rfl rfl (by (try simp only [List.map_toArray, List.map_cons, List.map_nil]); first | done | rfl | (simp only [List.length_drop, List.length_take]; rfl)) ?_
                  with_reducible refine (posternlaw20_block.calls ((rd_T30 l0 x13_1).f0) ((rd_T30 l0 x13_1).f1) ((rd_T31 l1 x13_1).f0) ((rd_T31 l1 x13_1).f1) true _ A8.out).mono ?_
                  rintro e w11 ⟨rfl, hb⟩
                  refine ⟨_, rfl, ?_⟩
                  have n0_ := Aside0.mk (below_step (by repeat (first | (with_reducible first | exact HB.out | apply below_alloc | apply pw_below_drewN | apply below_drew1) | exact HB.out)) hb)
                  clear HB
                  have HB := n0_
                  clear n0_
                  (try clear hb)
                  (try clear hb2)
                  (try clear hk)
                  (try clear hi)
                  refine hK.out _ _ ⟨((HB.out.cell (World.block_lt_of_cell? w _ hw127_0)).trans hw127_0), ((HB.out.cell (World.block_lt_of_cell? w _ hw127_1)).trans hw127_1), ((HB.out.cell (World.block_lt_of_cell? w _ hw128_0)).trans hw128_0), ((HB.out.cell (World.block_lt_of_cell? w _ hw128_1)).trans hw128_1)⟩ (fun hHeld => ?_)
                  clear hK K
                  refine norm_ (a' := ?_) ?_ ?_
                  rotate_left
                  · show Act.put _ (some 24) _ = _
                    simp only [Act.put, List.setIfInBounds_toArray, List.set_cons_zero, List.set_cons_succ, i64_w, i32_w]
                    rfl
                  refine pure_ (i := 9) (N := some 25) (v := ?_) (a' := ?_) #[true, true, true, true, true, true, true, true, true, true] rfl rfl (any_of HT_.out (by kernel_rfl)) (fun _ _ _ h => h) (Or.inl ⟨by rfl, ?_⟩) ?_ ?_
                  rotate_left
                  · intro w'
                    go_simp
                    with_reducible rfl
                  rotate_left
                  · simp only [Act.put, List.setIfInBounds_toArray, List.set_cons_zero, List.set_cons_succ, i64_w, i32_w]
                    rfl
                  refine done_ (done_of HT_.out (by kernel_rfl)) ?_
                  try go_wp2
                  go_roundg k1
                  case measure => have := HK1.out; omega
                  case rel => exact ⟨(wrap64 (x13_1 + 1)), (by first | rfl | (simp; done) | (simp [*]; done)), H', ⟨by have := HK1.out; omega⟩, ⟨by repeat (first | (with_reducible first | exact HB.out | apply below_alloc | apply pw_below_drewN | apply below_drew1) | exact HB.out)⟩⟩
                · replace c9 := Bool.eq_false_iff.mpr c9
                  subst c9
                  have H1 : (some false) = some r := by rw [if_neg (show ¬ (false = true) by decide)] at H; exact H
                  clear H
                  have H := H1
                  clear H1
                  obtain rfl := Option.some.inj H
                  try go_wp2
                  have n0_ := Aside0.mk (below_drew1 HB.out)
                  clear HB
                  have HB := n0_
                  clear n0_
                  have p127 : 0 ≤ (x13_1 : Int) := of_decide_eq_true (by first | (with_reducible assumption) | assumption)
                  have q127 : x13_1 < (l0.length : Int) := of_decide_eq_true (by first | (with_reducible assumption) | assumption)
                  obtain ⟨ad127, e127, hx127_0, hx127_1⟩ := at_T30 HR0.out x13_1 p127 q127
                  have hw127_1 := hx127_1
                  have hw127_0 := hx127_0
                  cases e127
                  replace hx127_0 := (HB.out.cell (World.block_lt_of_cell? w _ hx127_0)).trans hx127_0
                  replace hx127_1 := (HB.out.cell (World.block_lt_of_cell? w _ hx127_1)).trans hx127_1
                  replace p127 := eq_true p127
                  replace q127 := eq_true q127
                  have p128 : 0 ≤ (x13_1 : Int) := of_decide_eq_true (by first | (with_reducible assumption) | assumption)
                  have q128 : x13_1 < (l1.length : Int) := of_decide_eq_true (by first | (with_reducible assumption) | assumption)
                  obtain ⟨ad128, e128, hx128_0, hx128_1⟩ := at_T31 HR1.out x13_1 p128 q128
                  have hw128_1 := hx128_1
                  have hw128_0 := hx128_0
                  cases e128
                  replace hx128_0 := (HB.out.cell (World.block_lt_of_cell? w _ hx128_0)).trans hx128_0
                  replace hx128_1 := (HB.out.cell (World.block_lt_of_cell? w _ hx128_1)).trans hx128_1
                  replace p128 := eq_true p128
                  replace q128 := eq_true q128
                  refine start_ (n := 10) (S := fun w' => w'.cell? (ad127.add ((x13_1).toNat * 2)) = some (.int .u32 ((rd_T30 l0 x13_1).f0)) ∧ w'.cell? ⟨(ad127.add ((x13_1).toNat * 2)).block, (ad127.add ((x13_1).toNat * 2)).off + 1, none⟩ = some (.int .i64 ((rd_T30 l0 x13_1).f1)) ∧ w'.cell? (ad128.add ((x13_1).toNat * 2)) = some (.int .u32 ((rd_T31 l1 x13_1).f0)) ∧ w'.cell? ⟨(ad128.add ((x13_1).toNat * 2)).block, (ad128.add ((x13_1).toNat * 2)).off + 1, none⟩ = some (.int .i64 ((rd_T31 l1 x13_1).f1))) (ds := []) #[false, false, false, false, false, false, false, false, false, false] (by kernel_rfl) rfl rfl ⟨((HB.out.cell (World.block_lt_of_cell? w _ hw127_0)).trans hw127_0), ((HB.out.cell (World.block_lt_of_cell? w _ hw127_1)).trans hw127_1), ((HB.out.cell (World.block_lt_of_cell? w _ hw128_0)).trans hw128_0), ((HB.out.cell (World.block_lt_of_cell? w _ hw128_1)).trans hw128_1)⟩ (fun hHeld => ?_); refine with_tabW posternlaw20_blocks.tab6 posternlaw20_blocks.bits6 (fun HT_ HW_ => ?_)
                  generalize wr.drew = w12 at HB hx127_0 hx127_1 hx128_0 hx128_1 hHeld ⊢
                  refine pure_ (i := 0) (N := some 16) (v := ?_) (a' := ?_) #[true, false, false, false, false, false, false, false, false, false] rfl rfl (any_of HT_.out (by kernel_rfl)) (fun _ _ _ h => h) (Or.inl ⟨by rfl, ?_⟩) ?_ ?_
                  rotate_left
                  · intro w'
                    go_simp
                    with_reducible rfl
                  rotate_left
                  · simp only [Act.put, List.setIfInBounds_toArray, List.set_cons_zero, List.set_cons_succ, i64_w, i32_w]
                    rfl
                  refine pure_ (i := 1) (N := some 17) (v := ?_) (a' := ?_) #[true, true, false, false, false, false, false, false, false, false] rfl rfl (any_of HT_.out (by kernel_rfl)) (fun _ _ _ h => h) (Or.inl ⟨by rfl, ?_⟩) ?_ ?_
                  rotate_left
                  · intro w'
                    go_simp
                    with_reducible rfl
                  rotate_left
                  · simp only [Act.put, List.setIfInBounds_toArray, List.set_cons_zero, List.set_cons_succ, i64_w, i32_w]
                    rfl
                  refine pure_ (i := 2) (N := some 18) (v := ?_) (a' := ?_) #[true, true, true, false, false, false, false, false, false, false] rfl rfl (any_of HT_.out (by kernel_rfl)) (fun _ _ _ h => h) (Or.inl ⟨by rfl, ?_⟩) ?_ ?_
                  rotate_left
                  · intro w'
                    go_simp
                    with_reducible rfl
                  rotate_left
                  · simp only [Act.put, List.setIfInBounds_toArray, List.set_cons_zero, List.set_cons_succ, i64_w, i32_w]
                    rfl
                  refine pure_ (i := 4) (N := some 20) (v := ?_) (a' := ?_) #[true, true, true, false, true, false, false, false, false, false] rfl rfl (any_of HT_.out (by kernel_rfl)) (fun _ _ _ h => h) (Or.inl ⟨by rfl, ?_⟩) ?_ ?_
                  rotate_left
                  · intro w'
                    go_simp
                    with_reducible rfl
                  rotate_left
                  · simp only [Act.put, List.setIfInBounds_toArray, List.set_cons_zero, List.set_cons_succ, i64_w, i32_w]
                    rfl
                  refine pure_ (i := 5) (N := some 21) (v := ?_) (a' := ?_) #[true, true, true, false, true, true, false, false, false, false] rfl rfl (any_of HT_.out (by kernel_rfl)) (fun _ _ _ h => h) (Or.inl ⟨by rfl, ?_⟩) ?_ ?_
                  rotate_left
                  · intro w'
                    go_simp
                    with_reducible rfl
                  rotate_left
                  · simp only [Act.put, List.setIfInBounds_toArray, List.set_cons_zero, List.set_cons_succ, i64_w, i32_w]
                    rfl
                  refine pure_ (i := 6) (N := some 22) (v := ?_) (a' := ?_) #[true, true, true, false, true, true, true, false, false, false] rfl rfl (any_of HT_.out (by kernel_rfl)) (fun _ _ _ h => h) (Or.inl ⟨by rfl, ?_⟩) ?_ ?_
                  rotate_left
                  · intro w'
                    go_simp
                    with_reducible rfl
                  rotate_left
                  · simp only [Act.put, List.setIfInBounds_toArray, List.set_cons_zero, List.set_cons_succ, i64_w, i32_w]
                    rfl
                  refine take_ (i := 3) (N := some 19) (v := ?_) (a' := ?_) #[true, true, true, true, true, true, true, false, false, false] rfl rfl (take_ofW HT_.out HW_.out (by kernel_rfl)) (fun _ _ _ h => h) (Or.inl ⟨by rfl, ?_⟩) hHeld ?_ ?_
                  rotate_left
                  · rintro w' ⟨s0, s1, s2, s3⟩
                    go_simp
                    with_reducible rfl
                  rotate_left
                  · simp only [Act.put, List.setIfInBounds_toArray, List.set_cons_zero, List.set_cons_succ, i64_w, i32_w]
                    rfl
                  refine take_ (i := 7) (N := some 23) (v := ?_) (a' := ?_) #[true, true, true, true, true, true, true, true, false, false] rfl rfl (take_ofW HT_.out HW_.out (by kernel_rfl)) (fun _ _ _ h => h) (Or.inl ⟨by rfl, ?_⟩) hHeld ?_ ?_
                  rotate_left
                  · rintro w' ⟨s0, s1, s2, s3⟩
                    go_simp
                    with_reducible rfl
                  rotate_left
                  · simp only [Act.put, List.setIfInBounds_toArray, List.set_cons_zero, List.set_cons_succ, i64_w, i32_w]
                    rfl
                  refine one_ (i := 8) (N := some 24) #[true, true, true, true, true, true, true, true, true, false] rfl rfl (one_of HT_.out (by kernel_rfl)) (by decide) (fun K hK => ?_)
                  refine goes_ Tryz.func13 (by kernel_rfl) rfl #[.agg #[.int .u32 ((rd_T30 l0 x13_1).f0), .int .i64 ((rd_T30 l0 x13_1).f1)], .agg #[.int .u32 ((rd_T31 l1 x13_1).f0), .int .i64 ((rd_T31 l1 x13_1).f1)]] (by rfl) rfl rfl (by (try simp only [List.map_toArray, List.map_cons, List.map_nil]); first | done | rfl | (simp only [List.length_drop, List.length_take]; rfl)) ?_
                  with_reducible refine (posternlaw20_block.calls ((rd_T30 l0 x13_1).f0) ((rd_T30 l0 x13_1).f1) ((rd_T31 l1 x13_1).f0) ((rd_T31 l1 x13_1).f1) false _ A8.out).mono ?_
                  rintro e w13 ⟨rfl, hb⟩
                  refine ⟨_, rfl, ?_⟩
                  have n0_ := Aside0.mk (below_step (by repeat (first | (with_reducible first | exact HB.out | apply below_alloc | apply pw_below_drewN | apply below_drew1) | exact HB.out)) hb)
                  clear HB
                  have HB := n0_
                  clear n0_
                  (try clear hb)
                  (try clear hb2)
                  (try clear hk)
                  (try clear hi)
                  refine hK.out _ _ ⟨((HB.out.cell (World.block_lt_of_cell? w _ hw127_0)).trans hw127_0), ((HB.out.cell (World.block_lt_of_cell? w _ hw127_1)).trans hw127_1), ((HB.out.cell (World.block_lt_of_cell? w _ hw128_0)).trans hw128_0), ((HB.out.cell (World.block_lt_of_cell? w _ hw128_1)).trans hw128_1)⟩ (fun hHeld => ?_)
                  clear hK K
                  refine norm_ (a' := ?_) ?_ ?_
                  rotate_left
                  · show Act.put _ (some 24) _ = _
                    simp only [Act.put, List.setIfInBounds_toArray, List.set_cons_zero, List.set_cons_succ, i64_w, i32_w]
                    rfl
                  refine pure_ (i := 9) (N := some 25) (v := ?_) (a' := ?_) #[true, true, true, true, true, true, true, true, true, true] rfl rfl (any_of HT_.out (by kernel_rfl)) (fun _ _ _ h => h) (Or.inl ⟨by rfl, ?_⟩) ?_ ?_
                  rotate_left
                  · intro w'
                    go_simp
                    with_reducible rfl
                  rotate_left
                  · simp only [Act.put, List.setIfInBounds_toArray, List.set_cons_zero, List.set_cons_succ, i64_w, i32_w]
                    rfl
                  refine done_ (done_of HT_.out (by kernel_rfl)) ?_
                  try go_wp2
                  go_ret
                  exact ⟨by first | rfl | (simp [errW_none, errW_some] <;> rfl) | (simp [*, errW_none, errW_some] <;> rfl), by repeat (first | (with_reducible first | exact HB.out | apply below_alloc | apply pw_below_drewN | apply below_drew1) | exact HB.out)⟩
              · rw [if_neg c7] at H
                exact absurd H (by simp)
            · rw [if_neg c6] at H
              exact absurd H (by simp)
          · rw [if_neg c5] at H
            exact absurd H (by simp)
        · rw [if_neg c4] at H
          have c4b0 : decide (x13_1 < (l0.length : Int)) = false := decide_eq_false c4
          clear c4
          obtain rfl := Option.some.inj H
          go_wp2
          go_ret
          exact ⟨by first | rfl | (simp [errW_none, errW_some] <;> rfl) | (simp [*, errW_none, errW_some] <;> rfl), by repeat (first | (with_reducible first | exact HB.out | apply below_alloc | apply pw_below_drewN | apply below_drew1) | exact HB.out)⟩
  · rw [if_neg c3] at H
    have c3b0 : ((l0.length : Int) == (l1.length : Int)) = false := beq_eq_false_iff_ne.mpr c3
    have c3b1 : ((l0.length : Int) != (l1.length : Int)) = true := bne_iff_ne.mpr c3
    have c3b2 : (l0.length == l1.length) = false := by first | simpa using c3 | (simp at c3 ⊢; omega)
    obtain rfl := Option.some.inj H
    go_enter Tryz.func5, Tryz.ntmps5
    go_wp2
    go_ret
    exact ⟨by first | rfl | (simp [errW_none, errW_some] <;> rfl) | (simp [*, errW_none, errW_some] <;> rfl), by repeat (first | (with_reducible first | exact HB.out | apply below_alloc | apply pw_below_drewN | apply below_drew1) | exact HB.out)⟩
def four_Cover.l0 : Nat → List (S30) → Int → Int → Option ((List (S30)))
  | 0, _, _, _ => none
  | k + 1, x5, x6, x7 => if x6 ≤ x7 then ((bits_TrailingZeros64.f (Go.bits .or .u64 x6 4294967296)).bind fun t130 => ((bits_Len64.f (IntKind.u64.wrap ((IntKind.u64.wrap (x7 - x6)) + 1))).bind fun t131 => (if x5.length < 8796093022208 then (if 0 ≤ (mn t130 (wrap64 (t131 - 1))) then (four_Cover.l0 k (x5 ++ [(⟨(x6) % 4294967296, wrap64 (32 - (mn t130 (wrap64 (t131 - 1))))⟩ : S30)]) (IntKind.u64.wrap (x6 + (shl .u64 1 (mn t130 (wrap64 (t131 - 1)))))) x7) else (none)) else (none)))) else (some x5)
def four_Cover.f (k : Nat) (a0 : Int) (a1 : Int) : Option ((List (S30))) := four_Cover.l0 k ([] : List (S30)) (IntKind.u64.wrap (a0)) (IntKind.u64.wrap (a1))
set_option maxHeartbeats 8000000 in
set_option maxRecDepth 100000 in
theorem four_Cover.calls (k : Nat) (a0 : Int) (a1 : Int) (r : List (S30)) (w : World) (hG : GW w) (h : four_Cover.f k a0 a1 = some r) :
    Calls Tryz.prog 6 #[.int .u32 a0, .int .u32 a1] w fun e w' => ∃ v0_ : Value, e = .returned (v0_) ∧ Kd.R k30 30 w' w.heap.size (fun _ => True) v0_ r ∧ Below w.heap.size w w' := by
  have hu30 := Tryz.underlying30
  have HG := Aside0.mk hG
  clear hG
  have HB := Aside0.mk (Below.refl w.heap.size w)
  have H : (four_Cover.l0 k ([] : List (S30)) (IntKind.u64.wrap (a0)) (IntKind.u64.wrap (a1))) = some r := h
  clear h
  have H' := Aside0.mk H
  clear H
  go_enter Tryz.func6, Tryz.ntmps6
  go_wp2
  go_loopg [5, 6] k (fun kq v5 v6 w' => ∃ (x5_1 : List (S30)) (x6_1 : Int), v6 = .int .u64 x6_1 ∧ Aside0 (four_Cover.l0 kq x5_1 x6_1 (IntKind.u64.wrap (a1)) = some r) ∧ Aside0 (kq ≤ k) ∧ Aside0 (Kd.R k30 30 w' w.heap.size (fun _ => True) v5 x5_1) ∧ Aside0 (Below w.heap.size w w'))
  case atStart => exact ⟨(([] : List (S30))), (IntKind.u64.wrap (a0)), (by first | rfl | (simp; done) | (simp [*]; done)), H', ⟨Nat.le_refl _⟩, ⟨by first | exact Kd.R_nil _ _ _ _ _ | exact Kd.N_nil _ _ _ _ _ | exact Kd.V_nil _ _ _ _ _ | exact Kd.Q_nil _ _ _ _ _ | exact Kd.S_nil _ _ _ _ _⟩, ⟨by repeat (first | (with_reducible first | exact HB.out | apply below_alloc | apply pw_below_drewN | apply below_drew1) | exact HB.out)⟩⟩
  case round =>
    clear H'
    try clear p2
    obtain ⟨x5_1, x6_1, rfl, HA, HK1, HO_5, HB⟩ := hrel
    cases gk with
    | zero => exact absurd HA.out (by simp [four_Cover.l0])
    | succ k1 =>
      have H := HA.out
      clear HA
      simp only [four_Cover.l0] at H
      by_cases c3 : x6_1 ≤ (IntKind.u64.wrap (a1))
      · rw [if_pos c3] at H
        have c3b0 : decide (x6_1 ≤ (IntKind.u64.wrap (a1))) = true := decide_eq_true c3
        clear c3
        replace H := Option.bind_eq_some_iff.mp H
        obtain ⟨t130, A40, H⟩ := H
        replace H : ((bits_Len64.f (IntKind.u64.wrap ((IntKind.u64.wrap ((IntKind.u64.wrap (a1)) - x6_1)) + 1))).bind fun t131 => (if x5_1.length < 8796093022208 then (if 0 ≤ (mn t130 (wrap64 (t131 - 1))) then (four_Cover.l0 k1 (x5_1 ++ [(⟨(x6_1) % 4294967296, wrap64 (32 - (mn t130 (wrap64 (t131 - 1))))⟩ : S30)]) (IntKind.u64.wrap (x6_1 + (shl .u64 1 (mn t130 (wrap64 (t131 - 1)))))) (IntKind.u64.wrap (a1))) else (none)) else (none))) = some r := H
        have A4 := Aside0.mk A40
        clear A40
        replace H := Option.bind_eq_some_iff.mp H
        obtain ⟨t131, A50, H⟩ := H
        replace H : (if x5_1.length < 8796093022208 then (if 0 ≤ (mn t130 (wrap64 (t131 - 1))) then (four_Cover.l0 k1 (x5_1 ++ [(⟨(x6_1) % 4294967296, wrap64 (32 - (mn t130 (wrap64 (t131 - 1))))⟩ : S30)]) (IntKind.u64.wrap (x6_1 + (shl .u64 1 (mn t130 (wrap64 (t131 - 1)))))) (IntKind.u64.wrap (a1))) else (none)) else (none)) = some r := H
        have A5 := Aside0.mk A50
        clear A50
        obtain ⟨ji6, hji6⟩ : ∃ j_ : Int, (mn t130 (wrap64 (t131 - 1))) = j_ := ⟨_, rfl⟩
        replace H : (if x5_1.length < 8796093022208 then (if 0 ≤ (ji6) then (four_Cover.l0 k1 (x5_1 ++ [(⟨(x6_1) % 4294967296, wrap64 (32 - (ji6))⟩ : S30)]) (IntKind.u64.wrap (x6_1 + (shl .u64 1 (ji6)))) (IntKind.u64.wrap (a1))) else (none)) else (none)) = some r := by first | (rw [hji6] at H; exact H) | (simp only [hji6] at H ⊢; exact H)
        (try rw [hji6] at A4)
        (try rw [hji6] at A5)
        have hji6_ : (if (wrap64 (t131 - 1)) < t130 then (wrap64 (t131 - 1)) else t130) = ji6 := hji6
        by_cases c7 : x5_1.length < 8796093022208
        · rw [if_pos c7] at H
          have LMc7 := Aside0.mk c7
          clear c7
          obtain ⟨y132, hy132⟩ : ∃ y_ : List (S30), y_ = (x5_1 ++ [(⟨(x6_1) % 4294967296, wrap64 (32 - (ji6))⟩ : S30)]) := ⟨_, rfl⟩
          replace H : (if 0 ≤ (ji6) then (four_Cover.l0 k1 y132 (IntKind.u64.wrap (x6_1 + (shl .u64 1 (ji6)))) (IntKind.u64.wrap (a1))) else (none)) = some r := by first | (rw [hy132]; with_reducible exact H) | (have H2_ := (Option.bind_some _ _).symm.trans H; rw [hy132]; with_reducible exact H2_) | (have H2_ := (Option.bind_some _ _).symm.trans H; with_reducible exact H2_) | with_reducible exact H | (rw [hy132]; exact H) | exact H
          have Ny132 := Aside0.mk hy132
          clear hy132
          by_cases c8 : 0 ≤ (ji6)
          · rw [if_pos c8] at H
            have c8b0 := eq_true c8
            have c8b1 : decide (0 ≤ (ji6)) = true := decide_eq_true c8
            clear c8
            obtain ⟨ji9, hji9⟩ : ∃ j_ : Int, (shl .u64 1 (ji6)) = j_ := ⟨_, rfl⟩
            replace H : (four_Cover.l0 k1 y132 (IntKind.u64.wrap (x6_1 + (ji9))) (IntKind.u64.wrap (a1))) = some r := by first | (rw [hji9] at H; exact H) | (simp only [hji9] at H ⊢; exact H)
            (try rw [hji9] at A4)
            (try rw [hji9] at A5)
            have hji9_ : (IntKind.u64.wrap (1 * 2 ^ min (ji6).toNat 64)) = ji9 := hji9
            have hji9z : (ji6) ≤ 64 → (IntKind.u64.wrap (1 * 2 ^ (ji6).toNat)) = ji9 := shl_small hji9
            have hji9u : (IntKind.u64.wrap (2 ^ min (ji6).toNat 64)) = ji9 := by have h_ := hji9_; rw [Int.one_mul] at h_; exact h_
            have hji9v : (ji6) ≤ 64 → (IntKind.u64.wrap (2 ^ (ji6).toNat)) = ji9 := fun hle_ => by have h_ := hji9z hle_; rw [Int.one_mul] at h_; exact h_
            have H' := Aside0.mk H
            clear H
            go_wp2_with (first | ((with_reducible refine gate_callee (f := 14) rfl ?_); refine goesL_ (some 18) rfl rfl Tryz.func14 (by kernel_rfl) rfl #[.int .u64 (Go.bits .or .u64 x6_1 4294967296)] rfl (by (try simp only [List.map_toArray, List.map_cons, List.map_nil]); first | done | rfl | (simp only [List.length_drop, List.length_take]; rfl)) ?_; (with_reducible refine (bits_TrailingZeros64.calls (Go.bits .or .u64 x6_1 4294967296) t130 _ (GW.keep HG.out (by repeat (first | (with_reducible first | exact HB.out | apply below_alloc | apply pw_below_drewN | apply below_drew1) | exact HB.out | exact Below.refl _ _))) A4.out).mono ?_); rintro e w' ⟨rfl, ⟨nd, rfl⟩⟩; refine ⟨_, rfl, ?_⟩) | ((with_reducible refine gate_callee (f := 15) rfl ?_); refine goesL_ (some 23) rfl rfl Tryz.func15 (by kernel_rfl) rfl #[.int .u64 (IntKind.u64.wrap ((IntKind.u64.wrap ((IntKind.u64.wrap (a1)) - x6_1)) + 1))] rfl (by (try simp only [List.map_toArray, List.map_cons, List.map_nil]); first | done | rfl | (simp only [List.length_drop, List.length_take]; rfl)) ?_; (with_reducible refine (bits_Len64.calls (IntKind.u64.wrap ((IntKind.u64.wrap ((IntKind.u64.wrap (a1)) - x6_1)) + 1)) t131 _ A5.out).mono ?_); rintro e w' ⟨rfl, ⟨nd, rfl⟩⟩; refine ⟨_, rfl, ?_⟩) | ((with_reducible refine gate_builtin (b := .append) (xs := #[.tmp 26, .tmp 32]) rfl ?_); at_builtin; refine Kd.R_append k30 (w0 := w) w.heap.size rfl (.tmp 26) (.tmp 32) 23 30 (.agg #[(.int .u32 0), (.int .i64 0)]) 16 rfl Tryz.underlying23 info30 rfl (by decide) (by omega) u5 x5_1 (⟨(x6_1) % 4294967296, wrap64 (32 - (ji6))⟩ : S30) [.int .u32 ((x6_1) % 4294967296), .int .i64 (wrap64 (32 - (ji6)))] (fun _ => True) (fun _ => False) rfl rfl ?aP (fun _ hk => hk.elim) ?aF ?aO ?aB ?aS ?aL ?_; (case aP => exact k30_mkM _ _ _ (⟨(x6_1) % 4294967296, wrap64 (32 - (ji6))⟩ : S30)); (case aB => exact (by repeat (first | (with_reducible first | exact HB.out | apply below_alloc | apply pw_below_drewN | apply below_drew1) | exact HB.out))); (case aF => exact (fun _ _ => trivial)); (case aO => exact (by (with_reducible repeat (first | apply Kd.R_alloc | apply Kd.R_drewN | apply Kd.R_drew)); exact HO_5.out)); (case aS => exact (below_size (by repeat (first | (with_reducible first | exact HB.out | apply below_alloc | apply pw_below_drewN | apply below_drew1) | exact HB.out)))); (case aL => have := LMc7.out; omega); intro v133 w10 ho hb hg hat; rw [← Ny132.out] at ho; have n0_ := Aside0.mk (hb); have n1_ := Aside0.mk (ho); clear HB; clear HO_5; have HB := n0_; have HO134 := n1_; clear n0_ n1_; clear ho hb hg hat))
            go_roundg k1
            case measure => have := HK1.out; omega
            case rel => exact ⟨(y132), (IntKind.u64.wrap (x6_1 + (ji9))), (by first | rfl | (simp; done) | (simp only [← hji9] <;> (first | rfl | simp)) | (simp [*]; done)), H', ⟨by have := HK1.out; omega⟩, ⟨by (with_reducible repeat (first | apply Kd.R_alloc | apply Kd.R_drewN | apply Kd.R_drew)); exact HO134.out⟩, ⟨by repeat (first | (with_reducible first | exact HB.out | apply below_alloc | apply pw_below_drewN | apply below_drew1) | exact HB.out)⟩⟩
          · rw [if_neg c8] at H
            exact absurd H (by simp)
        · rw [if_neg c7] at H
          exact absurd H (by simp)
      · rw [if_neg c3] at H
        have c3b0 : decide (x6_1 ≤ (IntKind.u64.wrap (a1))) = false := decide_eq_false c3
        clear c3
        obtain rfl := Option.some.inj H
        go_wp2
        go_ret
        exact ⟨_, by first | rfl | (simp [errW_none, errW_some] <;> rfl) | (simp [*, errW_none, errW_some] <;> rfl), by (with_reducible repeat (first | apply Kd.R_alloc | apply Kd.R_drewN | apply Kd.R_drew)); exact HO_5.out, by repeat (first | (with_reducible first | exact HB.out | apply below_alloc | apply pw_below_drewN | apply below_drew1) | exact HB.out)⟩
def posternref20_size.l0 : Nat → Int → Int → Option (Int)
  | 0, _, _ => none
  | k + 1, x3, x4 => if x4 < 32 then (posternref20_size.l0 k (IntKind.u64.wrap (x3 * 2)) (wrap64 (x4 + 1))) else (some x3)
def posternref20_size.f (k : Nat) (a0 : Int) : Option (Int) := posternref20_size.l0 k 1 a0
set_option maxHeartbeats 8000000 in
set_option maxRecDepth 100000 in
theorem posternref20_size.calls (k : Nat) (a0 : Int) (r : Int) (w : World) (h : posternref20_size.f k a0 = some r) :
    Calls Tryz.prog 16 #[.int .i64 a0] w fun e w' => e = .returned (.int .u64 r) ∧ Drawn0 w w' := by
  have H : (posternref20_size.l0 k 1 a0) = some r := h
  clear h
  have H' := Aside0.mk H
  clear H
  go_enter Tryz.func16, Tryz.ntmps16
  go_wp2
  go_loopg [3, 4] k (fun kq v3 v4 w' => ∃ (x3_1 : Int) (x4_1 : Int), v3 = .int .u64 x3_1 ∧ v4 = .int .i64 x4_1 ∧ Aside0 (posternref20_size.l0 kq x3_1 x4_1 = some r) ∧ Aside0 (kq ≤ k) ∧ Drawn0 w w')
  case atStart => exact ⟨(1), (a0), (by first | rfl | (simp; done) | (simp [*]; done)), (by first | rfl | (simp; done) | (simp [*]; done)), H', ⟨Nat.le_refl _⟩, by repeat (first | exact Drawn0.refl _ | apply Drawn0.step)⟩
  case round =>
    clear H'
    try clear c1
    obtain ⟨x3_1, x4_1, rfl, rfl, HA, HK1, ⟨m1, rfl⟩⟩ := hrel
    cases gk with
    | zero => exact absurd HA.out (by simp [posternref20_size.l0])
    | succ k1 =>
      have H := HA.out
      clear HA
      simp only [posternref20_size.l0] at H
      by_cases c2 : x4_1 < 32
      · rw [if_pos c2] at H
        have c2b0 : decide (x4_1 < 32) = true := decide_eq_true c2
        clear c2
        have H' := Aside0.mk H
        clear H
        go_wp2
        go_roundg k1
        case measure => have := HK1.out; omega
        case rel => exact ⟨(IntKind.u64.wrap (x3_1 * 2)), (wrap64 (x4_1 + 1)), (by first | rfl | (simp; done) | (simp [*]; done)), (by first | rfl | (simp; done) | (simp [*]; done)), H', ⟨by have := HK1.out; omega⟩, by repeat (first | exact Drawn0.refl _ | apply Drawn0.step)⟩
      · rw [if_neg c2] at H
        have c2b0 : decide (x4_1 < 32) = false := decide_eq_false c2
        clear c2
        obtain rfl := Option.some.inj H
        go_wp2
        go_ret
        exact ⟨by first | rfl | (simp; done) | (simp [*]; done), by repeat (first | exact Drawn0.refl _ | apply Drawn0.step)⟩
def four_last.f (a0_0 : Int) (a0_1 : Int) : Option (Int) := if 0 ≤ a0_1 then (some (Go.bits .or .u32 a0_0 (shr .u32 4294967295 a0_1))) else (none)
set_option maxHeartbeats 8000000 in
set_option maxRecDepth 100000 in
theorem four_last.calls (a0_0 : Int) (a0_1 : Int) (r : Int) (w : World) (h : four_last.f a0_0 a0_1 = some r) :
    Calls Tryz.prog 24 #[.agg #[.int .u32 a0_0, .int .i64 a0_1]] w fun e w' => e = .returned (.int .u32 r) ∧ Below w.heap.size w w' := by
  have hu30 := Tryz.underlying30
  have HB := Aside0.mk (Below.refl w.heap.size w)
  have H : (if 0 ≤ a0_1 then (some (Go.bits .or .u32 a0_0 (shr .u32 4294967295 a0_1))) else (none)) = some r := h
  clear h
  by_cases c2 : 0 ≤ a0_1
  · rw [if_pos c2] at H
    have c2b0 := eq_true c2
    have c2b1 : decide (0 ≤ a0_1) = true := decide_eq_true c2
    clear c2
    obtain ⟨ji3, hji3⟩ : ∃ j_ : Int, (shr .u32 4294967295 a0_1) = j_ := ⟨_, rfl⟩
    replace H : (some (Go.bits .or .u32 a0_0 (ji3))) = some r := by first | (rw [hji3] at H; exact H) | (simp only [hji3] at H ⊢; exact H)
    have hji3_ : (4294967295 / 2 ^ min a0_1.toNat 32) = ji3 := hji3
    have hji3z : a0_1 ≤ 32 → (4294967295 / 2 ^ a0_1.toNat) = ji3 := shr_small hji3
    obtain rfl := Option.some.inj H
    go_enter Tryz.func24, Tryz.ntmps24
    go_wp2_with (first | ((with_reducible refine gate_dst (N := 1) rfl ?_); refine box_event ?hg (N := 1) ?hd (cs := #[.int .u32 a0_0, .int .i64 a0_1]) (t := 30) ?hr ?_; (case hd => rfl); (case hg => rfl); (case hr => first | (go_simp; done) | (go_simp; rfl)); intro gb137 hg w4 hbox hb; have n0_ := Aside0.mk (below_step (by repeat (first | (with_reducible first | exact HB.out | apply below_alloc | apply pw_below_drewN | apply below_drew1) | exact HB.out)) hb); have n1_ := Aside0.mk (hbox); have n2_ := Aside0.mk ((by rw [hg]; exact (below_size (by repeat (first | (with_reducible first | exact HB.out | apply below_alloc | apply pw_below_drewN | apply below_drew1) | exact HB.out))) : w.heap.size ≤ gb137)); have n3_ := Aside0.mk ((by rw [hg]; exact (below_size (by repeat (first | (with_reducible first | exact HB.out | apply below_alloc | apply pw_below_drewN | apply below_drew1) | exact HB.out))) : w.heap.size ≤ gb137)); clear HB; have HB := n0_; have BK137 := n1_; have GW137 := n2_; have GE137 := n3_; clear n0_ n1_ n2_ n3_; clear hb hbox hg; have hcz5_0 : w4.cell? ⟨gb137, 0, none⟩ = some (.int .u32 a0_0) := (blk_cell BK137.out 0).trans rfl; have hcz5_1 : w4.cell? ⟨gb137, 1, none⟩ = some (.int .i64 a0_1) := (blk_cell BK137.out 1).trans rfl; have hfz5_0 := blk_frozen BK137.out 0; have hfz5_1 := blk_frozen BK137.out 1))
    repeat (go_quiet (first | ((with_reducible refine gate_dst (N := 1) rfl ?_); refine box_event ?hg (N := 1) ?hd (cs := #[.int .u32 a0_0, .int .i64 a0_1]) (t := 30) ?hr ?_; (case hd => rfl); (case hg => rfl); (case hr => first | (go_simp; done) | (go_simp; rfl)); intro gb137 hg w4 hbox hb; have n0_ := Aside0.mk (below_step (by repeat (first | (with_reducible first | exact HB.out | apply below_alloc | apply pw_below_drewN | apply below_drew1) | exact HB.out)) hb); have n1_ := Aside0.mk (hbox); have n2_ := Aside0.mk ((by rw [hg]; exact (below_size (by repeat (first | (with_reducible first | exact HB.out | apply below_alloc | apply pw_below_drewN | apply below_drew1) | exact HB.out))) : w.heap.size ≤ gb137)); have n3_ := Aside0.mk ((by rw [hg]; exact (below_size (by repeat (first | (with_reducible first | exact HB.out | apply below_alloc | apply pw_below_drewN | apply below_drew1) | exact HB.out))) : w.heap.size ≤ gb137)); clear HB; have HB := n0_; have BK137 := n1_; have GW137 := n2_; have GE137 := n3_; clear n0_ n1_ n2_ n3_; clear hb hbox hg; have hcz5_0 : w4.cell? ⟨gb137, 0, none⟩ = some (.int .u32 a0_0) := (blk_cell BK137.out 0).trans rfl; have hcz5_1 : w4.cell? ⟨gb137, 1, none⟩ = some (.int .i64 a0_1) := (blk_cell BK137.out 1).trans rfl; have hfz5_0 := blk_frozen BK137.out 0; have hfz5_1 := blk_frozen BK137.out 1)); try go_wp2_with (first | ((with_reducible refine gate_dst (N := 1) rfl ?_); refine box_event ?hg (N := 1) ?hd (cs := #[.int .u32 a0_0, .int .i64 a0_1]) (t := 30) ?hr ?_; (case hd => rfl); (case hg => rfl); (case hr => first | (go_simp; done) | (go_simp; rfl)); intro gb137 hg w4 hbox hb; have n0_ := Aside0.mk (below_step (by repeat (first | (with_reducible first | exact HB.out | apply below_alloc | apply pw_below_drewN | apply below_drew1) | exact HB.out)) hb); have n1_ := Aside0.mk (hbox); have n2_ := Aside0.mk ((by rw [hg]; exact (below_size (by repeat (first | (with_reducible first | exact HB.out | apply below_alloc | apply pw_below_drewN | apply below_drew1) | exact HB.out))) : w.heap.size ≤ gb137)); have n3_ := Aside0.mk ((by rw [hg]; exact (below_size (by repeat (first | (with_reducible first | exact HB.out | apply below_alloc | apply pw_below_drewN | apply below_drew1) | exact HB.out))) : w.heap.size ≤ gb137)); clear HB; have HB := n0_; have BK137 := n1_; have GW137 := n2_; have GE137 := n3_; clear n0_ n1_ n2_ n3_; clear hb hbox hg; have hcz5_0 : w4.cell? ⟨gb137, 0, none⟩ = some (.int .u32 a0_0) := (blk_cell BK137.out 0).trans rfl; have hcz5_1 : w4.cell? ⟨gb137, 1, none⟩ = some (.int .i64 a0_1) := (blk_cell BK137.out 1).trans rfl; have hfz5_0 := blk_frozen BK137.out 0; have hfz5_1 := blk_frozen BK137.out 1)))
    go_ret
    exact ⟨by first | rfl | (simp [errW_none, errW_some] <;> rfl) | (simp only [← hji3]; first | rfl | (simp [errW_none, errW_some] <;> rfl)) | (simp [*, errW_none, errW_some] <;> rfl), by repeat (first | (with_reducible first | exact HB.out | apply below_alloc | apply pw_below_drewN | apply below_drew1 | refine below_set ?_ GE137.out) | exact HB.out)⟩
  · rw [if_neg c2] at H
    exact absurd H (by simp)
def four_mask.f (a0 : Int) (a1 : Int) : Option (Int) := if 0 ≤ a1 then (some (Go.bits .andNot .u32 a0 (shr .u32 4294967295 a1))) else (none)
set_option maxHeartbeats 8000000 in
set_option maxRecDepth 100000 in
theorem four_mask.calls (a0 : Int) (a1 : Int) (r : Int) (w : World) (h : four_mask.f a0 a1 = some r) :
    Calls Tryz.prog 32 #[.int .u32 a0, .int .i64 a1] w fun e w' => e = .returned (.int .u32 r) ∧ Drawn0 w w' := by
  have H : (if 0 ≤ a1 then (some (Go.bits .andNot .u32 a0 (shr .u32 4294967295 a1))) else (none)) = some r := h
  clear h
  by_cases c3 : 0 ≤ a1
  · rw [if_pos c3] at H
    have c3b0 := eq_true c3
    have c3b1 : decide (0 ≤ a1) = true := decide_eq_true c3
    clear c3
    obtain ⟨ji4, hji4⟩ : ∃ j_ : Int, (shr .u32 4294967295 a1) = j_ := ⟨_, rfl⟩
    replace H : (some (Go.bits .andNot .u32 a0 (ji4))) = some r := by first | (rw [hji4] at H; exact H) | (simp only [hji4] at H ⊢; exact H)
    have hji4_ : (4294967295 / 2 ^ min a1.toNat 32) = ji4 := hji4
    have hji4z : a1 ≤ 32 → (4294967295 / 2 ^ a1.toNat) = ji4 := shr_small hji4
    obtain rfl := Option.some.inj H
    go_enter Tryz.func32, Tryz.ntmps32
    go_wp2
    go_ret
    exact ⟨by first | rfl | (simp; done) | (simp only [← hji4] <;> (first | rfl | simp)) | (simp [*]; done), by repeat (first | exact Drawn0.refl _ | apply Drawn0.step)⟩
  · rw [if_neg c3] at H
    exact absurd H (by simp)
def four_is.f (a0_0 : Int) (a0_1 : Int) : Option (Bool) := if a0_1 ≥ 0 then (if a0_1 ≤ 32 then ((four_mask.f a0_0 a0_1).bind fun t173 => (some (t173 == a0_0))) else (some false)) else (some false)
set_option maxHeartbeats 8000000 in
set_option maxRecDepth 100000 in
theorem four_is.calls (a0_0 : Int) (a0_1 : Int) (r : Bool) (w : World) (h : four_is.f a0_0 a0_1 = some r) :
    Calls Tryz.prog 19 #[.agg #[.int .u32 a0_0, .int .i64 a0_1]] w fun e w' => e = .returned (.bool r) ∧ Below w.heap.size w w' := by
  have hu30 := Tryz.underlying30
  have HB := Aside0.mk (Below.refl w.heap.size w)
  have H : (if a0_1 ≥ 0 then (if a0_1 ≤ 32 then ((four_mask.f a0_0 a0_1).bind fun t173 => (some (t173 == a0_0))) else (some false)) else (some false)) = some r := h
  clear h
  by_cases c2 : a0_1 ≥ 0
  · rw [if_pos c2] at H
    have c2b0 : decide (0 ≤ a0_1) = true := decide_eq_true c2
    clear c2
    by_cases c3 : a0_1 ≤ 32
    · rw [if_pos c3] at H
      have c3b0 : decide (a0_1 ≤ 32) = true := decide_eq_true c3
      clear c3
      replace H := Option.bind_eq_some_iff.mp H
      obtain ⟨t173, A40, H⟩ := H
      replace H : (some (t173 == a0_0)) = some r := H
      have A4 := Aside0.mk A40
      clear A40
      obtain rfl := Option.some.inj H
      go_enter Tryz.func19, Tryz.ntmps19
      go_wp2_with (first | ((with_reducible refine gate_dst (N := 1) rfl ?_); refine box_event ?hg (N := 1) ?hd (cs := #[.int .u32 a0_0, .int .i64 a0_1]) (t := 30) ?hr ?_; (case hd => rfl); (case hg => rfl); (case hr => first | (go_simp; done) | (go_simp; rfl)); intro gb172 hg w5 hbox hb; have n0_ := Aside0.mk (below_step (by repeat (first | (with_reducible first | exact HB.out | apply below_alloc | apply pw_below_drewN | apply below_drew1) | exact HB.out)) hb); have n1_ := Aside0.mk (hbox); have n2_ := Aside0.mk ((by rw [hg]; exact (below_size (by repeat (first | (with_reducible first | exact HB.out | apply below_alloc | apply pw_below_drewN | apply below_drew1) | exact HB.out))) : w.heap.size ≤ gb172)); have n3_ := Aside0.mk ((by rw [hg]; exact (below_size (by repeat (first | (with_reducible first | exact HB.out | apply below_alloc | apply pw_below_drewN | apply below_drew1) | exact HB.out))) : w.heap.size ≤ gb172)); clear HB; have HB := n0_; have BK172 := n1_; have GW172 := n2_; have GE172 := n3_; clear n0_ n1_ n2_ n3_; clear hb hbox hg; have hcz6_0 : w5.cell? ⟨gb172, 0, none⟩ = some (.int .u32 a0_0) := (blk_cell BK172.out 0).trans rfl; have hcz6_1 : w5.cell? ⟨gb172, 1, none⟩ = some (.int .i64 a0_1) := (blk_cell BK172.out 1).trans rfl; have hfz6_0 := blk_frozen BK172.out 0; have hfz6_1 := blk_frozen BK172.out 1) | (go_at_call 32; (with_reducible refine (four_mask.calls a0_0 a0_1 t173 _ A4.out).mono ?_); rintro e w' ⟨rfl, ⟨nd, rfl⟩⟩; (try first | exact ⟨rfl, _, World.drewN_drewN _ _ _⟩ | exact ⟨rfl, _, Eq.trans (World.drewN_drewN _ _ _) (congrArg (World.drewN _) (Nat.add_assoc _ _ _))⟩)))
      repeat (go_quiet (first | ((with_reducible refine gate_dst (N := 1) rfl ?_); refine box_event ?hg (N := 1) ?hd (cs := #[.int .u32 a0_0, .int .i64 a0_1]) (t := 30) ?hr ?_; (case hd => rfl); (case hg => rfl); (case hr => first | (go_simp; done) | (go_simp; rfl)); intro gb172 hg w5 hbox hb; have n0_ := Aside0.mk (below_step (by repeat (first | (with_reducible first | exact HB.out | apply below_alloc | apply pw_below_drewN | apply below_drew1) | exact HB.out)) hb); have n1_ := Aside0.mk (hbox); have n2_ := Aside0.mk ((by rw [hg]; exact (below_size (by repeat (first | (with_reducible first | exact HB.out | apply below_alloc | apply pw_below_drewN | apply below_drew1) | exact HB.out))) : w.heap.size ≤ gb172)); have n3_ := Aside0.mk ((by rw [hg]; exact (below_size (by repeat (first | (with_reducible first | exact HB.out | apply below_alloc | apply pw_below_drewN | apply below_drew1) | exact HB.out))) : w.heap.size ≤ gb172)); clear HB; have HB := n0_; have BK172 := n1_; have GW172 := n2_; have GE172 := n3_; clear n0_ n1_ n2_ n3_; clear hb hbox hg; have hcz6_0 : w5.cell? ⟨gb172, 0, none⟩ = some (.int .u32 a0_0) := (blk_cell BK172.out 0).trans rfl; have hcz6_1 : w5.cell? ⟨gb172, 1, none⟩ = some (.int .i64 a0_1) := (blk_cell BK172.out 1).trans rfl; have hfz6_0 := blk_frozen BK172.out 0; have hfz6_1 := blk_frozen BK172.out 1) | (go_at_call 32; (with_reducible refine (four_mask.calls a0_0 a0_1 t173 _ A4.out).mono ?_); rintro e w' ⟨rfl, ⟨nd, rfl⟩⟩; (try first | exact ⟨rfl, _, World.drewN_drewN _ _ _⟩ | exact ⟨rfl, _, Eq.trans (World.drewN_drewN _ _ _) (congrArg (World.drewN _) (Nat.add_assoc _ _ _))⟩))); try go_wp2_with (first | ((with_reducible refine gate_dst (N := 1) rfl ?_); refine box_event ?hg (N := 1) ?hd (cs := #[.int .u32 a0_0, .int .i64 a0_1]) (t := 30) ?hr ?_; (case hd => rfl); (case hg => rfl); (case hr => first | (go_simp; done) | (go_simp; rfl)); intro gb172 hg w5 hbox hb; have n0_ := Aside0.mk (below_step (by repeat (first | (with_reducible first | exact HB.out | apply below_alloc | apply pw_below_drewN | apply below_drew1) | exact HB.out)) hb); have n1_ := Aside0.mk (hbox); have n2_ := Aside0.mk ((by rw [hg]; exact (below_size (by repeat (first | (with_reducible first | exact HB.out | apply below_alloc | apply pw_below_drewN | apply below_drew1) | exact HB.out))) : w.heap.size ≤ gb172)); have n3_ := Aside0.mk ((by rw [hg]; exact (below_size (by repeat (first | (with_reducible first | exact HB.out | apply below_alloc | apply pw_below_drewN | apply below_drew1) | exact HB.out))) : w.heap.size ≤ gb172)); clear HB; have HB := n0_; have BK172 := n1_; have GW172 := n2_; have GE172 := n3_; clear n0_ n1_ n2_ n3_; clear hb hbox hg; have hcz6_0 : w5.cell? ⟨gb172, 0, none⟩ = some (.int .u32 a0_0) := (blk_cell BK172.out 0).trans rfl; have hcz6_1 : w5.cell? ⟨gb172, 1, none⟩ = some (.int .i64 a0_1) := (blk_cell BK172.out 1).trans rfl; have hfz6_0 := blk_frozen BK172.out 0; have hfz6_1 := blk_frozen BK172.out 1) | (go_at_call 32; (with_reducible refine (four_mask.calls a0_0 a0_1 t173 _ A4.out).mono ?_); rintro e w' ⟨rfl, ⟨nd, rfl⟩⟩; (try first | exact ⟨rfl, _, World.drewN_drewN _ _ _⟩ | exact ⟨rfl, _, Eq.trans (World.drewN_drewN _ _ _) (congrArg (World.drewN _) (Nat.add_assoc _ _ _))⟩))))
      go_ret
      exact ⟨by first | rfl | (simp [errW_none, errW_some] <;> rfl) | (simp [*, errW_none, errW_some] <;> rfl), by repeat (first | (with_reducible first | exact HB.out | apply below_alloc | apply pw_below_drewN | apply below_drew1 | refine below_set ?_ GE172.out) | exact HB.out)⟩
    · rw [if_neg c3] at H
      have c3b0 : decide (a0_1 ≤ 32) = false := decide_eq_false c3
      clear c3
      obtain rfl := Option.some.inj H
      go_enter Tryz.func19, Tryz.ntmps19
      go_wp2_with (first | ((with_reducible refine gate_dst (N := 1) rfl ?_); refine box_event ?hg (N := 1) ?hd (cs := #[.int .u32 a0_0, .int .i64 a0_1]) (t := 30) ?hr ?_; (case hd => rfl); (case hg => rfl); (case hr => first | (go_simp; done) | (go_simp; rfl)); intro gb172 hg w7 hbox hb; have n0_ := Aside0.mk (below_step (by repeat (first | (with_reducible first | exact HB.out | apply below_alloc | apply pw_below_drewN | apply below_drew1) | exact HB.out)) hb); have n1_ := Aside0.mk (hbox); have n2_ := Aside0.mk ((by rw [hg]; exact (below_size (by repeat (first | (with_reducible first | exact HB.out | apply below_alloc | apply pw_below_drewN | apply below_drew1) | exact HB.out))) : w.heap.size ≤ gb172)); have n3_ := Aside0.mk ((by rw [hg]; exact (below_size (by repeat (first | (with_reducible first | exact HB.out | apply below_alloc | apply pw_below_drewN | apply below_drew1) | exact HB.out))) : w.heap.size ≤ gb172)); clear HB; have HB := n0_; have BK172 := n1_; have GW172 := n2_; have GE172 := n3_; clear n0_ n1_ n2_ n3_; clear hb hbox hg; have hcz8_0 : w7.cell? ⟨gb172, 0, none⟩ = some (.int .u32 a0_0) := (blk_cell BK172.out 0).trans rfl; have hcz8_1 : w7.cell? ⟨gb172, 1, none⟩ = some (.int .i64 a0_1) := (blk_cell BK172.out 1).trans rfl; have hfz8_0 := blk_frozen BK172.out 0; have hfz8_1 := blk_frozen BK172.out 1))
      repeat (go_quiet (first | ((with_reducible refine gate_dst (N := 1) rfl ?_); refine box_event ?hg (N := 1) ?hd (cs := #[.int .u32 a0_0, .int .i64 a0_1]) (t := 30) ?hr ?_; (case hd => rfl); (case hg => rfl); (case hr => first | (go_simp; done) | (go_simp; rfl)); intro gb172 hg w7 hbox hb; have n0_ := Aside0.mk (below_step (by repeat (first | (with_reducible first | exact HB.out | apply below_alloc | apply pw_below_drewN | apply below_drew1) | exact HB.out)) hb); have n1_ := Aside0.mk (hbox); have n2_ := Aside0.mk ((by rw [hg]; exact (below_size (by repeat (first | (with_reducible first | exact HB.out | apply below_alloc | apply pw_below_drewN | apply below_drew1) | exact HB.out))) : w.heap.size ≤ gb172)); have n3_ := Aside0.mk ((by rw [hg]; exact (below_size (by repeat (first | (with_reducible first | exact HB.out | apply below_alloc | apply pw_below_drewN | apply below_drew1) | exact HB.out))) : w.heap.size ≤ gb172)); clear HB; have HB := n0_; have BK172 := n1_; have GW172 := n2_; have GE172 := n3_; clear n0_ n1_ n2_ n3_; clear hb hbox hg; have hcz8_0 : w7.cell? ⟨gb172, 0, none⟩ = some (.int .u32 a0_0) := (blk_cell BK172.out 0).trans rfl; have hcz8_1 : w7.cell? ⟨gb172, 1, none⟩ = some (.int .i64 a0_1) := (blk_cell BK172.out 1).trans rfl; have hfz8_0 := blk_frozen BK172.out 0; have hfz8_1 := blk_frozen BK172.out 1)); try go_wp2_with (first | ((with_reducible refine gate_dst (N := 1) rfl ?_); refine box_event ?hg (N := 1) ?hd (cs := #[.int .u32 a0_0, .int .i64 a0_1]) (t := 30) ?hr ?_; (case hd => rfl); (case hg => rfl); (case hr => first | (go_simp; done) | (go_simp; rfl)); intro gb172 hg w7 hbox hb; have n0_ := Aside0.mk (below_step (by repeat (first | (with_reducible first | exact HB.out | apply below_alloc | apply pw_below_drewN | apply below_drew1) | exact HB.out)) hb); have n1_ := Aside0.mk (hbox); have n2_ := Aside0.mk ((by rw [hg]; exact (below_size (by repeat (first | (with_reducible first | exact HB.out | apply below_alloc | apply pw_below_drewN | apply below_drew1) | exact HB.out))) : w.heap.size ≤ gb172)); have n3_ := Aside0.mk ((by rw [hg]; exact (below_size (by repeat (first | (with_reducible first | exact HB.out | apply below_alloc | apply pw_below_drewN | apply below_drew1) | exact HB.out))) : w.heap.size ≤ gb172)); clear HB; have HB := n0_; have BK172 := n1_; have GW172 := n2_; have GE172 := n3_; clear n0_ n1_ n2_ n3_; clear hb hbox hg; have hcz8_0 : w7.cell? ⟨gb172, 0, none⟩ = some (.int .u32 a0_0) := (blk_cell BK172.out 0).trans rfl; have hcz8_1 : w7.cell? ⟨gb172, 1, none⟩ = some (.int .i64 a0_1) := (blk_cell BK172.out 1).trans rfl; have hfz8_0 := blk_frozen BK172.out 0; have hfz8_1 := blk_frozen BK172.out 1)))
      go_ret
      exact ⟨by first | rfl | (simp [errW_none, errW_some] <;> rfl) | (simp [*, errW_none, errW_some] <;> rfl), by repeat (first | (with_reducible first | exact HB.out | apply below_alloc | apply pw_below_drewN | apply below_drew1 | refine below_set ?_ GE172.out) | exact HB.out)⟩
  · rw [if_neg c2] at H
    have c2b0 : decide (0 ≤ a0_1) = false := decide_eq_false c2
    clear c2
    obtain rfl := Option.some.inj H
    go_enter Tryz.func19, Tryz.ntmps19
    go_wp2_with (first | ((with_reducible refine gate_dst (N := 1) rfl ?_); refine box_event ?hg (N := 1) ?hd (cs := #[.int .u32 a0_0, .int .i64 a0_1]) (t := 30) ?hr ?_; (case hd => rfl); (case hg => rfl); (case hr => first | (go_simp; done) | (go_simp; rfl)); intro gb172 hg w9 hbox hb; have n0_ := Aside0.mk (below_step (by repeat (first | (with_reducible first | exact HB.out | apply below_alloc | apply pw_below_drewN | apply below_drew1) | exact HB.out)) hb); have n1_ := Aside0.mk (hbox); have n2_ := Aside0.mk ((by rw [hg]; exact (below_size (by repeat (first | (with_reducible first | exact HB.out | apply below_alloc | apply pw_below_drewN | apply below_drew1) | exact HB.out))) : w.heap.size ≤ gb172)); have n3_ := Aside0.mk ((by rw [hg]; exact (below_size (by repeat (first | (with_reducible first | exact HB.out | apply below_alloc | apply pw_below_drewN | apply below_drew1) | exact HB.out))) : w.heap.size ≤ gb172)); clear HB; have HB := n0_; have BK172 := n1_; have GW172 := n2_; have GE172 := n3_; clear n0_ n1_ n2_ n3_; clear hb hbox hg; have hcz10_0 : w9.cell? ⟨gb172, 0, none⟩ = some (.int .u32 a0_0) := (blk_cell BK172.out 0).trans rfl; have hcz10_1 : w9.cell? ⟨gb172, 1, none⟩ = some (.int .i64 a0_1) := (blk_cell BK172.out 1).trans rfl; have hfz10_0 := blk_frozen BK172.out 0; have hfz10_1 := blk_frozen BK172.out 1))
    repeat (go_quiet (first | ((with_reducible refine gate_dst (N := 1) rfl ?_); refine box_event ?hg (N := 1) ?hd (cs := #[.int .u32 a0_0, .int .i64 a0_1]) (t := 30) ?hr ?_; (case hd => rfl); (case hg => rfl); (case hr => first | (go_simp; done) | (go_simp; rfl)); intro gb172 hg w9 hbox hb; have n0_ := Aside0.mk (below_step (by repeat (first | (with_reducible first | exact HB.out | apply below_alloc | apply pw_below_drewN | apply below_drew1) | exact HB.out)) hb); have n1_ := Aside0.mk (hbox); have n2_ := Aside0.mk ((by rw [hg]; exact (below_size (by repeat (first | (with_reducible first | exact HB.out | apply below_alloc | apply pw_below_drewN | apply below_drew1) | exact HB.out))) : w.heap.size ≤ gb172)); have n3_ := Aside0.mk ((by rw [hg]; exact (below_size (by repeat (first | (with_reducible first | exact HB.out | apply below_alloc | apply pw_below_drewN | apply below_drew1) | exact HB.out))) : w.heap.size ≤ gb172)); clear HB; have HB := n0_; have BK172 := n1_; have GW172 := n2_; have GE172 := n3_; clear n0_ n1_ n2_ n3_; clear hb hbox hg; have hcz10_0 : w9.cell? ⟨gb172, 0, none⟩ = some (.int .u32 a0_0) := (blk_cell BK172.out 0).trans rfl; have hcz10_1 : w9.cell? ⟨gb172, 1, none⟩ = some (.int .i64 a0_1) := (blk_cell BK172.out 1).trans rfl; have hfz10_0 := blk_frozen BK172.out 0; have hfz10_1 := blk_frozen BK172.out 1)); try go_wp2_with (first | ((with_reducible refine gate_dst (N := 1) rfl ?_); refine box_event ?hg (N := 1) ?hd (cs := #[.int .u32 a0_0, .int .i64 a0_1]) (t := 30) ?hr ?_; (case hd => rfl); (case hg => rfl); (case hr => first | (go_simp; done) | (go_simp; rfl)); intro gb172 hg w9 hbox hb; have n0_ := Aside0.mk (below_step (by repeat (first | (with_reducible first | exact HB.out | apply below_alloc | apply pw_below_drewN | apply below_drew1) | exact HB.out)) hb); have n1_ := Aside0.mk (hbox); have n2_ := Aside0.mk ((by rw [hg]; exact (below_size (by repeat (first | (with_reducible first | exact HB.out | apply below_alloc | apply pw_below_drewN | apply below_drew1) | exact HB.out))) : w.heap.size ≤ gb172)); have n3_ := Aside0.mk ((by rw [hg]; exact (below_size (by repeat (first | (with_reducible first | exact HB.out | apply below_alloc | apply pw_below_drewN | apply below_drew1) | exact HB.out))) : w.heap.size ≤ gb172)); clear HB; have HB := n0_; have BK172 := n1_; have GW172 := n2_; have GE172 := n3_; clear n0_ n1_ n2_ n3_; clear hb hbox hg; have hcz10_0 : w9.cell? ⟨gb172, 0, none⟩ = some (.int .u32 a0_0) := (blk_cell BK172.out 0).trans rfl; have hcz10_1 : w9.cell? ⟨gb172, 1, none⟩ = some (.int .i64 a0_1) := (blk_cell BK172.out 1).trans rfl; have hfz10_0 := blk_frozen BK172.out 0; have hfz10_1 := blk_frozen BK172.out 1)))
    go_ret
    exact ⟨by first | rfl | (simp [errW_none, errW_some] <;> rfl) | (simp [*, errW_none, errW_some] <;> rfl), by repeat (first | (with_reducible first | exact HB.out | apply below_alloc | apply pw_below_drewN | apply below_drew1 | refine below_set ?_ GE172.out) | exact HB.out)⟩
end Go.Proofs.YtgnahagnmodpdaaGreatDoor.X
/-! Ext -/
namespace Go.Proofs.YtgnahagnmodpdaaGreatDoor
open Go.RowKit
set_option linter.unusedVariables false
set_option linter.unusedSimpArgs false
theorem bdn {B : Nat} {w W : World} (h : Below B w W) (n : Nat) : Below B w (W.drewN n) := ⟨h.os, h.tape, h.output, h.size, h.block⟩
/-- What stands behind a call that let all stand that was there. -/
theorem after {W w1 : World} (hb : Below W.heap.size W w1) : (∀ b o, b < W.heap.size → w1.cell? ⟨b, o, none⟩ = W.cell? ⟨b, o, none⟩) ∧ (∀ b o, b < W.heap.size → w1.frozen? ⟨b, o, none⟩ = W.frozen? ⟨b, o, none⟩) ∧ W.heap.size ≤ w1.heap.size :=
  ⟨fun b o h => hb.cell (p := ⟨b, o, none⟩) h, fun b o h => hb.frozen (p := ⟨b, o, none⟩) h, hb.size⟩
/-- A world in which all that was in w0 is as it was. -/
structure Ext (w0 : World) where
  wd : World
  below : Below w0.heap.size w0 wd
instance (w0 : World) : Nonempty (Ext w0) := ⟨⟨w0, Below.refl _ _⟩⟩
@[go_sem] theorem Ext.cell {w0 : World} (x : Ext w0) {b o : Nat} (h : b < w0.heap.size) : x.wd.cell? ⟨b, o, none⟩ = w0.cell? ⟨b, o, none⟩ := x.below.cell (p := ⟨b, o, none⟩) h
theorem wp_region_ext {P : Program} {id : Nat} {Q : Exit → Act → World → Prop} {a : Act} {w : World} {l : List Oper} (hm : P.follows .mixedOrders = true) (hB : Region.lexB .any l.toArray = true)
    (h : wpQuiet P l.toArray (fun w' => ∃ x : Ext w, w' = x.wd) (fun a' => ∀ w', (∃ x : Ext w, w' = x.wd) → Q .normal a' w') l a) : (Code.region id l.toArray true).wp P Q a w :=
  wp_region_quiet (C := fun w' => ∃ x : Ext w, w' = x.wd) hm hB ⟨⟨_, (Below.refl _ w).drew⟩, rfl⟩ (by simpa using h)
/-- A callee's contract, met in a world that goes on from w. -/
theorem ext_of {P : Program} {f : FuncId} {args : Array Value} {w : World} {x : Ext w} {v : Value} (h : Calls P f args x.wd fun e w' => e = .returned v ∧ Below x.wd.heap.size x.wd w') :
    Calls P f args x.wd fun e w'' => e = .returned v ∧ ∃ y : Ext w, w'' = y.wd :=
  h.mono fun _ w' ⟨he, hb⟩ => ⟨he, ⟨w', x.below.trans (hb.mono x.below.size)⟩, rfl⟩
end Go.Proofs.YtgnahagnmodpdaaGreatDoor
/-! FourSo -/
namespace Go.Proofs.YtgnahagnmodpdaaGreatDoor
open Go.RowKit Go.Proofs.YtgnahagnmodpdaaGreatDoorW.PrintWords Go.Proofs.YtgnahagnmodpdaaGreatDoor.X Go.IntWalk Go.Lib Go.Sort
set_option linter.unusedVariables false
set_option linter.unusedSimpArgs false
/-- What four.is tells of a prefix. -/
def isB (x : S30) : Bool := (four_is.f x.f0 x.f1).getD false
theorem isB_f (x : S30) : four_is.f x.f0 x.f1 = some (isB x) := by
  unfold isB four_is.f four_mask.f
  by_cases h0 : x.f1 ≥ 0
  · rw [if_pos h0]
    by_cases h1 : x.f1 ≤ 32
    · rw [if_pos h1, if_pos h0]
      rfl
    · rw [if_neg h1]
      rfl
  · rw [if_neg h0]
    rfl
set_option maxRecDepth 100000 in
theorem join1_walk (x : S30) (w : World) : Calls Tryz.prog 18 #[.agg #[.int .u32 x.f0, .int .i64 x.f1]] w fun e w' => e = .returned (.bool (!isB x)) ∧ Below w.heap.size w w' := by
  have HI := Aside0.mk (fun w => four_is.calls x.f0 x.f1 (isB x) w (isB_f x))
  generalize isB x = r at HI ⊢
  go_enter Tryz.func18, Tryz.ntmps18
  go_wp2_with fail
  have B := Below.alloc (Below.refl w.heap.size w) (Nat.le_refl _) (.cells #[.int .u32 x.f0, .int .i64 x.f1] 30)
  refine (HI.out _).mono ?_
  rintro e w1 ⟨rfl, hb⟩
  replace B := below_step B hb
  clear hb
  go_wp2_with fail
  go_ret
  exact ⟨rfl, B⟩
set_option maxRecDepth 100000 in
theorem nanU32_walk (a : Int) (w : World) : Calls Tryz.prog 35 #[.int .u32 a] w fun e w' => e = .returned (.bool false) ∧ w' = w := by
  go_enter Tryz.func35, Tryz.ntmps35
  go_wp2_with fail
  go_ret
  exact ⟨by simp, rfl⟩
set_option maxRecDepth 100000 in
theorem cmpU32_walk (a b : Int) (w : World) : Calls Tryz.prog 23 #[.int .u32 a, .int .u32 b] w fun e w' => e = .returned (.int .i64 (Lib.compareInt a b)) ∧ w' = w := by
  have H1 := Aside0.mk (nanU32_walk a)
  have H2 := Aside0.mk (nanU32_walk b)
  unfold Lib.compareInt
  by_cases h1 : a < b
  · rw [if_pos h1]
    go_enter Tryz.func23, Tryz.ntmps23
    go_wp2_with (first | (go_at_call 35; refine (H1.out _).mono ?_; rintro e w' ⟨rfl, rfl⟩) | (go_at_call 35; refine (H2.out _).mono ?_; rintro e w' ⟨rfl, rfl⟩))
    go_ret
    exact ⟨rfl, rfl⟩
  · rw [if_neg h1]
    by_cases h2 : b < a
    · rw [if_pos h2]
      go_enter Tryz.func23, Tryz.ntmps23
      go_wp2_with (first | (go_at_call 35; refine (H1.out _).mono ?_; rintro e w' ⟨rfl, rfl⟩) | (go_at_call 35; refine (H2.out _).mono ?_; rintro e w' ⟨rfl, rfl⟩))
      go_ret
      exact ⟨rfl, rfl⟩
    · rw [if_neg h2]
      go_enter Tryz.func23, Tryz.ntmps23
      go_wp2_with (first | (go_at_call 35; refine (H1.out _).mono ?_; rintro e w' ⟨rfl, rfl⟩) | (go_at_call 35; refine (H2.out _).mono ?_; rintro e w' ⟨rfl, rfl⟩))
      go_ret
      exact ⟨rfl, rfl⟩
instance : Inhabited S30 := ⟨z30⟩
/-- A prefix's two cells. -/
def encB (x : S30) : List Value := [.int .u32 x.f0, .int .i64 x.f1]
set_option maxHeartbeats 1000000 in
set_option maxRecDepth 100000 in
theorem join2_walk (x y : S30) (W : World) : Calls Tryz.prog 22 #[.agg #[.int .u32 x.f0, .int .i64 x.f1], .agg #[.int .u32 y.f0, .int .i64 y.f1]] W fun e w' => e = .returned (.int .i64 (Lib.compareInt x.f0 y.f0)) ∧ ∃ q os', w' = grow (W.drewN q) os' := by
  have HC := Aside0.mk (cmpU32_walk x.f0 y.f0)
  generalize Lib.compareInt x.f0 y.f0 = r at HC ⊢
  go_enter Tryz.func22, Tryz.ntmps22
  go_wp2_with (go_at_call 23; refine (HC.out _).mono ?_; rintro e w' ⟨rfl, rfl⟩)
  go_ret
  exact ⟨rfl, 0, _, by rw [alloc_eq_grow, alloc_eq_grow, grow_grow]; rfl⟩
theorem join2_lays (blk off size : Nat) (w : World) : CmpLays Tryz.prog 22 #[] encB 2 (fun x y => Lib.compareInt x.f0 y.f0) blk off size w :=
  fun _ _ _ _ x y => join2_walk x y _
theorem ltLo (x y : S30) : ltOf (fun x y : S30 => Lib.compareInt x.f0 y.f0) x y = decide (x.f0 < y.f0) := by
  unfold ltOf Lib.compareInt
  by_cases h1 : x.f0 < y.f0
  · simp [h1]
  · by_cases h2 : y.f0 < x.f0 <;> simp [h1, h2]
theorem swoLo : SWO (ltOf fun x y : S30 => Lib.compareInt x.f0 y.f0) where
  irrefl x := by rw [ltLo]; simp
  trans x y z h1 h2 := by rw [ltLo] at *; simp at *; omega
  ntrans x y z h1 h2 := by rw [ltLo] at *; simp at *; omega
theorem eg1 : ∀ args w, (callFunc 18 args).run Tryz.prog w = .ok (.enter 18 args) w := enters_of Tryz.func18 (by kernel_rfl) rfl
theorem eg2 : ∀ args w, (callFunc 22 args).run Tryz.prog w = .ok (.enter 22 args) w := enters_of Tryz.func22 (by kernel_rfl) rfl
/-- slices.SortFunc by the addresses: the row holds the prefixes in order. -/
theorem c_sort (blk off cap : Nat) (d : Array S30) (w : World) (hH : HoldsK encB 2 w blk off d) (hblk : blk < w.heap.size) (hsz : d.size < 4611686018427387904) :
    Calls Tryz.prog 21 #[.slice (some ⟨blk, off, none⟩) d.size cap, .func (.func 22) #[] #[]] w fun e w' => e = .returned (.tuple #[]) ∧ ∃ d' n os, PermIn 0 d.size d d' ∧ SortedIn (ltOf fun x y : S30 => Lib.compareInt x.f0 y.f0) 0 d.size d' ∧ w' = sortWorldK encB 2 w blk off n d' os :=
  AnyQ.slices_SortFunc Tryz.soSort 2 Tryz.isAgg30 Tryz.sizeOf30 encB (fun _ => rfl) (fun x v hv => by simp [encB] at hv; rcases hv with rfl | rfl <;> rfl) (fun x y => Lib.compareInt x.f0 y.f0) swoLo 22 #[] blk off cap d w eg2 (join2_lays blk off d.size w) hH hblk hsz
theorem c_sort_none (cap : Nat) (fv : Value) (w : World) : Calls Tryz.prog 21 #[.slice none 0 cap, fv] w fun e w' => e = .returned (.tuple #[]) ∧ w' = w := by
  have h := AnyF.slices_SortFunc_none { Tryz.soSort with } none cap fv w
  exact h
set_option maxRecDepth 100000 in
theorem c_index_zero (A : Option Addr) (c : Nat) (fv : Value) (w : World) : Calls Tryz.prog 17 #[.slice A 0 c, fv] w fun e w' => e = .returned (.int .i64 (-1)) ∧ w' = w := by
  go_enter Tryz.func17, Tryz.ntmps17
  go_wp2_with fail
  refine wp_loop_rounds 1 ?_
  rw [rounds_succ]
  go_wp2_with fail
  go_ret
  exact ⟨rfl, rfl⟩
theorem c_index (b off c : Nat) (zs : List S30) (w : World) (hbig : zs.length ≤ 9223372036854775807) (hb : b < w.heap.size) (hc : ∀ j, j < zs.length → ∀ i v, (encB zs[j]!)[i]? = some v → w.cell? ⟨b, off + j * 2 + i, none⟩ = some v) :
    Calls Tryz.prog 17 #[.slice (some ⟨b, off, none⟩) zs.length c, .func (.func 18) #[] #[]] w fun e w' => e = .returned (.int .i64 (Lib.idxBy (fun _ y => !isB y) zs default)) ∧ Below w.heap.size w w' := by
  have h := AnyQ.slices_IndexFunc Tryz.soIndex 2 Tryz.isAgg30 Tryz.sizeOf30 encB (fun _ => rfl) (fun y => !isB y) 18 #[] eg1 b off zs.length c zs w (fun W x hB => (join1_walk x W).mono fun _ _ ⟨he, hw⟩ => ⟨he, below_step hB hw⟩) (Nat.le_refl _) hbig hb hc
  rw [List.take_length] at h
  exact h
theorem flat_len (zs : List S30) : (zs.flatMap encB).length = zs.length * 2 := by
  induction zs with
  | nil => rfl
  | cons x l ih =>
    rw [List.flatMap_cons, List.length_append, List.length_cons, ih]
    show 2 + l.length * 2 = _
    omega
theorem c_clone_nil (n c : Nat) (w : World) : Calls Tryz.prog 20 #[.slice none n c] w fun e w' => e = .returned (.slice none 0 0) ∧ w' = w :=
  AnyE.slices_Clone_nil Tryz.soClone n c w
end Go.Proofs.YtgnahagnmodpdaaGreatDoor
/-! JoinV -/
namespace Go.Proofs.YtgnahagnmodpdaaGreatDoor
set_option linter.unusedVariables false
set_option linter.unusedSimpArgs false
/-- Ranges, each behind the one before with room between. -/
def Sep : List (Int × Int) → Prop
  | [] => True
  | [r] => r.1 ≤ r.2
  | r :: s :: l => r.1 ≤ r.2 ∧ r.2 + 1 < s.1 ∧ Sep (s :: l)
/-- Lies a number in one of the ranges? -/
def inR (l : List (Int × Int)) (x : Int) : Prop := ∃ r ∈ l, r.1 ≤ x ∧ x ≤ r.2
theorem inR_nil (x : Int) : ¬ inR [] x := fun ⟨r, h, _⟩ => absurd h (by simp)
theorem inR_cons (r : Int × Int) (l : List (Int × Int)) (x : Int) : inR (r :: l) x ↔ (r.1 ≤ x ∧ x ≤ r.2) ∨ inR l x := by
  constructor
  · rintro ⟨s, hs, h⟩
    rcases List.mem_cons.1 hs with rfl | hs
    · exact .inl h
    · exact .inr ⟨s, hs, h⟩
  · rintro (h | ⟨s, hs, h⟩)
    · exact ⟨r, by simp, h⟩
    · exact ⟨s, by simp [hs], h⟩
theorem Sep.tail {r : Int × Int} {l : List (Int × Int)} (h : Sep (r :: l)) : Sep l := by
  cases l with
  | nil => trivial
  | cons s l => exact h.2.2
theorem Sep.head {r : Int × Int} {l : List (Int × Int)} (h : Sep (r :: l)) : r.1 ≤ r.2 := by
  cases l with
  | nil => exact h
  | cons s l => exact h.1
theorem Sep.above : ∀ {l : List (Int × Int)} {r : Int × Int}, Sep (r :: l) → ∀ s ∈ l, r.2 + 1 < s.1 ∧ s.1 ≤ s.2
  | [], r, h, s, hs => absurd hs (by simp)
  | t :: l, r, h, s, hs => by
    rcases List.mem_cons.1 hs with rfl | hs
    · exact ⟨h.2.1, h.2.2.head⟩
    · have := Sep.above h.2.2 s hs
      have := h.2.2.head
      have := h.2.1
      omega
theorem Sep.cons {r : Int × Int} {l : List (Int × Int)} (h0 : r.1 ≤ r.2) (h1 : ∀ s ∈ l, r.2 + 1 < s.1) (h2 : Sep l) : Sep (r :: l) := by
  cases l with
  | nil => exact h0
  | cons s l => exact ⟨h0, h1 s (by simp), h2⟩
theorem sep_unique : ∀ (l m : List (Int × Int)), Sep l → Sep m → (∀ x, inR l x ↔ inR m x) → l = m
  | [], [], _, _, _ => rfl
  | [], r :: m, _, hm, h => absurd ((h r.1).2 ((inR_cons r m r.1).2 (.inl ⟨Int.le_refl _, hm.head⟩))) (inR_nil _)
  | r :: l, [], hl, _, h => absurd ((h r.1).1 ((inR_cons r l r.1).2 (.inl ⟨Int.le_refl _, hl.head⟩))) (inR_nil _)
  | r :: l, s :: m, hl, hm, h => by
    have lr := hl.head
    have ls := hm.head
    have al := hl.above
    have am := hm.above
    have inl : ∀ x, inR l x → r.2 + 1 < x := fun x ⟨t, ht, h1, h2⟩ => by have := al t ht; omega
    have inm : ∀ x, inR m x → s.2 + 1 < x := fun x ⟨t, ht, h1, h2⟩ => by have := am t ht; omega
    have e1 : r.1 = s.1 := by
      have a := (h r.1).1 ((inR_cons r l r.1).2 (.inl ⟨Int.le_refl _, lr⟩))
      have b := (h s.1).2 ((inR_cons s m s.1).2 (.inl ⟨Int.le_refl _, ls⟩))
      rcases (inR_cons _ _ _).1 a with a | a <;> rcases (inR_cons _ _ _).1 b with b | b
      · omega
      · have := inl _ b; omega
      · have := inm _ a; omega
      · have := inl _ b; have := inm _ a; omega
    have e2 : r.2 = s.2 := by
      rcases Int.lt_trichotomy r.2 s.2 with hlt | heq | hgt
      · have b := (h (r.2 + 1)).2 ((inR_cons s m _).2 (.inl ⟨by omega, by omega⟩))
        rcases (inR_cons _ _ _).1 b with b | b
        · omega
        · have := inl _ b; omega
      · exact heq
      · have b := (h (s.2 + 1)).1 ((inR_cons r l _).2 (.inl ⟨by omega, by omega⟩))
        rcases (inR_cons _ _ _).1 b with b | b
        · omega
        · have := inm _ b; omega
    obtain rfl : r = s := Prod.ext e1 e2
    refine congrArg (r :: ·) (sep_unique l m hl.tail hm.tail fun x => ?_)
    have hx := h x
    rw [inR_cons, inR_cons] at hx
    constructor
    · intro g
      rcases hx.1 (.inr g) with k | k
      · have := inl x g; omega
      · exact k
    · intro g
      rcases hx.2 (.inr g) with k | k
      · have := inm x g; omega
      · exact k
/-- A sweep over ranges in order, one of them at hand. -/
def sweep (a b : Int) : List (Int × Int) → List (Int × Int)
  | [] => [(a, b)]
  | r :: l => if r.1 ≤ b + 1 then sweep a (max b r.2) l else (a, b) :: sweep r.1 r.2 l
/-- In order by their beginnings. -/
def Asc : List (Int × Int) → Prop := List.Pairwise fun r s => r.1 ≤ s.1
theorem sweep_in : ∀ (l : List (Int × Int)) (a b : Int), a ≤ b → (∀ r ∈ l, r.1 ≤ r.2 ∧ a ≤ r.1) → Asc l → ∀ x, inR (sweep a b l) x ↔ (a ≤ x ∧ x ≤ b) ∨ inR l x
  | [], a, b, hab, hl, ho, x => by
    rw [sweep, inR_cons]
  | r :: l, a, b, hab, hl, ho, x => by
    have hr := hl r (by simp)
    have ho' := List.pairwise_cons.1 ho
    rw [sweep, inR_cons r l]
    by_cases h : r.1 ≤ b + 1
    · rw [if_pos h, sweep_in l a (max b r.2) (by omega) (fun s hs => ⟨(hl s (by simp [hs])).1, (hl s (by simp [hs])).2⟩) ho'.2 x]
      constructor
      · rintro (g | g)
        · by_cases hb : x ≤ b
          · exact .inl ⟨g.1, hb⟩
          · exact .inr (.inl (by omega))
        · exact .inr (.inr g)
      · rintro (g | g | g)
        · exact .inl (by omega)
        · exact .inl (by omega)
        · exact .inr g
    · rw [if_neg h, inR_cons, sweep_in l r.1 r.2 hr.1 (fun s hs => ⟨(hl s (by simp [hs])).1, ho'.1 s hs⟩) ho'.2 x]
theorem sweep_head (l : List (Int × Int)) : ∀ (a b : Int), ∃ c m, sweep a b l = (a, c) :: m := by
  induction l with
  | nil => exact fun a b => ⟨b, [], rfl⟩
  | cons r l ih =>
    intro a b
    rw [sweep]
    split
    · exact ih a _
    · exact ⟨b, _, rfl⟩
theorem sweep_sep : ∀ (l : List (Int × Int)) (a b : Int), a ≤ b → (∀ r ∈ l, r.1 ≤ r.2 ∧ a ≤ r.1) → Asc l → Sep (sweep a b l)
  | [], a, b, hab, hl, ho => hab
  | r :: l, a, b, hab, hl, ho => by
    have hr := hl r (by simp)
    have ho' := List.pairwise_cons.1 ho
    rw [sweep]
    by_cases h : r.1 ≤ b + 1
    · rw [if_pos h]
      exact sweep_sep l a (max b r.2) (by omega) (fun s hs => ⟨(hl s (by simp [hs])).1, (hl s (by simp [hs])).2⟩) ho'.2
    · rw [if_neg h]
      have i := sweep_sep l r.1 r.2 hr.1 (fun s hs => ⟨(hl s (by simp [hs])).1, ho'.1 s hs⟩) ho'.2
      obtain ⟨c, m, e⟩ := sweep_head l r.1 r.2
      rw [e] at i ⊢
      exact ⟨hab, by show b + 1 < r.1; omega, i⟩
/-- Do two ranges touch? -/
def touch (a b : Int) (r : Int × Int) : Bool := decide (r.1 ≤ b + 1) && decide (a ≤ r.2 + 1)
/-- A range that takes in those that it touches, one after the other; the others. -/
def absorb : Nat → Int → Int → List (Int × Int) → (Int × Int) × List (Int × Int)
  | 0, a, b, l => ((a, b), l)
  | n + 1, a, b, l => match l.findIdx? (touch a b) with
    | none => ((a, b), l)
    | some i => absorb n (min a (l.getD i (0, 0)).1) (max b (l.getD i (0, 0)).2) (l.eraseIdx i)
theorem inR_erase {l : List (Int × Int)} {i : Nat} (h : i < l.length) (x : Int) : inR l x ↔ ((l.getD i (0, 0)).1 ≤ x ∧ x ≤ (l.getD i (0, 0)).2) ∨ inR (l.eraseIdx i) x := by
  have e : l = l.take i ++ l[i] :: l.drop (i + 1) := by simp
  have hg : l.getD i (0, 0) = l[i] := by simp [List.getD_eq_getElem?_getD, h]
  rw [hg, List.eraseIdx_eq_take_drop_succ]
  unfold inR
  constructor
  · rintro ⟨r, hr, h2⟩
    rw [e] at hr
    rcases List.mem_append.1 hr with hr | hr
    · exact .inr ⟨r, by simp [hr], h2⟩
    · rcases List.mem_cons.1 hr with rfl | hr
      · exact .inl h2
      · exact .inr ⟨r, by simp [hr], h2⟩
  · rintro (h2 | ⟨r, hr, h2⟩)
    · exact ⟨l[i], List.getElem_mem h, h2⟩
    · rcases List.mem_append.1 hr with hr | hr
      · exact ⟨r, List.mem_of_mem_take hr, h2⟩
      · exact ⟨r, List.mem_of_mem_drop hr, h2⟩
theorem Sep.sub {l m : List (Int × Int)} (h : Sep l) (s : m.Sublist l) : Sep m := by
  induction s with
  | slnil => trivial
  | cons a s ih => exact ih h.tail
  | cons_cons a s ih => exact Sep.cons h.head (fun r hr => (h.above r (s.subset hr)).1) (ih h.tail)
theorem absorb_ok : ∀ (n : Nat) (a b : Int) (l : List (Int × Int)), l.length ≤ n → a ≤ b → Sep l →
    let o := absorb n a b l
    o.1.1 ≤ o.1.2 ∧ Sep o.2 ∧ (∀ x, inR (o.1 :: o.2) x ↔ (a ≤ x ∧ x ≤ b) ∨ inR l x) ∧ ∀ r ∈ o.2, touch o.1.1 o.1.2 r = false
  | 0, a, b, l, hn, hab, hl => by
    obtain rfl : l = [] := List.eq_nil_of_length_eq_zero (by omega)
    exact ⟨hab, trivial, fun x => inR_cons _ _ _, fun r hr => absurd hr (by simp [absorb])⟩
  | n + 1, a, b, l, hn, hab, hl => by
    simp only [absorb]
    cases hf : l.findIdx? (touch a b) with
    | none =>
      refine ⟨hab, hl, fun x => inR_cons _ _ _, fun r hr => ?_⟩
      have := List.findIdx?_eq_none_iff.1 hf r hr
      exact this
    | some i =>
      obtain ⟨hi, ht, _⟩ := List.findIdx?_eq_some_iff_getElem.1 hf
      have hg : l.getD i (0, 0) = l[i] := by simp [List.getD_eq_getElem?_getD, hi]
      have hs : Sep [l[i]] := hl.sub (by simp)
      have hle : l[i].1 ≤ l[i].2 := hs
      unfold touch at ht
      simp only [Bool.and_eq_true, decide_eq_true_eq] at ht
      have k := absorb_ok n (min a l[i].1) (max b l[i].2) (l.eraseIdx i) (by rw [List.length_eraseIdx_of_lt hi]; omega) (by omega) (hl.sub (List.eraseIdx_sublist ..))
      simp only [hg]
      refine ⟨k.1, k.2.1, fun x => (k.2.2.1 x).trans ?_, k.2.2.2⟩
      rw [inR_erase hi x, hg]
      constructor
      · rintro (g | g)
        · by_cases h1 : a ≤ x ∧ x ≤ b
          · exact .inl h1
          · exact .inr (.inl (by omega))
        · exact .inr (.inr g)
      · rintro (g | g | g)
        · exact .inl (by omega)
        · exact .inl (by omega)
        · exact .inr g
/-- The same, without a count of rounds. -/
def absorbF (a b : Int) (l : List (Int × Int)) : (Int × Int) × List (Int × Int) := absorb l.length a b l
theorem absorbF_none {a b : Int} {l : List (Int × Int)} (h : l.findIdx? (touch a b) = none) : absorbF a b l = ((a, b), l) := by
  unfold absorbF
  cases hl : l.length with
  | zero => rfl
  | succ n =>
    rw [absorb, h]
theorem absorbF_some {a b : Int} {l : List (Int × Int)} {i : Nat} (h : l.findIdx? (touch a b) = some i) : absorbF a b l = absorbF (min a (l.getD i (0, 0)).1) (max b (l.getD i (0, 0)).2) (l.eraseIdx i) := by
  obtain ⟨hi, _, _⟩ := List.findIdx?_eq_some_iff_getElem.1 h
  unfold absorbF
  rw [List.length_eraseIdx_of_lt hi]
  cases hl : l.length with
  | zero => omega
  | succ n =>
    rw [absorb, h]
    rfl
/-- A range put in its place. -/
def insertR (r : Int × Int) (l : List (Int × Int)) : List (Int × Int) := l.takeWhile (fun s => decide (s.1 < r.1)) ++ r :: l.dropWhile (fun s => decide (s.1 < r.1))
theorem insertR_in (r : Int × Int) (l : List (Int × Int)) (x : Int) : inR (insertR r l) x ↔ inR (r :: l) x := by
  have e : ∀ s, s ∈ insertR r l ↔ s ∈ r :: l := by
    intro s
    unfold insertR
    rw [List.mem_append, List.mem_cons, List.mem_cons]
    have := List.takeWhile_append_dropWhile (p := fun s : Int × Int => decide (s.1 < r.1)) (l := l)
    constructor
    · rintro (h | h | h)
      · exact .inr (by rw [← this]; exact List.mem_append.2 (.inl h))
      · exact .inl h
      · exact .inr (by rw [← this]; exact List.mem_append.2 (.inr h))
    · rintro (h | h)
      · exact .inr (.inl h)
      · rw [← this] at h
        rcases List.mem_append.1 h with h | h
        · exact .inl h
        · exact .inr (.inr h)
  unfold inR
  constructor
  · rintro ⟨s, hs, h⟩
    exact ⟨s, (e s).1 hs, h⟩
  · rintro ⟨s, hs, h⟩
    exact ⟨s, (e s).2 hs, h⟩
theorem insertR_sep : ∀ (l : List (Int × Int)) (r : Int × Int), r.1 ≤ r.2 → Sep l → (∀ s ∈ l, touch r.1 r.2 s = false) → Sep (insertR r l)
  | [], r, hr, hl, ht => hr
  | s :: l, r, hr, hl, ht => by
    have h0 := ht s (by simp)
    have hs := hl.head
    unfold touch at h0
    simp only [Bool.and_eq_false_iff, decide_eq_false_iff_not] at h0
    by_cases h : s.1 < r.1
    · have i := insertR_sep l r hr hl.tail (fun t h => ht t (by simp [h]))
      have e : insertR r (s :: l) = s :: insertR r l := by
        unfold insertR
        rw [List.takeWhile_cons_of_pos (by simpa using h), List.dropWhile_cons_of_pos (by simpa using h)]
        rfl
      rw [e]
      refine Sep.cons hs (fun t h => ?_) i
      unfold insertR at h
      rcases List.mem_append.1 h with h | h
      · exact (hl.above t (List.takeWhile_sublist _ |>.subset h)).1
      · rcases List.mem_cons.1 h with rfl | h
        · omega
        · exact (hl.above t (List.dropWhile_sublist _ |>.subset h)).1
    · have e : insertR r (s :: l) = r :: s :: l := by
        unfold insertR
        rw [List.takeWhile_cons_of_neg (by simpa using h), List.dropWhile_cons_of_neg (by simpa using h)]
        rfl
      rw [e]
      refine Sep.cons hr (fun t h2 => ?_) hl
      rcases List.mem_cons.1 h2 with rfl | h2
      · omega
      · have := (hl.above t h2).1
        omega
/-- The document's ranges. -/
def joinR (acc : List (Int × Int)) : List (Int × Int) → List (Int × Int)
  | [] => acc
  | r :: l => let o := absorb acc.length r.1 r.2 acc
    joinR (insertR o.1 o.2) l
theorem joinR_ok : ∀ (l acc : List (Int × Int)), Sep acc → (∀ r ∈ l, r.1 ≤ r.2) → Sep (joinR acc l) ∧ ∀ x, inR (joinR acc l) x ↔ inR acc x ∨ inR l x
  | [], acc, ha, hl => ⟨ha, fun x => ⟨.inl, fun h => h.elim id fun h => absurd h (inR_nil x)⟩⟩
  | r :: l, acc, ha, hl => by
    have k := absorb_ok acc.length r.1 r.2 acc (Nat.le_refl _) (hl r (by simp)) ha
    have s := insertR_sep _ _ k.1 k.2.1 k.2.2.2
    have i := joinR_ok l (insertR (absorb acc.length r.1 r.2 acc).1 (absorb acc.length r.1 r.2 acc).2) s (fun t h => hl t (by simp [h]))
    refine ⟨i.1, fun x => (i.2 x).trans ?_⟩
    rw [insertR_in, k.2.2.1 x, inR_cons]
    constructor
    · rintro ((h | h) | h)
      · exact .inr (.inl h)
      · exact .inl h
      · exact .inr (.inr h)
    · rintro (h | h | h)
      · exact .inl (.inr h)
      · exact .inl (.inl h)
      · exact .inr h
/-- A sweep of what is sorted is what the document joins. -/
def sweepL : List (Int × Int) → List (Int × Int)
  | [] => []
  | r :: l => sweep r.1 r.2 l
theorem sweepL_ok : ∀ (l : List (Int × Int)), (∀ r ∈ l, r.1 ≤ r.2) → Asc l → Sep (sweepL l) ∧ ∀ x, inR (sweepL l) x ↔ inR l x
  | [], h, ho => ⟨trivial, fun x => Iff.rfl⟩
  | r :: l, h, ho => by
    have ho' := List.pairwise_cons.1 ho
    have hl : ∀ s ∈ l, s.1 ≤ s.2 ∧ r.1 ≤ s.1 := fun s hs => ⟨h s (by simp [hs]), ho'.1 s hs⟩
    refine ⟨sweep_sep l r.1 r.2 (h r (by simp)) hl ho'.2, fun x => ?_⟩
    rw [sweepL, sweep_in l r.1 r.2 (h r (by simp)) hl ho'.2 x, inR_cons]
theorem sweep_join (l m : List (Int × Int)) (h : ∀ r ∈ l, r.1 ≤ r.2) (ho : Asc m) (hp : m.Perm l) : sweepL m = joinR [] l := by
  have a := sweepL_ok m (fun r hr => h r (hp.subset hr)) ho
  have b := joinR_ok l [] trivial h
  refine sep_unique _ _ a.1 b.1 fun x => ?_
  rw [a.2 x, b.2 x]
  constructor
  · rintro ⟨r, hr, g⟩
    exact .inr ⟨r, hp.subset hr, g⟩
  · rintro (g | ⟨r, hr, g⟩)
    · exact absurd g (inR_nil x)
    · exact ⟨r, hp.symm.subset hr, g⟩
end Go.Proofs.YtgnahagnmodpdaaGreatDoor
/-! FourJn -/
namespace Go.Proofs.YtgnahagnmodpdaaGreatDoor
open Go.RowKit Go.Proofs.YtgnahagnmodpdaaGreatDoorW.PrintWords Go.Proofs.YtgnahagnmodpdaaGreatDoor.X Go.IntWalk Go.Lib Go.Sort
set_option linter.unusedVariables false
set_option linter.unusedSimpArgs false
theorem flat_get : ∀ (zs : List S30) (t : Nat), t < zs.length * 2 → (zs.flatMap encB)[t]? = some ((encB zs[t / 2]!)[t % 2]!)
  | [], t, h => absurd h (by simp)
  | x :: l, t, h => by
    rw [List.flatMap_cons]
    rcases Nat.lt_or_ge t 2 with h2 | h2
    · rw [List.getElem?_append_left (by show t < 2; exact h2)]
      obtain rfl | rfl : t = 0 ∨ t = 1 := by omega
      · rfl
      · rfl
    · rw [List.getElem?_append_right (by show 2 ≤ t; exact h2), flat_get l (t - (encB x).length) (by simp at h; show t - 2 < _; omega)]
      have e1 : t / 2 = (t - 2) / 2 + 1 := by omega
      have e2 : t % 2 = (t - 2) % 2 := by omega
      rw [e1, e2]
      rfl
theorem holdsK_own {w : World} {base : Nat} {e : TypeId} {v : Value} {n : Nat} {zs : List S30} (h : w.ownsRow base e 2 v n (zs.flatMap encB)) (hv : v ≠ .slice none 0 0) :
    ∃ g cap, v = .slice (some ⟨g, 0, none⟩) n cap ∧ base ≤ g ∧ g < w.heap.size ∧ n ≤ cap ∧ zs.length = n ∧ HoldsK encB 2 w g 0 zs.toArray := by
  have hl : zs.length = n := by
    have := h.1
    rw [flat_len] at this
    omega
  rcases h.2 with ⟨e0, _⟩ | ⟨g, cap, cur, rfl, hb, hg, hn, hm, hs, ht⟩
  · exact absurd e0 hv
  · have hlt : g < w.heap.size := by
      rcases Nat.lt_or_ge g w.heap.size with h' | h'
      · exact h'
      · rw [Array.getElem?_eq_none h'] at hg; cases hg
    refine ⟨g, cap, rfl, hb, hlt, hn, hl, fun j hj => ?_⟩
    have hj' : j < n * 2 := by
      rw [size_flatK] at hj
      simpa [hl] using hj
    refine ⟨?_, by simp [World.frozen?, hg]⟩
    have e1 : (cur.toList.take (n * 2))[j]? = (zs.flatMap encB)[j]? := by rw [ht]
    rw [List.getElem?_take, if_pos (by omega), Array.getElem?_toList, flat_get zs j (by omega)] at e1
    rw [get_flatK _ _ _ _ (by simpa [hl] using hj')]
    simp only [World.cell?, hg, Nat.zero_add]
    simp only [Option.isSome_none, Bool.false_eq_true, if_false]
    rw [e1]
    simp
/-- By their first addresses. -/
def AscS : List S30 → Prop := List.Pairwise fun x y => x.f0 ≤ y.f0
theorem sorted_post {w w1 : World} {g n : Nat} {l : List S30} {d' : Array S30} {q : Nat} {os : Array Obj} (hB : Below w.heap.size w w1) (hg : w.heap.size ≤ g) (hlt : g < w1.heap.size) (hl : l.length = n) (hn : n ≤ 9223372036854775807) (hH : HoldsK encB 2 w1 g 0 l.toArray)
    (hp : PermIn 0 l.toArray.size l.toArray d') (hs : SortedIn (ltOf fun x y : S30 => Lib.compareInt x.f0 y.f0) 0 l.toArray.size d') :
    Kd.C k30 (sortWorldK encB 2 w1 g 0 q d' os) (some ⟨g, 0, none⟩) n d'.toList ∧ Below w.heap.size w (sortWorldK encB 2 w1 g 0 q d' os) ∧ d'.toList.Perm l ∧ AscS d'.toList := by
  obtain ⟨p1, p2, p3⟩ := hp
  have hsz : d'.size = n := by simpa [hl] using p1
  have hK : HoldsK encB 2 (sortWorldK encB 2 w1 g 0 q d' os) g 0 d' := holdsK_sortWorldK encB 2 w1 g 0 q l.toArray d' os hlt hH (by simpa using p1)
  refine ⟨⟨by simpa using hsz, hn, fun _ => ⟨⟨g, 0, none⟩, rfl, fun j p hj => ?_⟩⟩, ?_, ?_, ?_⟩
  · have hjs : j < d'.size := by
      rcases Nat.lt_or_ge j d'.size with h | h
      · exact h
      · rw [List.getElem?_eq_none (by simpa using h)] at hj; cases hj
    have hp : p = d'[j]! := by
      rw [Array.getElem?_toList, Array.getElem?_eq_getElem hjs] at hj
      rw [getElem!_pos d' j hjs]
      exact (Option.some.inj hj).symm
    subst hp
    refine ⟨encB d'[j]!, rfl, k30_mk _ _, fun i u hi => ?_⟩
    have hi2 : i < 2 := by
      rcases Nat.lt_or_ge i 2 with h | h
      · exact h
      · rw [List.getElem?_eq_none (by show 2 ≤ i; exact h)] at hi; cases hi
    have := hK.cell (i := j) (c := i) hjs hi2
    have e : (encB d'[j]!)[i]! = u := List.getElem!_of_getElem? hi
    rw [e] at this
    rw [Addr.add_lit, show k30.sz = 2 from rfl, ← Nat.add_assoc]
    exact this.1
  · have h1 := Lib.below_putRow (enc := id) (q := q) (d := flatK encB 2 d') hB hg
    refine h1.trans ⟨rfl, rfl, rfl, ?_, fun k hk => ?_⟩
    · show _ ≤ (_ ++ os).size
      rw [Array.size_append]
      exact Nat.le_add_right _ _
    · have hsz2 := h1.size
      exact Array.getElem?_append_left (Nat.lt_of_lt_of_le hk hsz2)
  · rw [show d' = d'.extract 0 l.toArray.size by rw [← p1, Array.extract_size]]
    refine p3.trans ?_
    rw [Array.extract_size]
  · rw [AscS, List.pairwise_iff_getElem]
    intro i j hi hj hij
    have hj2 : j < d'.size := by simpa using hj
    have h := hs i j (Nat.zero_le _) hij (by rw [← p1]; exact hj2)
    rw [ltLo, getElem!_pos d' j hj2, getElem!_pos d' i (by omega)] at h
    have := of_decide_eq_false h
    simp only [Array.getElem_toList]
    omega
end Go.Proofs.YtgnahagnmodpdaaGreatDoor
/-! CovV -/
namespace Go.Proofs.YtgnahagnmodpdaaGreatDoor
open Go
set_option linter.unusedVariables false
set_option linter.unusedSimpArgs false
/-- How wide a prefix that begins at a may be, as a power of two. -/
def stepS (a e : Nat) : Nat := min (Lib.ctz 64 (a + 4294967296)) (Lib.bitLen (e - a + 1) - 1)
theorem stepS_ok (a e : Nat) (h : a ≤ e) (he : e < 4294967296) : stepS a e ≤ 32 ∧ 2 ^ stepS a e ∣ a ∧ a + 2 ^ stepS a e ≤ e + 1 ∧ (stepS a e < 32 → 2 ^ (stepS a e + 1) ∣ a → e + 1 < a + 2 ^ (stepS a e + 1)) := by
  have p64 : (2 : Nat) ^ 64 = 18446744073709551616 := by decide
  have hx0 : a + 4294967296 ≠ 0 := by omega
  obtain ⟨m, hm, hc⟩ := Lib.ctzFrom_spec 64 (a + 4294967296) (by omega) (by rw [p64]; omega)
  have hctz : Lib.ctz 64 (a + 4294967296) = Lib.ctzFrom 64 (a + 4294967296) := if_neg hx0
  obtain ⟨b1, b2, b3⟩ := Lib.bitLenAux_bounds 64 (e - a + 1) (by rw [p64]; omega) (by omega)
  unfold stepS Lib.bitLen
  rw [hctz]
  generalize Lib.ctzFrom 64 (a + 4294967296) = c at *
  generalize Lib.bitLenAux 64 (e - a + 1) = L at *
  have hc32 : c ≤ 32 := by
    apply Nat.le_of_not_lt
    intro hlt
    have h1 : 2 ^ 33 ≤ 2 ^ c := Nat.pow_le_pow_right (by decide) hlt
    have h2 : 2 ^ c ≤ a + 4294967296 := by rw [hm]; exact Nat.le_mul_of_pos_right _ (by omega)
    have h3 : (2 : Nat) ^ 33 = 8589934592 := by decide
    omega
  have dx : 2 ^ c ∣ a + 4294967296 := ⟨2 * m + 1, hm⟩
  have d32 : ∀ k, k ≤ 32 → 2 ^ k ∣ 4294967296 := fun k hk => Nat.pow_dvd_pow 2 hk
  have da : 2 ^ c ∣ a := (Nat.dvd_add_left (d32 c hc32)).1 dx
  have hs1 : min c (L - 1) ≤ c := Nat.min_le_left _ _
  have hs2 : min c (L - 1) ≤ L - 1 := Nat.min_le_right _ _
  refine ⟨by omega, Nat.dvd_trans (Nat.pow_dvd_pow 2 hs1) da, ?_, ?_⟩
  · have := Nat.pow_le_pow_right (n := 2) (by decide) hs2
    omega
  · intro hlt hd
    rcases Nat.lt_or_ge c (L - 1) with hcl | hcl
    · exfalso
      rw [Nat.min_eq_left (by omega)] at hd hlt
      have h1 : 2 ^ (c + 1) ∣ a + 4294967296 := Nat.dvd_add hd (d32 _ (by omega))
      rw [hm, Nat.pow_succ] at h1
      have h2 : 2 ∣ 2 * m + 1 := Nat.dvd_of_mul_dvd_mul_left (Nat.two_pow_pos c) h1
      omega
    · rw [Nat.min_eq_right hcl, show L - 1 + 1 = L by omega]
      omega
/-- The fewest prefixes: where each begins and how many bits it keeps. -/
def covN : Nat → Nat → Nat → List (Nat × Nat)
  | 0, a, e => []
  | m + 1, a, e => if a ≤ e then (a, 32 - stepS a e) :: covN m (a + 2 ^ stepS a e) e else []
def covL (a e : Nat) : List (Nat × Nat) := covN (e + 1 - a) a e
theorem covN_fuel : ∀ (m k a e : Nat), e + 1 - a ≤ m → e + 1 - a ≤ k → covN m a e = covN k a e
  | 0, 0, a, e, hm, hk => rfl
  | 0, k + 1, a, e, hm, hk => by rw [covN, covN, if_neg (by omega)]
  | m + 1, 0, a, e, hm, hk => by rw [covN, covN, if_neg (by omega)]
  | m + 1, k + 1, a, e, hm, hk => by
    rw [covN, covN]
    by_cases h : a ≤ e
    · have := Nat.two_pow_pos (stepS a e)
      rw [if_pos h, if_pos h, covN_fuel m k _ e (by omega) (by omega)]
    · rw [if_neg h, if_neg h]
theorem covL_lt {a e : Nat} (h : ¬ a ≤ e) : covL a e = [] := by
  unfold covL
  rw [show e + 1 - a = 0 by omega]
  rfl
theorem covL_le {a e : Nat} (h : a ≤ e) : covL a e = (a, 32 - stepS a e) :: covL (a + 2 ^ stepS a e) e := by
  unfold covL
  have := Nat.two_pow_pos (stepS a e)
  obtain ⟨m, hm⟩ : ∃ m, e + 1 - a = m + 1 := ⟨e - a, by omega⟩
  rw [hm, covN, if_pos h, covN_fuel m _ _ e (by omega) (Nat.le_refl _)]
/-- A law of such a list, step by step. -/
theorem cov_ind {e : Nat} (he : e < 4294967296) (P : Nat → Prop) (h0 : ∀ a, e < a → P a) (h1 : ∀ a, a ≤ e → P (a + 2 ^ stepS a e) → P a) : ∀ a, P a := by
  have key : ∀ m a, e + 1 - a ≤ m → P a := by
    intro m
    induction m with
    | zero => exact fun a h => h0 a (by omega)
    | succ m ih =>
      intro a h
      by_cases hle : a ≤ e
      · have := Nat.two_pow_pos (stepS a e)
        exact h1 a hle (ih _ (by omega))
      · exact h0 a (by omega)
  exact fun a => key _ a (Nat.le_refl _)
/-- A prefix's width. -/
def wid (b : Nat) : Nat := 2 ^ (32 - b)
/-- How many of the prefixes hold an address. -/
def many (l : List (Nat × Nat)) (n : Nat) : Nat := l.countP fun x => decide (x.1 ≤ n) && decide (n < x.1 + wid x.2)
/-- What is joined, as prefixes. -/
def covR (l : List (Int × Int)) : List (Nat × Nat) := l.flatMap fun r => covL r.1.toNat r.2.toNat
/-- What is joined lies where what it is joined of lies. -/
theorem joinR_bound (l : List (Int × Int)) (hl : ∀ r ∈ l, r.1 ≤ r.2) (hb : ∀ r ∈ l, 0 ≤ r.1 ∧ r.2 < 4294967296) : ∀ r ∈ joinR [] l, 0 ≤ r.1 ∧ r.2 < 4294967296 := by
  have j := joinR_ok l [] trivial hl
  intro r hr
  have hs : r.1 ≤ r.2 := (j.1.sub (List.singleton_sublist.2 hr) : Sep [r])
  have a := (j.2 r.1).1 ⟨r, hr, Int.le_refl _, hs⟩
  have b := (j.2 r.2).1 ⟨r, hr, hs, Int.le_refl _⟩
  rcases a with a | ⟨s, hs1, a1, a2⟩
  · exact absurd a (inR_nil _)
  · rcases b with b | ⟨t, ht1, b1, b2⟩
    · exact absurd b (inR_nil _)
    · have := hb s hs1
      have := hb t ht1
      omega
end Go.Proofs.YtgnahagnmodpdaaGreatDoor
/-! FourMask -/
namespace Go.Proofs.YtgnahagnmodpdaaGreatDoor
open Go.RowKit Go.Proofs.YtgnahagnmodpdaaGreatDoorW.PrintWords Go.Proofs.YtgnahagnmodpdaaGreatDoor.X Go.IntWalk
set_option linter.unusedVariables false
set_option linter.unusedSimpArgs false
/-- How many addresses a prefix of so many bits has. -/
def sizeV (b : Int) : Int := 2 ^ (32 - b).toNat
theorem sizeV_succ {b : Int} (h : b < 32) : sizeV b = 2 * sizeV (b + 1) := by
  unfold sizeV
  rw [show (32 - b).toNat = (32 - (b + 1)).toNat + 1 by omega, Int.pow_succ]
  omega
theorem sizeV_bd {b : Int} (h0 : 0 ≤ b) (h1 : b ≤ 32) : 1 ≤ sizeV b ∧ sizeV b ≤ 4294967296 := by
  unfold sizeV
  have h : ∀ k : Fin 33, 1 ≤ (2 : Int) ^ k.val ∧ (2 : Int) ^ k.val ≤ 4294967296 := by decide
  exact h ⟨(32 - b).toNat, by omega⟩
theorem size_loop : ∀ (m : Nat) (i n : Int), (32 - i).toNat = m → 0 ≤ i → i ≤ 32 → 0 ≤ n → n * sizeV i ≤ 4294967296 → Ev (fun k => posternref20_size.l0 k n i) (n * sizeV i)
  | 0, i, n, hm, h0, h1, hn, hb => by
    obtain rfl : i = 32 := by omega
    refine Ev.step (f := fun k => some n) (fun k => ?_) ?_
    · simp only [posternref20_size.l0]
      rw [if_neg (by omega)]
    · rw [show sizeV 32 = 1 by decide, Int.mul_one]
      exact Ev.now _
  | m + 1, i, n, hm, h0, h1, hn, hb => by
    have hs := sizeV_succ (show i < 32 by omega)
    have hbd := sizeV_bd (b := i + 1) (by omega) (by omega)
    have e : n * sizeV i = n * 2 * sizeV (i + 1) := by rw [hs, Int.mul_assoc]
    have hn2 : n * 2 ≤ 4294967296 := by
      have := Int.mul_le_mul_of_nonneg_left hbd.1 (show 0 ≤ n * 2 by omega)
      omega
    rw [e] at hb ⊢
    refine Ev.step (f := fun k => posternref20_size.l0 k (n * 2) (i + 1)) (fun k => ?_) (size_loop m (i + 1) (n * 2) (by omega) (by omega) (by omega) (by omega) hb)
    simp only [posternref20_size.l0]
    rw [if_pos (by omega), wrap64_in (i + 1) (by omega)]
    congr 1
    simp [IntKind.wrap, IntKind.signed, IntKind.bits]
    omega
theorem size_ev {b : Int} (h0 : 0 ≤ b) (h1 : b ≤ 32) : Ev (fun k => posternref20_size.f k b) (sizeV b) := by
  have hbd := sizeV_bd h0 h1
  have := size_loop _ b 1 rfl h0 h1 (by decide) (by rw [Int.one_mul]; exact hbd.2)
  rw [Int.one_mul] at this
  exact Ev.congr (fun k => rfl) this
theorem size_calls (b : Int) (h0 : 0 ≤ b) (h1 : b ≤ 32) (w : World) : Calls Tryz.prog 16 #[.int .i64 b] w fun e w' => e = .returned (.int .u64 (sizeV b)) ∧ ∃ n, w' = w.drewN n := by
  obtain ⟨k, h⟩ := (size_ev h0 h1).rounds
  exact (posternref20_size.calls k b _ w h).mono fun e w' ⟨he, hd⟩ => ⟨he, hd.out⟩
/-- The first bits of an address. -/
def maskV (n b : Int) : Int × Int := if 0 ≤ b ∧ b ≤ 32 then (n / sizeV b * sizeV b, 0) else (0, 204)
set_option maxHeartbeats 1000000 in
set_option maxRecDepth 100000 in
theorem refMask_walk (n b : Int) (hn0 : 0 ≤ n) (hn1 : n ≤ 4294967295) (w : World) : Calls Tryz.prog 36 #[.int .u32 n, .int .i64 b] w fun e w' => e = .returned (.tuple #[.int .u32 (maskV n b).1, .int .i64 (maskV n b).2]) ∧ Drawn0 w w' := by
  by_cases hb : 0 ≤ b ∧ b ≤ 32
  · rw [show maskV n b = (n / sizeV b * sizeV b, 0) from if_pos hb]
    obtain ⟨h0, h1⟩ := hb
    have hs := size_calls b h0 h1
    have hbd := sizeV_bd h0 h1
    obtain ⟨z, hz⟩ : ∃ z, z = sizeV b := ⟨_, rfl⟩
    rw [← hz] at hs hbd ⊢
    obtain ⟨z0, z1⟩ := hbd
    have HS := Aside0.mk hs
    clear hs hz
    go_enter Tryz.func36, Tryz.ntmps36
    go_wp2_with fail
    go_quiet ((go_at_call 16; exact Calls.quiet_of (HS.out _)))
    all_goals go_wp2
    go_ret2
    have hq0 : 0 ≤ n / z * z := Int.mul_nonneg (Int.ediv_nonneg hn0 (by omega)) (by omega)
    have hq1 : n / z * z ≤ n := Int.ediv_mul_le n (by omega)
    have e : IntKind.u64.wrap (n / z * z) % 4294967296 = n / z * z := by simp [IntKind.wrap, IntKind.signed, IntKind.bits]; omega
    rw [e]
    exact ⟨rfl, ⟨nq, rfl⟩⟩
  · rw [show maskV n b = (0, 204) from if_neg hb]
    by_cases h0 : b < 0
    · clear hb
      go_enter Tryz.func36, Tryz.ntmps36
      go_wp2_with fail
      go_ret2
      exact ⟨rfl, Drawn0.refl _⟩
    · have h1 : 32 < b := by omega
      clear hb
      go_enter Tryz.func36, Tryz.ntmps36
      go_wp2_with fail
      go_ret2
      exact ⟨rfl, Drawn0.refl _⟩
def posternref20_Mask.f (a0 a1 : Int) : Option (Int × Int) := if 0 ≤ a0 ∧ a0 ≤ 4294967295 then some (maskV a0 a1) else none
theorem posternref20_Mask.calls (a0 a1 : Int) (r1 r2 : Int) (w : World) (h : posternref20_Mask.f a0 a1 = some (r1, r2)) :
    Calls Tryz.prog 36 #[.int .u32 a0, .int .i64 a1] w fun e w' => e = .returned (.tuple #[.int .u32 r1, .int .i64 r2]) ∧ Drawn0 w w' := by
  unfold posternref20_Mask.f at h
  by_cases hs : 0 ≤ a0 ∧ a0 ≤ 4294967295
  · rw [if_pos hs] at h
    have h := Option.some.inj h
    have hw := refMask_walk a0 a1 hs.1 hs.2 w
    rw [h] at hw
    exact hw
  · rw [if_neg hs] at h
    cases h
end Go.Proofs.YtgnahagnmodpdaaGreatDoor
/-! FourBitsA -/
namespace Go.Proofs.YtgnahagnmodpdaaGreatDoor
open Go.RowKit Go.Proofs.YtgnahagnmodpdaaGreatDoorW.PrintWords Go.Proofs.YtgnahagnmodpdaaGreatDoor.X Go.IntWalk
set_option linter.unusedVariables false
set_option linter.unusedSimpArgs false
theorem nat_and_hi (a t : Nat) (ha : a < 4294967296) (ht : t ≤ 32) : a &&& (4294967295 - (2 ^ t - 1)) = a - a % 2 ^ t := by
  have e : a - a % 2 ^ t = 2 ^ t * (a / 2 ^ t) := by have := Nat.div_add_mod a (2 ^ t); omega
  rw [e]
  apply Nat.eq_of_testBit_eq
  intro i
  have hp : 2 ^ t ≤ 4294967296 := by have := Nat.pow_le_pow_right (n := 2) (by omega) ht; simpa using this
  have hq : 0 < 2 ^ t := Nat.two_pow_pos t
  have e2 : 4294967295 - (2 ^ t - 1) = 2 ^ 32 - ((2 ^ t - 1) + 1) := by omega
  rw [Nat.testBit_and, e2, Nat.testBit_two_pow_sub_succ (by omega), Nat.testBit_two_pow_mul, Nat.testBit_div_two_pow, Nat.testBit_two_pow_sub_one]
  by_cases hi : t ≤ i
  · have h1 : ¬ i < t := by omega
    rw [show i - t + t = i from by omega]
    by_cases h16 : i < 32
    · simp [hi, h1, h16]
    · have hz : a.testBit i = false := Nat.testBit_lt_two_pow (Nat.lt_of_lt_of_le ha (by have := Nat.pow_le_pow_right (n := 2) (by omega) (show 32 ≤ i by omega); simpa using this))
      simp [hz]
  · have h1 : i < t := by omega
    have h2 : ¬ i ≥ t := by omega
    simp [h1, h2]
theorem shr_all {b : Int} (h0 : 0 ≤ b) (h1 : b ≤ 32) : shr .u32 4294967295 b = ((2 ^ (32 - b).toNat - 1 : Nat) : Int) := by
  have h : ∀ k : Fin 33, shr .u32 4294967295 (k.val : Int) = ((2 ^ (32 - (k.val : Int)).toNat - 1 : Nat) : Int) := by decide +kernel
  have := h ⟨b.toNat, by omega⟩
  simp only [Int.toNat_of_nonneg h0] at this
  exact this
theorem mask_f (n b : Int) (hn0 : 0 ≤ n) (hn1 : n ≤ 4294967295) (h0 : 0 ≤ b) (h1 : b ≤ 32) : four_mask.f n b = some (n / sizeV b * sizeV b) := by
  unfold four_mask.f
  rw [if_pos h0, shr_all h0 h1]
  obtain ⟨a, rfl⟩ := Int.eq_ofNat_of_zero_le hn0
  have ht : (32 - b).toNat ≤ 32 := by omega
  have es : sizeV b = ((2 ^ (32 - b).toNat : Nat) : Int) := by unfold sizeV; simp
  have hp : 2 ^ (32 - b).toNat ≤ 4294967296 := by have := Nat.pow_le_pow_right (n := 2) (by omega) ht; simpa using this
  rw [es]
  generalize (32 - b).toNat = t at *
  have hq : 0 < 2 ^ t := Nat.two_pow_pos t
  rw [u32_andNot _ _ (by omega) (by omega) (by omega) (by omega), Int.toNat_natCast, Int.toNat_natCast, nat_and_hi a t (by omega) ht]
  have hd := Nat.div_add_mod a (2 ^ t)
  rw [Nat.mul_comm] at hd
  rw [← Int.natCast_ediv, ← Int.natCast_mul, show a - a % 2 ^ t = a / 2 ^ t * 2 ^ t by omega]
/-- Is the prefix one? -/
def isV (n b : Int) : Bool := decide (0 ≤ b) && (decide (b ≤ 32) && (n / sizeV b * sizeV b == n))
theorem is_f (n b : Int) (hn0 : 0 ≤ n) (hn1 : n ≤ 4294967295) : four_is.f n b = some (isV n b) := by
  unfold four_is.f isV
  by_cases h0 : b ≥ 0
  · rw [if_pos h0, decide_eq_true (show 0 ≤ b from h0), Bool.true_and]
    by_cases h1 : b ≤ 32
    · rw [if_pos h1, decide_eq_true h1, Bool.true_and, mask_f n b hn0 hn1 h0 h1]
      rfl
    · rw [if_neg h1, decide_eq_false h1, Bool.false_and]
  · rw [if_neg h0, decide_eq_false (show ¬ 0 ≤ b from h0), Bool.false_and]
end Go.Proofs.YtgnahagnmodpdaaGreatDoor
/-! FourCov -/
namespace Go.Proofs.YtgnahagnmodpdaaGreatDoor
open Go.RowKit Go.Proofs.YtgnahagnmodpdaaGreatDoorW.PrintWords Go.Proofs.YtgnahagnmodpdaaGreatDoor.X Go.IntWalk
set_option linter.unusedVariables false
set_option linter.unusedSimpArgs false
/-- A prefix as the program has it. -/
def toS (x : Nat × Nat) : S30 := ⟨(x.1 : Int), (x.2 : Int)⟩
def covS (a e : Int) : List S30 := (covL a.toNat e.toNat).map toS
theorem cov_len {e : Nat} (he : e < 4294967296) : ∀ a, (covL a e).length ≤ e + 1 - a := by
  refine cov_ind he _ (fun a h => ?_) (fun a h ih => ?_)
  · rw [covL_lt (by omega)]
    exact Nat.zero_le _
  · have := Nat.two_pow_pos (stepS a e)
    rw [covL_le h, List.length_cons]
    omega
theorem wu64c (x : Int) (a : 0 ≤ x) (b : x < 18446744073709551616) : IntKind.u64.wrap x = x := by simp [IntKind.wrap, IntKind.signed, IntKind.bits]; omega
theorem or_top (a : Nat) (ha : a < 4294967296) : Go.bits .or .u64 (a : Int) 4294967296 = ((a + 4294967296 : Nat) : Int) := by
  have h := u64_or_nat a 4294967296 (by omega) (by omega)
  have e : a ||| 4294967296 = a + 4294967296 := by
    have := Nat.two_pow_add_eq_or_of_lt (i := 32) (b := a) (show a < 2 ^ 32 from ha) 1
    rw [Nat.or_comm]
    rw [Nat.mul_one] at this
    rw [show (4294967296 : Nat) = 2 ^ 32 from rfl, ← this, Nat.add_comm]
  rw [e] at h
  exact h
theorem mn_min (c L : Nat) (h1 : 1 ≤ L) (h2 : L ≤ 64) : mn (c : Int) (wrap64 ((L : Int) - 1)) = ((min c (L - 1) : Nat) : Int) := by
  rw [wrap64_in _ (by omega)]
  unfold mn
  split <;> omega
theorem shl_one : ∀ s : Fin 33, shl .u64 1 (s.val : Int) = ((2 ^ s.val : Nat) : Int) := by decide +kernel
theorem cover_l0 {e : Nat} (he : e < 4294967296) : ∀ (m a : Nat) (acc : List S30), e + 1 - a ≤ m → a ≤ e + 1 → acc.length ≤ a → Ev (fun k => four_Cover.l0 k acc (a : Int) (e : Int)) (acc ++ (covL a e).map toS)
  | 0, a, acc, hm, ha, hl => by
    rw [covL_lt (by omega)]
    refine Ev.step (f := fun k => some (acc ++ [].map toS)) (fun k => ?_) (Ev.now _)
    simp only [four_Cover.l0]
    rw [if_neg (by omega), List.map_nil, List.append_nil]
  | m + 1, a, acc, hm, ha, hl => by
    by_cases h : a ≤ e
    · obtain ⟨s1, s2, s3, s4⟩ := stepS_ok a e h he
      have hq := Nat.two_pow_pos (stepS a e)
      have ih := cover_l0 he m (a + 2 ^ stepS a e) (acc ++ [toS (a, 32 - stepS a e)]) (by omega) s3 (by simp; omega)
      rw [covL_le h, List.map_cons]
      rw [List.append_assoc] at ih
      refine Ev.step (fun k => ?_) ih
      obtain ⟨b1, b2, b3⟩ := Lib.bitLenAux_bounds 64 (e - a + 1) (by rw [show (2 : Nat) ^ 64 = 18446744073709551616 by decide]; omega) (by omega)
      have hlen : bits_Len64.f (IntKind.u64.wrap ((IntKind.u64.wrap ((e : Int) - (a : Int))) + 1)) = some ((Lib.bitLen (e - a + 1) : Nat) : Int) := by
        have e1 : IntKind.u64.wrap ((e : Int) - (a : Int)) = (e : Int) - (a : Int) := wu64c _ (by omega) (by omega)
        have e2 : IntKind.u64.wrap ((e : Int) - (a : Int) + 1) = ((e - a + 1 : Nat) : Int) := by rw [wu64c _ (by omega) (by omega)]; omega
        rw [e1, e2]
        unfold bits_Len64.f
        rw [if_pos (by omega), Int.toNat_natCast]
      have hctz : bits_TrailingZeros64.f (Go.bits .or .u64 (a : Int) 4294967296) = some ((Lib.ctz 64 (a + 4294967296) : Nat) : Int) := by
        rw [or_top a (by omega)]
        unfold bits_TrailingZeros64.f
        rw [if_pos (by omega), Int.toNat_natCast]
      have hL : Lib.bitLen (e - a + 1) ≤ 64 := Lib.bitLen_le _ 64 (Nat.le_refl _) (by rw [show (2 : Nat) ^ 64 = 18446744073709551616 by decide]; omega)
      have hmn : mn ((Lib.ctz 64 (a + 4294967296) : Nat) : Int) (wrap64 (((Lib.bitLen (e - a + 1) : Nat) : Int) - 1)) = ((stepS a e : Nat) : Int) := by
        exact mn_min _ _ b1 hL
      have hsh := shl_one ⟨stepS a e, by omega⟩
      simp only at hsh
      simp only [four_Cover.l0]
      rw [if_pos (by omega), hctz, Option.bind_some, hlen, Option.bind_some, hmn, if_pos (by omega), if_pos (by omega), hsh, wu64c _ (by omega) (by have := s3; omega)]
      have w32 : wrap64 (32 - ((stepS a e : Nat) : Int)) = ((32 - stepS a e : Nat) : Int) := by rw [wrap64_in _ (by omega)]; omega
      have m32 : (a : Int) % 4294967296 = (a : Int) := by omega
      rw [w32, m32, show (a : Int) + ((2 ^ stepS a e : Nat) : Int) = ((a + 2 ^ stepS a e : Nat) : Int) by omega]
      rfl
    · rw [covL_lt h]
      refine Ev.step (f := fun k => some (acc ++ [].map toS)) (fun k => ?_) (Ev.now _)
      simp only [four_Cover.l0]
      rw [if_neg (by omega), List.map_nil, List.append_nil]
theorem cover_ev (a e : Int) (a0 : 0 ≤ a) (a1 : a ≤ 4294967295) (e0 : 0 ≤ e) (e1 : e ≤ 4294967295) : Ev (fun k => four_Cover.f k a e) (covS a e) := by
  unfold four_Cover.f covS
  rw [wu64c a a0 (by omega), wu64c e e0 (by omega)]
  by_cases h : a ≤ e
  · have := cover_l0 (e := e.toNat) (by omega) _ a.toNat [] (Nat.le_refl _) (by omega) (Nat.zero_le _)
    rw [Int.toNat_of_nonneg a0, Int.toNat_of_nonneg e0] at this
    exact this
  · rw [covL_lt (by omega)]
    refine Ev.step (f := fun k => some ([].map toS)) (fun k => ?_) (Ev.now _)
    simp only [four_Cover.l0]
    rw [if_neg (by omega)]
    rfl
theorem c_cover (a e : Int) (a0 : 0 ≤ a) (a1 : a ≤ 4294967295) (e0 : 0 ≤ e) (e1 : e ≤ 4294967295) (w : World) (hG : GW w) :
    Calls Tryz.prog 6 #[.int .u32 a, .int .u32 e] w fun ex w' => ∃ v : Value, ex = .returned v ∧ Kd.R k30 30 w' w.heap.size (fun _ => True) v (covS a e) ∧ Below w.heap.size w w' := by
  obtain ⟨k, h⟩ := (cover_ev a e a0 a1 e0 e1).rounds
  exact four_Cover.calls k a e _ w hG h
end Go.Proofs.YtgnahagnmodpdaaGreatDoor
/-! FourJoin -/
namespace Go.Proofs.YtgnahagnmodpdaaGreatDoor
open Go.RowKit Go.Proofs.YtgnahagnmodpdaaGreatDoorW.PrintWords Go.Proofs.YtgnahagnmodpdaaGreatDoor.X Go.IntWalk Go.Lib Go.Sort
set_option linter.unusedVariables false
set_option linter.unusedSimpArgs false
/-- A prefix as a range. -/
def rngS (x : S30) : Int × Int := (x.f0, x.f0 + sizeV x.f1 - 1)
theorem last_f (x : S30) (h0 : 0 ≤ x.f0) (h1 : x.f0 ≤ 4294967295) (h : isV x.f0 x.f1 = true) : four_last.f x.f0 x.f1 = some (rngS x).2 ∧ x.f0 ≤ (rngS x).2 ∧ (rngS x).2 ≤ 4294967295 := by
  unfold isV at h
  simp only [Bool.and_eq_true, decide_eq_true_eq, beq_iff_eq] at h
  obtain ⟨b0, b1, hd⟩ := h
  unfold four_last.f rngS
  rw [if_pos b0, shr_all b0 b1]
  have es : sizeV x.f1 = ((2 ^ (32 - x.f1).toNat : Nat) : Int) := by unfold sizeV; simp
  rw [es] at hd ⊢
  have ht : (32 - x.f1).toNat ≤ 32 := by omega
  generalize (32 - x.f1).toNat = t at *
  obtain ⟨a, ha⟩ := Int.eq_ofNat_of_zero_le h0
  rw [ha] at hd h1 ⊢
  rw [← Int.natCast_ediv, ← Int.natCast_mul] at hd
  have hd2 : a / 2 ^ t * 2 ^ t = a := Int.ofNat.inj hd
  have hp : 2 ^ t ≤ 2 ^ 32 := Nat.pow_le_pow_right (by decide) ht
  have hq := Nat.two_pow_pos t
  have p32 : (2 : Nat) ^ 32 = 4294967296 := by decide
  have hor : a ||| (2 ^ t - 1) = a + (2 ^ t - 1) := by
    have := Nat.two_pow_add_eq_or_of_lt (i := t) (b := 2 ^ t - 1) (by omega) (a / 2 ^ t)
    rw [Nat.mul_comm, hd2] at this
    exact this.symm
  have hle : a + 2 ^ t ≤ 4294967296 := by
    have h3 : a / 2 ^ t < 2 ^ (32 - t) := by
      apply Nat.div_lt_of_lt_mul
      rw [← Nat.pow_add, show t + (32 - t) = 32 by omega, p32]
      omega
    have h4 : (a / 2 ^ t + 1) * 2 ^ t ≤ 2 ^ (32 - t) * 2 ^ t := Nat.mul_le_mul_right _ h3
    rw [← Nat.pow_add, show 32 - t + t = 32 by omega, p32, Nat.add_mul, hd2, Nat.one_mul] at h4
    exact h4
  rw [u32_or_nat a (2 ^ t - 1) (by omega) (by omega), hor]
  refine ⟨by congr 1; omega, by omega, by omega⟩
set_option maxHeartbeats 1000000 in
set_option maxRecDepth 100000 in
theorem clone_walk (A : Option Addr) (c : Nat) (l : List S30) (w : World) (hr : Kd.C k30 w A l.length l) (hn : l.length ≤ 8796093022208) :
    Calls Tryz.prog 20 #[.slice A l.length c] w fun e w' => ∃ v, e = .returned v ∧ Kd.R k30 30 w' w.heap.size (fun _ => True) v l ∧ Below w.heap.size w w' := by
  cases A with
  | none =>
    obtain rfl : l = [] := by
      rcases Nat.eq_zero_or_pos l.length with h | h
      · exact List.eq_nil_of_length_eq_zero h
      · obtain ⟨ad, e, _⟩ := hr.2.2 h
        cases e
    refine (c_clone_nil 0 c w).mono ?_
    rintro e w' ⟨rfl, rfl⟩
    exact ⟨_, rfl, Kd.R_nil _ _ _ _ _, Below.refl _ _⟩
  | some ad =>
    have HR := Aside0.mk hr
    generalize hm : l.length = m at *
    have HM := Aside0.mk hm
    clear hr hm
    have q68 : ∀ (w : World) (a : Option Addr) (n c n' c' : Nat), (binOp .eql 23 (.slice a n c) (.slice none n' c')).run Tryz.prog w = .ok (.bool a.isNone) w := fun w a n c n' c' => Lib.run_eql_slice_nil w _ _ a n c n' c' Tryz.underlying23
    go_enter Tryz.func20, Tryz.ntmps20
    have B := Below.alloc (Below.refl w.heap.size w) (Nat.le_refl _) (.cells #[] 30)
    have B := Aside0.mk B
    go_wp2_with ((with_reducible refine gate_builtin (b := .append) (xs := #[.tmp 5, .tmp 6]) rfl ?_); at_builtin; refine Kd.R_append_rows k30 (w0 := w) w.heap.size rfl (.tmp 5) (.tmp 6) 23 30 (.agg #[(.int .u32 0), (.int .i64 0)]) 16 rfl Tryz.underlying23 info30 rfl (by decide) (by omega) (.slice (some ⟨w.heap.size, 0, none⟩) 0 0) [] l _ _ _ (fun _ => True) (fun _ => False) rfl rfl ?aO ?aR (fun _ _ h => h) (fun _ h => h.elim) ?aF ?aB ?aS ?aL ?_; (case aO => exact ⟨fun _ _ => trivial, [], World.ownsRow_made w #[] 0 (Nat.le_refl _) (Nat.zero_le _) (by simp), Reps.none _ _⟩); (case aR => exact Kd.C_alloc HR.out _); (case aF => exact fun _ _ => trivial); (case aB => exact B.out); (case aS => exact B.out.size); (case aL => simp; omega); intro v1 w1 hR hB hg hat)
    go_ret
    exact ⟨_, rfl, hR, hB⟩
theorem reps_flat {w : World} {base : Nat} {ok : Nat → Prop} {l : List S30} {inner : List Value} (h : Reps (k30.M w base ok) k30.sz l inner) : inner = l.flatMap encB := by
  have hs : k30.sz = 2 := rfl
  rw [hs] at h
  obtain ⟨hl, hc⟩ := h
  apply List.ext_getElem?
  intro t
  rcases Nat.lt_or_ge t (l.length * 2) with ht | ht
  · rw [flat_get l t ht]
    have hj : t / 2 < l.length := by omega
    have h1 := hc (t / 2) l[t / 2] (List.getElem?_eq_getElem hj)
    have h2 := k30_openM h1
    have h3 : ((inner.drop (t / 2 * 2)).take 2)[t % 2]? = inner[t]? := by
      rw [List.getElem?_take, if_pos (by omega), List.getElem?_drop, show t / 2 * 2 + t % 2 = t by omega]
    rw [← h3, h2, getElem!_pos l (t / 2) hj]
    obtain h | h : t % 2 = 0 ∨ t % 2 = 1 := by omega
    · rw [h]; rfl
    · rw [h]; rfl
  · rw [List.getElem?_eq_none (by omega), List.getElem?_eq_none (by rw [flat_len]; omega)]
theorem sort_walk (v : Value) (l : List S30) (w0 w : World) (hR : Kd.R k30 30 w w0.heap.size (fun _ => True) v l) (hn : l.length ≤ 8796093022208) (hB : Below w0.heap.size w0 w) :
    Calls Tryz.prog 21 #[v, .func (.func 22) #[] #[]] w fun e w' => e = .returned (.tuple #[]) ∧ ∃ (D : List S30) (A : Option Addr) (c : Nat), v = .slice A l.length c ∧ (∀ ad, A = some ad → ∃ g, ad = ⟨g, 0, none⟩) ∧ Kd.C k30 w' A l.length D ∧ Below w0.heap.size w0 w' ∧ D.Perm l ∧ AscS D := by
  obtain ⟨_, inner, ho, hr⟩ := hR
  obtain rfl := reps_flat hr
  by_cases hv : v = .slice none 0 0
  · subst hv
    have hl : l = [] := by
      rcases ho.2 with ⟨_, h⟩ | ⟨g, cap, cur, e0, _⟩
      · exact List.eq_nil_of_length_eq_zero h
      · cases e0
    subst hl
    refine (c_sort_none 0 _ w).mono ?_
    rintro e w' ⟨rfl, rfl⟩
    exact ⟨rfl, [], none, 0, rfl, (fun _ h => by cases h), ⟨rfl, by decide, fun h => absurd h (by decide)⟩, hB, List.Perm.refl _, List.Pairwise.nil⟩
  · obtain ⟨g, cap, rfl, hg, hlt, hc, hl, hH⟩ := holdsK_own ho hv
    have hs := c_sort g 0 cap l.toArray w hH hlt (by simp; omega)
    rw [List.size_toArray] at hs
    refine hs.mono ?_
    rintro e w' ⟨rfl, d', q, os, hp, hso, rfl⟩
    obtain ⟨h1, h2, h3, h4⟩ := sorted_post (q := q) (os := os) hB hg hlt rfl (by omega) hH (by rw [List.size_toArray]; exact hp) (by rw [List.size_toArray]; exact hso)
    exact ⟨rfl, d'.toList, _, cap, rfl, fun _ h => ⟨g, (Option.some.inj h).symm⟩, h1, h2, h3, h4⟩
/-- What a list that is joined must be for the walk: addresses, and prefixes. -/
def rgL (l : List S30) : Prop := ∀ x ∈ l, 0 ≤ x.f0 ∧ x.f0 ≤ 4294967295
def vL (l : List S30) : Prop := ∀ x ∈ l, isV x.f0 x.f1 = true
/-- Where the loop over the sorted prefixes stands. -/
def OutOk (acc : List (Int × Int)) (rest : List S30) : Prop := ∃ hi : Int, 0 ≤ hi ∧ hi ≤ 4294967296 ∧ ((covR acc).length : Int) ≤ hi ∧ ∀ x ∈ rest, hi ≤ x.f0
def JR (w2 : World) (D : List S30) (v i8 : Value) (W : World) : Prop := ∃ (i : Nat) (acc : List (Int × Int)), i8 = .int .i64 i ∧ i ≤ D.length ∧ Kd.R k30 30 W w2.heap.size (fun _ => True) v ((covR acc).map toS) ∧ Below w2.heap.size w2 W ∧ sweepL (D.map rngS) = acc ++ sweepL ((D.drop i).map rngS) ∧ OutOk acc (D.drop i)
def IR (W1 : World) (D : List S30) (acc : List (Int × Int)) (a : Int) (i : Nat) (i8 t10 : Value) (W : World) : Prop := ∃ (j : Nat) (t : Int), i8 = .int .i64 j ∧ t10 = .int .u64 t ∧ i < j ∧ j ≤ D.length ∧ a ≤ t ∧ t ≤ 4294967295 ∧ Below W1.heap.size W1 W ∧ sweepL (D.map rngS) = acc ++ sweep a t ((D.drop j).map rngS)
theorem drop_at {D : List S30} {n i : Nat} (hn : D.length = n) (hi : i < n) : D.drop i = rd_T30 D (i : Int) :: D.drop (i + 1) := by
  subst hn
  rw [List.drop_eq_getElem_cons hi]
  unfold rd_T30
  rw [Int.toNat_natCast, List.getD_eq_getElem?_getD, List.getElem?_eq_getElem hi]
  rfl
theorem covR_snoc (acc : List (Int × Int)) (a t : Int) : covR (acc ++ [(a, t)]) = covR acc ++ covL a.toNat t.toNat := by simp [covR]
theorem step_out {acc : List (Int × Int)} {rest rest' : List S30} {x : S30} {t : Int} (hO : OutOk acc rest) (hx : x ∈ rest) (h0 : 0 ≤ x.f0) (h1 : x.f0 ≤ t) (h2 : t ≤ 4294967295) (hz : ∀ z ∈ rest', t + 1 ≤ z.f0) : OutOk (acc ++ [(x.f0, t)]) rest' := by
  obtain ⟨hi, a, b, c, d⟩ := hO
  have hd := d x hx
  have hl := cov_len (e := t.toNat) (by omega) x.f0.toNat
  refine ⟨t + 1, by omega, by omega, ?_, hz⟩
  rw [covR_snoc, List.length_append]
  omega
theorem sized_out {acc : List (Int × Int)} {rest : List S30} {a t : Int} (hO : OutOk acc rest) (h0 : 0 ≤ a) (h2 : t ≤ 4294967295) : (((covR acc).map toS).length + (covS a t).length) * 16 ≤ 140737488355328 := by
  obtain ⟨hi, p, b, c, d⟩ := hO
  have hl := cov_len (e := t.toNat) (by omega) a.toNat
  unfold covS
  rw [List.length_map, List.length_map]
  omega
theorem asc_drop {D : List S30} (h : AscS D) {n j : Nat} (hn : D.length = n) (hj : j < n) {y : S30} (hy : y = rd_T30 D (j : Int)) : ∀ z ∈ D.drop j, y.f0 ≤ z.f0 := by
  have hd := drop_at hn hj
  rw [← hy] at hd
  intro z hz
  have hs : AscS (D.drop j) := List.Pairwise.sublist (List.drop_sublist j D) h
  rw [hd] at hz hs
  rcases List.mem_cons.1 hz with rfl | hz
  · exact Int.le_refl _
  · exact (List.pairwise_cons.1 hs).1 z hz
theorem asc_map {D : List S30} (h : AscS D) : Asc (D.map rngS) := by
  unfold Asc
  rw [List.pairwise_map]
  exact h
theorem c_last (x : S30) (h0 : 0 ≤ x.f0) (h1 : x.f0 ≤ 4294967295) (h : isV x.f0 x.f1 = true) (w : World) : Calls Tryz.prog 24 #[.agg #[.int .u32 x.f0, .int .i64 x.f1]] w fun e w' => e = .returned (.int .u32 (rngS x).2) ∧ Below w.heap.size w w' :=
  four_last.calls x.f0 x.f1 _ w (last_f x h0 h1 h).1
set_option maxHeartbeats 4000000 in
set_option maxRecDepth 100000 in
theorem join_walk (A : Option Addr) (c : Nat) (l : List S30) (w : World) (hr : Kd.C k30 w A l.length l) (hc : l.length ≤ c) (hG : GW w) (hrg : rgL l) (hv : vL l) (hn : l.length ≤ 8796093022208)
    (hidx : ∀ w, Kd.C k30 w A l.length l → Calls Tryz.prog 17 #[.slice A l.length c, .func (.func 18) #[] #[]] w fun e w' => e = .returned (.int .i64 (-1)) ∧ Below w.heap.size w w') :
    Calls Tryz.prog 8 #[.slice A l.length c] w fun e w' => ∃ v, e = .returned (.tuple #[v, .int .i64 0, .int .i64 0]) ∧ Kd.R k30 30 w' w.heap.size (fun _ => True) v ((covR (joinR [] (l.map rngS))).map toS) ∧ Below w.heap.size w w' := by
  have HG := Aside0.mk hG
  have HI := Aside0.mk (hidx w hr)
  have HR := Aside0.mk hr
  have HRG := Aside0.mk hrg
  have HV := Aside0.mk hv
  clear hidx hr hG hrg hv
  go_enter Tryz.func8, Tryz.ntmps8
  go_wp2_with fail
  refine HI.out.mono ?_
  rintro e w1 ⟨rfl, hb⟩
  clear HI
  have B := Aside0.mk hb
  clear hb
  go_wp2_with fail
  refine (clone_walk A c l _ (Kd.C_below HR.out B.out) hn).mono ?_
  rintro e w2 ⟨v, rfl, hR, hb⟩
  have hR := Aside0.mk (Kd.R_lower hR B.out.size)
  have B := Aside0.mk (below_step B.out hb)
  clear hb
  go_wp2_with fail
  refine (sort_walk v l w w2 hR.out hn B.out).mono ?_
  rintro e w3 ⟨rfl, D, A', c', rfl, hlit, hC, hb, hp, ha⟩
  have HLIT := Aside0.mk hlit
  clear hlit
  clear hR
  have B := Aside0.mk hb
  have HD := Aside0.mk (And.intro hC (And.intro hp ha))
  clear hb hC hp ha
  go_wp2_with fail
  have hDl : D.length = l.length := HD.out.2.1.length_eq
  generalize hm : l.length = n at *
  have HDL := Aside0.mk hDl
  clear hDl hm hc HR
  go_loopw [7, 8] (fun s7 s8 W => JR w3 D s7 s8 W) (fun s7 s8 _ => n - (intOf s8).toNat)
  case atStart => exact ⟨0, [], rfl, Nat.zero_le _, Kd.R_nil _ _ _ _ _, Below.refl _ _, rfl, 0, by decide, by decide, Int.le_refl _, fun x hx => (HRG.out x (HD.out.2.1.subset (List.mem_of_mem_drop hx))).1⟩
  case round =>
    obtain ⟨i, acc, rfl, hi, hR, hB, hs, hO⟩ := hrel
    have HRr := Aside0.mk hR
    have HBr := Aside0.mk hB
    have HS := Aside0.mk hs
    have HO := Aside0.mk hO
    clear hR hB hs hO
    rw [HDL.out] at hi
    by_cases hlt : i < n
    · have hltz : (i : Int) < (n : Int) := by omega
      obtain ⟨ad, hA, c0, c1⟩ := at_T30 (Kd.C_below HD.out.1 HBr.out) (i : Int) (by omega) hltz
      obtain ⟨g, hg⟩ := HLIT.out ad hA
      subst hg
      subst hA
      rw [Addr.add_lit, Int.toNat_natCast] at c0 c1
      have hgl := World.block_lt_of_cell? wr _ c0
      simp only [Nat.zero_add] at c0 c1 hgl
      have hx : rd_T30 D (i : Int) ∈ D := by
        unfold rd_T30
        rw [Int.toNat_natCast, List.getD_eq_getElem?_getD, List.getElem?_eq_getElem (by rw [HDL.out]; exact hlt)]
        exact List.getElem_mem _
      have HX := Aside0.mk (And.intro (HRG.out _ (HD.out.2.1.subset hx)) (HV.out _ (HD.out.2.1.subset hx)))
      obtain ⟨x, ex⟩ : ∃ x, x = rd_T30 D (i : Int) := ⟨_, rfl⟩
      rw [← ex] at c0 c1 HX
      have EX := Aside0.mk ex
      clear ex hx
      have HL := c_last x HX.out.1.1 HX.out.1.2 HX.out.2
      obtain ⟨_, hx1, hx2⟩ := last_f x HX.out.1.1 HX.out.1.2 HX.out.2
      have hx0 := HX.out.1.1
      obtain ⟨t0, et0⟩ : ∃ t, t = (rngS x).2 := ⟨_, rfl⟩
      rw [← et0] at HL hx1 hx2
      have HL := Aside0.mk HL
      have ET0 := Aside0.mk et0
      clear et0
      go_wp2_with fail
      refine wp_region_ext (by kernel_rfl) (by kernel_rfl) ?_
      repeat (go_big_quiet_step (with_reducible exact ext_of (HL.out _)))
      refine wpQuiet_nil ?_
      rintro W1 ⟨⟨_, hb⟩, rfl⟩
      have HB1 := Aside0.mk hb
      clear hb c0 c1 hgl
      go_wp2_with fail
      go_loopw [8, 10] (fun s8 s10 W => IR W1 D acc x.f0 i s8 s10 W) (fun s8 s10 _ => n - (intOf s8).toNat)
      case atStart =>
        refine ⟨i + 1, t0, by simp, rfl, by omega, by rw [HDL.out]; omega, hx1, hx2, Below.refl _ _, ?_⟩
        rw [HS.out, drop_at HDL.out hlt, ← EX.out, List.map_cons]
        show acc ++ sweep (rngS x).1 (rngS x).2 _ = _
        rw [← ET0.out]
        rfl
      case round =>
        obtain ⟨j, t, rfl, rfl, hij, hj, hat, ht, hBi, hsi⟩ := hrel
        rw [HDL.out] at hj
        have HBi := Aside0.mk hBi
        have HSi := Aside0.mk hsi
        clear hBi hsi
        by_cases hjn : j < n
        · have hjz : (j : Int) < (n : Int) := by omega
          obtain ⟨ad, hA, c0, c1⟩ := at_T30 (Kd.C_below (Kd.C_below HD.out.1 (below_step HBr.out HB1.out)) HBi.out) (j : Int) (by omega) hjz
          obtain rfl := (Option.some.inj hA).symm
          clear hA
          rw [Addr.add_lit, Int.toNat_natCast] at c0 c1
          have hgl := World.block_lt_of_cell? wr _ c0
          simp only [Nat.zero_add] at c0 c1 hgl
          have hy : rd_T30 D (j : Int) ∈ D := by
            unfold rd_T30
            rw [Int.toNat_natCast, List.getD_eq_getElem?_getD, List.getElem?_eq_getElem (by rw [HDL.out]; exact hjn)]
            exact List.getElem_mem _
          have HY := Aside0.mk (And.intro (HRG.out _ (HD.out.2.1.subset hy)) (HV.out _ (HD.out.2.1.subset hy)))
          obtain ⟨y, ey⟩ : ∃ y, y = rd_T30 D (j : Int) := ⟨_, rfl⟩
          rw [← ey] at c0 c1 HY
          have EY := Aside0.mk ey
          clear ey hy
          have HLy := c_last y HY.out.1.1 HY.out.1.2 HY.out.2
          obtain ⟨_, hy1, hy2⟩ := last_f y HY.out.1.1 HY.out.1.2 HY.out.2
          have hy0 := HY.out.1.1
          obtain ⟨t1, et1⟩ : ∃ t, t = (rngS y).2 := ⟨_, rfl⟩
          rw [← et1] at HLy hy1 hy2
          have HLy := Aside0.mk HLy
          have ET1 := Aside0.mk et1
          clear et1
          by_cases hle : y.f0 ≤ t + 1
          · go_wp2_with fail
            refine (HLy.out _).mono ?_
            rintro e W2 ⟨rfl, hb⟩
            have HBj := Aside0.mk (below_step HBi.out hb)
            clear hb c0 c1 hgl HLy
            go_wp2_with fail
            refine ⟨⟨j + 1, max t t1, by simp, rfl, by omega, by rw [HDL.out]; omega, by omega, by omega, HBj.out, ?_⟩, by simp [intOf]; omega⟩
            rw [HSi.out, drop_at HDL.out hjn, ← EY.out, List.map_cons, sweep, if_pos (by show y.f0 ≤ t + 1; exact hle), ← ET1.out]
          · clear HLy
            go_wp2_with fail
            clear c0 c1 hgl
            refine (c_cover x.f0 t hx0 (by omega) (by omega) ht _ (HG.out.keep (below_step B.out (below_step (below_step HBr.out HB1.out) HBi.out)))).mono ?_
            rintro e W2 ⟨v2, rfl, hRc, hb⟩
            have HO2 := Aside0.mk (Kd.R_below (Kd.R_below (Kd.R_below HRr.out HB1.out) HBi.out) hb)
            have HB2 := Aside0.mk (below_step (below_step (below_step HBr.out HB1.out) HBi.out) hb)
            obtain ⟨Ac, cc, rfl, _, hCc⟩ := Kd.R_reads hRc
            have HC2 := Aside0.mk hCc
            have HSZ := Aside0.mk (sized_out HO.out (t := t) hx0 ht)
            clear hRc hCc hb
            go_wp2_with ((with_reducible refine gate_builtin (b := .append) (xs := #[.tmp 62, .tmp 66]) rfl ?_); at_builtin; refine Kd.R_append_rows k30 (w0 := w3) w3.heap.size rfl (.tmp 62) (.tmp 66) 23 30 (.agg #[(.int .u32 0), (.int .i64 0)]) 16 rfl Tryz.underlying23 info30 rfl (by decide) (by omega) _ ((covR acc).map toS) (covS x.f0 t) _ _ _ (fun _ => True) (fun _ => False) rfl rfl ?aO ?aR (fun _ _ h => h) (fun _ h => h.elim) ?aF ?aB ?aS ?aL ?_; (case aO => exact HO2.out); (case aR => exact HC2.out); (case aF => exact fun _ _ => trivial); (case aB => exact HB2.out); (case aS => exact HB2.out.size); (case aL => exact HSZ.out); intro v1 w4 hR4 hB4 hg4 hat4)
            have hxm : x ∈ D.drop i := by rw [drop_at HDL.out hlt, ← EX.out]; exact List.mem_cons_self
            refine ⟨⟨j, acc ++ [(x.f0, t)], rfl, by rw [HDL.out]; omega, by rw [covR_snoc, List.map_append]; exact hR4, hB4, ?_, step_out HO.out hxm hx0 hat ht ?_⟩, by simp [intOf]; omega⟩
            · rw [HSi.out, drop_at HDL.out hjn, ← EY.out, List.map_cons, sweep, if_neg (by show ¬ y.f0 ≤ t + 1; omega), List.append_assoc]
              rfl
            · intro z hz
              have := asc_drop HD.out.2.2 HDL.out hjn EY.out z hz
              omega
        · have hjz : ¬ (j : Int) < (n : Int) := by omega
          go_wp2_with fail
          refine (c_cover x.f0 t hx0 (by omega) (by omega) ht _ (HG.out.keep (below_step B.out (below_step (below_step HBr.out HB1.out) HBi.out)))).mono ?_
          rintro e W2 ⟨v2, rfl, hRc, hb⟩
          have HO2 := Aside0.mk (Kd.R_below (Kd.R_below (Kd.R_below HRr.out HB1.out) HBi.out) hb)
          have HB2 := Aside0.mk (below_step (below_step (below_step HBr.out HB1.out) HBi.out) hb)
          obtain ⟨Ac, cc, rfl, _, hCc⟩ := Kd.R_reads hRc
          have HC2 := Aside0.mk hCc
          have HSZ := Aside0.mk (sized_out HO.out (t := t) hx0 ht)
          clear hRc hCc hb
          go_wp2_with ((with_reducible refine gate_builtin (b := .append) (xs := #[.tmp 62, .tmp 66]) rfl ?_); at_builtin; refine Kd.R_append_rows k30 (w0 := w3) w3.heap.size rfl (.tmp 62) (.tmp 66) 23 30 (.agg #[(.int .u32 0), (.int .i64 0)]) 16 rfl Tryz.underlying23 info30 rfl (by decide) (by omega) _ ((covR acc).map toS) (covS x.f0 t) _ _ _ (fun _ => True) (fun _ => False) rfl rfl ?aO ?aR (fun _ _ h => h) (fun _ h => h.elim) ?aF ?aB ?aS ?aL ?_; (case aO => exact HO2.out); (case aR => exact HC2.out); (case aF => exact fun _ _ => trivial); (case aB => exact HB2.out); (case aS => exact HB2.out.size); (case aL => exact HSZ.out); intro v1 w4 hR4 hB4 hg4 hat4)
          have hxm : x ∈ D.drop i := by rw [drop_at HDL.out hlt, ← EX.out]; exact List.mem_cons_self
          refine ⟨⟨j, acc ++ [(x.f0, t)], rfl, by rw [HDL.out]; omega, by rw [covR_snoc, List.map_append]; exact hR4, hB4, ?_, step_out HO.out hxm hx0 hat ht ?_⟩, by simp [intOf]; omega⟩
          · rw [HSi.out, List.drop_of_length_le (by rw [HDL.out]; omega)]
            simp [sweep, sweepL]
          · rw [List.drop_of_length_le (by rw [HDL.out]; omega)]
            exact fun z hz => absurd hz (by simp)
    · have hiz : ¬ (i : Int) < (n : Int) := by omega
      go_wp2_with fail
      go_ret3
      have hend : joinR [] (l.map rngS) = acc := by
        have h := HS.out
        rw [List.drop_of_length_le (by rw [HDL.out]; omega)] at h
        rw [← sweep_join (l.map rngS) (D.map rngS) (fun r hr => by
          obtain ⟨z, hz, rfl⟩ := List.mem_map.1 hr
          have := last_f z (HRG.out z hz).1 (HRG.out z hz).2 (HV.out z hz)
          exact this.2.1) (asc_map HD.out.2.2) (HD.out.2.1.map rngS), h]
        simp [sweepL]
      rw [hend]
      exact ⟨_, rfl, Kd.R_lower HRr.out B.out.size, below_step B.out HBr.out⟩
end Go.Proofs.YtgnahagnmodpdaaGreatDoor
/-! FourJoinF -/
namespace Go.Proofs.YtgnahagnmodpdaaGreatDoor
open Go.RowKit Go.Proofs.YtgnahagnmodpdaaGreatDoorW.PrintWords Go.Proofs.YtgnahagnmodpdaaGreatDoor.X Go.IntWalk Go.Lib Go.Sort
set_option linter.unusedVariables false
set_option linter.unusedSimpArgs false
/-- The place of the first that is no prefix; -1: all are. -/
def badI (l : List S30) : Int := Lib.idxBy (fun _ y => !isB y) l default
theorem badI_neg {l : List S30} (h : ¬ 0 ≤ badI l) : badI l = -1 ∧ ∀ x ∈ l, isB x = true := by
  have e : decide (0 ≤ badI l) = l.any fun y => !isB y := Lib.idxBy_nonneg_iff (fun _ y => !isB y) l default
  rw [decide_eq_false h] at e
  have ha : ∀ x ∈ l, isB x = true := by
    intro x hx
    have := List.any_eq_false.1 e.symm x hx
    simpa using this
  refine ⟨?_, ha⟩
  unfold badI
  have := Lib.idxBy_miss (fun _ y => !isB y) l l.length default (fun j hj => by
    rw [getElem!_pos l j hj, ha _ (List.getElem_mem hj)]
    rfl)
  rwa [List.take_length] at this
theorem spot_none {w : World} {a : Addr} {v : Value} (h : w.cell? a = some v) : a = ⟨a.block, a.off, none⟩ := by
  unfold World.cell? at h
  obtain ⟨b, o, s⟩ := a
  cases s with
  | none => rfl
  | some s =>
    revert h
    cases w.heap[b]? with
    | none => intro h; cases h
    | some ob => cases ob <;> intro h <;> simp at h
theorem c_idx (A : Option Addr) (c : Nat) (l : List S30) (w : World) (hr : Kd.C k30 w A l.length l) :
    Calls Tryz.prog 17 #[.slice A l.length c, .func (.func 18) #[] #[]] w fun e w' => e = .returned (.int .i64 (badI l)) ∧ Below w.heap.size w w' := by
  cases l with
  | nil =>
    refine (c_index_zero A c _ w).mono ?_
    rintro e w' ⟨rfl, rfl⟩
    exact ⟨rfl, Below.refl _ _⟩
  | cons y l =>
    obtain ⟨ad, rfl, c0, _⟩ := at_T30 hr 0 (by decide) (by simp)
    have hs := spot_none c0
    obtain ⟨b, off, sp⟩ := ad
    have hsp : sp = none := by
      have := congrArg Addr.spot hs
      simpa [Addr.add] using this
    subst hsp
    refine c_index b off c (y :: l) w hr.2.1 (World.block_lt_of_cell? w _ c0) ?_
    intro j hj i v hi
    obtain ⟨ad, e, c1, c2⟩ := at_T30 hr (j : Int) (by omega) (by omega)
    obtain rfl := (Option.some.inj e).symm
    have hx : rd_T30 (y :: l) (j : Int) = (y :: l)[j]! := by
      unfold rd_T30
      rw [Int.toNat_natCast, List.getD_eq_getElem?_getD, List.getElem?_eq_getElem hj, getElem!_pos _ j hj]
      rfl
    rw [hx, Addr.add_lit, Int.toNat_natCast] at c1 c2
    match i, hi with
    | 0, hi => rw [← Option.some.inj hi]; exact c1
    | 1, hi => rw [← Option.some.inj hi]; exact c2
    | i + 2, hi => cases hi
def joinV (l : List S30) : List S30 × Int × Int := if 0 ≤ badI l then ([], badI l, 204) else ((covR (joinR [] (l.map rngS))).map toS, 0, 0)
set_option maxHeartbeats 1000000 in
set_option maxRecDepth 100000 in
theorem join_bad (A : Option Addr) (c : Nat) (l : List S30) (w : World) (hr : Kd.C k30 w A l.length l) (hb : 0 ≤ badI l) :
    Calls Tryz.prog 8 #[.slice A l.length c] w fun e w' => e = .returned (.tuple #[.slice none 0 0, .int .i64 (badI l), .int .i64 204]) ∧ Below w.heap.size w w' := by
  have HI := Aside0.mk (c_idx A c l w hr)
  generalize badI l = b at *
  clear hr
  go_enter Tryz.func8, Tryz.ntmps8
  go_wp2_with fail
  refine HI.out.mono ?_
  rintro e w1 ⟨rfl, hb1⟩
  clear HI
  go_wp2_with fail
  go_ret3
  exact ⟨rfl, hb1⟩
/-- Addresses in range? -/
def rgB (l : List S30) : Bool := l.all fun x => decide (0 ≤ x.f0) && decide (x.f0 ≤ 4294967295)
theorem rgB_rgL {l : List S30} (h : rgB l = true) : rgL l := by
  intro x hx
  have := List.all_eq_true.1 h x hx
  simpa using this
def four_Join.f (l : List S30) : Option (List S30 × Int × Int) := if rgB l = true ∧ l.length ≤ 8796093022208 then some (joinV l) else none
theorem four_Join.calls (A2 : Option Addr) (c2 : Nat) (l2 : List S30) (r1 : List S30) (r2 r3 : Int) (w : World) (hr2 : Kd.C k30 w A2 l2.length l2) (hc2 : l2.length ≤ c2) (hG : GW w) (h : four_Join.f l2 = some (r1, r2, r3)) :
    Calls Tryz.prog 8 #[.slice A2 l2.length c2] w fun e w' => ∃ v0_ : Value, e = .returned (.tuple #[v0_, .int .i64 r2, .int .i64 r3]) ∧ Kd.R k30 30 w' w.heap.size (fun _ => True) v0_ r1 ∧ Below w.heap.size w w' := by
  unfold four_Join.f at h
  by_cases hs : rgB l2 = true ∧ l2.length ≤ 8796093022208
  · rw [if_pos hs] at h
    have h := Option.some.inj h
    unfold joinV at h
    by_cases hb : 0 ≤ badI l2
    · rw [if_pos hb] at h
      obtain ⟨e1, e2⟩ := Prod.mk.inj h
      obtain ⟨e2, e3⟩ := Prod.mk.inj e2
      subst e1
      subst e2
      subst e3
      refine (join_bad A2 c2 l2 w hr2 hb).mono ?_
      rintro e w' ⟨rfl, hb⟩
      exact ⟨_, rfl, Kd.R_nil _ _ _ _ _, hb⟩
    · rw [if_neg hb] at h
      obtain ⟨e1, e2⟩ := Prod.mk.inj h
      obtain ⟨e2, e3⟩ := Prod.mk.inj e2
      subst e1
      subst e2
      subst e3
      obtain ⟨e, ha⟩ := badI_neg hb
      have hrg := rgB_rgL hs.1
      refine join_walk A2 c2 l2 w hr2 hc2 hG hrg (fun x hx => ?_) hs.2 (fun w hr => ?_)
      · have h1 := is_f x.f0 x.f1 (hrg x hx).1 (hrg x hx).2
        rw [isB_f x, ha x hx] at h1
        exact (Option.some.inj h1).symm
      · have := c_idx A2 c2 l2 w hr
        rw [e] at this
        exact this
  · rw [if_neg hs] at h
    cases h
end Go.Proofs.YtgnahagnmodpdaaGreatDoor
/-! Bytes -/
namespace Go.Proofs.YtgnahagnmodpdaaGreatDoor
open Go.RowKit Go.Proofs.YtgnahagnmodpdaaGreatDoorW.PrintWords
set_option linter.unusedVariables false
set_option linter.unusedSimpArgs false
/-- A list of bytes as a text. -/
def BA (l : List UInt8) : ByteArray := ⟨l.toArray⟩
theorem ba_list (l : List UInt8) : (BA l).data.toList = l := rfl
theorem ba_of (s : ByteArray) : BA s.data.toList = s := Lib.mk_data s
theorem ba_size (l : List UInt8) : (BA l).size = l.length := rfl
theorem ba_ext {a b : ByteArray} (h : a.data.toList = b.data.toList) : a = b := by rw [← ba_of a, ← ba_of b, h]
theorem extract_ba (s : ByteArray) (a b : Nat) : s.extract a b = BA ((s.data.toList.drop a).take (b - a)) := ba_ext (Lib.extract_data s a b)
theorem extract_tail (s : ByteArray) (a : Nat) : s.extract a s.size = BA (s.data.toList.drop a) := ba_ext (Lib.extract_to_end s a)
theorem extract_head (s : ByteArray) (a : Nat) : s.extract 0 a = BA (s.data.toList.take a) := by rw [extract_ba]; simp
theorem toList_data (s : ByteArray) : s.toList = s.data.toList := ByteArray.toList_eq s
theorem bt_get (s : ByteArray) (k : Nat) (h : k < s.data.toList.length) : bt s (k : Int) = ((s.data.toList[k]'h).toNat : Int) := by
  have hk : k < s.size := by rw [Lib.size_eq]; exact h
  have := bt_at s (k : Int) (by simpa using hk)
  rw [← this]
  rfl
theorem size_len (s : ByteArray) : s.size = s.data.toList.length := Lib.size_eq s
theorem byte_eq (a b : UInt8) : ((a.toNat : Int) = (b.toNat : Int)) ↔ a = b := by
  rw [Int.natCast_inj]
  exact UInt8.toNat_inj
/-- A list cut at each byte c. -/
def splitC (c : UInt8) : List UInt8 → List (List UInt8)
  | [] => [[]]
  | b :: l => if b = c then [] :: splitC c l else
    match splitC c l with
    | [] => [[b]]
    | p :: ps => (b :: p) :: ps
/-- p ahead of the first piece. -/
def ahead1 (p : List UInt8) : List (List UInt8) → List (List UInt8)
  | [] => [p]
  | q :: qs => (p ++ q) :: qs
theorem splitC_ne (c : UInt8) (l : List UInt8) : splitC c l ≠ [] := by
  cases l with
  | nil => simp [splitC]
  | cons b l =>
    unfold splitC
    split
    · simp
    · split <;> simp
theorem splitC_eq (c : UInt8) (l : List UInt8) : splitC c (c :: l) = [] :: splitC c l := by rw [splitC, if_pos rfl]
theorem splitC_cons {c b : UInt8} (h : b ≠ c) (l : List UInt8) : splitC c (b :: l) = ahead1 [b] (splitC c l) := by
  rw [splitC, if_neg h]
  cases splitC c l <;> rfl
theorem splitC_len (c : UInt8) (l : List UInt8) : (splitC c l).length ≤ l.length + 1 := by
  induction l with
  | nil => simp [splitC]
  | cons b l ih =>
    unfold splitC
    split
    · simp; omega
    · split
      · simp
      · rename_i h; rw [h] at ih; simp at *; omega
theorem split_one (c : UInt8) : ∀ l : List UInt8, Lib.split l [c] = splitC c l
  | [] => by simp [Lib.split, Lib.count_one, Lib.splitK, splitC]
  | b :: l => by
    have ih := split_one c l
    unfold Lib.split at *
    by_cases h : b = c
    · subst h
      rw [Lib.count_cons_eq, Nat.add_comm, Lib.splitK, splitC_eq, ← ih]
      have : Lib.index (b :: l) [b] = 0 := by rw [Lib.index]; simp [List.isPrefixOf]
      rw [this]
      simp
    · rw [Lib.count_cons_ne b c l h, splitC_cons h, ← ih]
      have hix : Lib.index (b :: l) [c] = if Lib.index l [c] == -1 then -1 else Lib.index l [c] + 1 := by
        rw [Lib.index]
        simp [List.isPrefixOf, Ne.symm h]
      generalize hk : Lib.count l [c] = k
      cases k with
      | zero => rfl
      | succ k =>
        rw [Lib.splitK, Lib.splitK, hix]
        have hge := Lib.index_ge l [c]
        by_cases hm : Lib.index l [c] = -1
        · simp [hm, ahead1]
        · rw [if_neg (by simp; omega), if_neg (by simpa using hm), if_neg (by simpa using hm)]
          have e : (Lib.index l [c] + 1).toNat = (Lib.index l [c]).toNat + 1 := by omega
          rw [e]
          simp [ahead1]
/-- The library's split at one byte. -/
theorem splitB_one (s : ByteArray) (c : UInt8) : Lib.splitB (BA [c]) 0 (Lib.countB s (BA [c])) s = (splitC c s.data.toList).map BA := by
  have h : (Lib.splitB (BA [c]) 0 (Lib.countB s (BA [c])) s).map (fun x => x.data.toList) = Lib.split s.data.toList [c] := Lib.splitB_data (BA [c]) 0 (Lib.countB s (BA [c])) s
  rw [← split_one, ← h, List.map_map]
  rw [show (BA ∘ fun x => x.data.toList) = id from funext fun x => ba_of x, List.map_id]
theorem rd_map (L : List (List UInt8)) (i : Nat) (hi : i < L.length) : rdOf ByteArray.empty (L.map BA) (i : Int) = BA L[i] := by
  unfold rdOf
  rw [Int.toNat_natCast, List.getD_eq_getElem?_getD, List.getElem?_map, List.getElem?_eq_getElem hi]
  rfl
theorem splitC_part (c : UInt8) (l : List UInt8) : ∀ w ∈ splitC c l, w.length ≤ l.length := by
  induction l with
  | nil => intro w hw; simp [splitC] at hw; simp [hw]
  | cons b l ih =>
    intro w hw
    by_cases hb : b = c
    · subst hb
      rw [splitC_eq] at hw
      rcases List.mem_cons.1 hw with rfl | hw
      · simp
      · have := ih w hw; simp; omega
    · rw [splitC_cons hb] at hw
      cases hL : splitC c l with
      | nil => exact absurd hL (splitC_ne c l)
      | cons p ps =>
        rw [hL] at hw ih
        simp only [ahead1] at hw
        rcases List.mem_cons.1 hw with rfl | hw
        · have := ih p (by simp); simp at *; omega
        · have := ih w (by simp [hw]); simp; omega
end Go.Proofs.YtgnahagnmodpdaaGreatDoor
/-! DigL -/
namespace Go.Proofs.YtgnahagnmodpdaaGreatDoor
open Go.RowKit Go.Proofs.YtgnahagnmodpdaaGreatDoorW.PrintWords
set_option linter.unusedVariables false
set_option linter.unusedSimpArgs false
theorem digV_lt {b base : Int} (h : 2 ≤ base) : digV b base < base := by
  unfold digV
  repeat' split
  all_goals omega
end Go.Proofs.YtgnahagnmodpdaaGreatDoor
/-! FourV -/
namespace Go.Proofs.YtgnahagnmodpdaaGreatDoor
open Go.RowKit Go.Proofs.YtgnahagnmodpdaaGreatDoorW.PrintWords Go.Proofs.YtgnahagnmodpdaaGreatDoor.X Go.IntWalk
set_option linter.unusedVariables false
set_option linter.unusedSimpArgs false
/-- Digits to a base, no more than 2^32. -/
def capL (base : Int) : List UInt8 → Int → Option Int
  | [], n => some n
  | c :: l, n => if digV (c.toNat : Int) base < 0 then none else capL base l (if 4294967296 < n * base + digV (c.toNat : Int) base then 4294967296 else n * base + digV (c.toNat : Int) base)
/-- A number's base and digits. -/
def baseOf : List UInt8 → Int × List UInt8
  | 48 :: 120 :: r => (16, r)
  | 48 :: 88 :: r => (16, r)
  | 48 :: c :: r => (8, c :: r)
  | l => (10, l)
def numberV (l : List UInt8) : Int × Int × Int := if l = [] then (0, 0, 200) else
  match capL (baseOf l).1 (baseOf l).2 0 with
  | none => (0, 0, 200)
  | some n => (n, (baseOf l).1, 0)
theorem capL_le {base : Int} (hb : 0 ≤ base) : ∀ (l : List UInt8) (n N : Int), capL base l n = some N → 0 ≤ n → n ≤ 4294967296 → 0 ≤ N ∧ N ≤ 4294967296
  | [], n, N, h, h0, h1 => by obtain rfl := Option.some.inj h; exact ⟨h0, h1⟩
  | c :: l, n, N, h, h0, h1 => by
    unfold capL at h
    by_cases hd : digV (c.toNat : Int) base < 0
    · rw [if_pos hd] at h; cases h
    · rw [if_neg hd] at h
      have : 0 ≤ n * base := Int.mul_nonneg h0 hb
      refine capL_le hb l _ N h ?_ ?_ <;> split <;> omega
theorem baseOf_base (l : List UInt8) : (baseOf l).1 = 16 ∨ (baseOf l).1 = 8 ∨ (baseOf l).1 = 10 := by
  unfold baseOf
  split <;> simp
theorem numberV_le (l : List UInt8) : 0 ≤ (numberV l).1 ∧ (numberV l).1 ≤ 4294967296 := by
  unfold numberV
  split
  · simp
  · cases h : capL (baseOf l).1 (baseOf l).2 0 with
    | none => simp
    | some n => exact capL_le (by rcases baseOf_base l with h | h | h <;> omega) _ 0 n h (Int.le_refl 0) (by decide)
theorem numberV_err (l : List UInt8) : (numberV l).2.2 = 0 ∨ (numberV l).2.2 = 200 := by
  unfold numberV
  split
  · simp
  · split <;> simp
theorem number_loop (base : Int) (hb : base = 16 ∨ base = 8 ∨ base = 10) (s : ByteArray) (hs : s.size ≤ 9223372036854775806) : ∀ (m i : Nat) (n : Int), i + m = s.data.toList.length → 0 ≤ n → n ≤ 4294967296 →
    Ev (fun k => four_Number.l0 k base s n (s.size : Int) (i : Int)) (match capL base (s.data.toList.drop i) n with | none => (0, 0, 200) | some n => (n, base, 0))
  | 0, i, n, hm, h0, h1 => by
    have hz := size_len s
    rw [List.drop_of_length_le (by omega)]
    refine Ev.step (f := fun k => some (n, base, 0)) (fun k => ?_) (Ev.now _)
    simp only [four_Number.l0]
    rw [if_neg (by omega)]
  | m + 1, i, n, hm, h0, h1 => by
    have hz := size_len s
    have hi : i < s.data.toList.length := by omega
    have w1 : wrap64 ((i : Int) + 1) = ((i + 1 : Nat) : Int) := by rw [wrap64_in _ (by omega)]; omega
    have hlt := s.data.toList[i].toNat_lt
    have hd : octet_Digit.f (s.data.toList[i].toNat : Int) base = some (digV (s.data.toList[i].toNat : Int) base) := if_pos ⟨by omega, by omega⟩
    have hdl := digV_lt (b := (s.data.toList[i].toNat : Int)) (base := base) (by omega)
    rw [List.drop_eq_getElem_cons hi, capL]
    have ih := number_loop base hb s hs m (i + 1)
    have key : ∀ k, four_Number.l0 (k + 1) base s n (s.size : Int) (i : Int) = if digV (s.data.toList[i].toNat : Int) base < 0 then some (0, 0, 200) else four_Number.l0 k base s (mn (IntKind.u64.wrap ((IntKind.u64.wrap (n * (IntKind.u64.wrap base))) + (IntKind.u64.wrap (digV (s.data.toList[i].toNat : Int) base)))) 4294967296) (s.size : Int) ((i + 1 : Nat) : Int) := by
      intro k
      simp only [four_Number.l0]
      rw [if_pos (by omega), if_pos (by omega), if_pos (by omega), bt_get s i hi, hd, w1]
      rfl
    refine Ev.step key ?_
    generalize digV (s.data.toList[i].toNat : Int) base = d at *
    by_cases hneg : d < 0
    · simp only [if_pos hneg]
      exact Ev.now _
    · simp only [if_neg hneg]
      have hnb : 0 ≤ n * base := Int.mul_nonneg h0 (by omega)
      have hnb2 : n * base ≤ 4294967296 * 16 := by
        rcases hb with h | h | h <;> subst h <;> omega
      have e : mn (IntKind.u64.wrap ((IntKind.u64.wrap (n * (IntKind.u64.wrap base))) + (IntKind.u64.wrap d))) 4294967296 = if 4294967296 < n * base + d then 4294967296 else n * base + d := by
        have wu : ∀ x : Int, 0 ≤ x → x < 18446744073709551616 → IntKind.u64.wrap x = x := fun x a b => by simp [IntKind.wrap, IntKind.signed, IntKind.bits]; omega
        rw [wu base (by omega) (by omega), wu (n * base) hnb (by omega), wu d (by omega) (by omega), wu _ (by omega) (by omega)]
        unfold mn
        (repeat' split) <;> omega
      rw [e]
      exact ih _ (by omega) (by split <;> omega) (by split <;> omega)
theorem prefix_two (s : ByteArray) (c : UInt8) : strings_HasPrefix.f s (⟨#[48, c]⟩ : ByteArray) = some (s.data.toList.take 2 == [48, c]) := by
  have hz := size_len s
  have e1 : ((⟨#[48, c]⟩ : ByteArray).size : Int) = 2 := rfl
  unfold strings_HasPrefix.f stringslite_HasPrefix.f
  rw [e1]
  by_cases h : 2 ≤ s.data.toList.length
  · rw [if_pos (by omega), if_pos (by omega), if_pos (by omega), toList_data, extract_head, ba_list, toList_data]
    rfl
  · rw [if_neg (by omega)]
    simp only [Option.bind_some, Option.some.injEq]
    symm
    rw [beq_eq_false_iff_ne]
    intro e
    have := congrArg List.length e
    simp at this
    omega
theorem number_ev (s : ByteArray) (hs : s.size ≤ 9223372036854775806) : Ev (fun k => four_Number.f k s) (numberV s.data.toList) := by
  have hz := size_len s
  have loop : ∀ (base : Int) (l : List UInt8), (base = 16 ∨ base = 8 ∨ base = 10) → l.length ≤ s.data.toList.length → Ev (fun k => four_Number.j1 k base (BA l)) (match capL base l 0 with | none => (0, 0, 200) | some n => (n, base, 0)) := by
    intro base l hb hl
    refine Ev.step (f := fun k => four_Number.l0 k base (BA l) 0 ((BA l).size : Int) ((0 : Nat) : Int)) (fun k => by simp only [four_Number.j1]; rfl) ?_
    exact number_loop base hb (BA l) (by rw [ba_size]; omega) _ 0 0 (Nat.zero_add _) (Int.le_refl 0) (by decide)
  by_cases h0 : s.data.toList = []
  · rw [show numberV s.data.toList = (0, 0, 200) from if_pos h0]
    refine Ev.congr (f := fun k => some (0, 0, 200)) (fun k => ?_) (Ev.now _)
    unfold four_Number.f
    rw [if_pos (by rw [toList_data]; exact h0)]
  · have hv : numberV s.data.toList = match capL (baseOf s.data.toList).1 (baseOf s.data.toList).2 0 with | none => (0, 0, 200) | some n => (n, (baseOf s.data.toList).1, 0) := if_neg h0
    rw [hv]
    have start : ∀ r : Int × Int × Int, Ev (fun k => if (s.data.toList.take 2 == [48, 120]) = true then (four_Number.j0 k s 10 s true) else (four_Number.j0 k s 10 s (s.data.toList.take 2 == [48, 88]))) r → Ev (fun k => four_Number.f k s) r := by
      intro r h
      refine Ev.congr (fun k => ?_) h
      unfold four_Number.f
      rw [if_neg (by rw [toList_data]; exact h0), prefix_two, prefix_two]
      rfl
    refine start _ ?_
    obtain ⟨b, r, hs'⟩ := List.exists_cons_of_ne_nil h0
    have hb0 : bt s 0 = (b.toNat : Int) := by
      have hl : 0 < s.data.toList.length := List.length_pos_iff.2 h0
      have e := bt_get s 0 hl
      have e2 : s.data.toList[0] = b := by simp [hs']
      rw [e2] at e
      exact e
    have hj16 : ∀ r2 c, s.data.toList = 48 :: c :: r2 → Ev (fun k => four_Number.j0 k s 10 s true) (match capL 16 r2 0 with | none => (0, 0, 200) | some n => (n, 16, 0)) := by
      intro r2 c e
      have hl : s.data.toList.length = r2.length + 2 := by rw [e]; rfl
      refine Ev.step (f := fun k => four_Number.j1 k 16 (BA r2)) (fun k => ?_) (loop 16 r2 (.inl rfl) (by omega))
      simp only [four_Number.j0]
      rw [if_true, if_pos (by omega), extract_tail, e]
      rfl
    cases r with
    | nil =>
      have e1 : (s.data.toList.take 2 == [48, 120]) = false := by rw [hs']; simp
      have e2 : (s.data.toList.take 2 == [48, 88]) = false := by rw [hs']; simp
      have eb : baseOf s.data.toList = (10, s.data.toList) := by
        rw [hs']
        unfold baseOf
        split <;> simp_all
      have hl1 : s.data.toList.length = 1 := by rw [hs']; rfl
      rw [e1, e2, eb]
      simp only [Bool.false_eq_true, if_false]
      refine Ev.step (f := fun k => four_Number.j1 k 10 (BA s.data.toList)) (fun k => ?_) (loop 10 _ (.inr (.inr rfl)) (Nat.le_refl _))
      simp only [four_Number.j0, Bool.false_eq_true, if_false]
      rw [if_neg (by omega), ba_of]
    | cons c r2 =>
      have hl : s.data.toList.length = r2.length + 2 := by rw [hs']; rfl
      by_cases hb : b = 48
      · subst hb
        by_cases hx : c = 120
        · subst hx
          have e1 : (s.data.toList.take 2 == [48, 120]) = true := by rw [hs']; simp
          rw [e1, hs']
          simp only [if_true]
          exact hj16 r2 120 hs'
        · by_cases hX : c = 88
          · subst hX
            have e1 : (s.data.toList.take 2 == [48, 120]) = false := by rw [hs']; simp
            have e2 : (s.data.toList.take 2 == [48, 88]) = true := by rw [hs']; simp
            rw [e1, e2, hs']
            simp only [Bool.false_eq_true, if_false]
            exact hj16 r2 88 hs'
          · have e1 : (s.data.toList.take 2 == [48, 120]) = false := by rw [hs']; simpa using hx
            have e2 : (s.data.toList.take 2 == [48, 88]) = false := by rw [hs']; simpa using hX
            have eb : baseOf s.data.toList = (8, c :: r2) := by
              rw [hs']
              unfold baseOf
              split <;> simp_all
            rw [e1, e2, eb]
            simp only [Bool.false_eq_true, if_false]
            refine Ev.step (f := fun k => four_Number.j1 k 8 (BA (c :: r2))) (fun k => ?_) (loop 8 _ (.inr (.inl rfl)) (by rw [hs']; simp))
            simp only [four_Number.j0, Bool.false_eq_true, if_false]
            rw [if_pos (by omega), if_pos (by omega), hb0, if_pos (show ((UInt8.toNat 48 : Nat) : Int) = 48 from rfl), if_pos (by omega), extract_tail, hs']
            rfl
      · have e1 : (s.data.toList.take 2 == [48, 120]) = false := by rw [hs']; simp [hb]
        have e2 : (s.data.toList.take 2 == [48, 88]) = false := by rw [hs']; simp [hb]
        have eb : baseOf s.data.toList = (10, s.data.toList) := by
          rw [hs']
          unfold baseOf
          split <;> simp_all
        have hne : ¬ ((b.toNat : Int) = 48) := fun e => hb ((byte_eq b 48).1 e)
        rw [e1, e2, eb]
        simp only [Bool.false_eq_true, if_false]
        refine Ev.step (f := fun k => four_Number.j1 k 10 (BA s.data.toList)) (fun k => ?_) (loop 10 _ (.inr (.inr rfl)) (Nat.le_refl _))
        simp only [four_Number.j0, Bool.false_eq_true, if_false]
        rw [if_pos (by omega), if_pos (by omega), hb0, if_neg hne, ba_of]
theorem number_calls (s : ByteArray) (hs : s.size ≤ 9223372036854775806) (w : World) :
    Calls Tryz.prog 27 #[.string s] w fun e w' => e = .returned (.tuple #[.int .u64 (numberV s.data.toList).1, .int .i64 (numberV s.data.toList).2.1, .int .i64 (numberV s.data.toList).2.2]) ∧ Below w.heap.size w w' := by
  obtain ⟨k, h⟩ := (number_ev s hs).rounds
  generalize numberV s.data.toList = r at *
  obtain ⟨r1, r2, r3⟩ := r
  exact four_Number.calls k s r1 r2 r3 w h
/-- The parts of a text. -/
def partsL (L : List (List UInt8)) : List (List UInt8) := if 1 < L.length ∧ L.getLast? = some [] then L.dropLast else L
def partsV (l : List UInt8) : List (List UInt8) := partsL (splitC 46 l)
theorem partsV_ne (l : List UInt8) : partsV l ≠ [] := by
  unfold partsV partsL
  have := splitC_ne 46 l
  split
  · rename_i h
    intro e
    have := congrArg List.length e
    simp at this
    omega
  · exact this
theorem partsL_mem {L : List (List UInt8)} : ∀ w ∈ partsL L, w ∈ L := by
  unfold partsL
  split
  · exact fun w h => List.dropLast_subset L h
  · exact fun w h => h
theorem partsV_part (l : List UInt8) : ∀ w ∈ partsV l, w.length ≤ l.length := fun w h => splitC_part 46 l w (partsL_mem w h)
theorem partsL_len (L : List (List UInt8)) : (partsL L).length ≤ L.length := by
  unfold partsL
  split
  · simp
  · exact Nat.le_refl _
theorem parts_f (s : ByteArray) (hs : s.size ≤ 4294967280) : four_parts.f s = some ((partsV s.data.toList).map BA) := by
  have hz := size_len s
  have hl := splitC_len 46 s.data.toList
  have hne := splitC_ne 46 s.data.toList
  unfold four_parts.f strings_Split.f
  rw [if_pos ⟨by omega, by decide⟩, show (⟨#[46]⟩ : ByteArray) = BA [46] from rfl, splitB_one]
  simp only [Option.bind_some, List.length_map]
  unfold partsV
  generalize splitC 46 s.data.toList = L at *
  have hpos : 0 < L.length := List.length_pos_iff.2 hne
  have w1 : wrap64 ((L.length : Int) - 1) = ((L.length - 1 : Nat) : Int) := by rw [wrap64_in _ (by omega)]; omega
  have hlast : rdOf ByteArray.empty (L.map BA) ((L.length - 1 : Nat) : Int) = BA L[L.length - 1] := rd_map L _ (by omega)
  unfold partsL
  by_cases h1 : 1 < L.length
  · rw [w1, if_pos (by omega), if_pos (by omega), if_pos (by omega), hlast, toList_data, ba_list]
    have eg : L.getLast? = some L[L.length - 1] := by rw [List.getLast?_eq_getElem?, List.getElem?_eq_getElem (by omega)]
    by_cases h2 : L[L.length - 1] = []
    · rw [if_pos h2, if_pos (by omega), if_pos ⟨h1, by rw [eg, h2]⟩, Int.toNat_natCast, ← List.map_take, List.dropLast_eq_take]
    · rw [if_neg h2, if_neg (fun h => h2 (by rw [eg] at h; exact Option.some.inj h.2))]
  · rw [if_neg (by omega), if_neg (fun h => h1 h.1)]
end Go.Proofs.YtgnahagnmodpdaaGreatDoor
