/- Several texts in one (wip/gen/pack.py): Ext SixV SixBits SixMask SixWithin SixFour SixKindV SixEq Builder App Hex SixRun SixKind SixRefKind Shelf Oct Bytes SixNV X0 Str X2 SixStrict SixNT SixNP SixPath SixText SixRunV SixBackV SixRefWrV SixBox SixScan SixWhole SixRefRun X3. -/
import Derived.BigQuiet
import Derived.Deep.QuietTactic
import Derived.Handy
import Derived.ProofKit
import Derived.Test.YtcgdjnmfeibnoaaDoorRows
import Derived.WalkKit
import Derived.WalkLawsBesides
import Derived.WalkSpells
import Derived.ChangeKeysEq
import Derived.Laws.BitsAllLaws
import Derived.Lib.Hide
import Derived.Laws.BitsLemmas
import Derived.Laws.Externs
import Derived.Laws.IdiomCopy
import Derived.Lib.AppendStr
import Derived.Lib.Builder
import Derived.Lib.Slices
import Derived.Lib.Strings
import Derived.Lib.UnsafeStr
import Derived.Lib.Walk
import Derived.Deep.LoopGhost
import Derived.Laws.MakeOwn
import Derived.Laws.OwnMore
import Derived.Lib.ConvBytes
import Derived.Test.YtcgdjnmfeibnoaaDoorWWords
import Derived.Shelf.Bits.Mul64
import Derived.Shelf.LaysM
import Derived.Shelf.Small.Bits
import Derived.Shelf.Small.Strs
import Derived.Shelf.Strconv.Itoa0
import Derived.Shelf.Strconv.Itoa1
import Derived.Shelf.Strconv.Itoa2
import Derived.Shelf.Strconv.Itoa3
import Derived.Shelf.Strings.Builder1
import Derived.Shelf.Strings.Builder2
import Derived.Shelf.Strings.BuilderF
import Derived.Shelf.Strings.Count
import Derived.Shelf.Strings.Cut
import Derived.Shelf.Strings.OnBuilder
import Derived.Shelf.Strings.Prefix
import Derived.Shelf.Strings.Repeat
import Derived.Shelf.Strings.Replace
import Derived.Shelf.Strings.RuneCount
import Derived.Shelf.Strings.Search1
import Derived.Shelf.Strings.Search2
import Derived.Shelf.Strings.Search3
import Derived.Shelf.Strings.Shaped
import Derived.Shelf.Strings.Split
import Derived.Shelf.Strings.SplitShaped
import Derived.Shelf.Unicode.DecodeSlow
import Derived.Test.YtcgdjnmfeibnoaaDoorProg
import Derived.IntWalk
import Derived.Lib.IndexMore
import Derived.Lib.SlTrimSet
import Derived.Lib.SplitLaws
import Derived.ArgAppend
import Derived.Below
import Derived.Deep.AppendLies
import Derived.Deep.CutBlock
import Derived.Deep.DeepCutAuto
import Derived.Deep.Draws
import Derived.Deep.OwnRows
import Derived.Deep.RegionHeld3
import Derived.KernelRfl
import Derived.Laws.BytesArg
import Derived.Laws.Rows
import Derived.Laws.Slices
import Derived.Maps.AppendAt
import Derived.OrdersHeld
import Derived.OwnWalk
import Derived.RowKit
import Derived.RowKit3
import Derived.Tactics
import Derived.Test.YtcgdjnmfeibnoaaDoorWApart
import Derived.Test.YtcgdjnmfeibnoaaDoorWArr
import Derived.Test.YtcgdjnmfeibnoaaDoorWAt
import Derived.Test.YtcgdjnmfeibnoaaDoorWEqStruct
import Derived.Test.YtcgdjnmfeibnoaaDoorWFoot
import Derived.Test.YtcgdjnmfeibnoaaDoorWFootNe
import Derived.Test.YtcgdjnmfeibnoaaDoorWFour
import Derived.Test.YtcgdjnmfeibnoaaDoorWGuard
import Derived.Test.YtcgdjnmfeibnoaaDoorWInv
import Derived.Test.YtcgdjnmfeibnoaaDoorWInvWords
import Derived.Test.YtcgdjnmfeibnoaaDoorWKept
import Derived.Test.YtcgdjnmfeibnoaaDoorWLast
import Derived.Test.YtcgdjnmfeibnoaaDoorWMore
import Derived.Test.YtcgdjnmfeibnoaaDoorWN
import Derived.Test.YtcgdjnmfeibnoaaDoorWNEv
import Derived.Test.YtcgdjnmfeibnoaaDoorWQPut
import Derived.Test.YtcgdjnmfeibnoaaDoorWRepsOne
import Derived.Test.YtcgdjnmfeibnoaaDoorWShare
import Derived.Test.YtcgdjnmfeibnoaaDoorWTab
import Derived.Test.YtcgdjnmfeibnoaaDoorWZeros
import Derived.WideLaws
import Derived.Lib.AppendIntMem
import Derived.Lib.OwnBridge
import Derived.Lib.TrailingZeros
import Derived.Shelf.RegionOpenPlain
import Derived.Shelf.Strings.SlTrimAscii
import Derived.Outline
import Derived.Deep.WholeRow
import Derived.Deep.Quiet
import Derived.StillTail
/-! Ext -/
namespace Go.Proofs.YtcgdjnmfeibnoaaDoor
open Go.RowKit
set_option linter.unusedVariables false
set_option linter.unusedSimpArgs false
theorem bdn {B : Nat} {w W : World} (h : Below B w W) (n : Nat) : Below B w (W.drewN n) := ⟨h.os, h.tape, h.output, h.size, h.block⟩
/-- What stands behind a call that let all stand that was there. -/
theorem after {W w1 : World} (hb : Below W.heap.size W w1) : (∀ b o, b < W.heap.size → w1.cell? ⟨b, o, none⟩ = W.cell? ⟨b, o, none⟩) ∧ (∀ b o, b < W.heap.size → w1.frozen? ⟨b, o, none⟩ = W.frozen? ⟨b, o, none⟩) ∧ W.heap.size ≤ w1.heap.size :=
  ⟨fun b o h => hb.cell (p := ⟨b, o, none⟩) h, fun b o h => hb.frozen (p := ⟨b, o, none⟩) h, hb.size⟩
/-- A world in which all that was in w0 is as it was. -/
structure Ext (w0 : World) where
  wd : World
  below : Below w0.heap.size w0 wd
instance (w0 : World) : Nonempty (Ext w0) := ⟨⟨w0, Below.refl _ _⟩⟩
@[go_sem] theorem Ext.cell {w0 : World} (x : Ext w0) {b o : Nat} (h : b < w0.heap.size) : x.wd.cell? ⟨b, o, none⟩ = w0.cell? ⟨b, o, none⟩ := x.below.cell (p := ⟨b, o, none⟩) h
theorem wp_region_ext {P : Program} {id : Nat} {Q : Exit → Act → World → Prop} {a : Act} {w : World} {l : List Oper} (hm : P.follows .mixedOrders = true) (hB : Region.lexB .any l.toArray = true)
    (h : wpQuiet P l.toArray (fun w' => ∃ x : Ext w, w' = x.wd) (fun a' => ∀ w', (∃ x : Ext w, w' = x.wd) → Q .normal a' w') l a) : (Code.region id l.toArray true).wp P Q a w :=
  wp_region_quiet (C := fun w' => ∃ x : Ext w, w' = x.wd) hm hB ⟨⟨_, (Below.refl _ w).drew⟩, rfl⟩ (by simpa using h)
/-- A callee's contract, met in a world that goes on from w. -/
theorem ext_of {P : Program} {f : FuncId} {args : Array Value} {w : World} {x : Ext w} {v : Value} (h : Calls P f args x.wd fun e w' => e = .returned v ∧ Below x.wd.heap.size x.wd w') :
    Calls P f args x.wd fun e w'' => e = .returned v ∧ ∃ y : Ext w, w'' = y.wd :=
  h.mono fun _ w' ⟨he, hb⟩ => ⟨he, ⟨w', x.below.trans (hb.mono x.below.size)⟩, rfl⟩
end Go.Proofs.YtcgdjnmfeibnoaaDoor
/-! SixV -/
namespace Go.Proofs.YtcgdjnmfeibnoaaDoor
open Go.RowKit
set_option linter.unusedVariables false
set_option linter.unusedSimpArgs false
abbrev A8 (x0 x1 x2 x3 x4 x5 x6 x7 : Int) : Value := .agg #[.int .u16 x0, .int .u16 x1, .int .u16 x2, .int .u16 x3, .int .u16 x4, .int .u16 x5, .int .u16 x6, .int .u16 x7]
/-- The number that eight pieces are. -/
def V8 (x0 x1 x2 x3 x4 x5 x6 x7 : Int) : Int := ((((((x0 * 65536 + x1) * 65536 + x2) * 65536 + x3) * 65536 + x4) * 65536 + x5) * 65536 + x6) * 65536 + x7
/-- Each piece is of 16 bits. -/
structure R8 (x0 x1 x2 x3 x4 x5 x6 x7 : Int) : Prop where
  h0 : 0 ≤ x0 ∧ x0 ≤ 65535
  h1 : 0 ≤ x1 ∧ x1 ≤ 65535
  h2 : 0 ≤ x2 ∧ x2 ≤ 65535
  h3 : 0 ≤ x3 ∧ x3 ≤ 65535
  h4 : 0 ≤ x4 ∧ x4 ≤ 65535
  h5 : 0 ≤ x5 ∧ x5 ≤ 65535
  h6 : 0 ≤ x6 ∧ x6 ≤ 65535
  h7 : 0 ≤ x7 ∧ x7 ≤ 65535
theorem ret_int {k : IntKind} {a b : Int} (h : a = b) : Ending.returned (.int k a) = .returned (.int k b) := by rw [h]
/-- What goes on from a world goes on from the one ahead of it. -/
theorem chain {w W W' : World} (h : Below w.heap.size w W) (k : Below W.heap.size W W') : Below w.heap.size w W' := h.trans (k.mono h.size)
theorem run_part8 {P : Program} {E : TypeId} (hE : P.underlying E = some (.int .u16)) (cs : Array Value) (k : Nat) (v : Value) (h : cs[k]? = some v) (w : World) : (part E cs k).run P w = .ok v w := by
  simp [part, isAgg, run_underlying hE, h]
/-- Two arrays of eight pieces: '=='. -/
theorem run_eq8 {P : Program} {T E : TypeId} {i : TypeInfo} (hT : P.underlying T = some (.array 8 E)) (hi : P.info? E = some i) (hE : P.underlying E = some (.int .u16)) (hc : P.cellsOf E = 1)
    (x0 x1 x2 x3 x4 x5 x6 x7 y0 y1 y2 y3 y4 y5 y6 y7 : Int) (w : World) :
    (Op.equalIn 10000 T (A8 x0 x1 x2 x3 x4 x5 x6 x7) (A8 y0 y1 y2 y3 y4 y5 y6 y7)).run P w = .ok (x0 == y0 && (x1 == y1 && (x2 == y2 && (x3 == y3 && (x4 == y4 && (x5 == y5 && (x6 == y6 && x7 == y7))))))) w := by
  rw [run_equalIn_array w 9999 _ _ hT hi, hc, show List.range 8 = [0, 1, 2, 3, 4, 5, 6, 7] from rfl]
  have he : ∀ a b : Int, (Op.equalIn 9999 E (.int .u16 a) (.int .u16 b)).run P w = .ok (a == b) w := fun a b => run_equalIn_int w 9998 E .u16 .u16 a b hE
  have st : ∀ (xs ys : Array Value) (k : Nat) (ks : List Nat) (a b : Int) (r : Bool), xs[k]? = some (.int .u16 a) → ys[k]? = some (.int .u16 b) → (Op.eqItems 9999 E 1 xs ys ks).run P w = .ok r w →
      (Op.eqItems 9999 E 1 xs ys (k :: ks)).run P w = .ok (a == b && r) w := by
    intro xs ys k ks a b r h1 h2 h3
    simp only [Op.eqItems, Sem.run_bind, Nat.mul_one]
    rw [run_part8 hE _ k _ h1, Result.andThen_ok, run_part8 hE _ k _ h2, Result.andThen_ok, he, Result.andThen_ok]
    cases a == b
    · simp
    · simpa using h3
  have h8 : (Op.eqItems 9999 E 1 #[.int .u16 x0, .int .u16 x1, .int .u16 x2, .int .u16 x3, .int .u16 x4, .int .u16 x5, .int .u16 x6, .int .u16 x7] #[.int .u16 y0, .int .u16 y1, .int .u16 y2, .int .u16 y3, .int .u16 y4, .int .u16 y5, .int .u16 y6, .int .u16 y7] []).run P w = .ok true w := rfl
  have h7 := st _ _ 7 [] x7 y7 _ rfl rfl h8
  have h6 := st _ _ 6 [7] x6 y6 _ rfl rfl h7
  have h5 := st _ _ 5 [6, 7] x5 y5 _ rfl rfl h6
  have h4 := st _ _ 4 [5, 6, 7] x4 y4 _ rfl rfl h5
  have h3 := st _ _ 3 [4, 5, 6, 7] x3 y3 _ rfl rfl h4
  have h2 := st _ _ 2 [3, 4, 5, 6, 7] x2 y2 _ rfl rfl h3
  have h1 := st _ _ 1 [2, 3, 4, 5, 6, 7] x1 y1 _ rfl rfl h2
  have h0 := st _ _ 0 [1, 2, 3, 4, 5, 6, 7] x0 y0 _ rfl rfl h1
  rw [Bool.and_true] at h0
  exact h0
/-- Two addresses of the same pieces are the same number. -/
theorem eq8_dec {x0 x1 x2 x3 x4 x5 x6 x7 y0 y1 y2 y3 y4 y5 y6 y7 : Int} (h : R8 x0 x1 x2 x3 x4 x5 x6 x7) (k : R8 y0 y1 y2 y3 y4 y5 y6 y7) :
    (x0 == y0 && (x1 == y1 && (x2 == y2 && (x3 == y3 && (x4 == y4 && (x5 == y5 && (x6 == y6 && x7 == y7))))))) = decide (V8 x0 x1 x2 x3 x4 x5 x6 x7 = V8 y0 y1 y2 y3 y4 y5 y6 y7) := by
  obtain ⟨⟨_, _⟩, ⟨_, _⟩, ⟨_, _⟩, ⟨_, _⟩, ⟨_, _⟩, ⟨_, _⟩, ⟨_, _⟩, ⟨_, _⟩⟩ := h
  obtain ⟨⟨_, _⟩, ⟨_, _⟩, ⟨_, _⟩, ⟨_, _⟩, ⟨_, _⟩, ⟨_, _⟩, ⟨_, _⟩, ⟨_, _⟩⟩ := k
  rw [Bool.eq_iff_iff]
  simp only [Bool.and_eq_true, beq_iff_eq, decide_eq_true_eq]
  unfold V8
  omega
@[go_sem] theorem eq8_six (x0 x1 x2 x3 x4 x5 x6 x7 y0 y1 y2 y3 y4 y5 y6 y7 : Int) (w : World) :
    (Op.equalIn 10000 24 (A8 x0 x1 x2 x3 x4 x5 x6 x7) (A8 y0 y1 y2 y3 y4 y5 y6 y7)).run Tryd.prog w = .ok (x0 == y0 && (x1 == y1 && (x2 == y2 && (x3 == y3 && (x4 == y4 && (x5 == y5 && (x6 == y6 && x7 == y7))))))) w := by
  obtain ⟨i, hi, _⟩ := info_parts (show (Tryd.prog.info? 22).map (fun i => (i.zero, i.size, i.bytes)) = some (some (.int .u16 0), 1, 2) by kernel_rfl)
  exact run_eq8 Tryd.underlying24 hi Tryd.underlying22 (by kernel_rfl) ..
@[go_sem] theorem eq8_ref (x0 x1 x2 x3 x4 x5 x6 x7 y0 y1 y2 y3 y4 y5 y6 y7 : Int) (w : World) :
    (Op.equalIn 10000 30 (A8 x0 x1 x2 x3 x4 x5 x6 x7) (A8 y0 y1 y2 y3 y4 y5 y6 y7)).run Tryd.prog w = .ok (x0 == y0 && (x1 == y1 && (x2 == y2 && (x3 == y3 && (x4 == y4 && (x5 == y5 && (x6 == y6 && x7 == y7))))))) w := by
  obtain ⟨i, hi, _⟩ := info_parts (show (Tryd.prog.info? 22).map (fun i => (i.zero, i.size, i.bytes)) = some (some (.int .u16 0), 1, 2) by kernel_rfl)
  exact run_eq8 Tryd.underlying30 hi Tryd.underlying22 (by kernel_rfl) ..
end Go.Proofs.YtcgdjnmfeibnoaaDoor
/-! SixBits -/
namespace Go.Proofs.YtcgdjnmfeibnoaaDoor
open Go.RowKit
set_option linter.unusedVariables false
set_option linter.unusedSimpArgs false
theorem nat_and_compl_tail (a t : Nat) (ha : a < 65536) (ht : t ≤ 16) : a &&& (65535 - (2 ^ t - 1)) = a - a % 2 ^ t := by
  have e : a - a % 2 ^ t = 2 ^ t * (a / 2 ^ t) := by have := Nat.div_add_mod a (2 ^ t); omega
  rw [e]
  apply Nat.eq_of_testBit_eq
  intro i
  have hp : 2 ^ t ≤ 65536 := by have := Nat.pow_le_pow_right (n := 2) (by omega) ht; simpa using this
  have hq : 0 < 2 ^ t := Nat.two_pow_pos t
  have e2 : 65535 - (2 ^ t - 1) = 2 ^ 16 - ((2 ^ t - 1) + 1) := by omega
  rw [Nat.testBit_and, e2, Nat.testBit_two_pow_sub_succ (by omega), Nat.testBit_two_pow_mul, Nat.testBit_div_two_pow, Nat.testBit_two_pow_sub_one]
  by_cases hi : t ≤ i
  · have h1 : ¬ i < t := by omega
    rw [show i - t + t = i from by omega]
    by_cases h16 : i < 16
    · simp [hi, h1, h16]
    · have hz : a.testBit i = false := Nat.testBit_lt_two_pow (Nat.lt_of_lt_of_le ha (by have := Nat.pow_le_pow_right (n := 2) (by omega) (show 16 ≤ i by omega); simpa using this))
      simp [hz]
  · have h1 : i < t := by omega
    have h2 : ¬ i ≥ t := by omega
    simp [h1, h2]
theorem pow_le16 {t : Nat} (ht : t ≤ 16) : (2 : Int) ^ t ≤ 65536 := by
  have := Nat.pow_le_pow_right (n := 2) (by omega) ht
  have h : ((2 ^ t : Nat) : Int) ≤ ((2 ^ 16 : Nat) : Int) := by exact_mod_cast this
  simpa using h
theorem pow_pos2 (t : Nat) : (0 : Int) < 2 ^ t := by
  have := Nat.two_pow_pos t
  have h : ((0 : Nat) : Int) < ((2 ^ t : Nat) : Int) := by exact_mod_cast this
  simpa using h
theorem andNot_tail (x : Int) (t : Nat) (h0 : 0 ≤ x) (h1 : x ≤ 65535) (ht : t ≤ 16) :
    bits .andNot .u16 x (IntKind.u16.wrap (IntKind.u16.wrap ((2 : Int) ^ t) - 1)) = x - x % 2 ^ t := by
  have hp := pow_pos2 t
  have hl := pow_le16 ht
  have e : IntKind.u16.wrap (IntKind.u16.wrap ((2 : Int) ^ t) - 1) = 2 ^ t - 1 := by
    simp only [IntKind.wrap_u16]
    by_cases h16 : (2 : Int) ^ t = 65536
    · rw [h16]; decide
    · omega
  rw [e, u16_andNot x _ h0 (by omega) (by omega) (by omega)]
  obtain ⟨a, rfl⟩ := Int.eq_ofNat_of_zero_le h0
  have e2 : ((2 : Int) ^ t - 1).toNat = 2 ^ t - 1 := by
    have : (2 : Int) ^ t = ((2 ^ t : Nat) : Int) := by simp
    rw [this]; omega
  rw [e2, Int.toNat_natCast, nat_and_compl_tail a t (by omega) ht]
  have h3 : (a : Int) % 2 ^ t = ((a % 2 ^ t : Nat) : Int) := by simp
  rw [h3]
  have := Nat.mod_le a (2 ^ t)
  omega
theorem andNot_none (x : Int) (h0 : 0 ≤ x) (h1 : x ≤ 65535) : bits .andNot .u16 x 0 = x := by
  have h := andNot_tail x 0 h0 h1 (by omega)
  rw [show IntKind.u16.wrap (IntKind.u16.wrap ((2 : Int) ^ 0) - 1) = 0 from by decide] at h
  simpa using h
theorem andNot_whole (x : Int) (h0 : 0 ≤ x) (h1 : x ≤ 65535) : bits .andNot .u16 x (IntKind.u16.wrap (IntKind.u16.wrap 65536 - 1)) = 0 := by
  have := andNot_tail x 16 h0 h1 (by omega)
  rw [show ((2 : Int) ^ 16) = 65536 from by decide] at this
  rw [this]; omega
theorem emod_le16 (x : Int) {t : Nat} (ht : t ≤ 16) (h0 : 0 ≤ x) : x % 2 ^ t ≤ x := by
  have hp := pow_pos2 t
  have h1 := Int.mul_ediv_add_emod x (2 ^ t)
  have h2 := Int.mul_nonneg (Int.le_of_lt hp) (Int.ediv_nonneg h0 (Int.le_of_lt hp))
  omega
/-- The last bits of a number of three parts. -/
theorem mod_mid (A x lo B p c : Int) (hx : 0 ≤ x) (hB : 0 < B) (h0 : 0 ≤ lo) (h1 : lo < B) (hp : 0 < p) (hc : p * c = 65536) :
    ((A * 65536 + x) * B + lo) % (p * B) = (x % p) * B + lo := by
  have e1 : x = p * (x / p) + x % p := (Int.mul_ediv_add_emod x p).symm
  have h2 := Int.emod_nonneg x (show p ≠ 0 by omega)
  have h3 := Int.emod_lt_of_pos x hp
  have e : (A * 65536 + x) * B + lo = ((x % p) * B + lo) + (p * B) * (A * c + x / p) := by
    rw [← hc]
    calc (A * (p * c) + x) * B + lo = (A * (p * c) + (p * (x / p) + x % p)) * B + lo := by rw [← e1]
      _ = ((x % p) * B + lo) + (p * B) * (A * c + x / p) := by
        simp only [Int.add_mul, Int.mul_add]
        have : A * (p * c) * B = p * B * (A * c) := by ac_rfl
        have : p * (x / p) * B = p * B * (x / p) := by ac_rfl
        omega
  rw [e, Int.add_mul_emod_self_left]
  apply Int.emod_eq_of_lt
  · have := Int.mul_nonneg h2 (Int.le_of_lt hB); omega
  · have h4 : x % p + 1 ≤ p := by omega
    have h5 := Int.mul_le_mul_of_nonneg_right h4 (Int.le_of_lt hB)
    rw [Int.add_mul] at h5
    omega
end Go.Proofs.YtcgdjnmfeibnoaaDoor
/-! SixMask -/
namespace Go.Proofs.YtcgdjnmfeibnoaaDoor
open Go.RowKit
set_option linter.unusedVariables false
set_option linter.unusedSimpArgs false
/-- What is in the last bits of a number of 128 bits, behind the first n. -/
def tailOf (v n : Int) : Int := v % (2 ^ (128 - n).toNat)
/-- What Mask answers. -/
def MaskPost (v n : Int) (w : World) (e : Ending) (w' : World) : Prop :=
  ∃ y0 y1 y2 y3 y4 y5 y6 y7 : Int, e = .returned (.tuple #[A8 y0 y1 y2 y3 y4 y5 y6 y7, .int .i64 0]) ∧ R8 y0 y1 y2 y3 y4 y5 y6 y7 ∧
    V8 y0 y1 y2 y3 y4 y5 y6 y7 = v - tailOf v n ∧ Below w.heap.size w w'
theorem mask_ret {v n : Int} {w W : World} {y0 y1 y2 y3 y4 y5 y6 y7 : Int} (hr : R8 y0 y1 y2 y3 y4 y5 y6 y7) (h1 : V8 y0 y1 y2 y3 y4 y5 y6 y7 = v - tailOf v n) (hb : Below w.heap.size w W) :
    MaskPost v n w (.returned (.tuple #[A8 y0 y1 y2 y3 y4 y5 y6 y7, .int .i64 0])) W := ⟨y0, y1, y2, y3, y4, y5, y6, y7, rfl, hr, h1, hb⟩
set_option maxHeartbeats 2000000 in
set_option maxRecDepth 100000 in
theorem mask_in_0 (x0 x1 x2 x3 x4 x5 x6 x7 : Int) (h : R8 x0 x1 x2 x3 x4 x5 x6 x7) (n : Int) (n0 : 0 < n) (n1 : n < 16) (w : World) :
    Calls Tryd.prog 61 #[A8 x0 x1 x2 x3 x4 x5 x6 x7, .int .i64 n] w (MaskPost (V8 x0 x1 x2 x3 x4 x5 x6 x7) n w) := by
  go_enter Tryd.func61, Tryd.ntmps61
  go_wp2
  refine wp_loop_rounds 9 ?_
  iterate 8 (rw [rounds_succ]; go_wp2; go_region; go_wp2)
  rw [rounds_succ]
  go_wp2
  go_returns
  refine mask_ret ?_ ?_ (by go_grown)
  all_goals go_tidy
  all_goals obtain ⟨⟨_, _⟩, ⟨_, _⟩, ⟨_, _⟩, ⟨_, _⟩, ⟨_, _⟩, ⟨_, _⟩, ⟨_, _⟩, ⟨_, _⟩⟩ := h
  all_goals try rw [show min 16 (max 0 n) = n from by omega]
  all_goals try rw [show min 16 (max 0 (n - 16)) = 0 from by omega]
  all_goals try rw [show min 16 (max 0 (n - 32)) = 0 from by omega]
  all_goals try rw [show min 16 (max 0 (n - 48)) = 0 from by omega]
  all_goals try rw [show min 16 (max 0 (n - 64)) = 0 from by omega]
  all_goals try rw [show min 16 (max 0 (n - 80)) = 0 from by omega]
  all_goals try rw [show min 16 (max 0 (n - 96)) = 0 from by omega]
  all_goals try rw [show min 16 (max 0 (n - 112)) = 0 from by omega]
  all_goals try rw [show IntKind.u16.wrap (IntKind.u16.wrap ((2 : Int) ^ ((16 : Int) - 16).toNat) - 1) = 0 from by decide]
  all_goals try rw [show ((2 : Int) ^ ((16 : Int) - 0).toNat) = 65536 from by decide]
  all_goals have ht : (16 - n).toNat ≤ 16 := by omega
  all_goals rw [andNot_tail x0 _ (by assumption) (by assumption) ht, andNot_whole x1 (by assumption) (by assumption), andNot_whole x2 (by assumption) (by assumption), andNot_whole x3 (by assumption) (by assumption), andNot_whole x4 (by assumption) (by assumption), andNot_whole x5 (by assumption) (by assumption), andNot_whole x6 (by assumption) (by assumption), andNot_whole x7 (by assumption) (by assumption)]
  · generalize hu : x0 % 2 ^ (16 - n).toNat = u
    have h1 := Int.emod_nonneg x0 (show (2 : Int) ^ (16 - n).toNat ≠ 0 from by have := pow_pos2 ((16 - n).toNat); omega)
    have h2 := emod_le16 x0 ht (by assumption)
    rw [hu] at h1 h2
    constructor <;> omega
  · have e : V8 x0 x1 x2 x3 x4 x5 x6 x7 = (0 * 65536 + x0) * 5192296858534827628530496329220096 + ((((((x1 * 65536 + x2) * 65536 + x3) * 65536 + x4) * 65536 + x5) * 65536 + x6) * 65536 + x7) := by unfold V8; omega
    have e2 : (2 : Int) ^ (128 - n).toNat = 2 ^ (16 - n).toNat * 5192296858534827628530496329220096 := by
      rw [show (128 - n).toNat = (16 - n).toNat + 112 from by omega, Int.pow_add]
      rfl
    have hpc : (2 : Int) ^ (16 - n).toNat * 2 ^ (16 - (16 - n).toNat) = 65536 := by
      rw [← Int.pow_add, show (16 - n).toNat + (16 - (16 - n).toNat) = 16 from by omega]
      rfl
    unfold tailOf
    rw [e2, e, mod_mid _ _ _ _ _ _ (by assumption) (by decide) (by omega) (by omega) (pow_pos2 _) hpc]
    generalize x0 % 2 ^ (16 - n).toNat = u
    unfold V8
    omega
set_option maxHeartbeats 2000000 in
set_option maxRecDepth 100000 in
theorem mask_in_1 (x0 x1 x2 x3 x4 x5 x6 x7 : Int) (h : R8 x0 x1 x2 x3 x4 x5 x6 x7) (n : Int) (n0 : 16 < n) (n1 : n < 32) (w : World) :
    Calls Tryd.prog 61 #[A8 x0 x1 x2 x3 x4 x5 x6 x7, .int .i64 n] w (MaskPost (V8 x0 x1 x2 x3 x4 x5 x6 x7) n w) := by
  go_enter Tryd.func61, Tryd.ntmps61
  go_wp2
  refine wp_loop_rounds 9 ?_
  iterate 8 (rw [rounds_succ]; go_wp2; go_region; go_wp2)
  rw [rounds_succ]
  go_wp2
  go_returns
  refine mask_ret ?_ ?_ (by go_grown)
  all_goals go_tidy
  all_goals obtain ⟨⟨_, _⟩, ⟨_, _⟩, ⟨_, _⟩, ⟨_, _⟩, ⟨_, _⟩, ⟨_, _⟩, ⟨_, _⟩, ⟨_, _⟩⟩ := h
  all_goals try rw [show min 16 (max 0 n) = 16 from by omega]
  all_goals try rw [show min 16 (max 0 (n - 16)) = (n - 16) from by omega]
  all_goals try rw [show min 16 (max 0 (n - 32)) = 0 from by omega]
  all_goals try rw [show min 16 (max 0 (n - 48)) = 0 from by omega]
  all_goals try rw [show min 16 (max 0 (n - 64)) = 0 from by omega]
  all_goals try rw [show min 16 (max 0 (n - 80)) = 0 from by omega]
  all_goals try rw [show min 16 (max 0 (n - 96)) = 0 from by omega]
  all_goals try rw [show min 16 (max 0 (n - 112)) = 0 from by omega]
  all_goals try rw [show IntKind.u16.wrap (IntKind.u16.wrap ((2 : Int) ^ ((16 : Int) - 16).toNat) - 1) = 0 from by decide]
  all_goals try rw [show ((2 : Int) ^ ((16 : Int) - 0).toNat) = 65536 from by decide]
  all_goals have ht : (16 - (n - 16)).toNat ≤ 16 := by omega
  all_goals rw [andNot_none x0 (by assumption) (by assumption), andNot_tail x1 _ (by assumption) (by assumption) ht, andNot_whole x2 (by assumption) (by assumption), andNot_whole x3 (by assumption) (by assumption), andNot_whole x4 (by assumption) (by assumption), andNot_whole x5 (by assumption) (by assumption), andNot_whole x6 (by assumption) (by assumption), andNot_whole x7 (by assumption) (by assumption)]
  · generalize hu : x1 % 2 ^ (16 - (n - 16)).toNat = u
    have h1 := Int.emod_nonneg x1 (show (2 : Int) ^ (16 - (n - 16)).toNat ≠ 0 from by have := pow_pos2 ((16 - (n - 16)).toNat); omega)
    have h2 := emod_le16 x1 ht (by assumption)
    rw [hu] at h1 h2
    constructor <;> omega
  · have e : V8 x0 x1 x2 x3 x4 x5 x6 x7 = (x0 * 65536 + x1) * 79228162514264337593543950336 + (((((x2 * 65536 + x3) * 65536 + x4) * 65536 + x5) * 65536 + x6) * 65536 + x7) := by unfold V8; omega
    have e2 : (2 : Int) ^ (128 - n).toNat = 2 ^ (16 - (n - 16)).toNat * 79228162514264337593543950336 := by
      rw [show (128 - n).toNat = (16 - (n - 16)).toNat + 96 from by omega, Int.pow_add]
      rfl
    have hpc : (2 : Int) ^ (16 - (n - 16)).toNat * 2 ^ (16 - (16 - (n - 16)).toNat) = 65536 := by
      rw [← Int.pow_add, show (16 - (n - 16)).toNat + (16 - (16 - (n - 16)).toNat) = 16 from by omega]
      rfl
    unfold tailOf
    rw [e2, e, mod_mid _ _ _ _ _ _ (by assumption) (by decide) (by omega) (by omega) (pow_pos2 _) hpc]
    generalize x1 % 2 ^ (16 - (n - 16)).toNat = u
    unfold V8
    omega
set_option maxHeartbeats 2000000 in
set_option maxRecDepth 100000 in
theorem mask_in_2 (x0 x1 x2 x3 x4 x5 x6 x7 : Int) (h : R8 x0 x1 x2 x3 x4 x5 x6 x7) (n : Int) (n0 : 32 < n) (n1 : n < 48) (w : World) :
    Calls Tryd.prog 61 #[A8 x0 x1 x2 x3 x4 x5 x6 x7, .int .i64 n] w (MaskPost (V8 x0 x1 x2 x3 x4 x5 x6 x7) n w) := by
  go_enter Tryd.func61, Tryd.ntmps61
  go_wp2
  refine wp_loop_rounds 9 ?_
  iterate 8 (rw [rounds_succ]; go_wp2; go_region; go_wp2)
  rw [rounds_succ]
  go_wp2
  go_returns
  refine mask_ret ?_ ?_ (by go_grown)
  all_goals go_tidy
  all_goals obtain ⟨⟨_, _⟩, ⟨_, _⟩, ⟨_, _⟩, ⟨_, _⟩, ⟨_, _⟩, ⟨_, _⟩, ⟨_, _⟩, ⟨_, _⟩⟩ := h
  all_goals try rw [show min 16 (max 0 n) = 16 from by omega]
  all_goals try rw [show min 16 (max 0 (n - 16)) = 16 from by omega]
  all_goals try rw [show min 16 (max 0 (n - 32)) = (n - 32) from by omega]
  all_goals try rw [show min 16 (max 0 (n - 48)) = 0 from by omega]
  all_goals try rw [show min 16 (max 0 (n - 64)) = 0 from by omega]
  all_goals try rw [show min 16 (max 0 (n - 80)) = 0 from by omega]
  all_goals try rw [show min 16 (max 0 (n - 96)) = 0 from by omega]
  all_goals try rw [show min 16 (max 0 (n - 112)) = 0 from by omega]
  all_goals try rw [show IntKind.u16.wrap (IntKind.u16.wrap ((2 : Int) ^ ((16 : Int) - 16).toNat) - 1) = 0 from by decide]
  all_goals try rw [show ((2 : Int) ^ ((16 : Int) - 0).toNat) = 65536 from by decide]
  all_goals have ht : (16 - (n - 32)).toNat ≤ 16 := by omega
  all_goals rw [andNot_none x0 (by assumption) (by assumption), andNot_none x1 (by assumption) (by assumption), andNot_tail x2 _ (by assumption) (by assumption) ht, andNot_whole x3 (by assumption) (by assumption), andNot_whole x4 (by assumption) (by assumption), andNot_whole x5 (by assumption) (by assumption), andNot_whole x6 (by assumption) (by assumption), andNot_whole x7 (by assumption) (by assumption)]
  · generalize hu : x2 % 2 ^ (16 - (n - 32)).toNat = u
    have h1 := Int.emod_nonneg x2 (show (2 : Int) ^ (16 - (n - 32)).toNat ≠ 0 from by have := pow_pos2 ((16 - (n - 32)).toNat); omega)
    have h2 := emod_le16 x2 ht (by assumption)
    rw [hu] at h1 h2
    constructor <;> omega
  · have e : V8 x0 x1 x2 x3 x4 x5 x6 x7 = ((x0 * 65536 + x1) * 65536 + x2) * 1208925819614629174706176 + ((((x3 * 65536 + x4) * 65536 + x5) * 65536 + x6) * 65536 + x7) := by unfold V8; omega
    have e2 : (2 : Int) ^ (128 - n).toNat = 2 ^ (16 - (n - 32)).toNat * 1208925819614629174706176 := by
      rw [show (128 - n).toNat = (16 - (n - 32)).toNat + 80 from by omega, Int.pow_add]
      rfl
    have hpc : (2 : Int) ^ (16 - (n - 32)).toNat * 2 ^ (16 - (16 - (n - 32)).toNat) = 65536 := by
      rw [← Int.pow_add, show (16 - (n - 32)).toNat + (16 - (16 - (n - 32)).toNat) = 16 from by omega]
      rfl
    unfold tailOf
    rw [e2, e, mod_mid _ _ _ _ _ _ (by assumption) (by decide) (by omega) (by omega) (pow_pos2 _) hpc]
    generalize x2 % 2 ^ (16 - (n - 32)).toNat = u
    unfold V8
    omega
set_option maxHeartbeats 2000000 in
set_option maxRecDepth 100000 in
theorem mask_in_3 (x0 x1 x2 x3 x4 x5 x6 x7 : Int) (h : R8 x0 x1 x2 x3 x4 x5 x6 x7) (n : Int) (n0 : 48 < n) (n1 : n < 64) (w : World) :
    Calls Tryd.prog 61 #[A8 x0 x1 x2 x3 x4 x5 x6 x7, .int .i64 n] w (MaskPost (V8 x0 x1 x2 x3 x4 x5 x6 x7) n w) := by
  go_enter Tryd.func61, Tryd.ntmps61
  go_wp2
  refine wp_loop_rounds 9 ?_
  iterate 8 (rw [rounds_succ]; go_wp2; go_region; go_wp2)
  rw [rounds_succ]
  go_wp2
  go_returns
  refine mask_ret ?_ ?_ (by go_grown)
  all_goals go_tidy
  all_goals obtain ⟨⟨_, _⟩, ⟨_, _⟩, ⟨_, _⟩, ⟨_, _⟩, ⟨_, _⟩, ⟨_, _⟩, ⟨_, _⟩, ⟨_, _⟩⟩ := h
  all_goals try rw [show min 16 (max 0 n) = 16 from by omega]
  all_goals try rw [show min 16 (max 0 (n - 16)) = 16 from by omega]
  all_goals try rw [show min 16 (max 0 (n - 32)) = 16 from by omega]
  all_goals try rw [show min 16 (max 0 (n - 48)) = (n - 48) from by omega]
  all_goals try rw [show min 16 (max 0 (n - 64)) = 0 from by omega]
  all_goals try rw [show min 16 (max 0 (n - 80)) = 0 from by omega]
  all_goals try rw [show min 16 (max 0 (n - 96)) = 0 from by omega]
  all_goals try rw [show min 16 (max 0 (n - 112)) = 0 from by omega]
  all_goals try rw [show IntKind.u16.wrap (IntKind.u16.wrap ((2 : Int) ^ ((16 : Int) - 16).toNat) - 1) = 0 from by decide]
  all_goals try rw [show ((2 : Int) ^ ((16 : Int) - 0).toNat) = 65536 from by decide]
  all_goals have ht : (16 - (n - 48)).toNat ≤ 16 := by omega
  all_goals rw [andNot_none x0 (by assumption) (by assumption), andNot_none x1 (by assumption) (by assumption), andNot_none x2 (by assumption) (by assumption), andNot_tail x3 _ (by assumption) (by assumption) ht, andNot_whole x4 (by assumption) (by assumption), andNot_whole x5 (by assumption) (by assumption), andNot_whole x6 (by assumption) (by assumption), andNot_whole x7 (by assumption) (by assumption)]
  · generalize hu : x3 % 2 ^ (16 - (n - 48)).toNat = u
    have h1 := Int.emod_nonneg x3 (show (2 : Int) ^ (16 - (n - 48)).toNat ≠ 0 from by have := pow_pos2 ((16 - (n - 48)).toNat); omega)
    have h2 := emod_le16 x3 ht (by assumption)
    rw [hu] at h1 h2
    constructor <;> omega
  · have e : V8 x0 x1 x2 x3 x4 x5 x6 x7 = (((x0 * 65536 + x1) * 65536 + x2) * 65536 + x3) * 18446744073709551616 + (((x4 * 65536 + x5) * 65536 + x6) * 65536 + x7) := by unfold V8; omega
    have e2 : (2 : Int) ^ (128 - n).toNat = 2 ^ (16 - (n - 48)).toNat * 18446744073709551616 := by
      rw [show (128 - n).toNat = (16 - (n - 48)).toNat + 64 from by omega, Int.pow_add]
      rfl
    have hpc : (2 : Int) ^ (16 - (n - 48)).toNat * 2 ^ (16 - (16 - (n - 48)).toNat) = 65536 := by
      rw [← Int.pow_add, show (16 - (n - 48)).toNat + (16 - (16 - (n - 48)).toNat) = 16 from by omega]
      rfl
    unfold tailOf
    rw [e2, e, mod_mid _ _ _ _ _ _ (by assumption) (by decide) (by omega) (by omega) (pow_pos2 _) hpc]
    generalize x3 % 2 ^ (16 - (n - 48)).toNat = u
    unfold V8
    omega
set_option maxHeartbeats 2000000 in
set_option maxRecDepth 100000 in
theorem mask_in_4 (x0 x1 x2 x3 x4 x5 x6 x7 : Int) (h : R8 x0 x1 x2 x3 x4 x5 x6 x7) (n : Int) (n0 : 64 < n) (n1 : n < 80) (w : World) :
    Calls Tryd.prog 61 #[A8 x0 x1 x2 x3 x4 x5 x6 x7, .int .i64 n] w (MaskPost (V8 x0 x1 x2 x3 x4 x5 x6 x7) n w) := by
  go_enter Tryd.func61, Tryd.ntmps61
  go_wp2
  refine wp_loop_rounds 9 ?_
  iterate 8 (rw [rounds_succ]; go_wp2; go_region; go_wp2)
  rw [rounds_succ]
  go_wp2
  go_returns
  refine mask_ret ?_ ?_ (by go_grown)
  all_goals go_tidy
  all_goals obtain ⟨⟨_, _⟩, ⟨_, _⟩, ⟨_, _⟩, ⟨_, _⟩, ⟨_, _⟩, ⟨_, _⟩, ⟨_, _⟩, ⟨_, _⟩⟩ := h
  all_goals try rw [show min 16 (max 0 n) = 16 from by omega]
  all_goals try rw [show min 16 (max 0 (n - 16)) = 16 from by omega]
  all_goals try rw [show min 16 (max 0 (n - 32)) = 16 from by omega]
  all_goals try rw [show min 16 (max 0 (n - 48)) = 16 from by omega]
  all_goals try rw [show min 16 (max 0 (n - 64)) = (n - 64) from by omega]
  all_goals try rw [show min 16 (max 0 (n - 80)) = 0 from by omega]
  all_goals try rw [show min 16 (max 0 (n - 96)) = 0 from by omega]
  all_goals try rw [show min 16 (max 0 (n - 112)) = 0 from by omega]
  all_goals try rw [show IntKind.u16.wrap (IntKind.u16.wrap ((2 : Int) ^ ((16 : Int) - 16).toNat) - 1) = 0 from by decide]
  all_goals try rw [show ((2 : Int) ^ ((16 : Int) - 0).toNat) = 65536 from by decide]
  all_goals have ht : (16 - (n - 64)).toNat ≤ 16 := by omega
  all_goals rw [andNot_none x0 (by assumption) (by assumption), andNot_none x1 (by assumption) (by assumption), andNot_none x2 (by assumption) (by assumption), andNot_none x3 (by assumption) (by assumption), andNot_tail x4 _ (by assumption) (by assumption) ht, andNot_whole x5 (by assumption) (by assumption), andNot_whole x6 (by assumption) (by assumption), andNot_whole x7 (by assumption) (by assumption)]
  · generalize hu : x4 % 2 ^ (16 - (n - 64)).toNat = u
    have h1 := Int.emod_nonneg x4 (show (2 : Int) ^ (16 - (n - 64)).toNat ≠ 0 from by have := pow_pos2 ((16 - (n - 64)).toNat); omega)
    have h2 := emod_le16 x4 ht (by assumption)
    rw [hu] at h1 h2
    constructor <;> omega
  · have e : V8 x0 x1 x2 x3 x4 x5 x6 x7 = ((((x0 * 65536 + x1) * 65536 + x2) * 65536 + x3) * 65536 + x4) * 281474976710656 + ((x5 * 65536 + x6) * 65536 + x7) := by unfold V8; omega
    have e2 : (2 : Int) ^ (128 - n).toNat = 2 ^ (16 - (n - 64)).toNat * 281474976710656 := by
      rw [show (128 - n).toNat = (16 - (n - 64)).toNat + 48 from by omega, Int.pow_add]
      rfl
    have hpc : (2 : Int) ^ (16 - (n - 64)).toNat * 2 ^ (16 - (16 - (n - 64)).toNat) = 65536 := by
      rw [← Int.pow_add, show (16 - (n - 64)).toNat + (16 - (16 - (n - 64)).toNat) = 16 from by omega]
      rfl
    unfold tailOf
    rw [e2, e, mod_mid _ _ _ _ _ _ (by assumption) (by decide) (by omega) (by omega) (pow_pos2 _) hpc]
    generalize x4 % 2 ^ (16 - (n - 64)).toNat = u
    unfold V8
    omega
set_option maxHeartbeats 2000000 in
set_option maxRecDepth 100000 in
theorem mask_in_5 (x0 x1 x2 x3 x4 x5 x6 x7 : Int) (h : R8 x0 x1 x2 x3 x4 x5 x6 x7) (n : Int) (n0 : 80 < n) (n1 : n < 96) (w : World) :
    Calls Tryd.prog 61 #[A8 x0 x1 x2 x3 x4 x5 x6 x7, .int .i64 n] w (MaskPost (V8 x0 x1 x2 x3 x4 x5 x6 x7) n w) := by
  go_enter Tryd.func61, Tryd.ntmps61
  go_wp2
  refine wp_loop_rounds 9 ?_
  iterate 8 (rw [rounds_succ]; go_wp2; go_region; go_wp2)
  rw [rounds_succ]
  go_wp2
  go_returns
  refine mask_ret ?_ ?_ (by go_grown)
  all_goals go_tidy
  all_goals obtain ⟨⟨_, _⟩, ⟨_, _⟩, ⟨_, _⟩, ⟨_, _⟩, ⟨_, _⟩, ⟨_, _⟩, ⟨_, _⟩, ⟨_, _⟩⟩ := h
  all_goals try rw [show min 16 (max 0 n) = 16 from by omega]
  all_goals try rw [show min 16 (max 0 (n - 16)) = 16 from by omega]
  all_goals try rw [show min 16 (max 0 (n - 32)) = 16 from by omega]
  all_goals try rw [show min 16 (max 0 (n - 48)) = 16 from by omega]
  all_goals try rw [show min 16 (max 0 (n - 64)) = 16 from by omega]
  all_goals try rw [show min 16 (max 0 (n - 80)) = (n - 80) from by omega]
  all_goals try rw [show min 16 (max 0 (n - 96)) = 0 from by omega]
  all_goals try rw [show min 16 (max 0 (n - 112)) = 0 from by omega]
  all_goals try rw [show IntKind.u16.wrap (IntKind.u16.wrap ((2 : Int) ^ ((16 : Int) - 16).toNat) - 1) = 0 from by decide]
  all_goals try rw [show ((2 : Int) ^ ((16 : Int) - 0).toNat) = 65536 from by decide]
  all_goals have ht : (16 - (n - 80)).toNat ≤ 16 := by omega
  all_goals rw [andNot_none x0 (by assumption) (by assumption), andNot_none x1 (by assumption) (by assumption), andNot_none x2 (by assumption) (by assumption), andNot_none x3 (by assumption) (by assumption), andNot_none x4 (by assumption) (by assumption), andNot_tail x5 _ (by assumption) (by assumption) ht, andNot_whole x6 (by assumption) (by assumption), andNot_whole x7 (by assumption) (by assumption)]
  · generalize hu : x5 % 2 ^ (16 - (n - 80)).toNat = u
    have h1 := Int.emod_nonneg x5 (show (2 : Int) ^ (16 - (n - 80)).toNat ≠ 0 from by have := pow_pos2 ((16 - (n - 80)).toNat); omega)
    have h2 := emod_le16 x5 ht (by assumption)
    rw [hu] at h1 h2
    constructor <;> omega
  · have e : V8 x0 x1 x2 x3 x4 x5 x6 x7 = (((((x0 * 65536 + x1) * 65536 + x2) * 65536 + x3) * 65536 + x4) * 65536 + x5) * 4294967296 + (x6 * 65536 + x7) := by unfold V8; omega
    have e2 : (2 : Int) ^ (128 - n).toNat = 2 ^ (16 - (n - 80)).toNat * 4294967296 := by
      rw [show (128 - n).toNat = (16 - (n - 80)).toNat + 32 from by omega, Int.pow_add]
      rfl
    have hpc : (2 : Int) ^ (16 - (n - 80)).toNat * 2 ^ (16 - (16 - (n - 80)).toNat) = 65536 := by
      rw [← Int.pow_add, show (16 - (n - 80)).toNat + (16 - (16 - (n - 80)).toNat) = 16 from by omega]
      rfl
    unfold tailOf
    rw [e2, e, mod_mid _ _ _ _ _ _ (by assumption) (by decide) (by omega) (by omega) (pow_pos2 _) hpc]
    generalize x5 % 2 ^ (16 - (n - 80)).toNat = u
    unfold V8
    omega
set_option maxHeartbeats 2000000 in
set_option maxRecDepth 100000 in
theorem mask_in_6 (x0 x1 x2 x3 x4 x5 x6 x7 : Int) (h : R8 x0 x1 x2 x3 x4 x5 x6 x7) (n : Int) (n0 : 96 < n) (n1 : n < 112) (w : World) :
    Calls Tryd.prog 61 #[A8 x0 x1 x2 x3 x4 x5 x6 x7, .int .i64 n] w (MaskPost (V8 x0 x1 x2 x3 x4 x5 x6 x7) n w) := by
  go_enter Tryd.func61, Tryd.ntmps61
  go_wp2
  refine wp_loop_rounds 9 ?_
  iterate 8 (rw [rounds_succ]; go_wp2; go_region; go_wp2)
  rw [rounds_succ]
  go_wp2
  go_returns
  refine mask_ret ?_ ?_ (by go_grown)
  all_goals go_tidy
  all_goals obtain ⟨⟨_, _⟩, ⟨_, _⟩, ⟨_, _⟩, ⟨_, _⟩, ⟨_, _⟩, ⟨_, _⟩, ⟨_, _⟩, ⟨_, _⟩⟩ := h
  all_goals try rw [show min 16 (max 0 n) = 16 from by omega]
  all_goals try rw [show min 16 (max 0 (n - 16)) = 16 from by omega]
  all_goals try rw [show min 16 (max 0 (n - 32)) = 16 from by omega]
  all_goals try rw [show min 16 (max 0 (n - 48)) = 16 from by omega]
  all_goals try rw [show min 16 (max 0 (n - 64)) = 16 from by omega]
  all_goals try rw [show min 16 (max 0 (n - 80)) = 16 from by omega]
  all_goals try rw [show min 16 (max 0 (n - 96)) = (n - 96) from by omega]
  all_goals try rw [show min 16 (max 0 (n - 112)) = 0 from by omega]
  all_goals try rw [show IntKind.u16.wrap (IntKind.u16.wrap ((2 : Int) ^ ((16 : Int) - 16).toNat) - 1) = 0 from by decide]
  all_goals try rw [show ((2 : Int) ^ ((16 : Int) - 0).toNat) = 65536 from by decide]
  all_goals have ht : (16 - (n - 96)).toNat ≤ 16 := by omega
  all_goals rw [andNot_none x0 (by assumption) (by assumption), andNot_none x1 (by assumption) (by assumption), andNot_none x2 (by assumption) (by assumption), andNot_none x3 (by assumption) (by assumption), andNot_none x4 (by assumption) (by assumption), andNot_none x5 (by assumption) (by assumption), andNot_tail x6 _ (by assumption) (by assumption) ht, andNot_whole x7 (by assumption) (by assumption)]
  · generalize hu : x6 % 2 ^ (16 - (n - 96)).toNat = u
    have h1 := Int.emod_nonneg x6 (show (2 : Int) ^ (16 - (n - 96)).toNat ≠ 0 from by have := pow_pos2 ((16 - (n - 96)).toNat); omega)
    have h2 := emod_le16 x6 ht (by assumption)
    rw [hu] at h1 h2
    constructor <;> omega
  · have e : V8 x0 x1 x2 x3 x4 x5 x6 x7 = ((((((x0 * 65536 + x1) * 65536 + x2) * 65536 + x3) * 65536 + x4) * 65536 + x5) * 65536 + x6) * 65536 + x7 := by unfold V8; omega
    have e2 : (2 : Int) ^ (128 - n).toNat = 2 ^ (16 - (n - 96)).toNat * 65536 := by
      rw [show (128 - n).toNat = (16 - (n - 96)).toNat + 16 from by omega, Int.pow_add]
      rfl
    have hpc : (2 : Int) ^ (16 - (n - 96)).toNat * 2 ^ (16 - (16 - (n - 96)).toNat) = 65536 := by
      rw [← Int.pow_add, show (16 - (n - 96)).toNat + (16 - (16 - (n - 96)).toNat) = 16 from by omega]
      rfl
    unfold tailOf
    rw [e2, e, mod_mid _ _ _ _ _ _ (by assumption) (by decide) (by omega) (by omega) (pow_pos2 _) hpc]
    generalize x6 % 2 ^ (16 - (n - 96)).toNat = u
    unfold V8
    omega
set_option maxHeartbeats 2000000 in
set_option maxRecDepth 100000 in
theorem mask_in_7 (x0 x1 x2 x3 x4 x5 x6 x7 : Int) (h : R8 x0 x1 x2 x3 x4 x5 x6 x7) (n : Int) (n0 : 112 < n) (n1 : n < 128) (w : World) :
    Calls Tryd.prog 61 #[A8 x0 x1 x2 x3 x4 x5 x6 x7, .int .i64 n] w (MaskPost (V8 x0 x1 x2 x3 x4 x5 x6 x7) n w) := by
  go_enter Tryd.func61, Tryd.ntmps61
  go_wp2
  refine wp_loop_rounds 9 ?_
  iterate 8 (rw [rounds_succ]; go_wp2; go_region; go_wp2)
  rw [rounds_succ]
  go_wp2
  go_returns
  refine mask_ret ?_ ?_ (by go_grown)
  all_goals go_tidy
  all_goals obtain ⟨⟨_, _⟩, ⟨_, _⟩, ⟨_, _⟩, ⟨_, _⟩, ⟨_, _⟩, ⟨_, _⟩, ⟨_, _⟩, ⟨_, _⟩⟩ := h
  all_goals try rw [show min 16 (max 0 n) = 16 from by omega]
  all_goals try rw [show min 16 (max 0 (n - 16)) = 16 from by omega]
  all_goals try rw [show min 16 (max 0 (n - 32)) = 16 from by omega]
  all_goals try rw [show min 16 (max 0 (n - 48)) = 16 from by omega]
  all_goals try rw [show min 16 (max 0 (n - 64)) = 16 from by omega]
  all_goals try rw [show min 16 (max 0 (n - 80)) = 16 from by omega]
  all_goals try rw [show min 16 (max 0 (n - 96)) = 16 from by omega]
  all_goals try rw [show min 16 (max 0 (n - 112)) = (n - 112) from by omega]
  all_goals try rw [show IntKind.u16.wrap (IntKind.u16.wrap ((2 : Int) ^ ((16 : Int) - 16).toNat) - 1) = 0 from by decide]
  all_goals try rw [show ((2 : Int) ^ ((16 : Int) - 0).toNat) = 65536 from by decide]
  all_goals have ht : (16 - (n - 112)).toNat ≤ 16 := by omega
  all_goals rw [andNot_none x0 (by assumption) (by assumption), andNot_none x1 (by assumption) (by assumption), andNot_none x2 (by assumption) (by assumption), andNot_none x3 (by assumption) (by assumption), andNot_none x4 (by assumption) (by assumption), andNot_none x5 (by assumption) (by assumption), andNot_none x6 (by assumption) (by assumption), andNot_tail x7 _ (by assumption) (by assumption) ht]
  · generalize hu : x7 % 2 ^ (16 - (n - 112)).toNat = u
    have h1 := Int.emod_nonneg x7 (show (2 : Int) ^ (16 - (n - 112)).toNat ≠ 0 from by have := pow_pos2 ((16 - (n - 112)).toNat); omega)
    have h2 := emod_le16 x7 ht (by assumption)
    rw [hu] at h1 h2
    constructor <;> omega
  · have e : V8 x0 x1 x2 x3 x4 x5 x6 x7 = (((((((x0 * 65536 + x1) * 65536 + x2) * 65536 + x3) * 65536 + x4) * 65536 + x5) * 65536 + x6) * 65536 + x7) * 1 + 0 := by unfold V8; omega
    have e2 : (2 : Int) ^ (128 - n).toNat = 2 ^ (16 - (n - 112)).toNat * 1 := by
      rw [show (128 - n).toNat = (16 - (n - 112)).toNat + 0 from by omega, Int.pow_add]
      rfl
    have hpc : (2 : Int) ^ (16 - (n - 112)).toNat * 2 ^ (16 - (16 - (n - 112)).toNat) = 65536 := by
      rw [← Int.pow_add, show (16 - (n - 112)).toNat + (16 - (16 - (n - 112)).toNat) = 16 from by omega]
      rfl
    unfold tailOf
    rw [e2, e, mod_mid _ _ _ _ _ _ (by assumption) (by decide) (by omega) (by omega) (pow_pos2 _) hpc]
    generalize x7 % 2 ^ (16 - (n - 112)).toNat = u
    unfold V8
    omega
set_option maxHeartbeats 2000000 in
set_option maxRecDepth 100000 in
theorem mask_at_0 (x0 x1 x2 x3 x4 x5 x6 x7 : Int) (h : R8 x0 x1 x2 x3 x4 x5 x6 x7) (w : World) :
    Calls Tryd.prog 61 #[A8 x0 x1 x2 x3 x4 x5 x6 x7, .int .i64 0] w (MaskPost (V8 x0 x1 x2 x3 x4 x5 x6 x7) 0 w) := by
  go_enter Tryd.func61, Tryd.ntmps61
  go_wp2
  refine wp_loop_rounds 9 ?_
  iterate 8 (rw [rounds_succ]; go_wp2; go_region; go_wp2)
  rw [rounds_succ]
  go_wp2
  go_returns
  refine mask_ret ?_ ?_ (by go_grown)
  all_goals go_tidy
  all_goals obtain ⟨⟨_, _⟩, ⟨_, _⟩, ⟨_, _⟩, ⟨_, _⟩, ⟨_, _⟩, ⟨_, _⟩, ⟨_, _⟩, ⟨_, _⟩⟩ := h
  all_goals try rw [show ((2 : Int) ^ ((16 : Int) - min 16 0).toNat) = 65536 from by decide]
  all_goals try rw [show ((2 : Int) ^ ((16 : Int) - min 16 (max 0 (-16))).toNat) = 65536 from by decide]
  all_goals try rw [show ((2 : Int) ^ ((16 : Int) - min 16 (max 0 (-32))).toNat) = 65536 from by decide]
  all_goals try rw [show ((2 : Int) ^ ((16 : Int) - min 16 (max 0 (-48))).toNat) = 65536 from by decide]
  all_goals try rw [show ((2 : Int) ^ ((16 : Int) - min 16 (max 0 (-64))).toNat) = 65536 from by decide]
  all_goals try rw [show ((2 : Int) ^ ((16 : Int) - min 16 (max 0 (-80))).toNat) = 65536 from by decide]
  all_goals try rw [show ((2 : Int) ^ ((16 : Int) - min 16 (max 0 (-96))).toNat) = 65536 from by decide]
  all_goals try rw [show ((2 : Int) ^ ((16 : Int) - min 16 (max 0 (-112))).toNat) = 65536 from by decide]
  all_goals rw [andNot_whole x0 (by assumption) (by assumption), andNot_whole x1 (by assumption) (by assumption), andNot_whole x2 (by assumption) (by assumption), andNot_whole x3 (by assumption) (by assumption), andNot_whole x4 (by assumption) (by assumption), andNot_whole x5 (by assumption) (by assumption), andNot_whole x6 (by assumption) (by assumption), andNot_whole x7 (by assumption) (by assumption)]
  · constructor <;> omega
  · unfold tailOf
    rw [show (2 : Int) ^ ((128 : Int) - 0).toNat = 340282366920938463463374607431768211456 from by decide]
    unfold V8
    omega
set_option maxHeartbeats 2000000 in
set_option maxRecDepth 100000 in
theorem mask_at_1 (x0 x1 x2 x3 x4 x5 x6 x7 : Int) (h : R8 x0 x1 x2 x3 x4 x5 x6 x7) (w : World) :
    Calls Tryd.prog 61 #[A8 x0 x1 x2 x3 x4 x5 x6 x7, .int .i64 16] w (MaskPost (V8 x0 x1 x2 x3 x4 x5 x6 x7) 16 w) := by
  go_enter Tryd.func61, Tryd.ntmps61
  go_wp2
  refine wp_loop_rounds 9 ?_
  iterate 8 (rw [rounds_succ]; go_wp2; go_region; go_wp2)
  rw [rounds_succ]
  go_wp2
  go_returns
  refine mask_ret ?_ ?_ (by go_grown)
  all_goals go_tidy
  all_goals obtain ⟨⟨_, _⟩, ⟨_, _⟩, ⟨_, _⟩, ⟨_, _⟩, ⟨_, _⟩, ⟨_, _⟩, ⟨_, _⟩, ⟨_, _⟩⟩ := h
  all_goals try rw [show IntKind.u16.wrap (IntKind.u16.wrap ((2 : Int) ^ ((16 : Int) - min 16 (max 0 (16))).toNat) - 1) = 0 from by decide]
  all_goals try rw [show ((2 : Int) ^ ((16 : Int) - min 16 0).toNat) = 65536 from by decide]
  all_goals try rw [show ((2 : Int) ^ ((16 : Int) - min 16 (max 0 (-16))).toNat) = 65536 from by decide]
  all_goals try rw [show ((2 : Int) ^ ((16 : Int) - min 16 (max 0 (-32))).toNat) = 65536 from by decide]
  all_goals try rw [show ((2 : Int) ^ ((16 : Int) - min 16 (max 0 (-48))).toNat) = 65536 from by decide]
  all_goals try rw [show ((2 : Int) ^ ((16 : Int) - min 16 (max 0 (-64))).toNat) = 65536 from by decide]
  all_goals try rw [show ((2 : Int) ^ ((16 : Int) - min 16 (max 0 (-80))).toNat) = 65536 from by decide]
  all_goals try rw [show ((2 : Int) ^ ((16 : Int) - min 16 (max 0 (-96))).toNat) = 65536 from by decide]
  all_goals rw [andNot_none x0 (by assumption) (by assumption), andNot_whole x1 (by assumption) (by assumption), andNot_whole x2 (by assumption) (by assumption), andNot_whole x3 (by assumption) (by assumption), andNot_whole x4 (by assumption) (by assumption), andNot_whole x5 (by assumption) (by assumption), andNot_whole x6 (by assumption) (by assumption), andNot_whole x7 (by assumption) (by assumption)]
  · constructor <;> omega
  · unfold tailOf
    rw [show (2 : Int) ^ ((128 : Int) - 16).toNat = 5192296858534827628530496329220096 from by decide]
    unfold V8
    omega
set_option maxHeartbeats 2000000 in
set_option maxRecDepth 100000 in
theorem mask_at_2 (x0 x1 x2 x3 x4 x5 x6 x7 : Int) (h : R8 x0 x1 x2 x3 x4 x5 x6 x7) (w : World) :
    Calls Tryd.prog 61 #[A8 x0 x1 x2 x3 x4 x5 x6 x7, .int .i64 32] w (MaskPost (V8 x0 x1 x2 x3 x4 x5 x6 x7) 32 w) := by
  go_enter Tryd.func61, Tryd.ntmps61
  go_wp2
  refine wp_loop_rounds 9 ?_
  iterate 8 (rw [rounds_succ]; go_wp2; go_region; go_wp2)
  rw [rounds_succ]
  go_wp2
  go_returns
  refine mask_ret ?_ ?_ (by go_grown)
  all_goals go_tidy
  all_goals obtain ⟨⟨_, _⟩, ⟨_, _⟩, ⟨_, _⟩, ⟨_, _⟩, ⟨_, _⟩, ⟨_, _⟩, ⟨_, _⟩, ⟨_, _⟩⟩ := h
  all_goals try rw [show IntKind.u16.wrap (IntKind.u16.wrap ((2 : Int) ^ ((16 : Int) - min 16 (max 0 (32))).toNat) - 1) = 0 from by decide]
  all_goals try rw [show IntKind.u16.wrap (IntKind.u16.wrap ((2 : Int) ^ ((16 : Int) - min 16 (max 0 (16))).toNat) - 1) = 0 from by decide]
  all_goals try rw [show ((2 : Int) ^ ((16 : Int) - min 16 0).toNat) = 65536 from by decide]
  all_goals try rw [show ((2 : Int) ^ ((16 : Int) - min 16 (max 0 (-16))).toNat) = 65536 from by decide]
  all_goals try rw [show ((2 : Int) ^ ((16 : Int) - min 16 (max 0 (-32))).toNat) = 65536 from by decide]
  all_goals try rw [show ((2 : Int) ^ ((16 : Int) - min 16 (max 0 (-48))).toNat) = 65536 from by decide]
  all_goals try rw [show ((2 : Int) ^ ((16 : Int) - min 16 (max 0 (-64))).toNat) = 65536 from by decide]
  all_goals try rw [show ((2 : Int) ^ ((16 : Int) - min 16 (max 0 (-80))).toNat) = 65536 from by decide]
  all_goals rw [andNot_none x0 (by assumption) (by assumption), andNot_none x1 (by assumption) (by assumption), andNot_whole x2 (by assumption) (by assumption), andNot_whole x3 (by assumption) (by assumption), andNot_whole x4 (by assumption) (by assumption), andNot_whole x5 (by assumption) (by assumption), andNot_whole x6 (by assumption) (by assumption), andNot_whole x7 (by assumption) (by assumption)]
  · constructor <;> omega
  · unfold tailOf
    rw [show (2 : Int) ^ ((128 : Int) - 32).toNat = 79228162514264337593543950336 from by decide]
    unfold V8
    omega
set_option maxHeartbeats 2000000 in
set_option maxRecDepth 100000 in
theorem mask_at_3 (x0 x1 x2 x3 x4 x5 x6 x7 : Int) (h : R8 x0 x1 x2 x3 x4 x5 x6 x7) (w : World) :
    Calls Tryd.prog 61 #[A8 x0 x1 x2 x3 x4 x5 x6 x7, .int .i64 48] w (MaskPost (V8 x0 x1 x2 x3 x4 x5 x6 x7) 48 w) := by
  go_enter Tryd.func61, Tryd.ntmps61
  go_wp2
  refine wp_loop_rounds 9 ?_
  iterate 8 (rw [rounds_succ]; go_wp2; go_region; go_wp2)
  rw [rounds_succ]
  go_wp2
  go_returns
  refine mask_ret ?_ ?_ (by go_grown)
  all_goals go_tidy
  all_goals obtain ⟨⟨_, _⟩, ⟨_, _⟩, ⟨_, _⟩, ⟨_, _⟩, ⟨_, _⟩, ⟨_, _⟩, ⟨_, _⟩, ⟨_, _⟩⟩ := h
  all_goals try rw [show IntKind.u16.wrap (IntKind.u16.wrap ((2 : Int) ^ ((16 : Int) - min 16 (max 0 (48))).toNat) - 1) = 0 from by decide]
  all_goals try rw [show IntKind.u16.wrap (IntKind.u16.wrap ((2 : Int) ^ ((16 : Int) - min 16 (max 0 (32))).toNat) - 1) = 0 from by decide]
  all_goals try rw [show IntKind.u16.wrap (IntKind.u16.wrap ((2 : Int) ^ ((16 : Int) - min 16 (max 0 (16))).toNat) - 1) = 0 from by decide]
  all_goals try rw [show ((2 : Int) ^ ((16 : Int) - min 16 0).toNat) = 65536 from by decide]
  all_goals try rw [show ((2 : Int) ^ ((16 : Int) - min 16 (max 0 (-16))).toNat) = 65536 from by decide]
  all_goals try rw [show ((2 : Int) ^ ((16 : Int) - min 16 (max 0 (-32))).toNat) = 65536 from by decide]
  all_goals try rw [show ((2 : Int) ^ ((16 : Int) - min 16 (max 0 (-48))).toNat) = 65536 from by decide]
  all_goals try rw [show ((2 : Int) ^ ((16 : Int) - min 16 (max 0 (-64))).toNat) = 65536 from by decide]
  all_goals rw [andNot_none x0 (by assumption) (by assumption), andNot_none x1 (by assumption) (by assumption), andNot_none x2 (by assumption) (by assumption), andNot_whole x3 (by assumption) (by assumption), andNot_whole x4 (by assumption) (by assumption), andNot_whole x5 (by assumption) (by assumption), andNot_whole x6 (by assumption) (by assumption), andNot_whole x7 (by assumption) (by assumption)]
  · constructor <;> omega
  · unfold tailOf
    rw [show (2 : Int) ^ ((128 : Int) - 48).toNat = 1208925819614629174706176 from by decide]
    unfold V8
    omega
set_option maxHeartbeats 2000000 in
set_option maxRecDepth 100000 in
theorem mask_at_4 (x0 x1 x2 x3 x4 x5 x6 x7 : Int) (h : R8 x0 x1 x2 x3 x4 x5 x6 x7) (w : World) :
    Calls Tryd.prog 61 #[A8 x0 x1 x2 x3 x4 x5 x6 x7, .int .i64 64] w (MaskPost (V8 x0 x1 x2 x3 x4 x5 x6 x7) 64 w) := by
  go_enter Tryd.func61, Tryd.ntmps61
  go_wp2
  refine wp_loop_rounds 9 ?_
  iterate 8 (rw [rounds_succ]; go_wp2; go_region; go_wp2)
  rw [rounds_succ]
  go_wp2
  go_returns
  refine mask_ret ?_ ?_ (by go_grown)
  all_goals go_tidy
  all_goals obtain ⟨⟨_, _⟩, ⟨_, _⟩, ⟨_, _⟩, ⟨_, _⟩, ⟨_, _⟩, ⟨_, _⟩, ⟨_, _⟩, ⟨_, _⟩⟩ := h
  all_goals try rw [show IntKind.u16.wrap (IntKind.u16.wrap ((2 : Int) ^ ((16 : Int) - min 16 (max 0 (64))).toNat) - 1) = 0 from by decide]
  all_goals try rw [show IntKind.u16.wrap (IntKind.u16.wrap ((2 : Int) ^ ((16 : Int) - min 16 (max 0 (48))).toNat) - 1) = 0 from by decide]
  all_goals try rw [show IntKind.u16.wrap (IntKind.u16.wrap ((2 : Int) ^ ((16 : Int) - min 16 (max 0 (32))).toNat) - 1) = 0 from by decide]
  all_goals try rw [show IntKind.u16.wrap (IntKind.u16.wrap ((2 : Int) ^ ((16 : Int) - min 16 (max 0 (16))).toNat) - 1) = 0 from by decide]
  all_goals try rw [show ((2 : Int) ^ ((16 : Int) - min 16 0).toNat) = 65536 from by decide]
  all_goals try rw [show ((2 : Int) ^ ((16 : Int) - min 16 (max 0 (-16))).toNat) = 65536 from by decide]
  all_goals try rw [show ((2 : Int) ^ ((16 : Int) - min 16 (max 0 (-32))).toNat) = 65536 from by decide]
  all_goals try rw [show ((2 : Int) ^ ((16 : Int) - min 16 (max 0 (-48))).toNat) = 65536 from by decide]
  all_goals rw [andNot_none x0 (by assumption) (by assumption), andNot_none x1 (by assumption) (by assumption), andNot_none x2 (by assumption) (by assumption), andNot_none x3 (by assumption) (by assumption), andNot_whole x4 (by assumption) (by assumption), andNot_whole x5 (by assumption) (by assumption), andNot_whole x6 (by assumption) (by assumption), andNot_whole x7 (by assumption) (by assumption)]
  · constructor <;> omega
  · unfold tailOf
    rw [show (2 : Int) ^ ((128 : Int) - 64).toNat = 18446744073709551616 from by decide]
    unfold V8
    omega
set_option maxHeartbeats 2000000 in
set_option maxRecDepth 100000 in
theorem mask_at_5 (x0 x1 x2 x3 x4 x5 x6 x7 : Int) (h : R8 x0 x1 x2 x3 x4 x5 x6 x7) (w : World) :
    Calls Tryd.prog 61 #[A8 x0 x1 x2 x3 x4 x5 x6 x7, .int .i64 80] w (MaskPost (V8 x0 x1 x2 x3 x4 x5 x6 x7) 80 w) := by
  go_enter Tryd.func61, Tryd.ntmps61
  go_wp2
  refine wp_loop_rounds 9 ?_
  iterate 8 (rw [rounds_succ]; go_wp2; go_region; go_wp2)
  rw [rounds_succ]
  go_wp2
  go_returns
  refine mask_ret ?_ ?_ (by go_grown)
  all_goals go_tidy
  all_goals obtain ⟨⟨_, _⟩, ⟨_, _⟩, ⟨_, _⟩, ⟨_, _⟩, ⟨_, _⟩, ⟨_, _⟩, ⟨_, _⟩, ⟨_, _⟩⟩ := h
  all_goals try rw [show IntKind.u16.wrap (IntKind.u16.wrap ((2 : Int) ^ ((16 : Int) - min 16 (max 0 (80))).toNat) - 1) = 0 from by decide]
  all_goals try rw [show IntKind.u16.wrap (IntKind.u16.wrap ((2 : Int) ^ ((16 : Int) - min 16 (max 0 (64))).toNat) - 1) = 0 from by decide]
  all_goals try rw [show IntKind.u16.wrap (IntKind.u16.wrap ((2 : Int) ^ ((16 : Int) - min 16 (max 0 (48))).toNat) - 1) = 0 from by decide]
  all_goals try rw [show IntKind.u16.wrap (IntKind.u16.wrap ((2 : Int) ^ ((16 : Int) - min 16 (max 0 (32))).toNat) - 1) = 0 from by decide]
  all_goals try rw [show IntKind.u16.wrap (IntKind.u16.wrap ((2 : Int) ^ ((16 : Int) - min 16 (max 0 (16))).toNat) - 1) = 0 from by decide]
  all_goals try rw [show ((2 : Int) ^ ((16 : Int) - min 16 0).toNat) = 65536 from by decide]
  all_goals try rw [show ((2 : Int) ^ ((16 : Int) - min 16 (max 0 (-16))).toNat) = 65536 from by decide]
  all_goals try rw [show ((2 : Int) ^ ((16 : Int) - min 16 (max 0 (-32))).toNat) = 65536 from by decide]
  all_goals rw [andNot_none x0 (by assumption) (by assumption), andNot_none x1 (by assumption) (by assumption), andNot_none x2 (by assumption) (by assumption), andNot_none x3 (by assumption) (by assumption), andNot_none x4 (by assumption) (by assumption), andNot_whole x5 (by assumption) (by assumption), andNot_whole x6 (by assumption) (by assumption), andNot_whole x7 (by assumption) (by assumption)]
  · constructor <;> omega
  · unfold tailOf
    rw [show (2 : Int) ^ ((128 : Int) - 80).toNat = 281474976710656 from by decide]
    unfold V8
    omega
set_option maxHeartbeats 2000000 in
set_option maxRecDepth 100000 in
theorem mask_at_6 (x0 x1 x2 x3 x4 x5 x6 x7 : Int) (h : R8 x0 x1 x2 x3 x4 x5 x6 x7) (w : World) :
    Calls Tryd.prog 61 #[A8 x0 x1 x2 x3 x4 x5 x6 x7, .int .i64 96] w (MaskPost (V8 x0 x1 x2 x3 x4 x5 x6 x7) 96 w) := by
  go_enter Tryd.func61, Tryd.ntmps61
  go_wp2
  refine wp_loop_rounds 9 ?_
  iterate 8 (rw [rounds_succ]; go_wp2; go_region; go_wp2)
  rw [rounds_succ]
  go_wp2
  go_returns
  refine mask_ret ?_ ?_ (by go_grown)
  all_goals go_tidy
  all_goals obtain ⟨⟨_, _⟩, ⟨_, _⟩, ⟨_, _⟩, ⟨_, _⟩, ⟨_, _⟩, ⟨_, _⟩, ⟨_, _⟩, ⟨_, _⟩⟩ := h
  all_goals try rw [show IntKind.u16.wrap (IntKind.u16.wrap ((2 : Int) ^ ((16 : Int) - min 16 (max 0 (96))).toNat) - 1) = 0 from by decide]
  all_goals try rw [show IntKind.u16.wrap (IntKind.u16.wrap ((2 : Int) ^ ((16 : Int) - min 16 (max 0 (80))).toNat) - 1) = 0 from by decide]
  all_goals try rw [show IntKind.u16.wrap (IntKind.u16.wrap ((2 : Int) ^ ((16 : Int) - min 16 (max 0 (64))).toNat) - 1) = 0 from by decide]
  all_goals try rw [show IntKind.u16.wrap (IntKind.u16.wrap ((2 : Int) ^ ((16 : Int) - min 16 (max 0 (48))).toNat) - 1) = 0 from by decide]
  all_goals try rw [show IntKind.u16.wrap (IntKind.u16.wrap ((2 : Int) ^ ((16 : Int) - min 16 (max 0 (32))).toNat) - 1) = 0 from by decide]
  all_goals try rw [show IntKind.u16.wrap (IntKind.u16.wrap ((2 : Int) ^ ((16 : Int) - min 16 (max 0 (16))).toNat) - 1) = 0 from by decide]
  all_goals try rw [show ((2 : Int) ^ ((16 : Int) - min 16 0).toNat) = 65536 from by decide]
  all_goals try rw [show ((2 : Int) ^ ((16 : Int) - min 16 (max 0 (-16))).toNat) = 65536 from by decide]
  all_goals rw [andNot_none x0 (by assumption) (by assumption), andNot_none x1 (by assumption) (by assumption), andNot_none x2 (by assumption) (by assumption), andNot_none x3 (by assumption) (by assumption), andNot_none x4 (by assumption) (by assumption), andNot_none x5 (by assumption) (by assumption), andNot_whole x6 (by assumption) (by assumption), andNot_whole x7 (by assumption) (by assumption)]
  · constructor <;> omega
  · unfold tailOf
    rw [show (2 : Int) ^ ((128 : Int) - 96).toNat = 4294967296 from by decide]
    unfold V8
    omega
set_option maxHeartbeats 2000000 in
set_option maxRecDepth 100000 in
theorem mask_at_7 (x0 x1 x2 x3 x4 x5 x6 x7 : Int) (h : R8 x0 x1 x2 x3 x4 x5 x6 x7) (w : World) :
    Calls Tryd.prog 61 #[A8 x0 x1 x2 x3 x4 x5 x6 x7, .int .i64 112] w (MaskPost (V8 x0 x1 x2 x3 x4 x5 x6 x7) 112 w) := by
  go_enter Tryd.func61, Tryd.ntmps61
  go_wp2
  refine wp_loop_rounds 9 ?_
  iterate 8 (rw [rounds_succ]; go_wp2; go_region; go_wp2)
  rw [rounds_succ]
  go_wp2
  go_returns
  refine mask_ret ?_ ?_ (by go_grown)
  all_goals go_tidy
  all_goals obtain ⟨⟨_, _⟩, ⟨_, _⟩, ⟨_, _⟩, ⟨_, _⟩, ⟨_, _⟩, ⟨_, _⟩, ⟨_, _⟩, ⟨_, _⟩⟩ := h
  all_goals try rw [show IntKind.u16.wrap (IntKind.u16.wrap ((2 : Int) ^ ((16 : Int) - min 16 (max 0 (112))).toNat) - 1) = 0 from by decide]
  all_goals try rw [show IntKind.u16.wrap (IntKind.u16.wrap ((2 : Int) ^ ((16 : Int) - min 16 (max 0 (96))).toNat) - 1) = 0 from by decide]
  all_goals try rw [show IntKind.u16.wrap (IntKind.u16.wrap ((2 : Int) ^ ((16 : Int) - min 16 (max 0 (80))).toNat) - 1) = 0 from by decide]
  all_goals try rw [show IntKind.u16.wrap (IntKind.u16.wrap ((2 : Int) ^ ((16 : Int) - min 16 (max 0 (64))).toNat) - 1) = 0 from by decide]
  all_goals try rw [show IntKind.u16.wrap (IntKind.u16.wrap ((2 : Int) ^ ((16 : Int) - min 16 (max 0 (48))).toNat) - 1) = 0 from by decide]
  all_goals try rw [show IntKind.u16.wrap (IntKind.u16.wrap ((2 : Int) ^ ((16 : Int) - min 16 (max 0 (32))).toNat) - 1) = 0 from by decide]
  all_goals try rw [show IntKind.u16.wrap (IntKind.u16.wrap ((2 : Int) ^ ((16 : Int) - min 16 (max 0 (16))).toNat) - 1) = 0 from by decide]
  all_goals try rw [show ((2 : Int) ^ ((16 : Int) - min 16 0).toNat) = 65536 from by decide]
  all_goals rw [andNot_none x0 (by assumption) (by assumption), andNot_none x1 (by assumption) (by assumption), andNot_none x2 (by assumption) (by assumption), andNot_none x3 (by assumption) (by assumption), andNot_none x4 (by assumption) (by assumption), andNot_none x5 (by assumption) (by assumption), andNot_none x6 (by assumption) (by assumption), andNot_whole x7 (by assumption) (by assumption)]
  · constructor <;> omega
  · unfold tailOf
    rw [show (2 : Int) ^ ((128 : Int) - 112).toNat = 65536 from by decide]
    unfold V8
    omega
set_option maxHeartbeats 2000000 in
set_option maxRecDepth 100000 in
theorem mask_at_8 (x0 x1 x2 x3 x4 x5 x6 x7 : Int) (h : R8 x0 x1 x2 x3 x4 x5 x6 x7) (w : World) :
    Calls Tryd.prog 61 #[A8 x0 x1 x2 x3 x4 x5 x6 x7, .int .i64 128] w (MaskPost (V8 x0 x1 x2 x3 x4 x5 x6 x7) 128 w) := by
  go_enter Tryd.func61, Tryd.ntmps61
  go_wp2
  refine wp_loop_rounds 9 ?_
  iterate 8 (rw [rounds_succ]; go_wp2; go_region; go_wp2)
  rw [rounds_succ]
  go_wp2
  go_returns
  refine mask_ret ?_ ?_ (by go_grown)
  all_goals go_tidy
  all_goals obtain ⟨⟨_, _⟩, ⟨_, _⟩, ⟨_, _⟩, ⟨_, _⟩, ⟨_, _⟩, ⟨_, _⟩, ⟨_, _⟩, ⟨_, _⟩⟩ := h
  all_goals try rw [show IntKind.u16.wrap (IntKind.u16.wrap ((2 : Int) ^ ((16 : Int) - min 16 (max 0 (128))).toNat) - 1) = 0 from by decide]
  all_goals try rw [show IntKind.u16.wrap (IntKind.u16.wrap ((2 : Int) ^ ((16 : Int) - min 16 (max 0 (112))).toNat) - 1) = 0 from by decide]
  all_goals try rw [show IntKind.u16.wrap (IntKind.u16.wrap ((2 : Int) ^ ((16 : Int) - min 16 (max 0 (96))).toNat) - 1) = 0 from by decide]
  all_goals try rw [show IntKind.u16.wrap (IntKind.u16.wrap ((2 : Int) ^ ((16 : Int) - min 16 (max 0 (80))).toNat) - 1) = 0 from by decide]
  all_goals try rw [show IntKind.u16.wrap (IntKind.u16.wrap ((2 : Int) ^ ((16 : Int) - min 16 (max 0 (64))).toNat) - 1) = 0 from by decide]
  all_goals try rw [show IntKind.u16.wrap (IntKind.u16.wrap ((2 : Int) ^ ((16 : Int) - min 16 (max 0 (48))).toNat) - 1) = 0 from by decide]
  all_goals try rw [show IntKind.u16.wrap (IntKind.u16.wrap ((2 : Int) ^ ((16 : Int) - min 16 (max 0 (32))).toNat) - 1) = 0 from by decide]
  all_goals try rw [show IntKind.u16.wrap (IntKind.u16.wrap ((2 : Int) ^ ((16 : Int) - min 16 (max 0 (16))).toNat) - 1) = 0 from by decide]
  all_goals rw [andNot_none x0 (by assumption) (by assumption), andNot_none x1 (by assumption) (by assumption), andNot_none x2 (by assumption) (by assumption), andNot_none x3 (by assumption) (by assumption), andNot_none x4 (by assumption) (by assumption), andNot_none x5 (by assumption) (by assumption), andNot_none x6 (by assumption) (by assumption), andNot_none x7 (by assumption) (by assumption)]
  · constructor <;> omega
  · unfold tailOf
    rw [show (2 : Int) ^ ((128 : Int) - 128).toNat = 1 from by decide]
    unfold V8
    omega
theorem mask_walk (x0 x1 x2 x3 x4 x5 x6 x7 : Int) (h : R8 x0 x1 x2 x3 x4 x5 x6 x7) (n : Int) (n0 : 0 ≤ n) (n1 : n ≤ 128) (w : World) :
    Calls Tryd.prog 61 #[A8 x0 x1 x2 x3 x4 x5 x6 x7, .int .i64 n] w (MaskPost (V8 x0 x1 x2 x3 x4 x5 x6 x7) n w) := by
  by_cases a0 : n = 0
  · subst a0; exact mask_at_0 _ _ _ _ _ _ _ _ h w
  by_cases b0 : n < 16
  · exact mask_in_0 _ _ _ _ _ _ _ _ h n (by omega) b0 w
  by_cases a1 : n = 16
  · subst a1; exact mask_at_1 _ _ _ _ _ _ _ _ h w
  by_cases b1 : n < 32
  · exact mask_in_1 _ _ _ _ _ _ _ _ h n (by omega) b1 w
  by_cases a2 : n = 32
  · subst a2; exact mask_at_2 _ _ _ _ _ _ _ _ h w
  by_cases b2 : n < 48
  · exact mask_in_2 _ _ _ _ _ _ _ _ h n (by omega) b2 w
  by_cases a3 : n = 48
  · subst a3; exact mask_at_3 _ _ _ _ _ _ _ _ h w
  by_cases b3 : n < 64
  · exact mask_in_3 _ _ _ _ _ _ _ _ h n (by omega) b3 w
  by_cases a4 : n = 64
  · subst a4; exact mask_at_4 _ _ _ _ _ _ _ _ h w
  by_cases b4 : n < 80
  · exact mask_in_4 _ _ _ _ _ _ _ _ h n (by omega) b4 w
  by_cases a5 : n = 80
  · subst a5; exact mask_at_5 _ _ _ _ _ _ _ _ h w
  by_cases b5 : n < 96
  · exact mask_in_5 _ _ _ _ _ _ _ _ h n (by omega) b5 w
  by_cases a6 : n = 96
  · subst a6; exact mask_at_6 _ _ _ _ _ _ _ _ h w
  by_cases b6 : n < 112
  · exact mask_in_6 _ _ _ _ _ _ _ _ h n (by omega) b6 w
  by_cases a7 : n = 112
  · subst a7; exact mask_at_7 _ _ _ _ _ _ _ _ h w
  by_cases b7 : n < 128
  · exact mask_in_7 _ _ _ _ _ _ _ _ h n (by omega) b7 w
  by_cases a8 : n = 128
  · subst a8; exact mask_at_8 _ _ _ _ _ _ _ _ h w
  omega
end Go.Proofs.YtcgdjnmfeibnoaaDoor
/-! SixWithin -/
namespace Go.Proofs.YtcgdjnmfeibnoaaDoor
open Go.RowKit
set_option linter.unusedVariables false
set_option linter.unusedSimpArgs false
set_option maxHeartbeats 1000000 in
set_option maxRecDepth 100000 in
theorem within_walk (x0 x1 x2 x3 x4 x5 x6 x7 y0 y1 y2 y3 y4 y5 y6 y7 : Int) (h : R8 x0 x1 x2 x3 x4 x5 x6 x7) (k : R8 y0 y1 y2 y3 y4 y5 y6 y7) (n : Int) (n0 : 0 ≤ n) (n1 : n ≤ 128) (w : World) :
    Calls Tryd.prog 81 #[A8 x0 x1 x2 x3 x4 x5 x6 x7, A8 y0 y1 y2 y3 y4 y5 y6 y7, .int .i64 n] w fun e w' => e = .returned (.tuple #[.bool (decide (V8 x0 x1 x2 x3 x4 x5 x6 x7 - tailOf (V8 x0 x1 x2 x3 x4 x5 x6 x7) n = V8 y0 y1 y2 y3 y4 y5 y6 y7 - tailOf (V8 y0 y1 y2 y3 y4 y5 y6 y7) n)), .int .i64 0]) ∧ Below w.heap.size w w' := by
  go_enter Tryd.func81, Tryd.ntmps81
  go_wp2_with fail
  refine (mask_walk _ _ _ _ _ _ _ _ h n n0 n1 _).mono ?_
  rintro e w1 ⟨a0, a1, a2, a3, a4, a5, a6, a7, rfl, ha, hva, hb1⟩
  obtain ⟨hc1, _, hs1⟩ := after hb1
  simp only [World.size_alloc] at hs1
  have l0 : w.heap.size < w1.heap.size := by omega
  have l1 : w.heap.size + 1 < w1.heap.size := by omega
  clear hs1
  go_wp2_with fail
  refine (mask_walk _ _ _ _ _ _ _ _ k n n0 n1 _).mono ?_
  rintro e w2 ⟨b0, b1, b2, b3, b4, b5, b6, b7, rfl, hb, hvb, hb2⟩
  obtain ⟨hc2, _, hs2⟩ := after hb2
  simp only [World.size_alloc] at hs2
  have l2 : w1.heap.size < w2.heap.size := by omega
  clear hs2
  go_wp2_with fail
  go_returns
  rw [eq8_dec ha hb, hva, hvb]
  trace_state
  refine ⟨rfl, ?_⟩
  refine Below.alloc (Below.trans (Below.alloc (Below.trans ?_ (hb1.mono (by simp only [World.size_alloc]; omega))) ?_ _) (hb2.mono ?_)) ?_ _
  · go_grown
  · omega
  · simp only [World.size_alloc]; omega
  · omega
end Go.Proofs.YtcgdjnmfeibnoaaDoor
/-! SixFour -/
namespace Go.Proofs.YtcgdjnmfeibnoaaDoor
open Go.RowKit
set_option linter.unusedVariables false
set_option linter.unusedSimpArgs false
theorem or16 (x y : Int) (h0 : 0 ≤ x) (h1 : x ≤ 65535) (k0 : 0 ≤ y) (k1 : y ≤ 65535) : bits .or .u32 (x % 4294967296 * 65536 % 4294967296) (y % 4294967296) = x * 65536 + y := by
  have e1 : x % 4294967296 * 65536 % 4294967296 = x * 65536 := by omega
  have e2 : y % 4294967296 = y := by omega
  rw [e1, e2, u32_or _ _ (by omega) (by omega) (by omega) (by omega)]
  obtain ⟨a, rfl⟩ := Int.eq_ofNat_of_zero_le h0
  obtain ⟨b, rfl⟩ := Int.eq_ofNat_of_zero_le k0
  rw [show ((a : Int) * 65536).toNat = a * 65536 from by omega, Int.toNat_natCast, nat_join16 _ _ (by omega) (by omega)]
  omega
theorem ret_eight {x0 x1 x2 x3 x4 x5 x6 x7 y0 y1 y2 y3 y4 y5 y6 y7 : Int} (h0 : x0 = y0) (h1 : x1 = y1) (h2 : x2 = y2) (h3 : x3 = y3) (h4 : x4 = y4) (h5 : x5 = y5) (h6 : x6 = y6) (h7 : x7 = y7) :
    Ending.returned (A8 x0 x1 x2 x3 x4 x5 x6 x7) = .returned (A8 y0 y1 y2 y3 y4 y5 y6 y7) := by subst h0 h1 h2 h3 h4 h5 h6 h7; rfl
set_option maxHeartbeats 1000000 in
set_option maxRecDepth 100000 in
theorem fromFour_walk (u : Int) (u0 : 0 ≤ u) (u1 : u ≤ 4294967295) (w : World) :
    Calls Tryd.prog 114 #[.int .u32 u] w fun e w' => e = .returned (A8 0 0 0 0 0 65535 (u / 65536) (u % 65536)) ∧ Below w.heap.size w w' := by
  go_enter Tryd.func114, Tryd.ntmps114
  go_wp2
  go_returns
  refine ⟨ret_eight rfl rfl rfl rfl rfl rfl ?_ ?_, by go_grown⟩
  all_goals go_tidy
  all_goals (try simp only [IntKind.wrap_u16, IntKind.wrap_u32])
  all_goals omega
set_option maxHeartbeats 1000000 in
set_option maxRecDepth 100000 in
theorem refFromFour_walk (u : Int) (u0 : 0 ≤ u) (u1 : u ≤ 4294967295) (w : World) :
    Calls Tryd.prog 115 #[.int .u32 u] w fun e w' => e = .returned (A8 0 0 0 0 0 65535 (u / 65536) (u % 65536)) ∧ Below w.heap.size w w' := by
  go_enter Tryd.func115, Tryd.ntmps115
  go_wp2
  go_returns
  refine ⟨ret_eight rfl rfl rfl rfl rfl rfl ?_ ?_, by go_grown⟩
  all_goals go_tidy
  all_goals (try simp only [IntKind.wrap_u16, IntKind.wrap_u32])
  all_goals omega
set_option maxHeartbeats 1000000 in
set_option maxRecDepth 100000 in
theorem low_walk (x0 x1 x2 x3 x4 x5 x6 x7 : Int) (h : R8 x0 x1 x2 x3 x4 x5 x6 x7) (w : World) :
    Calls Tryd.prog 74 #[A8 x0 x1 x2 x3 x4 x5 x6 x7] w fun e w' => e = .returned (.int .u32 (x6 * 65536 + x7)) ∧ Below w.heap.size w w' := by
  go_enter Tryd.func74, Tryd.ntmps74
  go_wp2
  go_returns
  refine ⟨ret_int (or16 x6 x7 h.h6.1 h.h6.2 h.h7.1 h.h7.2), by go_grown⟩
/-- What Four answers. -/
def isFour (x0 x1 x2 x3 x4 x5 : Int) : Bool := decide (x0 = 0 ∧ x1 = 0 ∧ x2 = 0 ∧ x3 = 0 ∧ x4 = 0 ∧ x5 = 65535)
theorem six_ok {x6 x7 : Int} (h6 : 0 ≤ x6 ∧ x6 ≤ 65535) (h7 : 0 ≤ x7 ∧ x7 ≤ 65535) : 0 ≤ x6 * 65536 + x7 ∧ x6 * 65536 + x7 ≤ 4294967295 := by omega
theorem four_eq (x0 x1 x2 x3 x4 x5 : Int) {x6 x7 u : Int} (h6 : 0 ≤ x6 ∧ x6 ≤ 65535) (h7 : 0 ≤ x7 ∧ x7 ≤ 65535) (hu : u = x6 * 65536 + x7) :
    (x0 == 0 && (x1 == 0 && (x2 == 0 && (x3 == 0 && (x4 == 0 && (x5 == 65535 && (x6 == u / 65536 && x7 == u % 65536))))))) = isFour x0 x1 x2 x3 x4 x5 := by
  have h1 : u / 65536 = x6 := by omega
  have h2 : u % 65536 = x7 := by omega
  rw [h1, h2, Bool.eq_iff_iff]
  unfold isFour
  simp
set_option maxHeartbeats 1000000 in
set_option maxRecDepth 100000 in
theorem four_walk (x0 x1 x2 x3 x4 x5 x6 x7 : Int) (h : R8 x0 x1 x2 x3 x4 x5 x6 x7) (w : World) :
    Calls Tryd.prog 79 #[A8 x0 x1 x2 x3 x4 x5 x6 x7] w fun e w' => e = .returned (.tuple #[.int .u32 (if isFour x0 x1 x2 x3 x4 x5 = true then x6 * 65536 + x7 else 0), .bool (isFour x0 x1 x2 x3 x4 x5)]) ∧ Below w.heap.size w w' := by
  go_enter Tryd.func79, Tryd.ntmps79
  go_wp2_with fail
  refine (low_walk _ _ _ _ _ _ _ _ h _).mono ?_
  rintro e w1 ⟨rfl, hb1⟩
  have B1 : Below w.heap.size w w1 := chain (by go_grown) hb1
  obtain ⟨hc1, hf1, hs1⟩ := after hb1
  simp only [World.size_alloc] at hs1
  have l0 : w.heap.size < w1.heap.size := by omega
  clear hf1 hs1 hb1
  obtain ⟨u, hu⟩ : ∃ u, u = x6 * 65536 + x7 := ⟨_, rfl⟩
  have hx := six_ok h.h6 h.h7
  rw [← hu] at hx
  have k0 := hx.1
  have k1 := hx.2
  clear hx
  rw [← hu]
  have HU := Lib.hid hu
  clear hu
  go_wp2_with fail
  refine wp_region_ext (by kernel_rfl) (by kernel_rfl) ?_
  repeat (go_big_quiet_step (with_reducible exact ext_of (fromFour_walk _ k0 k1 _)))
  refine wpQuiet_nil ?_
  rintro _ ⟨⟨w2, hb2⟩, rfl⟩
  have B2 := chain B1 hb2
  rw [four_eq x0 x1 x2 x3 x4 x5 h.h6 h.h7 HU.out]
  cases hF : isFour x0 x1 x2 x3 x4 x5
  all_goals go_wp2_with fail
  all_goals go_returns
  all_goals first | exact ⟨rfl, B2⟩ | exact ⟨by rw [← HU.out]; rfl, B2⟩
set_option maxHeartbeats 1000000 in
set_option maxRecDepth 100000 in
theorem refFour_walk (x0 x1 x2 x3 x4 x5 x6 x7 : Int) (h : R8 x0 x1 x2 x3 x4 x5 x6 x7) (w : World) :
    Calls Tryd.prog 82 #[A8 x0 x1 x2 x3 x4 x5 x6 x7] w fun e w' => e = .returned (.tuple #[.int .u32 (x6 * 65536 + x7), .bool (isFour x0 x1 x2 x3 x4 x5)]) ∧ Below w.heap.size w w' := by
  go_enter Tryd.func82, Tryd.ntmps82
  go_wp2_with fail
  rw [show (x6 % 4294967296 * 65536 % 4294967296 + x7 % 4294967296) % 4294967296 = x6 * 65536 + x7 from by have := h.h6; have := h.h7; omega, show x6 % 4294967296 * 65536 % 4294967296 = x6 * 65536 from by have := h.h6; omega]
  obtain ⟨u, hu⟩ : ∃ u, u = x6 * 65536 + x7 := ⟨_, rfl⟩
  have hx := six_ok h.h6 h.h7
  rw [← hu] at hx
  have k0 := hx.1
  have k1 := hx.2
  clear hx
  rw [← hu]
  have HU := Lib.hid hu
  clear hu
  refine wp_region_ext (by kernel_rfl) (by kernel_rfl) ?_
  repeat (go_big_quiet_step (with_reducible exact ext_of (refFromFour_walk _ k0 k1 _)))
  refine wpQuiet_nil ?_
  rintro _ ⟨⟨w2, hb2⟩, rfl⟩
  go_wp2_with fail
  go_returns
  rw [four_eq x0 x1 x2 x3 x4 x5 h.h6 h.h7 HU.out]
  exact ⟨by rw [← HU.out]; rfl, chain (by go_grown) hb2⟩
end Go.Proofs.YtcgdjnmfeibnoaaDoor
/-! SixKindV -/
namespace Go.Proofs.YtcgdjnmfeibnoaaDoor
open Go.RowKit
set_option linter.unusedVariables false
set_option linter.unusedSimpArgs false
theorem tail_eq {v u M : Int} (hM : 0 < M) : (v - v % M = u - u % M) ↔ v / M = u / M := by
  have e1 : v - v % M = M * (v / M) := by have := Int.emod_add_mul_ediv v M; omega
  have e2 : u - u % M = M * (u / M) := by have := Int.emod_add_mul_ediv u M; omega
  rw [e1, e2]
  constructor
  · intro h
    exact Int.eq_of_mul_eq_mul_left (by omega) h
  · intro h
    rw [h]
theorem top_div {x r K m : Int} (h0 : 0 ≤ r) (h1 : r < K) (hm : 0 ≤ m) : (x * K + r) / (K * m) = x / m := by
  have hK : 0 < K := by omega
  rw [← Int.ediv_ediv_of_nonneg (Int.le_of_lt hK), Int.add_comm, Int.add_mul_ediv_right _ _ (by omega), Int.ediv_eq_zero_of_lt h0 h1, Int.zero_add]
theorem v8_top {x0 x1 x2 x3 x4 x5 x6 x7 : Int} (h : R8 x0 x1 x2 x3 x4 x5 x6 x7) : ∃ r, V8 x0 x1 x2 x3 x4 x5 x6 x7 = x0 * 2 ^ 112 + r ∧ 0 ≤ r ∧ r < 2 ^ 112 := by
  obtain ⟨h0, h1, h2, h3, h4, h5, h6, h7⟩ := h
  refine ⟨V8 0 x1 x2 x3 x4 x5 x6 x7, ?_, ?_, ?_⟩
  · unfold V8
    rw [show (2 : Int) ^ 112 = 5192296858534827628530496329220096 by decide]
    omega
  · unfold V8; omega
  · unfold V8
    rw [show (2 : Int) ^ 112 = 5192296858534827628530496329220096 by decide]
    omega
theorem v8_top2 {x0 x1 x2 x3 x4 x5 x6 x7 : Int} (h : R8 x0 x1 x2 x3 x4 x5 x6 x7) : ∃ r, V8 x0 x1 x2 x3 x4 x5 x6 x7 = (x0 * 65536 + x1) * 2 ^ 96 + r ∧ 0 ≤ r ∧ r < 2 ^ 96 := by
  obtain ⟨h0, h1, h2, h3, h4, h5, h6, h7⟩ := h
  refine ⟨V8 0 0 x2 x3 x4 x5 x6 x7, ?_, ?_, ?_⟩
  · unfold V8
    rw [show (2 : Int) ^ 96 = 79228162514264337593543950336 by decide]
    omega
  · unfold V8; omega
  · unfold V8
    rw [show (2 : Int) ^ 96 = 79228162514264337593543950336 by decide]
    omega
theorem r8_first (c d : Int) (h : 0 ≤ c ∧ c ≤ 65535) (k : 0 ≤ d ∧ d ≤ 65535) : R8 c d 0 0 0 0 0 0 := ⟨h, k, by omega, by omega, by omega, by omega, by omega, by omega⟩
/-- Do two addresses begin alike in their first piece? -/
theorem begins1 {x0 x1 x2 x3 x4 x5 x6 x7 c n m : Int} (h : R8 x0 x1 x2 x3 x4 x5 x6 x7) (hc : 0 ≤ c ∧ c ≤ 65535) (hm : 0 ≤ m) (hM : (2 : Int) ^ (128 - n).toNat = 2 ^ 112 * m) (hp : 0 < (2 : Int) ^ 112 * m) :
    (V8 x0 x1 x2 x3 x4 x5 x6 x7 - tailOf (V8 x0 x1 x2 x3 x4 x5 x6 x7) n = V8 c 0 0 0 0 0 0 0 - tailOf (V8 c 0 0 0 0 0 0 0) n) ↔ x0 / m = c / m := by
  obtain ⟨r, e, r0, r1⟩ := v8_top h
  obtain ⟨s, e', s0, s1⟩ := v8_top (r8_first c 0 hc (by omega))
  unfold tailOf
  rw [hM, tail_eq hp, e, e', top_div r0 r1 hm, top_div s0 s1 hm]
theorem begins2 {x0 x1 x2 x3 x4 x5 x6 x7 c d : Int} (h : R8 x0 x1 x2 x3 x4 x5 x6 x7) (hc : 0 ≤ c ∧ c ≤ 65535) (hd : 0 ≤ d ∧ d ≤ 65535) :
    (V8 x0 x1 x2 x3 x4 x5 x6 x7 - tailOf (V8 x0 x1 x2 x3 x4 x5 x6 x7) 32 = V8 c d 0 0 0 0 0 0 - tailOf (V8 c d 0 0 0 0 0 0) 32) ↔ x0 = c ∧ x1 = d := by
  obtain ⟨r, e, r0, r1⟩ := v8_top2 h
  obtain ⟨s, e', s0, s1⟩ := v8_top2 (r8_first c d hc hd)
  have h1 := h.h1
  unfold tailOf
  rw [show ((128 : Int) - 32).toNat = 96 by decide, show (2 : Int) ^ 96 = 2 ^ 96 * 1 by omega, tail_eq (by decide)]
  rw [show (2 : Int) ^ 96 * 1 = 2 ^ 96 * 1 from rfl] at *
  rw [e, e', top_div r0 r1 (by decide), top_div s0 s1 (by decide), Int.ediv_one, Int.ediv_one]
  omega
/-- The kind of an address. -/
def kindV (x0 x1 x2 x3 x4 x5 x6 x7 : Int) : Int :=
  if x0 = 0 ∧ x1 = 0 ∧ x2 = 0 ∧ x3 = 0 ∧ x4 = 0 ∧ x5 = 0 ∧ x6 = 0 ∧ x7 = 0 then 1
  else if x0 = 0 ∧ x1 = 0 ∧ x2 = 0 ∧ x3 = 0 ∧ x4 = 0 ∧ x5 = 0 ∧ x6 = 0 ∧ x7 = 1 then 2
  else if isFour x0 x1 x2 x3 x4 x5 = true then 3
  else if 65152 ≤ x0 ∧ x0 ≤ 65215 then 4
  else if 64512 ≤ x0 ∧ x0 ≤ 65023 then 5
  else if 65280 ≤ x0 then 6
  else if x0 = 8193 ∧ x1 = 3512 then 7 else 0
theorem link_v {x0 x1 x2 x3 x4 x5 x6 x7 : Int} (h : R8 x0 x1 x2 x3 x4 x5 x6 x7) : (V8 x0 x1 x2 x3 x4 x5 x6 x7 - tailOf (V8 x0 x1 x2 x3 x4 x5 x6 x7) 10 = V8 65152 0 0 0 0 0 0 0 - tailOf (V8 65152 0 0 0 0 0 0 0) 10) ↔ 65152 ≤ x0 ∧ x0 ≤ 65215 := by
  rw [begins1 h (by omega) (m := 64) (by decide) (by decide) (by decide)]
  omega
theorem local_v {x0 x1 x2 x3 x4 x5 x6 x7 : Int} (h : R8 x0 x1 x2 x3 x4 x5 x6 x7) : (V8 x0 x1 x2 x3 x4 x5 x6 x7 - tailOf (V8 x0 x1 x2 x3 x4 x5 x6 x7) 7 = V8 64512 0 0 0 0 0 0 0 - tailOf (V8 64512 0 0 0 0 0 0 0) 7) ↔ 64512 ≤ x0 ∧ x0 ≤ 65023 := by
  rw [begins1 h (by omega) (m := 512) (by decide) (by decide) (by decide)]
  omega
theorem many_v {x0 x1 x2 x3 x4 x5 x6 x7 : Int} (h : R8 x0 x1 x2 x3 x4 x5 x6 x7) : (V8 x0 x1 x2 x3 x4 x5 x6 x7 - tailOf (V8 x0 x1 x2 x3 x4 x5 x6 x7) 8 = V8 65280 0 0 0 0 0 0 0 - tailOf (V8 65280 0 0 0 0 0 0 0) 8) ↔ 65280 ≤ x0 := by
  have := h.h0
  rw [begins1 h (by omega) (m := 256) (by decide) (by decide) (by decide)]
  omega
end Go.Proofs.YtcgdjnmfeibnoaaDoor
/-! SixEq -/
namespace Go.Proofs.YtcgdjnmfeibnoaaDoor
open Go.RowKit
set_option linter.unusedVariables false
set_option linter.unusedSimpArgs false
@[go_sem] theorem eq8_flat (x0 x1 x2 x3 x4 x5 x6 x7 y0 y1 y2 y3 y4 y5 y6 y7 : Int) (w : World) :
    (Op.equalIn 10000 23 (A8 x0 x1 x2 x3 x4 x5 x6 x7) (A8 y0 y1 y2 y3 y4 y5 y6 y7)).run Tryd.prog w = .ok (x0 == y0 && (x1 == y1 && (x2 == y2 && (x3 == y3 && (x4 == y4 && (x5 == y5 && (x6 == y6 && x7 == y7))))))) w := by
  obtain ⟨i, hi, _⟩ := info_parts (show (Tryd.prog.info? 22).map (fun i => (i.zero, i.size, i.bytes)) = some (some (.int .u16 0), 1, 2) by kernel_rfl)
  exact run_eq8 Tryd.underlying23 hi Tryd.underlying22 (by kernel_rfl) ..
end Go.Proofs.YtcgdjnmfeibnoaaDoor
/-! Builder -/
namespace Go.Proofs.YtcgdjnmfeibnoaaDoor
open Go.RowKit
set_option linter.unusedVariables false
set_option linter.unusedSimpArgs false
theorem bld_size : (Tryd.prog.info? 126).map (·.size) = some 2 := by kernel_rfl
theorem bld_lies : liesAt Tryd.prog Tryd.prog.depth 126 (2 / Tryd.prog.cellsOf 126) 0 126 1 = true := by kernel_rfl
theorem byte_info : (Tryd.prog.info? 5).map (fun i => (i.zero, i.size, i.bytes)) = some (some (.int .u8 0), 1, 1) := by kernel_rfl
theorem bld_ne : (126 : Nat) ≠ 5 := by decide
/-- A builder of this program. -/
abbrev IsB (B b : Nat) (bs : List Value) (w : World) : Prop := Lib.IsBuilder 126 5 B b bs w
/-- .. that has been written to. -/
abbrev AtB (B b : Nat) (bs : List Value) (w : World) : Prop := Lib.BuilderAt 126 5 B b (.pointer (some ⟨b, 0, none⟩)) bs w
set_option maxHeartbeats 1000000 in
set_option maxRecDepth 100000 in
theorem copyCheck_old (b : Nat) (w : World) (h0 : w.cell? ⟨b, 0, none⟩ = some (.pointer (some ⟨b, 0, none⟩))) :
    Calls Tryd.prog 113 #[.pointer (some ⟨b, 0, none⟩)] w fun e w' => e = .returned (.tuple #[]) ∧ w = w' := by
  obtain ⟨j, hj, _⟩ := Option.map_eq_some_iff.1 bld_size
  go_enter Tryd.func113, Tryd.ntmps113
  go_wp2
  rw [Lib.run_neq_ptr_same w _ Tryd.underlying123 hj]
  go_wp2
  go_end0
  exact ⟨rfl, rfl⟩
set_option maxHeartbeats 1000000 in
set_option maxRecDepth 100000 in
theorem copyCheck_new (b : Nat) (w : World) (h0 : w.cell? ⟨b, 0, none⟩ = some (.pointer none)) (hsh : w.shape? b = some (126, 2)) (hfz : w.frozen? ⟨b, 0, none⟩ = false) :
    Calls Tryd.prog 113 #[.pointer (some ⟨b, 0, none⟩)] w fun e w' => e = .returned (.tuple #[]) ∧ w.setCell ⟨b, 0, none⟩ (.pointer (some ⟨b, 0, none⟩)) = w' := by
  obtain ⟨j, hj, hjs⟩ := Option.map_eq_some_iff.1 bld_size
  go_enter Tryd.func113, Tryd.ntmps113
  go_wp2
  rw [Lib.run_to_unsafe w ⟨b, 0, none⟩ Tryd.underlying123 Tryd.underlying186 hj (by rw [hjs]; decide) hsh (Nat.zero_lt_succ 1)]
  simp only [Result.andThen]
  rw [Oper.upon_value]
  go_wp2
  rw [run_callFunc_extern Tryd.func142 (by kernel_rfl) (by kernel_rfl) (by kernel_rfl) (e := Extern.AbiNoEscape.same) (by kernel_rfl)]
  rw [Lib.run_noEscape]
  simp only [Result.andThen]
  rw [Oper.upon_value]
  go_wp2
  rw [Lib.run_from_unsafe w ⟨b, 0, none⟩ Tryd.underlying186 Tryd.underlying123 hj hsh bld_lies]
  simp only [Result.andThen]
  rw [Oper.upon_value]
  go_wp2
  go_end0
  exact ⟨rfl, rfl⟩
theorem copyCheck_walk (B b : Nat) (bs : List Value) (w : World) (h : IsB B b bs w) :
    Calls Tryd.prog 113 #[.pointer (some ⟨b, 0, none⟩)] w fun e w' => e = .returned (.tuple #[]) ∧ AtB B b bs w' ∧ Below B w w' := by
  rcases h with h | h
  · exact (copyCheck_new b w h.cell0 h.shape h.frozen0).mono fun e w' ⟨he, hw⟩ => ⟨he, hw ▸ h.used _, hw ▸ (Below.refl B w).setCell (p := ⟨b, 0, none⟩) h.1 _⟩
  · exact (copyCheck_old b w h.cell0).mono fun e w' ⟨he, hw⟩ => ⟨he, hw ▸ h, hw ▸ Below.refl B w⟩
/-- What a used builder's block gives a walk. -/
theorem atB_open {B b : Nat} {bs : List Value} {w : World} (h : AtB B b bs w) : ∃ v, B ≤ b ∧ b < w.heap.size ∧ w.heap[b]? = some (.cells #[.pointer (some ⟨b, 0, none⟩), v] 126 (0, 0)) ∧ w.ownsRow B 5 1 v bs.length bs ∧ v.ownBlock ≠ some b ∧
    w.cell? ⟨b, 0, none⟩ = some (.pointer (some ⟨b, 0, none⟩)) ∧ w.cell? ⟨b, 1, none⟩ = some v ∧ w.frozen? ⟨b, 1, none⟩ = false := by
  have hlt := h.lt
  obtain ⟨hB, v, hbk, hown, hne⟩ := h
  exact ⟨v, hB, hlt, hbk, hown, hne, by rw [Lib.cell_of_heap hbk]; rfl, by rw [Lib.cell_of_heap hbk]; rfl, Lib.frozen_of_heap hbk 1⟩
set_option maxHeartbeats 2000000 in
set_option maxRecDepth 100000 in
theorem writeByte_walk (B b : Nat) (bs : List Value) (c : Int) (w : World) (h : IsB B b bs w) (hlen : bs.length + 1 ≤ 140737488355328) (hBw : B ≤ w.heap.size) :
    Calls Tryd.prog 77 #[.pointer (some ⟨b, 0, none⟩), .int .u8 c] w fun e w' => e = .returned .nilIface ∧ AtB B b (bs ++ [.int .u8 c]) w' ∧ Below B w w' := by
  obtain ⟨i0, hi, hz0, hz1, hz2⟩ := info_parts byte_info
  go_enter Tryd.func77, Tryd.ntmps77
  go_wp2_with fail
  refine (copyCheck_walk B b bs _ h).mono ?_
  rintro e w1 ⟨rfl, h1, hb1⟩
  obtain ⟨v, hB, hlt, hbk, hown, hne, c0, c1, f1⟩ := atB_open h1
  have hs1 := hb1.size
  go_wp2_with (at_builtin; refine wpList_append_own _ rfl _ _ 124 rfl B 5 i0 (.int .u8 0) 1 1 Tryd.underlying124 hi hz0 hz1 hz2 rfl (by decide) _ _ _ rfl (hown.alloc _) ⟨w1.heap.size, 0, none⟩ 1 1 [.int .u8 c] rfl rfl ?c1 ?c2 ?c3 ?c4 ?c5 ?_)
  case c1 =>
    intro j u hj
    match j, hj with
    | 0, hj => simp at hj; subst hj; simp [Addr.add]
  case c2 => intro u hu; simp at hu; subst hu; rfl
  case c3 => unfold maxLen; omega
  case c4 => omega
  case c5 => simp; omega
  intro v' w2 hown' hgrow _
  have hb2 : w2.heap[b]? = some (.cells #[.pointer (some ⟨b, 0, none⟩), v] 126 (0, 0)) := by
    rw [hgrow.block b (by simp; omega) (fun e => hne e.symm), Lib.alloc_old w1 _ b hlt]
    exact hbk
  have d1 : w2.cell? ⟨b, 1, none⟩ = some v := by rw [Lib.cell_of_heap hb2]; rfl
  have f2 : w2.frozen? ⟨b, 1, none⟩ = false := Lib.frozen_of_heap hb2 1
  obtain ⟨g, cap, rfl⟩ : ∃ g cap, v' = .slice (some ⟨g, 0, none⟩) (bs.length + 1) cap := by
    rcases hown'.2 with ⟨_, h0⟩ | ⟨g, cap, cur, hv, _⟩
    · omega
    · exact ⟨g, cap, hv⟩
  go_wp2
  go_ret
  refine ⟨rfl, ?_, ?_⟩
  · exact Lib.BuilderAt.put hB hb2 (bs' := bs ++ [.int .u8 c]) (by simpa using hown') bld_ne
  · exact ((hb1.alloc (by omega) _).grown hgrow (by simp; omega) (fun k hk => (hown.lt k hk).1)).setCell (p := ⟨b, 1, none⟩) hB _
set_option maxHeartbeats 2000000 in
set_option maxRecDepth 100000 in
theorem writeString_walk (B b : Nat) (bs : List Value) (s : ByteArray) (w : World) (h : IsB B b bs w) (hlen : bs.length + s.size ≤ 140737488355328) (hBw : B ≤ w.heap.size) :
    Calls Tryd.prog 97 #[.pointer (some ⟨b, 0, none⟩), .string s] w fun e w' => e = .returned (.tuple #[.int .i64 s.size, .nilIface]) ∧ AtB B b (bs ++ Lib.strCells s) w' ∧ Below B w w' := by
  obtain ⟨i0, hi, hz0, hz1, hz2⟩ := info_parts byte_info
  go_enter Tryd.func97, Tryd.ntmps97
  go_wp2_with fail
  refine (copyCheck_walk B b bs _ h).mono ?_
  rintro e w1 ⟨rfl, h1, hb1⟩
  obtain ⟨v, hB, hlt, hbk, hown, hne, c0, c1, f1⟩ := atB_open h1
  have hs1 := hb1.size
  go_wp2_with (at_builtin; refine Lib.wpList_append_own_string _ rfl _ _ 124 9 rfl B 5 i0 Tryd.underlying124 Tryd.underlying9 hi hz0 hz1 hz2 _ _ _ rfl hown s rfl ?c3 ?c4 ?c5 ?_)
  case c3 => unfold maxLen; omega
  case c4 => omega
  case c5 => omega
  intro v' w2 hown' hgrow _
  have hb2 : w2.heap[b]? = some (.cells #[.pointer (some ⟨b, 0, none⟩), v] 126 (0, 0)) := by
    rw [hgrow.block b hlt (fun e => hne e.symm)]
    exact hbk
  have d1 : w2.cell? ⟨b, 1, none⟩ = some v := by rw [Lib.cell_of_heap hb2]; rfl
  have f2 : w2.frozen? ⟨b, 1, none⟩ = false := Lib.frozen_of_heap hb2 1
  obtain ⟨ao, n', cap, rfl⟩ : ∃ ao n' cap, v' = .slice ao n' cap := by
    rcases hown'.2 with ⟨hv, _⟩ | ⟨g, cap, cur, hv, _⟩
    · exact ⟨_, _, _, hv⟩
    · exact ⟨_, _, _, hv⟩
  go_wp2
  go_ret2
  refine ⟨rfl, ?_, ?_⟩
  · exact Lib.BuilderAt.put hB hb2 (bs' := bs ++ Lib.strCells s) (by simpa [Lib.strCells_length] using hown') bld_ne
  · exact (hb1.grown hgrow (by omega) (fun k hk => (hown.lt k hk).1)).setCell (p := ⟨b, 1, none⟩) hB _
set_option maxHeartbeats 2000000 in
set_option maxRecDepth 100000 in
/-- What a builder that holds a byte at least tells. -/
theorem builderString_walk (B b : Nat) (l : List UInt8) (w : World) (h : IsB B b (Lib.byteCells l) w) (h0 : l ≠ []) :
    Calls Tryd.prog 78 #[.pointer (some ⟨b, 0, none⟩)] w fun e w' => e = .returned (.string ⟨l.toArray⟩) ∧ Below B w w' := by
  obtain ⟨p, hB, v, hbk, hown, hne⟩ : ∃ p, Lib.BuilderAt 126 5 B b p (Lib.byteCells l) w := by
    rcases h with h | h
    · exact ⟨_, h⟩
    · exact ⟨_, h⟩
  have c1 : w.cell? ⟨b, 1, none⟩ = some v := by rw [Lib.cell_of_heap hbk]; rfl
  have hl0 : l.length ≠ 0 := by simpa using h0
  rw [Lib.byteCells_length] at hown
  obtain ⟨g, cap, cur, rfl, hbg, hg, hnc, hcm, hcs, htake⟩ : ∃ g cap cur, v = .slice (some ⟨g, 0, none⟩) l.length cap ∧ B ≤ g ∧ w.heap[g]? = some (.cells cur 5 (0, 0)) ∧ l.length ≤ cap ∧ cap ≤ maxLen ∧ cur.size = cap * 1 ∧ cur.toList.take (l.length * 1) = Lib.byteCells l := by
    rcases hown.2 with ⟨_, hz⟩ | ⟨g, cap, cur, hv, r⟩
    · exact absurd hz hl0
    · exact ⟨g, cap, cur, hv, r⟩
  have hSD : (Builtin.unsafeSliceData_ #[124] 165 #[.slice (some ⟨g, 0, none⟩) l.length cap]).run Tryd.prog w.drew = .ok (.pointer (some ⟨g, 0, none⟩)) w.drew :=
    Lib.run_unsafeSliceData_row _ _ _ _ _ _ (by omega)
  have hUS : (Builtin.unsafeString_ #[165, 3] 9 #[.pointer (some ⟨g, 0, none⟩), .int .i64 l.length]).run Tryd.prog w.drew = .ok (.string ⟨l.toArray⟩) (w.drew.freeze ⟨g, 0, none⟩ l.length) := by
    refine Lib.run_unsafeString_row w.drew 165 3 9 5 Tryd.underlying165 (by kernel_rfl) g cur.size (by have hg' : w.drew.heap[g]? = some (.cells cur 5 (0, 0)) := hg; simp [World.shape?, hg']) l h0 (by omega) (by unfold maxLen at hcm; omega) ?_
    intro j x hx
    exact hown.cells (g := g) rfl j (.int .u8 x.toNat) (by simp [Lib.byteCells, hx])
  go_enter Tryd.func78, Tryd.ntmps78
  go_wp2
  go_region
  all_goals (go_wp2; go_ret; exact ⟨rfl, Lib.below_freeze (Below.drew (Below.refl B w)) (p := ⟨g, 0, none⟩) hbg _⟩)
end Go.Proofs.YtcgdjnmfeibnoaaDoor
/-! App -/
namespace Go.Proofs.YtcgdjnmfeibnoaaDoor
open Go.RowKit
set_option linter.unusedVariables false
set_option linter.unusedSimpArgs false
theorem cells_new (w : World) (cs : List Value) (t : TypeId) : ∀ j u, cs[j]? = some u → (w.alloc (.cells cs.toArray t)).cell? ((⟨w.heap.size, 0, none⟩ : Addr).add j) = some u := by
  intro j u hj
  have hb : (w.alloc (.cells cs.toArray t)).heap[w.heap.size]? = some (.cells cs.toArray t (0, 0)) := heap_alloc_new w _
  have ha : ((⟨w.heap.size, 0, none⟩ : Addr).add j) = ⟨w.heap.size, j, none⟩ := by unfold Addr.add; split <;> simp_all
  rw [ha, Lib.cell_of_heap hb]
  simpa using hj
theorem app_one {P : Program} {w : World} {ops : Array Oper} {rest : List Oper} {o : Oper} {a : Act} {Q : Exit → Act → World → Prop} (hgd : o.guard = none) (s x : Operand) (t : TypeId)
    (ho : o.op = .call { callee := .builtin .append, args := #[s, x], argTypes := #[t, t] })
    (base : Nat) (e : TypeId) (i : TypeInfo) (z : Value) (size bytes : Nat) (ht : P.underlying t = some (.slice e)) (hi : P.info? e = some i) (hz : i.zero = some z)
    (hsize : i.size = size) (hby : i.bytes = bytes) (hzs : z.cells.size = size) (hsz : 0 < size)
    (v : Value) (n : Nat) (xs : List Value) (hs : a.eval s = v) (hown : w.ownsRow base e size v n xs)
    (cs : List Value) (hx : a.eval x = .slice (some ⟨w.heap.size, 0, none⟩) 1 1) (hcl : cs.length = size) (h1 : ∀ u ∈ cs, u.oneCell' = true)
    (h63 : n + 1 ≤ maxLen) (hbytes : (n + 1) * bytes ≤ 140737488355328) (hbase : base ≤ w.heap.size)
    (h : ∀ g cap w', base ≤ g → w'.ownsRow base e size (.slice (some ⟨g, 0, none⟩) (n + 1) cap) (n + 1) (xs ++ cs) → (w.alloc (.cells cs.toArray e)).grownBy w' v.ownBlock →
      (∀ B w0, B ≤ base → Below B w0 w → Below B w0 w') → wpList P ops Q rest (a.put o.dst (.slice (some ⟨g, 0, none⟩) (n + 1) cap)) w') :
    wpList P ops Q (o :: rest) a (w.alloc (.cells cs.toArray e)) := by
  refine wpList_append_own _ hgd s x t ho base e i z size bytes ht hi hz hsize hby hzs hsz v n xs hs (hown.alloc _) ⟨w.heap.size, 0, none⟩ 1 1 cs hx (by omega) (cells_new w cs e) h1 h63 hbytes (by simp; omega) ?_
  intro v' w' hown' hgrow _
  have hB : ∀ B w0, B ≤ base → Below B w0 w → Below B w0 w' := fun B w0 hb hw =>
    (hw.alloc (by omega) _).grown hgrow (by simp; omega) (fun k hk => Nat.le_trans hb (hown.lt k hk).1)
  rcases hown'.2 with ⟨_, h0⟩ | ⟨g, cap, cur, hv, hg, _⟩
  · omega
  · subst hv
    exact h g cap w' hg hown' hgrow hB
end Go.Proofs.YtcgdjnmfeibnoaaDoor
/-! Hex -/
namespace Go.Proofs.YtcgdjnmfeibnoaaDoor
open Go.RowKit
set_option linter.unusedVariables false
set_option linter.unusedSimpArgs false
/-- A digit's letter. -/
def digB (d : Nat) : UInt8 := if d < 10 then (48 + d).toUInt8 else (87 + d).toUInt8
/-- The digits of a number to the base 16, the lowest first. -/
def revHex (n : Nat) : List UInt8 := digB (n % 16) :: (if n / 16 = 0 then [] else revHex (n / 16))
  termination_by n
  decreasing_by omega
theorem revHex_last {n : Nat} (h : n / 16 = 0) : revHex n = [digB (n % 16)] := by rw [revHex, if_pos h]
theorem revHex_more {n : Nat} (h : n / 16 ≠ 0) : revHex n = digB (n % 16) :: revHex (n / 16) := by rw [revHex, if_neg h]
set_option maxRecDepth 100000 in
theorem digit_at (m : Nat) (w : World) : (Instr.index 9 (.string ⟨#[48, 49, 50, 51, 52, 53, 54, 55, 56, 57, 97, 98, 99, 100, 101, 102, 103, 104, 105, 106, 107, 108, 109, 110, 111, 112, 113, 114, 115, 116, 117, 118, 119, 120, 121, 122]⟩) (.int .u64 ((m : Int) % 16))).run Tryd.prog w = .ok (.int .u8 (digB (m % 16)).toNat) w := by
  have h : ∃ d : Nat, d < 16 ∧ m % 16 = d := ⟨m % 16, by omega, rfl⟩
  obtain ⟨d, hd, he⟩ := h
  rw [show ((m : Int) % 16) = (d : Int) from by omega, he]
  have hc : d = 0 ∨ d = 1 ∨ d = 2 ∨ d = 3 ∨ d = 4 ∨ d = 5 ∨ d = 6 ∨ d = 7 ∨ d = 8 ∨ d = 9 ∨ d = 10 ∨ d = 11 ∨ d = 12 ∨ d = 13 ∨ d = 14 ∨ d = 15 := by omega
  rcases hc with rfl | rfl | rfl | rfl | rfl | rfl | rfl | rfl | rfl | rfl | rfl | rfl | rfl | rfl | rfl | rfl
  all_goals (change _ = _; kernel_rfl)
/-- What stands when k of the digits have been laid, from the other end. -/
def RevRel (base g cap g2 L : Nat) (all : List UInt8) (w : World) (i : Value) (W : World) : Prop :=
  ∃ k : Nat, k ≤ L ∧ i = .int .i64 k ∧ W.ownsRow base 5 1 (.slice (some ⟨g, 0, none⟩) L cap) L (Lib.byteCells all) ∧
    W.ownsRow base 5 1 (.slice (some ⟨g2, 0, none⟩) L L) L (List.replicate (L - k) (.int .u8 0) ++ Lib.byteCells (all.take k).reverse) ∧ Below w.heap.size w W
theorem rev_step {base g cap g2 n k : Nat} {all : List UInt8} {x : UInt8} {w W : World} (hx : all[k]? = some x) (hlen : n + 1 = all.length) (hk : k < n + 1)
    (hA : W.ownsRow base 5 1 (.slice (some ⟨g, 0, none⟩) (n + 1) cap) (n + 1) (Lib.byteCells all))
    (hO : W.ownsRow base 5 1 (.slice (some ⟨g2, 0, none⟩) (n + 1) (n + 1)) (n + 1) (List.replicate (n + 1 - k) (.int .u8 0) ++ Lib.byteCells (all.take k).reverse)) (hb : Below w.heap.size w W) (hne : g ≠ g2) (hbase : w.heap.size ≤ base) :
    RevRel base g cap g2 (n + 1) all w (.int .i64 ((k : Int) + 1)) (W.setCell ⟨g2, n - k, none⟩ (.int .u8 x.toNat)) := by
  obtain ⟨h1, h2⟩ := hO.stored (n - k) (.int .u8 x.toNat)
  have hg2 : base ≤ g2 := (hO.lt g2 (by simp [Value.ownBlock])).1
  refine ⟨k + 1, by omega, by simp, hA.kept h2 (by simp [Value.ownBlock, hne]), ?_, hb.setCell (p := ⟨g2, n - k, none⟩) (by simpa using Nat.le_trans hbase hg2) _⟩
  have e : (List.replicate (n + 1 - k) (Value.int .u8 0) ++ Lib.byteCells (all.take k).reverse).set (n - k) (.int .u8 x.toNat) = List.replicate (n + 1 - (k + 1)) (.int .u8 0) ++ Lib.byteCells (all.take (k + 1)).reverse := by
    have e1 : n + 1 - k = (n - k) + 1 := by omega
    have e2 : all.take (k + 1) = all.take k ++ [x] := by rw [List.take_add_one, hx]; rfl
    rw [e1, List.replicate_succ', List.append_assoc, List.set_append_right _ _ (by simp), e2]
    simp [Lib.byteCells]
  rw [e] at h1
  exact h1
theorem rev_cell {base g2 n : Nat} {all : List UInt8} {W : World} (hlen : n + 1 = all.length)
    (hO : W.ownsRow base 5 1 (.slice (some ⟨g2, 0, none⟩) (n + 1) (n + 1)) (n + 1) (List.replicate (n + 1 - (n + 1)) (.int .u8 0) ++ Lib.byteCells (all.take (n + 1)).reverse)) (i : Nat) (hi : i < n + 1) :
    W.cell? ⟨g2, i, none⟩ = some (.int .u8 ((all.reverse.map fun b => (b.toNat : Int)).getD i 0)) := by
  rw [hO.cellAt i (by omega)]
  rw [hlen, List.take_length, Nat.sub_self, List.replicate_zero, List.nil_append]
  have hi' : i < all.reverse.length := by simp; omega
  rw [Lib.byteCells, List.getElem?_map, List.getElem?_eq_getElem hi', List.getD_eq_getElem?_getD, List.getElem?_map, List.getElem?_eq_getElem hi']
  rfl
theorem strOfNums_bytes (l : List UInt8) : strOfNums (l.map fun b => (b.toNat : Int)) = ⟨l.toArray⟩ := by
  unfold strOfNums
  rw [List.map_map]
  have : ((fun n : Int => UInt8.ofNat n.toNat) ∘ fun b : UInt8 => (b.toNat : Int)) = id := by
    funext b
    simp
  rw [this, List.map_id]
set_option maxHeartbeats 2000000 in
set_option maxRecDepth 100000 in
theorem print16_walk (N : Nat) (hN : N < 18446744073709551616) (w : World) :
    Calls Tryd.prog 104 #[.int .u64 N, .int .i64 16] w fun e w' => e = .returned (.tuple #[.string ⟨(revHex N).reverse.toArray⟩, .int .i64 0]) ∧ Below w.heap.size w w' := by
  obtain ⟨i0, hi, hz0, hz1, hz2⟩ := info_parts byte_info
  go_enter Tryd.func104, Tryd.ntmps104
  go_wp2
  go_loopw [0, 6] (fun n v wr => ∃ (m : Nat) (done : List UInt8), n = .int .u64 m ∧ m ≤ N ∧ revHex N = done ++ revHex m ∧ wr.ownsRow w.heap.size 5 1 v done.length (Lib.byteCells done) ∧ Below w.heap.size w wr ∧ 2 ^ done.length * m ≤ N ∧ (m = 0 → done = []))
    (fun n _ _ => (intOf n).toNat)
  case atStart => exact ⟨N, [], rfl, Nat.le_refl _, rfl, World.ownsRow_nil _ _ _ _, Below.refl _ _, by simp, fun _ => rfl⟩
  case round =>
    obtain ⟨m, done, rfl, hm, hd, hown, hb, hp, hz⟩ := hrel
    have hs := hb.size
    have hix := digit_at m
    have hl : done.length ≤ 64 := by
      rcases Nat.lt_or_ge 64 done.length with h | h
      · exfalso
        have h0 : m ≠ 0 := fun e => by rw [hz e] at h; simp at h
        have h1 := Nat.pow_le_pow_right (n := 2) (by omega) (show 65 ≤ done.length from h)
        have h2 := Nat.le_mul_of_pos_right (2 ^ done.length) (Nat.pos_of_ne_zero h0)
        have h3 : (2 : Nat) ^ 65 = 36893488147419103232 := by decide
        omega
      · exact h
    have hbl : (Lib.byteCells done).length = done.length := Lib.byteCells_length done
    clear hbl
    go_wp2_with (at_builtin; refine app_one rfl _ _ 124 rfl w.heap.size 5 i0 (.int .u8 0) 1 1 Tryd.underlying124 hi hz0 hz1 hz2 rfl (by decide) _ _ _ rfl hown [.int .u8 (digB (m % 16)).toNat] rfl rfl (by simp [Value.oneCell']) (by unfold maxLen; omega) (by omega) (by omega) ?_; intro g cap w2 hg hown' hgrow hbel)
    · clear hgrow hix
      have hb2 := hbel _ _ (Nat.le_refl _) hb
      have hs2 := hb2.size
      obtain ⟨w3, hmk, hown3, hgr3⟩ := run_make_full w2 w.heap.size 124 5 i0 (.int .u8 0) 1 Tryd.underlying124 hi hz0 hz1 .i64 .i64 (done.length + 1) (by rw [hz2]; omega) (by unfold maxLen; omega) hs2
      rw [show ((done.length + 1 : Nat) : Int) = (done.length : Int) + 1 from by omega] at hmk
      have hb3 : Below w.heap.size w w3 := hb2.grown hgr3 hs2 (fun k hk => by simp at hk)
      have hown3' := hown'.kept hgr3 (by simp [Value.ownBlock])
      have hall : revHex N = done ++ [digB (m % 16)] := by rw [hd, revHex_last (by simp at *; omega)]
      have hne : g ≠ w2.heap.size := by have := (hown'.lt g (by simp [Value.ownBlock])).2; omega
      obtain ⟨all, hal⟩ : ∃ all, all = done ++ [digB (m % 16)] := ⟨_, rfl⟩
      have hlen : done.length + 1 = all.length := by rw [hal]; simp
      have hback : w3.ownsRow w.heap.size 5 1 (.slice (some ⟨g, 0, none⟩) (done.length + 1) cap) (done.length + 1) (Lib.byteCells all) := by
        rw [hal]; simpa [Lib.byteCells] using hown3'
      have hout : w3.ownsRow w.heap.size 5 1 (.slice (some ⟨w2.heap.size, 0, none⟩) (done.length + 1) (done.length + 1)) (done.length + 1) (List.replicate (done.length + 1) (.int .u8 0)) := by
        have h := hown3
        rw [show (Value.int .u8 0).cells = #[.int .u8 0] from rfl, Nat.mul_one, toList_madeCells_one] at h
        exact h
      rw [← hal] at hall
      clear hown3 hown3' hown' hown hd hz hp hb hbel hb2 hgr3
      have HMK := Lib.hid hall
      have HAL := Lib.hid hal
      have HLEN := Lib.hid hlen
      clear hall hal hlen
      go_simp
      go_wp2_with fail
      go_loopw [35] (fun i W => RevRel w.heap.size g cap w2.heap.size (done.length + 1) all w i W) (fun i _ => done.length + 1 - (intOf i).toNat)
      case atStart => exact ⟨0, Nat.zero_le _, rfl, hback, by simpa [Lib.byteCells] using hout, hb3⟩
      case round =>
        clear hback hout hb3 hmk
        obtain ⟨k, hk, rfl, hA, hO, hb4⟩ := hrel
        by_cases hlt : k < done.length + 1
        · obtain ⟨x, hx⟩ : ∃ x, all[k]? = some x := ⟨all[k]'(by have := HLEN.out; omega), List.getElem?_eq_getElem _⟩
          have hc : wr.cell? ⟨g, k, none⟩ = some (.int .u8 x.toNat) := by
            rw [hA.cellAt k (by omega)]; simp [Lib.byteCells, hx]
          have ho : wr.cell? ⟨w2.heap.size, done.length - k, none⟩ = some (.int .u8 0) := by
            rw [hO.cellAt _ (by omega), List.getElem?_append_left (by simp; omega)]
            rw [List.getElem?_replicate, if_pos (by omega)]
          have hf := hO.frozenAt (done.length - k)
          have HX := Lib.hid hx
          clear hx
          go_wp2
          exact ⟨rev_step HX.out HLEN.out hlt hA hO hb4 hne (Nat.le_refl _), by simp [intOf]; omega⟩
        · obtain rfl : k = done.length + 1 := by omega
          have hcv := run_convert_bytes_arg (P := Tryd.prog) wr 124 5 Tryd.underlying124 Tryd.underlying5 w2.heap.size 0 (done.length + 1) (done.length + 1) (all.reverse.map fun b => (b.toNat : Int)) (by simp [HLEN.out])
            (fun i hi => by rw [Nat.zero_add]; exact rev_cell HLEN.out hO i hi) 9 Tryd.underlying9
          rw [strOfNums_bytes] at hcv
          clear hlt
          go_wp2
          go_returns
          exact ⟨by rw [HMK.out]; rfl, hb4⟩
    · have h16 : ¬ (m / 16 = 0) := by simp at *; omega
      have hmm := revHex_more h16
      refine ⟨⟨m / 16, done ++ [digB (m % 16)], rfl, by omega, by rw [hd, hmm]; simp, by simpa [Lib.byteCells] using hown', hbel _ _ (Nat.le_refl _) hb, ?_, fun h => absurd h h16⟩, by simp [intOf]; omega⟩
      rw [List.length_append, List.length_singleton, Nat.pow_succ, Nat.mul_assoc]
      exact Nat.le_trans (Nat.mul_le_mul_left _ (by omega)) hp
end Go.Proofs.YtcgdjnmfeibnoaaDoor
/-! SixRun -/
namespace Go.Proofs.YtcgdjnmfeibnoaaDoor
open Go.RowKit
set_option linter.unusedVariables false
set_option linter.unusedSimpArgs false
/-- A piece's text. -/
def hexL (p : Nat) : List UInt8 := (revHex p).reverse
set_option maxHeartbeats 1000000 in
set_option maxRecDepth 100000 in
theorem hex_walk (p : Nat) (hp : p ≤ 65535) (w : World) :
    Calls Tryd.prog 68 #[.int .u16 p] w fun e w' => e = .returned (.string ⟨(hexL p).toArray⟩) ∧ Below w.heap.size w w' := by
  go_enter Tryd.func68, Tryd.ntmps68
  go_wp2_with fail
  refine (print16_walk p (by omega) _).mono ?_
  rintro e w1 ⟨rfl, hb⟩
  go_wp2_with fail
  go_returns
  exact ⟨rfl, hb⟩
/-- The loop of run: what is left of the pieces, the place, what was found. -/
def runGo : List Nat → Int → Int → Int → Int → Int × Int
  | [], _, at_, most, _ => (at_, most)
  | p :: r, i, at_, most, from_ => if p = 0 then (if most < i + 1 - from_ then runGo r (i + 1) from_ (i + 1 - from_) from_ else runGo r (i + 1) at_ most from_) else runGo r (i + 1) at_ most (i + 1)
/-- The run of pieces: its place and length; -1 and 0. -/
def runL (xs : List Nat) : Int × Int := if (runGo xs 0 (-1) 1 0).1 < 0 then (-1, 0) else runGo xs 0 (-1) 1 0
/-- What stands at the head of a round of run. -/
def RunRel (xs : List Nat) (a m f i : Value) : Prop :=
  ∃ (k : Nat) (at_ most from_ : Int), k ≤ xs.length ∧ i = .int .i64 k ∧ a = .int .i64 at_ ∧ m = .int .i64 most ∧ f = .int .i64 from_ ∧
    runGo xs 0 (-1) 1 0 = runGo (xs.drop k) k at_ most from_ ∧ -1 ≤ at_ ∧ at_ ≤ k ∧ 1 ≤ most ∧ most ≤ k + 1 ∧ 0 ≤ from_ ∧ from_ ≤ k
theorem run_meas {n k : Nat} (h : k < n) : n - (intOf (.int .i64 ((k : Int) + 1))).toNat < n - (intOf (.int .i64 (k : Int))).toNat := by simp [intOf]; omega
theorem run_step0 {xs : List Nat} {k : Nat} {at_ most from_ : Int} (hk : k < xs.length) (hr : runGo xs 0 (-1) 1 0 = runGo (xs.drop k) k at_ most from_)
    (b : -1 ≤ at_ ∧ at_ ≤ k ∧ 1 ≤ most ∧ most ≤ k + 1 ∧ 0 ≤ from_ ∧ from_ ≤ k) (h0 : (((xs[k]'hk : Nat) : Int) != 0) = false) (h : (k : Int) + 1 - from_ ≤ most) :
    RunRel xs (.int .i64 at_) (.int .i64 most) (.int .i64 from_) (.int .i64 ((k : Int) + 1)) := by
  refine ⟨k + 1, at_, most, from_, hk, rfl, rfl, rfl, rfl, ?_, by omega, by omega, by omega, by omega, by omega, by omega⟩
  rw [hr, List.drop_eq_getElem_cons hk, runGo, if_pos (by simp at h0; omega), if_neg (by omega)]
  rfl
theorem run_step1 {xs : List Nat} {k : Nat} {at_ most from_ : Int} (hk : k < xs.length) (hr : runGo xs 0 (-1) 1 0 = runGo (xs.drop k) k at_ most from_)
    (b : -1 ≤ at_ ∧ at_ ≤ k ∧ 1 ≤ most ∧ most ≤ k + 1 ∧ 0 ≤ from_ ∧ from_ ≤ k) (h0 : (((xs[k]'hk : Nat) : Int) != 0) = false) (h : most < (k : Int) + 1 - from_) :
    RunRel xs (.int .i64 from_) (.int .i64 ((k : Int) + 1 - from_)) (.int .i64 from_) (.int .i64 ((k : Int) + 1)) := by
  refine ⟨k + 1, from_, (k : Int) + 1 - from_, from_, hk, rfl, rfl, rfl, rfl, ?_, by omega, by omega, by omega, by omega, by omega, by omega⟩
  rw [hr, List.drop_eq_getElem_cons hk, runGo, if_pos (by simp at h0; omega), if_pos h]
  rfl
theorem run_step2 {xs : List Nat} {k : Nat} {at_ most from_ : Int} (hk : k < xs.length) (hr : runGo xs 0 (-1) 1 0 = runGo (xs.drop k) k at_ most from_)
    (b : -1 ≤ at_ ∧ at_ ≤ k ∧ 1 ≤ most ∧ most ≤ k + 1 ∧ 0 ≤ from_ ∧ from_ ≤ k) (h0 : (((xs[k]'hk : Nat) : Int) != 0) = true) :
    RunRel xs (.int .i64 at_) (.int .i64 most) (.int .i64 ((k : Int) + 1)) (.int .i64 ((k : Int) + 1)) := by
  refine ⟨k + 1, at_, most, (k : Int) + 1, hk, rfl, rfl, rfl, rfl, ?_, by omega, by omega, by omega, by omega, by omega, by omega⟩
  rw [hr, List.drop_eq_getElem_cons hk, runGo, if_neg (by simp at h0; omega)]
  rfl
theorem runL_neg {xs : List Nat} {at_ most from_ : Int} (hr : runGo xs 0 (-1) 1 0 = runGo (xs.drop xs.length) xs.length at_ most from_) (h : at_ < 0) : runL xs = (-1, 0) := by
  rw [List.drop_length, runGo] at hr
  unfold runL
  rw [hr, if_pos h]
theorem runL_pos {xs : List Nat} {at_ most from_ : Int} (hr : runGo xs 0 (-1) 1 0 = runGo (xs.drop xs.length) xs.length at_ most from_) (h : ¬ at_ < 0) : runL xs = (at_, most) := by
  rw [List.drop_length, runGo] at hr
  unfold runL
  rw [hr, if_neg h]
set_option maxHeartbeats 1000000 in
set_option maxRecDepth 100000 in
theorem run_walk (xs : List Nat) (b c : Nat) (w : World) (hl : xs.length ≤ 8) (hc : ∀ j, j < xs.length → w.cell? ⟨b, j, none⟩ = some (.int .u16 (xs.getD j 0))) :
    Calls Tryd.prog 65 #[.slice (some ⟨b, 0, none⟩) xs.length c] w fun e w' => e = .returned (.tuple #[.int .i64 (runL xs).1, .int .i64 (runL xs).2]) ∧ w = w' := by
  go_enter Tryd.func65, Tryd.ntmps65
  go_wp2
  go_loop [4, 5, 6, 12] (RunRel xs) (fun _ _ _ i => xs.length - (intOf i).toNat)
  case atStart => exact ⟨0, -1, 1, 0, Nat.zero_le _, rfl, rfl, rfl, rfl, rfl, by omega, by omega, by omega, by omega, by omega, by omega⟩
  case round =>
    obtain ⟨k, at_, most, from_, hk, rfl, rfl, rfl, rfl, hrun, b1, b2, b3, b4, b5, b6⟩ := hrel
    by_cases hlt : k < xs.length
    · have hck := hc k hlt
      have HR := Lib.hid hrun
      clear hrun hc
      go_wp2
      all_goals refine ⟨?_, run_meas hlt⟩
      all_goals first
        | exact run_step0 hlt HR.out ⟨b1, b2, b3, b4, b5, b6⟩ ‹_› ‹_›
        | exact run_step1 hlt HR.out ⟨b1, b2, b3, b4, b5, b6⟩ ‹_› ‹_›
        | exact run_step2 hlt HR.out ⟨b1, b2, b3, b4, b5, b6⟩ ‹_›
    · obtain rfl : k = xs.length := by omega
      have HR := Lib.hid hrun
      clear hrun hc hlt
      by_cases hneg : at_ < 0
      · go_wp2
        go_returns
        rw [runL_neg HR.out hneg]
        exact ⟨rfl, rfl⟩
      · go_wp2
        go_returns
        rw [runL_pos HR.out (by omega)]
        exact ⟨rfl, rfl⟩
end Go.Proofs.YtcgdjnmfeibnoaaDoor
/-! SixKind -/
namespace Go.Proofs.YtcgdjnmfeibnoaaDoor
open Go.RowKit Go.Proofs.YtcgdjnmfeibnoaaDoorW.PrintWords
set_option linter.unusedVariables false
set_option linter.unusedSimpArgs false
set_option maxRecDepth 100000 in
theorem runAll_walk (n0 n1 n2 n3 n4 n5 n6 n7 : Nat) (w : World) : Calls Tryd.prog 27 #[.agg #[.int .u16 (n0 : Int), .int .u16 (n1 : Int), .int .u16 (n2 : Int), .int .u16 (n3 : Int), .int .u16 (n4 : Int), .int .u16 (n5 : Int), .int .u16 (n6 : Int), .int .u16 (n7 : Int)]] w fun e w' => e = .returned (.tuple #[.int .i64 (runL [n0, n1, n2, n3, n4, n5, n6, n7]).1, .int .i64 (runL [n0, n1, n2, n3, n4, n5, n6, n7]).2]) ∧ Below w.heap.size w w' := by
  have hk : (w.alloc (.cells #[.int .u16 (n0 : Int), .int .u16 (n1 : Int), .int .u16 (n2 : Int), .int .u16 (n3 : Int), .int .u16 (n4 : Int), .int .u16 (n5 : Int), .int .u16 (n6 : Int), .int .u16 (n7 : Int)] 24)).heap[w.heap.size]? = some (.cells #[.int .u16 (n0 : Int), .int .u16 (n1 : Int), .int .u16 (n2 : Int), .int .u16 (n3 : Int), .int .u16 (n4 : Int), .int .u16 (n5 : Int), .int .u16 (n6 : Int), .int .u16 (n7 : Int)] 24 (0, 0)) := blk_new _ _
  have hT := run_walk [n0, n1, n2, n3, n4, n5, n6, n7] w.heap.size 8 (w.alloc (.cells #[.int .u16 (n0 : Int), .int .u16 (n1 : Int), .int .u16 (n2 : Int), .int .u16 (n3 : Int), .int .u16 (n4 : Int), .int .u16 (n5 : Int), .int .u16 (n6 : Int), .int .u16 (n7 : Int)] 24)) (by simp)
    (by
      intro j hj
      rw [Lib.cell_of_heap hk]
      match j, hj with
      | 0, _ => rfl
      | 1, _ => rfl
      | 2, _ => rfl
      | 3, _ => rfl
      | 4, _ => rfl
      | 5, _ => rfl
      | 6, _ => rfl
      | 7, _ => rfl
      | j + 8, hj => exact absurd hj (by simp))
  have HT := Lib.hid hT
  generalize (runL [n0, n1, n2, n3, n4, n5, n6, n7]).1 = a at *
  generalize (runL [n0, n1, n2, n3, n4, n5, n6, n7]).2 = m at *
  clear hT hk
  go_enter Tryd.func27, Tryd.ntmps27
  go_wp2_with fail
  refine HT.out.mono ?_
  rintro e w1 ⟨rfl, rfl⟩
  go_wp2_with fail
  go_returns
  exact ⟨rfl, (Below.refl _ _).alloc (Nat.le_refl _) _⟩
set_option maxRecDepth 100000 in
/-- The function literal: does the address begin so? -/
theorem kind1_walk (x0 x1 x2 x3 x4 x5 x6 x7 y0 y1 y2 y3 y4 y5 y6 y7 : Int) (h : R8 x0 x1 x2 x3 x4 x5 x6 x7) (k : R8 y0 y1 y2 y3 y4 y5 y6 y7) (n : Int) (n0 : 0 ≤ n) (n1 : n ≤ 128) (p : Nat) (w : World) (hb : w.heap[p]? = some (.cells #[.int .u16 x0, .int .u16 x1, .int .u16 x2, .int .u16 x3, .int .u16 x4, .int .u16 x5, .int .u16 x6, .int .u16 x7] 24 (0, 0))) :
    Calls Tryd.prog 80 #[A8 y0 y1 y2 y3 y4 y5 y6 y7, .int .i64 n, .pointer (some ⟨p, 0, none⟩)] w fun e w' => e = .returned (.bool (decide (V8 x0 x1 x2 x3 x4 x5 x6 x7 - tailOf (V8 x0 x1 x2 x3 x4 x5 x6 x7) n = V8 y0 y1 y2 y3 y4 y5 y6 y7 - tailOf (V8 y0 y1 y2 y3 y4 y5 y6 y7) n))) ∧ Below w.heap.size w w' := by
  have HW := Lib.hid (fun w => within_walk x0 x1 x2 x3 x4 x5 x6 x7 y0 y1 y2 y3 y4 y5 y6 y7 h k n n0 n1 w)
  generalize decide (V8 x0 x1 x2 x3 x4 x5 x6 x7 - tailOf (V8 x0 x1 x2 x3 x4 x5 x6 x7) n = V8 y0 y1 y2 y3 y4 y5 y6 y7 - tailOf (V8 y0 y1 y2 y3 y4 y5 y6 y7) n) = r at *
  have hlt := blk_lt hb
  have c0 := (blk_cell hb 0).trans (show _ = some (Value.int .u16 x0) from rfl)
  have c1 := (blk_cell hb 1).trans (show _ = some (Value.int .u16 x1) from rfl)
  have c2 := (blk_cell hb 2).trans (show _ = some (Value.int .u16 x2) from rfl)
  have c3 := (blk_cell hb 3).trans (show _ = some (Value.int .u16 x3) from rfl)
  have c4 := (blk_cell hb 4).trans (show _ = some (Value.int .u16 x4) from rfl)
  have c5 := (blk_cell hb 5).trans (show _ = some (Value.int .u16 x5) from rfl)
  have c6 := (blk_cell hb 6).trans (show _ = some (Value.int .u16 x6) from rfl)
  have c7 := (blk_cell hb 7).trans (show _ = some (Value.int .u16 x7) from rfl)
  clear hb
  go_enter Tryd.func80, Tryd.ntmps80
  go_wp2_with fail
  refine (HW.out _).mono ?_
  rintro e w1 ⟨rfl, hb1⟩
  go_wp2_with fail
  go_returns
  exact ⟨rfl, ((Below.refl w.heap.size w).alloc (Nat.le_refl _) (.cells #[.int .u16 y0, .int .u16 y1, .int .u16 y2, .int .u16 y3, .int .u16 y4, .int .u16 y5, .int .u16 y6, .int .u16 y7] 24)).trans (hb1.mono (by simp))⟩
theorem kind_no {x0 x1 x2 x3 x4 x5 x6 x7 k : Int} (h : (x0 == 0) = false ∨ (x1 == 0) = false ∨ (x2 == 0) = false ∨ (x3 == 0) = false ∨ (x4 == 0) = false ∨ (x5 == 0) = false ∨ (x6 == 0) = false ∨ (x7 == k) = false) :
    ¬ (x0 = 0 ∧ x1 = 0 ∧ x2 = 0 ∧ x3 = 0 ∧ x4 = 0 ∧ x5 = 0 ∧ x6 = 0 ∧ x7 = k) := by
  rintro ⟨rfl, rfl, rfl, rfl, rfl, rfl, rfl, rfl⟩
  simp at h
set_option maxHeartbeats 4000000 in
set_option maxRecDepth 100000 in
theorem kind_walk (x0 x1 x2 x3 x4 x5 x6 x7 : Int) (h : R8 x0 x1 x2 x3 x4 x5 x6 x7) (w : World) :
    Calls Tryd.prog 36 #[.agg #[.int .u16 x0, .int .u16 x1, .int .u16 x2, .int .u16 x3, .int .u16 x4, .int .u16 x5, .int .u16 x6, .int .u16 x7]] w fun e w' => e = .returned (.int .i64 (kindV x0 x1 x2 x3 x4 x5 x6 x7)) ∧ Below w.heap.size w w' := by
  have hF := four_walk x0 x1 x2 x3 x4 x5 x6 x7 h
  have hk : (w.alloc (.cells #[.int .u16 x0, .int .u16 x1, .int .u16 x2, .int .u16 x3, .int .u16 x4, .int .u16 x5, .int .u16 x6, .int .u16 x7] 24)).heap[w.heap.size]? = some (.cells #[.int .u16 x0, .int .u16 x1, .int .u16 x2, .int .u16 x3, .int .u16 x4, .int .u16 x5, .int .u16 x6, .int .u16 x7] 24 (0, 0)) := blk_new _ _
  have B0 : Below w.heap.size w (w.alloc (.cells #[.int .u16 x0, .int .u16 x1, .int .u16 x2, .int .u16 x3, .int .u16 x4, .int .u16 x5, .int .u16 x6, .int .u16 x7] 24)) := (Below.refl _ _).alloc (Nat.le_refl _) _
  have HF := Lib.hid hF
  have HR := Lib.hid h
  clear hF h
  go_enter Tryd.func36, Tryd.ntmps36
  go_upto_region 1 with fail
  generalize w.alloc (.cells #[.int .u16 x0, .int .u16 x1, .int .u16 x2, .int .u16 x3, .int .u16 x4, .int .u16 x5, .int .u16 x6, .int .u16 x7] 24) = W0 at *
  have c0 : W0.cell? ⟨w.heap.size, 0, none⟩ = some (.int .u16 x0) := (blk_cell hk 0).trans rfl
  have c1 : W0.cell? ⟨w.heap.size, 1, none⟩ = some (.int .u16 x1) := (blk_cell hk 1).trans rfl
  have c2 : W0.cell? ⟨w.heap.size, 2, none⟩ = some (.int .u16 x2) := (blk_cell hk 2).trans rfl
  have c3 : W0.cell? ⟨w.heap.size, 3, none⟩ = some (.int .u16 x3) := (blk_cell hk 3).trans rfl
  have c4 : W0.cell? ⟨w.heap.size, 4, none⟩ = some (.int .u16 x4) := (blk_cell hk 4).trans rfl
  have c5 : W0.cell? ⟨w.heap.size, 5, none⟩ = some (.int .u16 x5) := (blk_cell hk 5).trans rfl
  have c6 : W0.cell? ⟨w.heap.size, 6, none⟩ = some (.int .u16 x6) := (blk_cell hk 6).trans rfl
  have c7 : W0.cell? ⟨w.heap.size, 7, none⟩ = some (.int .u16 x7) := (blk_cell hk 7).trans rfl
  have hlt : w.heap.size < W0.heap.size := blk_lt hk
  go_wp2_with fail
  refine (HF.out _).mono ?_
  rintro e w1 ⟨rfl, hb1⟩
  have B1 := below_step B0 hb1
  have hk1 := blk_below hk hb1
  clear hb1 c0 c1 c2 c3 c4 c5 c6 c7 hlt B0 hk HF
  generalize (if isFour x0 x1 x2 x3 x4 x5 = true then x6 * 65536 + x7 else 0) = u at *
  generalize hq : isFour x0 x1 x2 x3 x4 x5 = q at *
  have c0 : w1.cell? ⟨w.heap.size, 0, none⟩ = some (.int .u16 x0) := (blk_cell hk1 0).trans rfl
  have c1 : w1.cell? ⟨w.heap.size, 1, none⟩ = some (.int .u16 x1) := (blk_cell hk1 1).trans rfl
  have c2 : w1.cell? ⟨w.heap.size, 2, none⟩ = some (.int .u16 x2) := (blk_cell hk1 2).trans rfl
  have c3 : w1.cell? ⟨w.heap.size, 3, none⟩ = some (.int .u16 x3) := (blk_cell hk1 3).trans rfl
  have c4 : w1.cell? ⟨w.heap.size, 4, none⟩ = some (.int .u16 x4) := (blk_cell hk1 4).trans rfl
  have c5 : w1.cell? ⟨w.heap.size, 5, none⟩ = some (.int .u16 x5) := (blk_cell hk1 5).trans rfl
  have c6 : w1.cell? ⟨w.heap.size, 6, none⟩ = some (.int .u16 x6) := (blk_cell hk1 6).trans rfl
  have c7 : w1.cell? ⟨w.heap.size, 7, none⟩ = some (.int .u16 x7) := (blk_cell hk1 7).trans rfl
  have hlt : w.heap.size < w1.heap.size := blk_lt hk1
  have HQ := Lib.hid hq
  have HK := Lib.hid hk1
  have HB := Lib.hid B1
  clear hq hk1 B1
  go_wp2_with fail
  · rename_i h1
    simp only [beq_iff_eq] at h1
    have H1 := Lib.hid h1
    clear h1
    go_returns
    refine ⟨?_, HB.out⟩
    unfold kindV
    rw [if_pos H1.out]
    rfl
  · rename_i h1 h2
    simp only [beq_iff_eq] at h2
    have H2 := Lib.hid h2
    have H1 := Lib.hid h1
    clear h1 h2
    go_returns
    refine ⟨?_, HB.out⟩
    unfold kindV
    rw [if_neg (kind_no H1.out), if_pos H2.out]
    rfl
  · rename_i h1 h2 h3
    have H1 := Lib.hid h1
    have H2 := Lib.hid h2
    have H3 := Lib.hid h3
    clear h1 h2 h3
    go_returns
    refine ⟨?_, HB.out⟩
    unfold kindV
    rw [if_neg (kind_no H1.out), if_neg (kind_no H2.out), if_pos (HQ.out.trans H3.out)]
    rfl
  · have HN1 := Lib.hid (kind_no (x0 := x0) (x1 := x1) (x2 := x2) (x3 := x3) (x4 := x4) (x5 := x5) (x6 := x6) (x7 := x7) (k := 0) (by assumption))
    have HN2 := Lib.hid (kind_no (x0 := x0) (x1 := x1) (x2 := x2) (x3 := x3) (x4 := x4) (x5 := x5) (x6 := x6) (x7 := x7) (k := 1) (by assumption))
    have HN3 : Hid (¬ isFour x0 x1 x2 x3 x4 x5 = true) := Lib.hid (by rw [HQ.out, (by assumption : q = false)]; decide)
    have hc : decide (V8 x0 x1 x2 x3 x4 x5 x6 x7 - tailOf (V8 x0 x1 x2 x3 x4 x5 x6 x7) 10 = V8 65152 0 0 0 0 0 0 0 - tailOf (V8 65152 0 0 0 0 0 0 0) 10) = decide (65152 ≤ x0 ∧ x0 ≤ 65215) := decide_eq_decide.2 (link_v HR.out)
    refine (kind1_walk x0 x1 x2 x3 x4 x5 x6 x7 65152 0 0 0 0 0 0 0 HR.out (r8_first 65152 0 (by decide) (by decide)) 10 (by decide) (by decide) _ _ HK.out).mono ?_
    rintro e W ⟨rfl, hbW⟩
    have HB := Lib.hid (below_step HB.out hbW)
    have HK := Lib.hid (blk_below HK.out hbW)
    rw [hc]
    clear hc hbW
    by_cases hL : 65152 ≤ x0 ∧ x0 ≤ 65215
    · rw [decide_eq_true hL]
      have HL := Lib.hid hL
      clear hL
      go_wp2_with fail
      go_returns
      refine ⟨?_, HB.out⟩
      unfold kindV
      rw [if_neg HN1.out, if_neg HN2.out, if_neg HN3.out, if_pos HL.out]
      rfl
    · rw [decide_eq_false hL]
      have HL10 := Lib.hid hL
      clear hL
      go_wp2_with fail
      have hc : decide (V8 x0 x1 x2 x3 x4 x5 x6 x7 - tailOf (V8 x0 x1 x2 x3 x4 x5 x6 x7) 7 = V8 64512 0 0 0 0 0 0 0 - tailOf (V8 64512 0 0 0 0 0 0 0) 7) = decide (64512 ≤ x0 ∧ x0 ≤ 65023) := decide_eq_decide.2 (local_v HR.out)
      refine (kind1_walk x0 x1 x2 x3 x4 x5 x6 x7 64512 0 0 0 0 0 0 0 HR.out (r8_first 64512 0 (by decide) (by decide)) 7 (by decide) (by decide) _ _ HK.out).mono ?_
      rintro e W ⟨rfl, hbW⟩
      have HB := Lib.hid (below_step HB.out hbW)
      have HK := Lib.hid (blk_below HK.out hbW)
      rw [hc]
      clear hc hbW
      by_cases hL : 64512 ≤ x0 ∧ x0 ≤ 65023
      · rw [decide_eq_true hL]
        have HL := Lib.hid hL
        clear hL
        go_wp2_with fail
        go_returns
        refine ⟨?_, HB.out⟩
        unfold kindV
        rw [if_neg HN1.out, if_neg HN2.out, if_neg HN3.out, if_neg HL10.out, if_pos HL.out]
        rfl
      · rw [decide_eq_false hL]
        have HL7 := Lib.hid hL
        clear hL
        go_wp2_with fail
        have hc : decide (V8 x0 x1 x2 x3 x4 x5 x6 x7 - tailOf (V8 x0 x1 x2 x3 x4 x5 x6 x7) 8 = V8 65280 0 0 0 0 0 0 0 - tailOf (V8 65280 0 0 0 0 0 0 0) 8) = decide (65280 ≤ x0) := decide_eq_decide.2 (many_v HR.out)
        refine (kind1_walk x0 x1 x2 x3 x4 x5 x6 x7 65280 0 0 0 0 0 0 0 HR.out (r8_first 65280 0 (by decide) (by decide)) 8 (by decide) (by decide) _ _ HK.out).mono ?_
        rintro e W ⟨rfl, hbW⟩
        have HB := Lib.hid (below_step HB.out hbW)
        have HK := Lib.hid (blk_below HK.out hbW)
        rw [hc]
        clear hc hbW
        by_cases hL : 65280 ≤ x0
        · rw [decide_eq_true hL]
          have HL := Lib.hid hL
          clear hL
          go_wp2_with fail
          go_returns
          refine ⟨?_, HB.out⟩
          unfold kindV
          rw [if_neg HN1.out, if_neg HN2.out, if_neg HN3.out, if_neg HL10.out, if_neg HL7.out, if_pos HL.out]
          rfl
        · rw [decide_eq_false hL]
          have HL8 := Lib.hid hL
          clear hL
          go_wp2_with fail
          have hc : decide (V8 x0 x1 x2 x3 x4 x5 x6 x7 - tailOf (V8 x0 x1 x2 x3 x4 x5 x6 x7) 32 = V8 8193 3512 0 0 0 0 0 0 - tailOf (V8 8193 3512 0 0 0 0 0 0) 32) = decide (x0 = 8193 ∧ x1 = 3512) := decide_eq_decide.2 (begins2 HR.out (by decide) (by decide))
          refine (kind1_walk x0 x1 x2 x3 x4 x5 x6 x7 8193 3512 0 0 0 0 0 0 HR.out (r8_first 8193 3512 (by decide) (by decide)) 32 (by decide) (by decide) _ _ HK.out).mono ?_
          rintro e W ⟨rfl, hbW⟩
          have HB := Lib.hid (below_step HB.out hbW)
          have HK := Lib.hid (blk_below HK.out hbW)
          rw [hc]
          clear hc hbW
          by_cases hL : x0 = 8193 ∧ x1 = 3512
          · rw [decide_eq_true hL]
            have HL := Lib.hid hL
            clear hL
            go_wp2_with fail
            go_returns
            refine ⟨?_, HB.out⟩
            unfold kindV
            rw [if_neg HN1.out, if_neg HN2.out, if_neg HN3.out, if_neg HL10.out, if_neg HL7.out, if_neg (Int.not_le.2 HL8.out), if_pos HL.out]
            rfl
          · rw [decide_eq_false hL]
            have HL32 := Lib.hid hL
            clear hL
            go_wp2_with fail
            go_returns
            refine ⟨?_, HB.out⟩
            unfold kindV
            rw [if_neg HN1.out, if_neg HN2.out, if_neg HN3.out, if_neg HL10.out, if_neg HL7.out, if_neg (Int.not_le.2 HL8.out), if_neg HL32.out]
            rfl
end Go.Proofs.YtcgdjnmfeibnoaaDoor
/-! SixRefKind -/
namespace Go.Proofs.YtcgdjnmfeibnoaaDoor
open Go.RowKit Go.Proofs.YtcgdjnmfeibnoaaDoorW.PrintWords
set_option linter.unusedVariables false
set_option linter.unusedSimpArgs false
set_option maxHeartbeats 4000000 in
set_option maxRecDepth 100000 in
theorem refKind_walk (x0 x1 x2 x3 x4 x5 x6 x7 : Int) (h : R8 x0 x1 x2 x3 x4 x5 x6 x7) (w : World) :
    Calls Tryd.prog 37 #[.agg #[.int .u16 x0, .int .u16 x1, .int .u16 x2, .int .u16 x3, .int .u16 x4, .int .u16 x5, .int .u16 x6, .int .u16 x7]] w fun e w' => e = .returned (.int .i64 (kindV x0 x1 x2 x3 x4 x5 x6 x7)) ∧ Below w.heap.size w w' := by
  have hF := refFour_walk x0 x1 x2 x3 x4 x5 x6 x7 h
  have hk : (w.alloc (.cells #[.int .u16 x0, .int .u16 x1, .int .u16 x2, .int .u16 x3, .int .u16 x4, .int .u16 x5, .int .u16 x6, .int .u16 x7] 30)).heap[w.heap.size]? = some (.cells #[.int .u16 x0, .int .u16 x1, .int .u16 x2, .int .u16 x3, .int .u16 x4, .int .u16 x5, .int .u16 x6, .int .u16 x7] 30 (0, 0)) := blk_new _ _
  have B0 : Below w.heap.size w (w.alloc (.cells #[.int .u16 x0, .int .u16 x1, .int .u16 x2, .int .u16 x3, .int .u16 x4, .int .u16 x5, .int .u16 x6, .int .u16 x7] 30)) := (Below.refl _ _).alloc (Nat.le_refl _) _
  have HF := Lib.hid hF
  clear hF h
  go_enter Tryd.func37, Tryd.ntmps37
  go_upto_region 1 with fail
  generalize w.alloc (.cells #[.int .u16 x0, .int .u16 x1, .int .u16 x2, .int .u16 x3, .int .u16 x4, .int .u16 x5, .int .u16 x6, .int .u16 x7] 30) = W0 at *
  have c0 : W0.cell? ⟨w.heap.size, 0, none⟩ = some (.int .u16 x0) := (blk_cell hk 0).trans rfl
  have c1 : W0.cell? ⟨w.heap.size, 1, none⟩ = some (.int .u16 x1) := (blk_cell hk 1).trans rfl
  have c2 : W0.cell? ⟨w.heap.size, 2, none⟩ = some (.int .u16 x2) := (blk_cell hk 2).trans rfl
  have c3 : W0.cell? ⟨w.heap.size, 3, none⟩ = some (.int .u16 x3) := (blk_cell hk 3).trans rfl
  have c4 : W0.cell? ⟨w.heap.size, 4, none⟩ = some (.int .u16 x4) := (blk_cell hk 4).trans rfl
  have c5 : W0.cell? ⟨w.heap.size, 5, none⟩ = some (.int .u16 x5) := (blk_cell hk 5).trans rfl
  have c6 : W0.cell? ⟨w.heap.size, 6, none⟩ = some (.int .u16 x6) := (blk_cell hk 6).trans rfl
  have c7 : W0.cell? ⟨w.heap.size, 7, none⟩ = some (.int .u16 x7) := (blk_cell hk 7).trans rfl
  have hlt : w.heap.size < W0.heap.size := blk_lt hk
  go_wp2_with fail
  refine (HF.out _).mono ?_
  rintro e w1 ⟨rfl, hb1⟩
  have B1 := below_step B0 hb1
  have hk1 := blk_below hk hb1
  clear hb1 c0 c1 c2 c3 c4 c5 c6 c7 hlt B0 hk HF
  generalize (x6 * 65536 + x7) = u at *
  have hK : kindV x0 x1 x2 x3 x4 x5 x6 x7 = kindV x0 x1 x2 x3 x4 x5 x6 x7 := rfl
  generalize hq : isFour x0 x1 x2 x3 x4 x5 = q at *
  have c0 : w1.cell? ⟨w.heap.size, 0, none⟩ = some (.int .u16 x0) := (blk_cell hk1 0).trans rfl
  have c1 : w1.cell? ⟨w.heap.size, 1, none⟩ = some (.int .u16 x1) := (blk_cell hk1 1).trans rfl
  have c2 : w1.cell? ⟨w.heap.size, 2, none⟩ = some (.int .u16 x2) := (blk_cell hk1 2).trans rfl
  have c3 : w1.cell? ⟨w.heap.size, 3, none⟩ = some (.int .u16 x3) := (blk_cell hk1 3).trans rfl
  have c4 : w1.cell? ⟨w.heap.size, 4, none⟩ = some (.int .u16 x4) := (blk_cell hk1 4).trans rfl
  have c5 : w1.cell? ⟨w.heap.size, 5, none⟩ = some (.int .u16 x5) := (blk_cell hk1 5).trans rfl
  have c6 : w1.cell? ⟨w.heap.size, 6, none⟩ = some (.int .u16 x6) := (blk_cell hk1 6).trans rfl
  have c7 : w1.cell? ⟨w.heap.size, 7, none⟩ = some (.int .u16 x7) := (blk_cell hk1 7).trans rfl
  have hlt : w.heap.size < w1.heap.size := blk_lt hk1
  have HQ := Lib.hid hq
  have HB := Lib.hid B1
  clear hq hk1 B1
  go_wp2_with fail
  all_goals go_returns
  all_goals refine ⟨?_, HB.out⟩
  all_goals unfold kindV
  · rename_i h1
    simp only [beq_iff_eq] at h1
    rw [if_pos h1]
    rfl
  · rename_i h1 h2
    simp only [beq_iff_eq] at h2
    rw [if_neg (kind_no h1), if_pos h2]
    rfl
  · rename_i h1 h2 h3
    rw [if_neg (kind_no h1), if_neg (kind_no h2), if_pos (HQ.out.trans h3)]
    rfl
  · rename_i h1 h2 h3 h4 h5
    try simp only [beq_iff_eq, beq_eq_false_iff_ne, ne_eq] at h4 h5
    try subst h5
    rw [if_neg (kind_no h1), if_neg (kind_no h2), if_neg (by rw [HQ.out, h3]; decide)]
    repeat (first | rw [if_pos (by omega)] | rw [if_neg (by omega)])
    rfl
  · rename_i h1 h2 h3 h4 h5 h6 h7 h8
    try simp only [beq_iff_eq, beq_eq_false_iff_ne, ne_eq] at h4 h5 h6 h7 h8
    try subst h5
    rw [if_neg (kind_no h1), if_neg (kind_no h2), if_neg (by rw [HQ.out, h3]; decide)]
    repeat (first | rw [if_pos (by omega)] | rw [if_neg (by omega)])
    rfl
  · rename_i h1 h2 h3 h4 h5 h6 h7 h8 h9
    try simp only [beq_iff_eq, beq_eq_false_iff_ne, ne_eq] at h4 h5 h6 h7 h8 h9
    try subst h5
    rw [if_neg (kind_no h1), if_neg (kind_no h2), if_neg (by rw [HQ.out, h3]; decide)]
    repeat (first | rw [if_pos (by omega)] | rw [if_neg (by omega)])
    rfl
  · rename_i h1 h2 h3 h4 h5 h6
    try simp only [beq_iff_eq, beq_eq_false_iff_ne, ne_eq] at h4 h5 h6
    try subst h5
    rw [if_neg (kind_no h1), if_neg (kind_no h2), if_neg (by rw [HQ.out, h3]; decide)]
    repeat (first | rw [if_pos (by omega)] | rw [if_neg (by omega)])
    rfl
  · rename_i h1 h2 h3 h4 h5 h6 h7 h8
    try simp only [beq_iff_eq, beq_eq_false_iff_ne, ne_eq] at h4 h5 h6 h7 h8
    try subst h5
    rw [if_neg (kind_no h1), if_neg (kind_no h2), if_neg (by rw [HQ.out, h3]; decide)]
    repeat (first | rw [if_pos (by omega)] | rw [if_neg (by omega)])
    rfl
  · rename_i h1 h2 h3 h4 h5 h6 h7 h8
    try simp only [beq_iff_eq, beq_eq_false_iff_ne, ne_eq] at h4 h5 h6 h7 h8
    try subst h5
    rw [if_neg (kind_no h1), if_neg (kind_no h2), if_neg (by rw [HQ.out, h3]; decide)]
    repeat (first | rw [if_pos (by omega)] | rw [if_neg (by omega)])
    rfl
  · rename_i h1 h2 h3 h4 h5 h6 h7 h8
    try simp only [beq_iff_eq, beq_eq_false_iff_ne, ne_eq] at h4 h5 h6 h7 h8
    try subst h5
    rw [if_neg (kind_no h1), if_neg (kind_no h2), if_neg (by rw [HQ.out, h3]; decide)]
    repeat (first | rw [if_pos (by omega)] | rw [if_neg (by omega)])
    rfl
  · rename_i h1 h2 h3 h4 h5 h6 h7
    try simp only [beq_iff_eq, beq_eq_false_iff_ne, ne_eq] at h4 h5 h6 h7
    try subst h5
    rw [if_neg (kind_no h1), if_neg (kind_no h2), if_neg (by rw [HQ.out, h3]; decide)]
    repeat (first | rw [if_pos (by omega)] | rw [if_neg (by omega)])
    rfl
end Go.Proofs.YtcgdjnmfeibnoaaDoor
/-! Shelf -/
namespace Go.Proofs
open Go.Shelf
def Tryd.lays156_ren : Go.Shelf.Ren := ⟨fun | 156 => 70 | 165 => 107 | 166 => 97 | 169 => 78 | 240 => 113 | 241 => 137 | 276 => 142 | 277 => 153 | n => n, fun | 31 => 70 | 9 => 9 | 3 => 3 | 4 => 4 | 0 => 0 | 20 => 20 | 72 => 126 | 76 => 148 | 70 => 123 | 37 => 124 | 75 => 128 | 127 => 165 | 164 => 186 | 5 => 5 | 80 => 130 | n => n, fun | n => n⟩
theorem Tryd.lays156 : Go.Proofs.Lays.n156 Tryd.prog Tryd.lays156_ren := {
  mixed := by kernel_rfl
  f156 := Tryd.func70.trans (congrArg some (by kernel_rfl))
  f165 := Tryd.func107.trans (congrArg some (by kernel_rfl))
  f166 := Tryd.func97.trans (congrArg some (by kernel_rfl))
  f169 := Tryd.func78.trans (congrArg some (by kernel_rfl))
  f240 := Tryd.func113.trans (congrArg some (by kernel_rfl))
  f241 := Tryd.func137.trans (congrArg some (by kernel_rfl))
  f276 := Tryd.func142.trans (congrArg some (by kernel_rfl))
  f277 := Tryd.func153.trans (congrArg some (by kernel_rfl))
  t0 := Tryd.underlying0
  a0 := Tryd.isAgg0
  z0 := Tryd.sizeOf0
  v0 := Tryd.zeroValue0
  t3 := Tryd.underlying3
  a3 := Tryd.isAgg3
  z3 := Tryd.sizeOf3
  v3 := Tryd.zeroValue3
  t4 := Tryd.underlying4
  a4 := Tryd.isAgg4
  z4 := Tryd.sizeOf4
  v4 := Tryd.zeroValue4
  t9 := Tryd.underlying9
  a9 := Tryd.isAgg9
  z9 := Tryd.sizeOf9
  v9 := Tryd.zeroValue9
  t20 := Tryd.underlying20
  a20 := Tryd.isAgg20
  z20 := Tryd.sizeOf20
  v20 := Tryd.zeroValue20
  t31 := Tryd.underlying70
  a31 := Tryd.isAgg70
  z31 := Tryd.sizeOf70
  v31 := Tryd.zeroValue70
  t37 := Tryd.underlying124
  a37 := Tryd.isAgg124
  z37 := Tryd.sizeOf124
  v37 := Tryd.zeroValue124
  t70 := Tryd.underlying123
  a70 := Tryd.isAgg123
  z70 := Tryd.sizeOf123
  v70 := Tryd.zeroValue123
  t72 := Tryd.underlying126
  a72 := Tryd.isAgg126
  z72 := Tryd.sizeOf126
  v72 := Tryd.zeroValue126
  t75 := Tryd.underlying128
  a75 := Tryd.isAgg128
  z75 := Tryd.sizeOf128
  v75 := Tryd.zeroValue128
  t76 := Tryd.underlying148
  a76 := Tryd.isAgg148
  z76 := Tryd.sizeOf148
  v76 := Tryd.zeroValue148
  t127 := Tryd.underlying165
  a127 := Tryd.isAgg165
  z127 := Tryd.sizeOf165
  v127 := Tryd.zeroValue165
  t164 := Tryd.underlying186
  a164 := Tryd.isAgg186
  z164 := Tryd.sizeOf186
  v164 := Tryd.zeroValue186 }
theorem Tryd.Builder_Extra_156 : Builder.Extra Tryd.prog Tryd.lays156_ren := {
  sizeBuilder := by kernel_rfl
  liesBuilder := by kernel_rfl
  t5 := Tryd.underlying5
  a5 := Tryd.isAgg5
  z5 := Tryd.sizeOf5
  v5 := Tryd.zeroValue5
  infoByte := by kernel_rfl
  cellsByte := by kernel_rfl
  sizeByte := by kernel_rfl
  neB5 := by decide }
open Go.RowKit in
/-- No element: the empty string; the world is as it was. (Whatever the slice's address and capacity: a nil slice too.) (LAID: no walk: one application.) -/
theorem Tryd.strings_Join_none (a : Option Addr) (c : Nat) (sep : ByteArray) (w : World) :
    Calls Tryd.prog 70 #[.slice a 0 c, .string sep] w fun e w' => e = .returned (.string ⟨#[]⟩) ∧ w' = w := Any.strings_Join_none Tryd.lays156 Tryd.Builder_Extra_156 a c sep w
open Go.RowKit in
/-- strings.Join: "Join concatenates the elements of its first argument to create a single string. The separator string sep is placed between elements in the resulting string.": HOWEVER MANY ELEMENTS. Below the heap's end the world is as it was. (LAID: no walk: one application.) -/
theorem Tryd.strings_Join (bk o c : Nat) (xs : List ByteArray) (sep : ByteArray) (w : World) (hcells : ∀ (j : Nat) x, xs[j]? = some x → w.cell? ⟨bk, o + j, none⟩ = some (.string x)) (hbk : bk < w.heap.size) (hN : xs.length ≤ 140737488355328) (hcap : xs.length ≤ c) (hlen : (Lib.join (xs.map (·.data.toList)) sep.data.toList).length ≤ 140737488355328) :
    Calls Tryd.prog 70 #[.slice (some ⟨bk, o, none⟩) xs.length c, .string sep] w fun e w' => e = .returned (.string ⟨(Lib.join (xs.map (·.data.toList)) sep.data.toList).toArray⟩) ∧ Below w.heap.size w w' := Any.strings_Join Tryd.lays156 Tryd.Builder_Extra_156 bk o c xs sep w hcells hbk hN hcap hlen
def Tryd.laysM171_ren : Go.Shelf.Ren := ⟨fun | 171 => 111 | 243 => 138 | 246 => 154 | 283 => 161 | 284 => 162 | 285 => 163 | 286 => 164 | 129 => 133 | 317 => 165 | 318 => 166 | 319 => 167 | 320 => 168 | 337 => 169 | 338 => 116 | n => n, fun | 3 => 3 | 9 => 9 | 2 => 2 | 4 => 4 | 171 => 203 | 0 => 0 | 53 => 72 | 37 => 124 | 5 => 5 | 173 => 205 | 212 => 212 | 51 => 119 | 20 => 20 | 213 => 213 | 46 => 138 | 232 => 214 | 233 => 188 | n => n, fun | 17 => 4 | 18 => 5 | 19 => 0 | n => n⟩
theorem Tryd.laysM171 : Go.Proofs.LaysM.n171 Tryd.prog Tryd.laysM171_ren := {
  mixed := by kernel_rfl
  f129 := Tryd.func133.trans (congrArg some (by kernel_rfl))
  f171 := Tryd.func111.trans (congrArg some (by kernel_rfl))
  f243 := Tryd.func138.trans (congrArg some (by kernel_rfl))
  f246 := Tryd.func154.trans (congrArg some (by kernel_rfl))
  f283 := Tryd.func161.trans (congrArg some (by kernel_rfl))
  f284 := Tryd.func162.trans (congrArg some (by kernel_rfl))
  f285 := Tryd.func163.trans (congrArg some (by kernel_rfl))
  f286 := Tryd.func164.trans (congrArg some (by kernel_rfl))
  f317 := Tryd.func165.trans (congrArg some (by kernel_rfl))
  f318 := Tryd.func166.trans (congrArg some (by kernel_rfl))
  f319 := Tryd.func167.trans (congrArg some (by kernel_rfl))
  f320 := Tryd.func168.trans (congrArg some (by kernel_rfl))
  f337 := Tryd.func169.trans (congrArg some (by kernel_rfl))
  f338 := Tryd.func116.trans (congrArg some (by kernel_rfl))
  t0 := Tryd.underlying0
  a0 := Tryd.isAgg0
  z0 := Tryd.sizeOf0
  v0 := Tryd.zeroValue0
  t2 := Tryd.underlying2
  a2 := Tryd.isAgg2
  z2 := Tryd.sizeOf2
  v2 := Tryd.zeroValue2
  t3 := Tryd.underlying3
  a3 := Tryd.isAgg3
  z3 := Tryd.sizeOf3
  v3 := Tryd.zeroValue3
  t4 := Tryd.underlying4
  a4 := Tryd.isAgg4
  z4 := Tryd.sizeOf4
  v4 := Tryd.zeroValue4
  t5 := Tryd.underlying5
  a5 := Tryd.isAgg5
  z5 := Tryd.sizeOf5
  v5 := Tryd.zeroValue5
  t9 := Tryd.underlying9
  a9 := Tryd.isAgg9
  z9 := Tryd.sizeOf9
  v9 := Tryd.zeroValue9
  t20 := Tryd.underlying20
  a20 := Tryd.isAgg20
  z20 := Tryd.sizeOf20
  v20 := Tryd.zeroValue20
  t37 := Tryd.underlying124
  a37 := Tryd.isAgg124
  z37 := Tryd.sizeOf124
  v37 := Tryd.zeroValue124
  t46 := Tryd.underlying138
  a46 := Tryd.isAgg138
  z46 := Tryd.sizeOf138
  v46 := Tryd.zeroValue138
  t51 := Tryd.underlying119
  a51 := Tryd.isAgg119
  z51 := Tryd.sizeOf119
  v51 := Tryd.zeroValue119
  t53 := Tryd.underlying72
  a53 := Tryd.isAgg72
  z53 := Tryd.sizeOf72
  v53 := Tryd.zeroValue72
  t171 := Tryd.underlying203
  a171 := Tryd.isAgg203
  z171 := Tryd.sizeOf203
  v171 := Tryd.zeroValue203
  t173 := Tryd.underlying205
  a173 := Tryd.isAgg205
  z173 := Tryd.sizeOf205
  v173 := Tryd.zeroValue205
  t212 := Tryd.underlying212
  a212 := Tryd.isAgg212
  z212 := Tryd.sizeOf212
  v212 := Tryd.zeroValue212
  t213 := Tryd.underlying213
  a213 := Tryd.isAgg213
  z213 := Tryd.sizeOf213
  t232 := Tryd.underlying214
  a232 := Tryd.isAgg214
  z232 := Tryd.sizeOf214
  v232 := Tryd.zeroValue214
  t233 := Tryd.underlying188
  a233 := Tryd.isAgg188
  z233 := Tryd.sizeOf188
  v233 := Tryd.zeroValue188
  g17 := by kernel_rfl
  g18 := by kernel_rfl
  g19 := by kernel_rfl
  i0 := by kernel_rfl
  i2 := by kernel_rfl
  i3 := by kernel_rfl
  i4 := by kernel_rfl
  i5 := by kernel_rfl
  i9 := by kernel_rfl
  i20 := by kernel_rfl
  i37 := by kernel_rfl
  i46 := by kernel_rfl
  i51 := by kernel_rfl
  i53 := by kernel_rfl
  i171 := by kernel_rfl
  i173 := by kernel_rfl
  i212 := by kernel_rfl
  i232 := by kernel_rfl
  i233 := by kernel_rfl
  m17 := by kernel_rfl
  m18 := by kernel_rfl
  m19 := by kernel_rfl }
open Go.RowKit Go.Sort Go.Lib in
/-- strconv.Itoa: "Itoa is equivalent to FormatInt(int64(i), 10).": i's DECIMAL NUMERAL ('Lib.itoa': a '-' where i is negative, then the digits), FOR EVERY int. The world behind the call: the world before it, new blocks behind the heap (the library's 'var a [24]byte'), draws. (LAID: no walk: one application.) -/
theorem Tryd.strconv_Itoa (n : Int) (h0 : -9223372036854775808 ≤ n) (h1 : n ≤ 9223372036854775807) (w : World) (htab : Lib.TabIs Tryd.prog w "internal/strconv.uint64pow10" .u64 Lib.pow10Tab) :
    Calls Tryd.prog 111 #[.int .i64 n] w fun e w' => e = .returned (.string ⟨(Lib.itoa n).toArray⟩) ∧ ∃ k os, w' = grow (w.drewN k) os := Any.strconv_Itoa Tryd.laysM171 n h0 h1 w htab
def Tryd.laysM219_ren : Go.Shelf.Ren := ⟨fun | 219 => 120 | 217 => 143 | 225 => 144 | 224 => 145 | 267 => 146 | 266 => 158 | 314 => 159 | n => n, fun | 9 => 9 | 3 => 3 | 4 => 4 | 5 => 5 | 46 => 138 | 146 => 182 | 51 => 119 | n => n, fun | 1 => 1 | n => n⟩
theorem Tryd.laysM219 : Go.Proofs.LaysM.n219 Tryd.prog Tryd.laysM219_ren := {
  mixed := by kernel_rfl
  f217 := Tryd.func143.trans (congrArg some (by kernel_rfl))
  f219 := Tryd.func120.trans (congrArg some (by kernel_rfl))
  f224 := Tryd.func145.trans (congrArg some (by kernel_rfl))
  f225 := Tryd.func144.trans (congrArg some (by kernel_rfl))
  f266 := Tryd.func158.trans (congrArg some (by kernel_rfl))
  f267 := Tryd.func146.trans (congrArg some (by kernel_rfl))
  f314 := Tryd.func159.trans (congrArg some (by kernel_rfl))
  t3 := Tryd.underlying3
  a3 := Tryd.isAgg3
  z3 := Tryd.sizeOf3
  v3 := Tryd.zeroValue3
  t4 := Tryd.underlying4
  a4 := Tryd.isAgg4
  z4 := Tryd.sizeOf4
  v4 := Tryd.zeroValue4
  t5 := Tryd.underlying5
  a5 := Tryd.isAgg5
  z5 := Tryd.sizeOf5
  v5 := Tryd.zeroValue5
  t9 := Tryd.underlying9
  a9 := Tryd.isAgg9
  z9 := Tryd.sizeOf9
  v9 := Tryd.zeroValue9
  t46 := Tryd.underlying138
  a46 := Tryd.isAgg138
  z46 := Tryd.sizeOf138
  v46 := Tryd.zeroValue138
  t51 := Tryd.underlying119
  a51 := Tryd.isAgg119
  z51 := Tryd.sizeOf119
  v51 := Tryd.zeroValue119
  t146 := Tryd.underlying182
  a146 := Tryd.isAgg182
  z146 := Tryd.sizeOf182
  v146 := Tryd.zeroValue182
  g1 := by kernel_rfl
  i3 := by kernel_rfl
  i4 := by kernel_rfl
  i5 := by kernel_rfl
  i9 := by kernel_rfl
  i46 := by kernel_rfl
  i51 := by kernel_rfl
  i146 := by kernel_rfl
  m1 := by kernel_rfl
  s1_3 := fun w h => Go.Proofs.cell_of_shapedOpen_int (zero := #[.int .i64 0]) (t := 3) h (of_decide_eq_true (by kernel_rfl)) (by kernel_rfl) rfl (by kernel_rfl) (by kernel_rfl) Tryd.underlying3 }
def Tryd.lays155_ren : Go.Shelf.Ren := ⟨fun | 155 => 76 | 154 => 112 | 138 => 139 | 165 => 107 | 143 => 140 | 166 => 97 | 197 => 141 | 169 => 78 | 195 => 155 | 218 => 156 | 240 => 113 | 241 => 137 | 219 => 120 | 260 => 157 | 276 => 142 | 277 => 153 | 217 => 143 | 225 => 144 | 224 => 145 | 267 => 146 | 266 => 158 | 314 => 159 | n => n, fun | 9 => 9 | 3 => 3 | 4 => 4 | 72 => 126 | 0 => 0 | 76 => 148 | 105 => 184 | 21 => 21 | 5 => 5 | 70 => 123 | 20 => 20 | 37 => 124 | 75 => 128 | 127 => 165 | 164 => 186 | 46 => 138 | 119 => 207 | 139 => 210 | 138 => 209 | 146 => 182 | 51 => 119 | 80 => 130 | n => n, fun | 1 => 1 | 3 => 2 | 4 => 3 | n => n⟩
theorem Tryd.lays155 : Go.Proofs.Lays.n155 Tryd.prog Tryd.lays155_ren := {
  mixed := by kernel_rfl
  f138 := Tryd.func139.trans (congrArg some (by kernel_rfl))
  f143 := Tryd.func140.trans (congrArg some (by kernel_rfl))
  f154 := Tryd.func112.trans (congrArg some (by kernel_rfl))
  f155 := Tryd.func76.trans (congrArg some (by kernel_rfl))
  f165 := Tryd.func107.trans (congrArg some (by kernel_rfl))
  f166 := Tryd.func97.trans (congrArg some (by kernel_rfl))
  f169 := Tryd.func78.trans (congrArg some (by kernel_rfl))
  f195 := Tryd.func155.trans (congrArg some (by kernel_rfl))
  f197 := Tryd.func141.trans (congrArg some (by kernel_rfl))
  f217 := Tryd.func143.trans (congrArg some (by kernel_rfl))
  f218 := Tryd.func156.trans (congrArg some (by kernel_rfl))
  f219 := Tryd.func120.trans (congrArg some (by kernel_rfl))
  f224 := Tryd.func145.trans (congrArg some (by kernel_rfl))
  f225 := Tryd.func144.trans (congrArg some (by kernel_rfl))
  f240 := Tryd.func113.trans (congrArg some (by kernel_rfl))
  f241 := Tryd.func137.trans (congrArg some (by kernel_rfl))
  f260 := Tryd.func157.trans (congrArg some (by kernel_rfl))
  f266 := Tryd.func158.trans (congrArg some (by kernel_rfl))
  f267 := Tryd.func146.trans (congrArg some (by kernel_rfl))
  f276 := Tryd.func142.trans (congrArg some (by kernel_rfl))
  f277 := Tryd.func153.trans (congrArg some (by kernel_rfl))
  f314 := Tryd.func159.trans (congrArg some (by kernel_rfl))
  t0 := Tryd.underlying0
  a0 := Tryd.isAgg0
  z0 := Tryd.sizeOf0
  v0 := Tryd.zeroValue0
  t3 := Tryd.underlying3
  a3 := Tryd.isAgg3
  z3 := Tryd.sizeOf3
  v3 := Tryd.zeroValue3
  t4 := Tryd.underlying4
  a4 := Tryd.isAgg4
  z4 := Tryd.sizeOf4
  v4 := Tryd.zeroValue4
  t5 := Tryd.underlying5
  a5 := Tryd.isAgg5
  z5 := Tryd.sizeOf5
  v5 := Tryd.zeroValue5
  t9 := Tryd.underlying9
  a9 := Tryd.isAgg9
  z9 := Tryd.sizeOf9
  v9 := Tryd.zeroValue9
  t20 := Tryd.underlying20
  a20 := Tryd.isAgg20
  z20 := Tryd.sizeOf20
  v20 := Tryd.zeroValue20
  t21 := Tryd.underlying21
  a21 := Tryd.isAgg21
  z21 := Tryd.sizeOf21
  v21 := Tryd.zeroValue21
  t37 := Tryd.underlying124
  a37 := Tryd.isAgg124
  z37 := Tryd.sizeOf124
  v37 := Tryd.zeroValue124
  t46 := Tryd.underlying138
  a46 := Tryd.isAgg138
  z46 := Tryd.sizeOf138
  v46 := Tryd.zeroValue138
  t51 := Tryd.underlying119
  a51 := Tryd.isAgg119
  z51 := Tryd.sizeOf119
  v51 := Tryd.zeroValue119
  t70 := Tryd.underlying123
  a70 := Tryd.isAgg123
  z70 := Tryd.sizeOf123
  v70 := Tryd.zeroValue123
  t72 := Tryd.underlying126
  a72 := Tryd.isAgg126
  z72 := Tryd.sizeOf126
  v72 := Tryd.zeroValue126
  t75 := Tryd.underlying128
  a75 := Tryd.isAgg128
  z75 := Tryd.sizeOf128
  v75 := Tryd.zeroValue128
  t76 := Tryd.underlying148
  a76 := Tryd.isAgg148
  z76 := Tryd.sizeOf148
  v76 := Tryd.zeroValue148
  t105 := Tryd.underlying184
  a105 := Tryd.isAgg184
  z105 := Tryd.sizeOf184
  v105 := Tryd.zeroValue184
  t119 := Tryd.underlying207
  a119 := Tryd.isAgg207
  z119 := Tryd.sizeOf207
  t127 := Tryd.underlying165
  a127 := Tryd.isAgg165
  z127 := Tryd.sizeOf165
  v127 := Tryd.zeroValue165
  t138 := Tryd.underlying209
  a138 := Tryd.isAgg209
  z138 := Tryd.sizeOf209
  v138 := Tryd.zeroValue209
  t139 := Tryd.underlying210
  a139 := Tryd.isAgg210
  z139 := Tryd.sizeOf210
  v139 := Tryd.zeroValue210
  t146 := Tryd.underlying182
  a146 := Tryd.isAgg182
  z146 := Tryd.sizeOf182
  v146 := Tryd.zeroValue182
  t164 := Tryd.underlying186
  a164 := Tryd.isAgg186
  z164 := Tryd.sizeOf186
  v164 := Tryd.zeroValue186
  g1 := by kernel_rfl
  g3 := by kernel_rfl
  g4 := by kernel_rfl }
theorem Tryd.Builder_Extra_155 : Builder.Extra Tryd.prog Tryd.lays155_ren := {
  sizeBuilder := by kernel_rfl
  liesBuilder := by kernel_rfl
  t5 := Tryd.underlying5
  a5 := Tryd.isAgg5
  z5 := Tryd.sizeOf5
  v5 := Tryd.zeroValue5
  infoByte := by kernel_rfl
  cellsByte := by kernel_rfl
  sizeByte := by kernel_rfl
  neB5 := by decide }
open Go.RowKit Go.Lib in
/-- strings.ReplaceAll: "ReplaceAll returns a copy of the string s with all non-overlapping instances of old replaced by new.": AT AN old THAT IS NOT EMPTY: 'Lib.replaceAll s old new'. (LAID: no walk: one application.) -/
theorem Tryd.strings_ReplaceAll (s old new : ByteArray) (m : Int) (w : World) (hs : s.size < 4294967281) (hm : w.cell? ⟨1, 0, none⟩ = some (.int .i64 m)) (h1 : 1 ≤ old.size) (hlen : s.size + Lib.countB s old * new.size ≤ 140737488355328) :
    Calls Tryd.prog 76 #[.string s, .string old, .string new] w fun e w' =>
      e = .returned (.string ⟨(Lib.replaceAll s.data.toList old.data.toList new.data.toList).toArray⟩) ∧ Below w.heap.size w w' := Any.strings_ReplaceAll Tryd.lays155 Tryd.Builder_Extra_155 s old new m w hs hm h1 hlen
def Tryd.lays105_ren : Go.Shelf.Ren := ⟨fun | 105 => 69 | 212 => 105 | 99 => 106 | 165 => 107 | 166 => 97 | 170 => 108 | 169 => 78 | 263 => 135 | 264 => 122 | 206 => 136 | 240 => 113 | 241 => 137 | 276 => 142 | 277 => 153 | n => n, fun | 9 => 9 | 3 => 3 | 4 => 4 | 20 => 20 | 0 => 0 | 46 => 138 | 109 => 159 | 5 => 5 | 72 => 126 | 76 => 148 | 51 => 119 | 146 => 182 | 53 => 72 | 148 => 154 | 70 => 123 | 37 => 124 | 75 => 128 | 127 => 165 | 164 => 186 | 80 => 130 | n => n, fun | n => n⟩
theorem Tryd.lays105 : Go.Proofs.Lays.n105 Tryd.prog Tryd.lays105_ren := {
  mixed := by kernel_rfl
  f99 := Tryd.func106.trans (congrArg some (by kernel_rfl))
  f105 := Tryd.func69.trans (congrArg some (by kernel_rfl))
  f165 := Tryd.func107.trans (congrArg some (by kernel_rfl))
  f166 := Tryd.func97.trans (congrArg some (by kernel_rfl))
  f169 := Tryd.func78.trans (congrArg some (by kernel_rfl))
  f170 := Tryd.func108.trans (congrArg some (by kernel_rfl))
  f206 := Tryd.func136.trans (congrArg some (by kernel_rfl))
  f212 := Tryd.func105.trans (congrArg some (by kernel_rfl))
  f240 := Tryd.func113.trans (congrArg some (by kernel_rfl))
  f241 := Tryd.func137.trans (congrArg some (by kernel_rfl))
  f263 := Tryd.func135.trans (congrArg some (by kernel_rfl))
  f264 := Tryd.func122.trans (congrArg some (by kernel_rfl))
  f276 := Tryd.func142.trans (congrArg some (by kernel_rfl))
  f277 := Tryd.func153.trans (congrArg some (by kernel_rfl))
  t0 := Tryd.underlying0
  a0 := Tryd.isAgg0
  z0 := Tryd.sizeOf0
  v0 := Tryd.zeroValue0
  t3 := Tryd.underlying3
  a3 := Tryd.isAgg3
  z3 := Tryd.sizeOf3
  v3 := Tryd.zeroValue3
  t4 := Tryd.underlying4
  a4 := Tryd.isAgg4
  z4 := Tryd.sizeOf4
  v4 := Tryd.zeroValue4
  t5 := Tryd.underlying5
  a5 := Tryd.isAgg5
  z5 := Tryd.sizeOf5
  v5 := Tryd.zeroValue5
  t9 := Tryd.underlying9
  a9 := Tryd.isAgg9
  z9 := Tryd.sizeOf9
  v9 := Tryd.zeroValue9
  t20 := Tryd.underlying20
  a20 := Tryd.isAgg20
  z20 := Tryd.sizeOf20
  v20 := Tryd.zeroValue20
  t37 := Tryd.underlying124
  a37 := Tryd.isAgg124
  z37 := Tryd.sizeOf124
  v37 := Tryd.zeroValue124
  t46 := Tryd.underlying138
  a46 := Tryd.isAgg138
  z46 := Tryd.sizeOf138
  v46 := Tryd.zeroValue138
  t51 := Tryd.underlying119
  a51 := Tryd.isAgg119
  z51 := Tryd.sizeOf119
  v51 := Tryd.zeroValue119
  t53 := Tryd.underlying72
  a53 := Tryd.isAgg72
  z53 := Tryd.sizeOf72
  v53 := Tryd.zeroValue72
  t70 := Tryd.underlying123
  a70 := Tryd.isAgg123
  z70 := Tryd.sizeOf123
  v70 := Tryd.zeroValue123
  t72 := Tryd.underlying126
  a72 := Tryd.isAgg126
  z72 := Tryd.sizeOf126
  v72 := Tryd.zeroValue126
  t75 := Tryd.underlying128
  a75 := Tryd.isAgg128
  z75 := Tryd.sizeOf128
  v75 := Tryd.zeroValue128
  t76 := Tryd.underlying148
  a76 := Tryd.isAgg148
  z76 := Tryd.sizeOf148
  v76 := Tryd.zeroValue148
  t109 := Tryd.underlying159
  a109 := Tryd.isAgg159
  z109 := Tryd.sizeOf159
  v109 := Tryd.zeroValue159
  t127 := Tryd.underlying165
  a127 := Tryd.isAgg165
  z127 := Tryd.sizeOf165
  v127 := Tryd.zeroValue165
  t146 := Tryd.underlying182
  a146 := Tryd.isAgg182
  z146 := Tryd.sizeOf182
  v146 := Tryd.zeroValue182
  t148 := Tryd.underlying154
  a148 := Tryd.isAgg154
  z148 := Tryd.sizeOf154
  v148 := Tryd.zeroValue154
  t164 := Tryd.underlying186
  a164 := Tryd.isAgg186
  z164 := Tryd.sizeOf186
  v164 := Tryd.zeroValue186 }
theorem Tryd.Builder_Extra_105 : Builder.Extra Tryd.prog Tryd.lays105_ren := {
  sizeBuilder := by kernel_rfl
  liesBuilder := by kernel_rfl
  t5 := Tryd.underlying5
  a5 := Tryd.isAgg5
  z5 := Tryd.sizeOf5
  v5 := Tryd.zeroValue5
  infoByte := by kernel_rfl
  cellsByte := by kernel_rfl
  sizeByte := by kernel_rfl
  neB5 := by decide }
open Go.RowKit Go.Lib in
/-- **strings.Repeat: count ≥ 0, the result within one allocation: count copies of s.** (LAID: no walk: one application.) -/
theorem Tryd.strings_Repeat (s : ByteArray) (c : Nat) (w : World) (hc : c ≤ 9223372036854775807) (hlen : s.size * c ≤ 140737488355328) :
    Calls Tryd.prog 69 #[.string s, .int .i64 c] w fun e w' => e = .returned (.string ⟨(Lib.repeatL s.data.toList c).toArray⟩) ∧ Below w.heap.size w w' := Any.strings_Repeat Tryd.lays105 Tryd.Builder_Extra_105 s c w hc hlen
end Go.Proofs
/-! Oct -/
namespace Go.Proofs.YtcgdjnmfeibnoaaDoor
open Go.RowKit Go.Proofs.YtcgdjnmfeibnoaaDoorW.PrintWords
set_option linter.unusedVariables false
set_option linter.unusedSimpArgs false
/-- The digits to the base 36. -/
def digs : List UInt8 := [48, 49, 50, 51, 52, 53, 54, 55, 56, 57, 97, 98, 99, 100, 101, 102, 103, 104, 105, 106, 107, 108, 109, 110, 111, 112, 113, 114, 115, 116, 117, 118, 119, 120, 121, 122]
/-- What a byte says. -/
def digN (b : Int) : Int := if 48 ≤ b ∧ b ≤ 57 then b - 48 else if 65 ≤ b ∧ b ≤ 90 then b - 55 else if 97 ≤ b ∧ b ≤ 122 then b - 87 else -1
/-- .. to a base. -/
def digV (b base : Int) : Int := if base < 2 ∨ 36 < base then -1 else if digN b < base then digN b else -1
end Go.Proofs.YtcgdjnmfeibnoaaDoor
/-! Bytes -/
namespace Go.Proofs.YtcgdjnmfeibnoaaDoor
open Go.RowKit Go.Proofs.YtcgdjnmfeibnoaaDoorW.PrintWords
set_option linter.unusedVariables false
set_option linter.unusedSimpArgs false
/-- A list of bytes as a text. -/
def BA (l : List UInt8) : ByteArray := ⟨l.toArray⟩
theorem ba_list (l : List UInt8) : (BA l).data.toList = l := rfl
theorem ba_of (s : ByteArray) : BA s.data.toList = s := Lib.mk_data s
theorem ba_size (l : List UInt8) : (BA l).size = l.length := rfl
theorem ba_ext {a b : ByteArray} (h : a.data.toList = b.data.toList) : a = b := by rw [← ba_of a, ← ba_of b, h]
theorem extract_ba (s : ByteArray) (a b : Nat) : s.extract a b = BA ((s.data.toList.drop a).take (b - a)) := ba_ext (Lib.extract_data s a b)
theorem extract_tail (s : ByteArray) (a : Nat) : s.extract a s.size = BA (s.data.toList.drop a) := ba_ext (Lib.extract_to_end s a)
theorem toList_data (s : ByteArray) : s.toList = s.data.toList := ByteArray.toList_eq s
theorem byte_eq (a b : UInt8) : ((a.toNat : Int) = (b.toNat : Int)) ↔ a = b := by
  rw [Int.natCast_inj]
  exact UInt8.toNat_inj
end Go.Proofs.YtcgdjnmfeibnoaaDoor
/-! SixNV -/
namespace Go.Proofs.YtcgdjnmfeibnoaaDoor
open Go.RowKit Go.Proofs.YtcgdjnmfeibnoaaDoorW.PrintWords
set_option linter.unusedVariables false
set_option linter.unusedSimpArgs false
/-- Where a reader of the program may stand. -/
structure St where
  wh : Int
  pc : Int
  gap : Bool
  dg : Int
  nu : Int
  va : Int
def moreP (x : St) : Bool := if x.gap then decide (x.pc < 7) else decide (x.pc < 8)
def mayP (x : St) : Bool := if x.gap then decide (x.pc ≤ 5) else decide (x.pc = 6)
def beginP (x : St) (c : Int) : List St :=
  (if 0 ≤ digV c 16 ∧ moreP x = true then [{ x with wh := 4, dg := 1 }] else []) ++ (if 0 ≤ digV c 10 ∧ mayP x = true then [{ x with wh := 5, va := digV c 10 }] else [])
def nextP (x : St) (c : Int) : List St :=
  if x.wh = 0 ∧ c = 58 then [{ x with wh := 1 }]
  else if (x.wh = 1 ∨ x.wh = 2 ∧ x.gap = false) ∧ c = 58 then [{ x with wh := 3, gap := true }]
  else if x.wh = 0 ∨ x.wh = 2 ∨ x.wh = 3 then beginP x c
  else if x.wh = 4 ∧ c = 58 then (if moreP { x with wh := 2, pc := x.pc + 1 } = true then [{ x with wh := 2, pc := x.pc + 1 }] else [])
  else if x.wh = 4 ∧ 0 ≤ digV c 16 ∧ x.dg < 4 then [{ x with dg := x.dg + 1 }]
  else if x.wh = 5 ∧ c = 46 ∧ x.nu < 3 then [{ x with wh := 6, nu := x.nu + 1 }]
  else if x.wh = 6 ∧ 0 ≤ digV c 10 then [{ x with wh := 5, va := digV c 10 }]
  else if x.wh = 5 ∧ 0 ≤ digV c 10 ∧ 0 < x.va ∧ 10 * x.va + digV c 10 ≤ 255 then [{ x with va := 10 * x.va + digV c 10 }]
  else []
/-- The document's scan so far. -/
structure Sc where
  L : Nat → Int
  N : Int
  skip : Int
  st : Int
  digs : Int
  val : Int
  ten : Int
  parts : Int
  four : Int
def Sc.bad (x : Sc) : Sc := { x with st := 7 }
def Sc.room (x : Sc) : Int := if 0 ≤ x.skip then 7 - x.N else 8 - x.N
def Sc.more (x : Sc) (b : Int) : Sc :=
  { x with ten := if b < 48 ∨ 57 < b ∨ (0 < x.digs ∧ x.ten = 0) ∨ x.ten < 0 ∨ 255 < 10 * x.ten + (b - 48) then -1 else 10 * x.ten + (b - 48), digs := x.digs + 1, val := 16 * x.val + digV b 16 }
def Sc.first (x : Sc) (b : Int) : Sc :=
  if digV b 16 < 0 ∨ x.room < 1 then { x with st := 7, digs := 0, val := 0, ten := 0 } else { x with st := 4, digs := 0, val := 0, ten := 0 : Sc }.more b
def Sc.closed (x : Sc) : Sc := { x with L := fun j => if (j : Int) = x.N then x.val % 65536 else x.L j, N := x.N + 1 }
def Sc.fits (x : Sc) : Bool := decide (x.N = 6 ∧ x.skip < 0 ∨ x.N ≤ 5 ∧ 0 ≤ x.skip)
def Sc.dotted (x : Sc) : Sc := if x.ten < 0 ∨ x.fits = false then { x with st := 7 } else { x with four := x.ten, parts := 1, st := 5 }
def Sc.step (x : Sc) (b : Int) : Sc :=
  if x.st = 0 then (if b = 58 then { x with st := 1 } else x.first b)
  else if x.st = 1 then (if b = 58 then { x with skip := 0, st := 3 } else x.bad)
  else if x.st = 2 then (if b = 58 ∧ x.skip < 0 ∧ x.N ≤ 7 then { x with skip := x.N, st := 3 } else x.first b)
  else if x.st = 3 then x.first b
  else if x.st = 4 then
    (if 0 ≤ digV b 16 then (if x.digs = 4 then x.bad else x.more b)
     else if b = 58 ∧ x.parts = 0 then (if x.N + 1 = 8 ∨ (0 ≤ x.skip ∧ x.N + 1 = 7) then x.bad else { x.closed with st := 2 })
     else if b = 46 then x.dotted else x.bad)
  else if x.st = 5 then (if 48 ≤ b ∧ b ≤ 57 then { x with st := 6, digs := 1, ten := b - 48 } else x.bad)
  else if x.st = 6 then
    (if 48 ≤ b ∧ b ≤ 57 ∧ 0 < x.digs ∧ 0 < x.ten ∧ 10 * x.ten + (b - 48) ≤ 255 then { x with digs := x.digs + 1, ten := 10 * x.ten + (b - 48) }
     else if b = 46 ∧ x.parts < 3 then { x with four := 256 * x.four + x.ten, parts := x.parts + 1, st := 5 } else x.bad)
  else x.bad
/-- The bounds of a scan. -/
structure Inv (x : Sc) : Prop where
  k0 : -1 ≤ x.skip
  n0 : 0 ≤ x.N
  n7 : x.N ≤ 7
  kn : x.skip ≤ x.N
structure Com (x : Sc) (s : St) : Prop where
  pc : s.pc = x.N
  gap : s.gap = decide (0 ≤ x.skip)
/-- What digits say to the base 10. -/
def TenOk (digs ten : Int) : Prop := ten = -1 ∨ (0 ≤ ten ∧ ten ≤ 255 ∧ (digs = 1 ∧ ten ≤ 9 ∨ digs = 2 ∧ 10 ≤ ten ∨ digs = 3 ∧ 100 ≤ ten))
/-- A scan and the program's states say the same. -/
inductive Sim : Sc → List St → Prop
  | ahead {x : Sc} {s : St} (h : x.st = 0 ∨ x.st = 1 ∨ x.st = 2 ∨ x.st = 3) (hi : Inv x) (hc : Com x s) (hw : s.wh = x.st) (hn : s.nu = 0) (hp : x.parts = 0) (h1 : x.st ≤ 1 → x.skip = -1 ∧ x.N = 0) (h3 : x.st = 3 → 0 ≤ x.skip) (h2 : x.st = 2 → 0 ≤ x.skip → x.N ≤ 6) : Sim x [s]
  | piece {x : Sc} {s : St} (h : x.st = 4) (hi : Inv x) (hr : 1 ≤ x.room) (hp : x.parts = 0) (d1 : 1 ≤ x.digs) (d4 : x.digs ≤ 4) (ht : TenOk x.digs x.ten) (hc : Com x s) (hw : s.wh = 4) (hd : s.dg = x.digs) (hn : s.nu = 0) (hno : x.ten < 0 ∨ x.fits = false) : Sim x [s]
  | both {x : Sc} {s t : St} (h : x.st = 4) (hi : Inv x) (hr : 1 ≤ x.room) (hp : x.parts = 0) (d1 : 1 ≤ x.digs) (d4 : x.digs ≤ 4) (ht : TenOk x.digs x.ten) (hc : Com x s) (hw : s.wh = 4) (hd : s.dg = x.digs) (hn : s.nu = 0) (t0 : 0 ≤ x.ten) (hf : x.fits = true)
      (kc : Com x t) (kw : t.wh = 5) (kn : t.nu = 0) (kv : t.va = x.ten) : Sim x [s, t]
  | stop {x : Sc} {s : St} (h : x.st = 5) (hi : Inv x) (hf : x.fits = true) (p1 : 1 ≤ x.parts) (p3 : x.parts ≤ 3) (hc : Com x s) (hw : s.wh = 6) (hn : s.nu = x.parts) : Sim x [s]
  | part {x : Sc} {s : St} (h : x.st = 6) (hi : Inv x) (hf : x.fits = true) (p1 : 1 ≤ x.parts) (p3 : x.parts ≤ 3) (d1 : 1 ≤ x.digs) (ht : TenOk x.digs x.ten) (t0 : 0 ≤ x.ten) (t1 : x.ten ≤ 255) (hc : Com x s) (hw : s.wh = 5) (hn : s.nu = x.parts) (hv : s.va = x.ten) : Sim x [s]
end Go.Proofs.YtcgdjnmfeibnoaaDoor
/-! X0 -/
namespace Go.Proofs.YtcgdjnmfeibnoaaDoor.X
open Go.RowKit Go.Proofs.YtcgdjnmfeibnoaaDoorW.PrintWords Go.Proofs.YtcgdjnmfeibnoaaDoorW.PrintLast Go.Proofs.YtcgdjnmfeibnoaaDoorW.PrintMore
attribute [local go_sem] max2_int min2_int max_two min_two max_three min_three max_four min_four
set_option linter.unusedVariables false
set_option linter.unusedSimpArgs false
def errW : Option Int → Value
  | none => .nilIface
  | some c => .iface 0 (.int .i64 c)
theorem errW_none : errW none = .nilIface := rfl
theorem errW_some (c : Int) : errW (some c) = .iface 0 (.int .i64 c) := rfl
end Go.Proofs.YtcgdjnmfeibnoaaDoor.X
/-! Str -/
namespace Go.Proofs.YtcgdjnmfeibnoaaDoor
open Go.RowKit Go.Proofs.YtcgdjnmfeibnoaaDoorW.PrintWords
set_option linter.unusedVariables false
set_option linter.unusedSimpArgs false
/-- What is asked of the library's variables: bytealg.MaxLen is a number. -/
structure GW (w : World) : Prop where
  maxLen : ∃ m : Int, w.cell? ⟨1, 0, none⟩ = some (.int .i64 m)
theorem maxLen_keep {w w' : World} (h : ∃ m : Int, w.cell? ⟨1, 0, none⟩ = some (.int .i64 m)) (hb : Below w.heap.size w w') : ∃ m : Int, w'.cell? ⟨1, 0, none⟩ = some (.int .i64 m) := by
  obtain ⟨m, hm⟩ := h
  refine ⟨m, ?_⟩
  rw [hb.cell (p := ⟨1, 0, none⟩) (World.block_lt_of_cell? w _ hm)]
  exact hm
theorem tab_keep {w w' : World} {name : String} {k : IntKind} {l : List Int} (h : Lib.TabIs Tryd.prog w name k l) (hb : Below w.heap.size w w') : Lib.TabIs Tryd.prog w' name k l := Lib.tabBelow_of_tabIs h w' hb
theorem GW.keep {w w' : World} (h : GW w) (hb : Below w.heap.size w w') : GW w' where
  maxLen := maxLen_keep h.maxLen hb
/-- A row of strings of the call's own. -/
theorem kd_strings {w : World} {base : Nat} {e : TypeId} {v : Value} {n : Nat} {xs : List ByteArray} (h : w.ownsRow base e 1 v n (xs.map Value.string)) : Kd.R Kd.string e w base (fun _ => True) v xs := by
  have hn : n = xs.length := by simpa using h.1.symm
  subst hn
  refine ⟨fun _ _ => trivial, xs.map Value.string, h, by show (xs.map Value.string).length = xs.length * 1; simp, fun j p hj => ?_⟩
  show ((xs.map Value.string).drop (j * 1)).take 1 = [Value.string p]
  have hj' : j < xs.length := by
    rcases Nat.lt_or_ge j xs.length with h | h
    · exact h
    · rw [List.getElem?_eq_none h] at hj; cases hj
  rw [List.getElem?_eq_getElem hj'] at hj
  obtain rfl := Option.some.inj hj
  rw [Nat.mul_one, List.drop_eq_getElem_cons (by simpa using hj')]
  simp
end Go.Proofs.YtcgdjnmfeibnoaaDoor
/-! X2 -/
namespace Go.Proofs.YtcgdjnmfeibnoaaDoor.X
open Go.RowKit Go.Proofs.YtcgdjnmfeibnoaaDoorW.PrintWords Go.Proofs.YtcgdjnmfeibnoaaDoorW.PrintLast Go.Proofs.YtcgdjnmfeibnoaaDoorW.PrintMore
attribute [local go_sem] max2_int min2_int max_two min_two max_three min_three max_four min_four
set_option linter.unusedVariables false
set_option linter.unusedSimpArgs false
def stringslite_HasSuffix.f (a0 : ByteArray) (a1 : ByteArray) : Option (Bool) := if (a0.size : Int) ≥ (a1.size : Int) then (if 0 ≤ (wrap64 ((a0.size : Int) - (a1.size : Int))) then (if (wrap64 ((a0.size : Int) - (a1.size : Int))) ≤ (a0.size : Int) then (some ((a0.extract ((wrap64 ((a0.size : Int) - (a1.size : Int))) : Int).toNat a0.size).toList == a1.toList)) else (none)) else (none)) else (some false)
set_option maxHeartbeats 8000000 in
set_option maxRecDepth 100000 in
theorem stringslite_HasSuffix.calls (a0 : ByteArray) (a1 : ByteArray) (r : Bool) (w : World) (h : stringslite_HasSuffix.f a0 a1 = some r) :
    Calls Tryd.prog 109 #[.string a0, .string a1] w fun e w' => e = .returned (.bool r) ∧ Drawn0 w w' := by
  have H : (if (a0.size : Int) ≥ (a1.size : Int) then (if 0 ≤ (wrap64 ((a0.size : Int) - (a1.size : Int))) then (if (wrap64 ((a0.size : Int) - (a1.size : Int))) ≤ (a0.size : Int) then (some ((a0.extract ((wrap64 ((a0.size : Int) - (a1.size : Int))) : Int).toNat a0.size).toList == a1.toList)) else (none)) else (none)) else (some false)) = some r := h
  clear h
  by_cases c3 : (a0.size : Int) ≥ (a1.size : Int)
  · rw [if_pos c3] at H
    have c3b0 : decide ((a1.size : Int) ≤ (a0.size : Int)) = true := decide_eq_true c3
    have c3b1 : decide (a1.size ≤ a0.size) = true := decide_eq_true (Int.ofNat_le.mp c3)
    clear c3
    obtain ⟨ji4, hji4⟩ : ∃ j_ : Int, (wrap64 ((a0.size : Int) - (a1.size : Int))) = j_ := ⟨_, rfl⟩
    replace H : (if 0 ≤ (ji4) then (if (ji4) ≤ (a0.size : Int) then (some ((a0.extract ((ji4) : Int).toNat a0.size).toList == a1.toList)) else (none)) else (none)) = some r := by first | (rw [hji4] at H; exact H) | (simp only [hji4] at H ⊢; exact H)
    have hji4w : (IntKind.i64.wrap ((a0.size : Int) - (a1.size : Int))) = ji4 := (i64_w _).trans hji4
    by_cases c5 : 0 ≤ (ji4)
    · rw [if_pos c5] at H
      have c5b0 := eq_true c5
      have c5b1 : decide (0 ≤ (ji4)) = true := decide_eq_true c5
      clear c5
      by_cases c6 : (ji4) ≤ (a0.size : Int)
      · rw [if_pos c6] at H
        have c6b0 := eq_true c6
        have c6b1 : decide ((ji4) ≤ (a0.size : Int)) = true := decide_eq_true c6
        clear c6
        obtain rfl := Option.some.inj H
        go_enter Tryd.func109, Tryd.ntmps109
        go_wp2
        go_ret
        exact ⟨by first | rfl | (simp; done) | (simp only [← hji4] <;> (first | rfl | simp)) | (simp [*]; done), by repeat (first | exact Drawn0.refl _ | apply Drawn0.step)⟩
      · rw [if_neg c6] at H
        exact absurd H (by simp)
    · rw [if_neg c5] at H
      exact absurd H (by simp)
  · rw [if_neg c3] at H
    have c3b0 : decide ((a1.size : Int) ≤ (a0.size : Int)) = false := decide_eq_false c3
    have c3b1 : decide (a1.size ≤ a0.size) = false := decide_eq_false (fun h => c3 (Int.ofNat_le.mpr h))
    clear c3
    obtain rfl := Option.some.inj H
    go_enter Tryd.func109, Tryd.ntmps109
    go_wp2
    go_ret
    exact ⟨by first | rfl | (simp; done) | (simp [*]; done), by repeat (first | exact Drawn0.refl _ | apply Drawn0.step)⟩
end Go.Proofs.YtcgdjnmfeibnoaaDoor.X
/-! SixStrict -/
namespace Go.Proofs.YtcgdjnmfeibnoaaDoor
open Go.RowKit Go.Proofs.YtcgdjnmfeibnoaaDoorW.PrintWords Go.Proofs.YtcgdjnmfeibnoaaDoor.X Go.IntWalk
set_option linter.unusedVariables false
set_option linter.unusedSimpArgs false
/-- The address of what is left: the place, the number and the count of the parts behind, the digits and the number of this part. -/
def strictL : List UInt8 → Nat → Int → Nat → Nat → Int → Int × Int × Int
  | [], i, n, part, size, x => if part < 3 ∨ size = 0 then (0, i, 203) else ((256 * n + x) % 4294967296, 0, 0)
  | c :: l, i, n, part, size, x => if 48 ≤ (c.toNat : Int) ∧ (c.toNat : Int) ≤ 57 ∧ (size = 0 ∨ 0 < x) ∧ 10 * x + ((c.toNat : Int) - 48) ≤ 255 then strictL l (i + 1) n part (size + 1) (10 * x + ((c.toNat : Int) - 48))
    else if c = 46 ∧ 0 < size ∧ part < 3 then strictL l (i + 1) ((256 * n + x) % 4294967296) (part + 1) 0 0 else (0, i, 203)
def strictV (l : List UInt8) : Int × Int × Int := strictL l 0 0 0 0 0
end Go.Proofs.YtcgdjnmfeibnoaaDoor
/-! SixNT -/
namespace Go.Proofs.YtcgdjnmfeibnoaaDoor
open Go.RowKit Go.Proofs.YtcgdjnmfeibnoaaDoorW.PrintWords
set_option linter.unusedVariables false
set_option linter.unusedSimpArgs false
/-- A piece of a text. -/
structure Pc (t : List UInt8) : Prop where
  l1 : 1 ≤ t.length
  l4 : t.length ≤ 4
  hex : ∀ c ∈ t, 0 ≤ digV (c.toNat : Int) 16
/-- What digits say to the base 16, behind a number. -/
def hexF (n : Int) (t : List UInt8) : Int := t.foldl (fun n c => 16 * n + digV (c.toNat : Int) 16) n
def pcV (t : List UInt8) : Int := hexF 0 t
/-- Parts, a colon behind each. -/
def endC : List (List UInt8) → List UInt8
  | [] => []
  | p :: r => p ++ 58 :: endC r
/-- Parts, colons between them. -/
def joinC : List (List UInt8) → List UInt8
  | [] => []
  | [p] => p
  | p :: q :: r => p ++ 58 :: joinC (q :: r)
theorem endC_join {fs : List (List UInt8)} (h : fs ≠ []) : endC fs = joinC fs ++ [58] := by
  induction fs with
  | nil => exact absurd rfl h
  | cons p r ih =>
    cases r with
    | nil => rfl
    | cons q r => rw [endC, ih (by simp), joinC]; simp
theorem joinC_last (fs : List (List UInt8)) (cur : List UInt8) : joinC (fs ++ [cur]) = endC fs ++ cur := by
  induction fs with
  | nil => rfl
  | cons p r ih =>
    cases r with
    | nil => rw [endC, endC]; simp [joinC]
    | cons q r =>
      rw [List.cons_append, List.cons_append, joinC, endC, ← List.cons_append, ih]; simp
theorem hex_58 : digV 58 16 = -1 := by decide
theorem Pc.no58 {t : List UInt8} (h : Pc t) : (58 : UInt8) ∉ t := fun q => by
  have := h.hex 58 q
  rw [show (((58 : UInt8).toNat : Nat) : Int) = 58 from rfl, hex_58] at this
  omega
theorem Pc.ne {t : List UInt8} (h : Pc t) : t ≠ [] := by
  have := h.l1
  intro e
  rw [e] at this
  simp at this
theorem hexF_app (n : Int) (a b : List UInt8) : hexF n (a ++ b) = hexF (hexF n a) b := by unfold hexF; rw [List.foldl_append]
/-- A part: not empty, without a colon. -/
structure Pt (t : List UInt8) : Prop where
  ne : t ≠ []
  no : (58 : UInt8) ∉ t
theorem Pc.pt {t : List UInt8} (h : Pc t) : Pt t := ⟨h.ne, h.no58⟩
end Go.Proofs.YtcgdjnmfeibnoaaDoor
/-! SixNP -/
namespace Go.Proofs.YtcgdjnmfeibnoaaDoor
open Go.RowKit Go.Proofs.YtcgdjnmfeibnoaaDoorW.PrintWords
set_option linter.unusedVariables false
set_option linter.unusedSimpArgs false
/-- What a part that may be of an IPv4 address says so far. -/
def DotRun (cur : List UInt8) (n : Int) (part size : Nat) (x : Int) : Prop := ∀ rest, strictL (cur ++ rest) 0 0 0 0 0 = strictL rest cur.length n part size x
theorem DotRun.whole {cur : List UInt8} {n : Int} {size : Nat} {x : Int} (h : DotRun cur n 3 size x) (hs : 0 < size) : strictV cur = ((256 * n + x) % 4294967296, 0, 0) := by
  have := h []
  rw [List.append_nil] at this
  unfold strictV
  rw [this, strictL, if_neg (by omega)]
/-- The scan with the last two pieces of an IPv4 address. -/
def Sc.two (x : Sc) : Sc := { x with L := fun j => if (j : Int) = x.N then (256 * x.four + x.ten) / 65536 % 65536 else if (j : Int) = x.N + 1 then (256 * x.four + x.ten) % 65536 else x.L j, N := x.N + 2 }
def Sc.fin (x : Sc) : Option (Nat → Int) :=
  if x.skip < 0 then (if x.N = 8 then some x.L else none)
  else if x.N ≤ 7 then some (fun j => if (j : Int) < x.skip then x.L j else if 8 - x.N + x.skip ≤ j then x.L (j + x.N.toNat - 8) else 0) else none
/-- The address at the end. -/
def Sc.whole (x : Sc) : Option (Nat → Int) :=
  if x.st = 3 then x.fin else if x.st = 4 then x.closed.fin else if x.st = 6 then (if x.parts = 3 then x.two.fin else none) else none
theorem Sim.ne {x : Sc} {l : List St} (h : Sim x l) : l ≠ [] := by cases h <;> simp
end Go.Proofs.YtcgdjnmfeibnoaaDoor
/-! SixPath -/
namespace Go.Proofs.YtcgdjnmfeibnoaaDoor
open Go.RowKit Go.Proofs.YtcgdjnmfeibnoaaDoorW.PrintWords
set_option linter.unusedVariables false
set_option linter.unusedSimpArgs false
/-- A way of a reader over a text. -/
inductive Way : List UInt8 → St → St → Prop
  | none {s : St} : Way [] s s
  | more {c : UInt8} {t : List UInt8} {s y z : St} (h : y ∈ nextP s (c.toNat : Int)) (r : Way t y z) : Way (c :: t) s z
theorem Way.trans {a b : List UInt8} {s y z : St} (h : Way a s y) (k : Way b y z) : Way (a ++ b) s z := by
  induction h with
  | none => exact k
  | more h _ ih => exact .more h (ih k)
end Go.Proofs.YtcgdjnmfeibnoaaDoor
/-! SixText -/
namespace Go.Proofs.YtcgdjnmfeibnoaaDoor
open Go.RowKit
set_option linter.unusedVariables false
set_option linter.unusedSimpArgs false
theorem revHex_len (n : Nat) : (revHex n).length ≤ n + 1 := by
  induction n using Nat.strongRecOn with
  | ind n ih =>
    by_cases h : n / 16 = 0
    · rw [revHex_last h]; simp
    · rw [revHex_more h, List.length_cons]
      have := ih (n / 16) (by omega)
      omega
theorem hexL_len (n : Nat) : (hexL n).length ≤ n + 1 := by unfold hexL; rw [List.length_reverse]; exact revHex_len n
/-- What a piece writes. -/
def textAt (at_ n i : Int) (p : Nat) : List UInt8 :=
  if i = at_ then [58, 58] else if 0 ≤ at_ ∧ at_ < i ∧ i < at_ + n then [] else (if 0 < i ∧ i ≠ at_ + n then [58] else []) ++ hexL p
/-- What pieces write from one on. -/
def textGo (at_ n : Int) : Int → List Nat → List UInt8
  | _, [] => []
  | i, p :: r => textAt at_ n i p ++ textGo at_ n (i + 1) r
/-- The text of pieces. -/
def textL (xs : List Nat) : List UInt8 := textGo (runL xs).1 (runL xs).2 0 xs
theorem runGo_bounds : ∀ (xs : List Nat) (i at_ most from_ : Int), 0 ≤ i → -1 ≤ at_ → at_ ≤ i → 1 ≤ most → most ≤ i + 1 → 0 ≤ from_ → from_ ≤ i →
    -1 ≤ (runGo xs i at_ most from_).1 ∧ (runGo xs i at_ most from_).1 ≤ i + xs.length ∧ 1 ≤ (runGo xs i at_ most from_).2 ∧ (runGo xs i at_ most from_).2 ≤ i + xs.length + 1
  | [], i, at_, most, from_, h0, h1, h2, h3, h4, h5, h6 => by simp only [runGo, List.length_nil]; omega
  | p :: r, i, at_, most, from_, h0, h1, h2, h3, h4, h5, h6 => by
    rw [runGo, List.length_cons]
    split
    · split
      · have := runGo_bounds r (i + 1) from_ (i + 1 - from_) from_ (by omega) (by omega) (by omega) (by omega) (by omega) (by omega) (by omega)
        omega
      · have := runGo_bounds r (i + 1) at_ most from_ (by omega) (by omega) (by omega) (by omega) (by omega) (by omega) (by omega)
        omega
    · have := runGo_bounds r (i + 1) at_ most (i + 1) (by omega) (by omega) (by omega) (by omega) (by omega) (by omega) (by omega)
      omega
theorem runL_bounds (xs : List Nat) : -1 ≤ (runL xs).1 ∧ (runL xs).1 ≤ xs.length ∧ 0 ≤ (runL xs).2 ∧ (runL xs).2 ≤ xs.length + 1 := by
  have := runGo_bounds xs 0 (-1) 1 0 (by omega) (by omega) (by omega) (by omega) (by omega) (by omega) (by omega)
  unfold runL
  split
  · simp; omega
  · omega
theorem hexL_ne (n : Nat) : hexL n ≠ [] := by
  unfold hexL
  rw [revHex]
  simp
theorem textL_ne {xs : List Nat} (h : xs ≠ []) : textL xs ≠ [] := by
  cases xs with
  | nil => exact absurd rfl h
  | cons p r =>
    unfold textL
    rw [textGo, textAt]
    split
    · simp
    · split
      · rename_i h1; exact absurd h1 (by omega)
      · have := hexL_ne p
        simp [this]
/-- A builder stays where all stays that was there. -/
theorem isB_keep {B b : Nat} {bs : List Value} {w W : World} (h : IsB B b bs w) (hb : Below w.heap.size w W) : IsB B b bs W := by
  have key : ∀ p, Lib.BuilderAt 126 5 B b p bs w → Lib.BuilderAt 126 5 B b p bs W := by
    intro p hp
    have hlt := hp.lt
    obtain ⟨hB, v, hbk, hown, hne⟩ := hp
    exact ⟨hB, v, by rw [hb.block b hlt]; exact hbk, hown.kept (row := none) ⟨hb.os, hb.tape, hb.output, hb.size, fun i hi _ => hb.block i hi⟩ (by cases v.ownBlock <;> simp), hne⟩
  rcases h with h | h
  · exact .inl (key _ h)
  · exact .inr (key _ h)
/-- What stands at the head of a round of text. -/
def TextRel (xs : List Nat) (at_ n : Int) (w : World) (i : Value) (W : World) : Prop :=
  ∃ (k : Nat) (done : List UInt8), k ≤ xs.length ∧ i = .int .i64 k ∧ textL xs = done ++ textGo at_ n k (xs.drop k) ∧ IsB w.heap.size w.heap.size (Lib.byteCells done) W ∧ Below w.heap.size w W ∧ done.length ≤ k * 70000
theorem text_step {xs : List Nat} {at_ n : Int} {k : Nat} {w W : World} {done new : List UInt8} (hk : k < xs.length) (ht : textL xs = done ++ textGo at_ n k (xs.drop k)) (hn : textAt at_ n k xs[k] = new)
    (hB : IsB w.heap.size w.heap.size (Lib.byteCells (done ++ new)) W) (hb : Below w.heap.size w W) (hl : done.length ≤ k * 70000) (hnl : new.length ≤ 70000) :
    TextRel xs at_ n w (.int .i64 ((k : Int) + 1)) W := by
  refine ⟨k + 1, done ++ new, hk, rfl, ?_, hB, hb, by rw [List.length_append]; omega⟩
  rw [ht, List.drop_eq_getElem_cons hk, textGo, hn, List.append_assoc]
  rfl
set_option maxHeartbeats 2000000 in
set_option maxRecDepth 100000 in
theorem text_walk (xs : List Nat) (b c : Nat) (w : World) (hl : xs.length ≤ 8) (h0 : xs ≠ []) (hb : b < w.heap.size) (hp : ∀ x ∈ xs, x ≤ 65535) (hc : ∀ j, j < xs.length → w.cell? ⟨b, j, none⟩ = some (.int .u16 (xs.getD j 0))) :
    Calls Tryd.prog 49 #[.slice (some ⟨b, 0, none⟩) xs.length c] w fun e w' => e = .returned (.string ⟨(textL xs).toArray⟩) ∧ Below w.heap.size w w' := by
  obtain ⟨r1, r2, r3, r4⟩ := runL_bounds xs
  have HT : Hid (textL xs = textGo (runL xs).1 (runL xs).2 0 xs) := Lib.hid rfl
  have HC := Lib.hid hc
  go_enter Tryd.func49, Tryd.ntmps49
  go_wp2_with fail
  refine (run_walk xs b c _ hl hc).mono ?_
  rintro e w1 ⟨rfl, rfl⟩
  generalize (runL xs).1 = at_ at *
  generalize (runL xs).2 = n at *
  clear hc
  go_wp2_with fail
  go_loopw [14] (fun i W => TextRel xs at_ n w i W) (fun i _ => xs.length - (intOf i).toNat)
  case atStart => exact ⟨0, [], Nat.zero_le _, rfl, HT.out, Lib.fresh_isBuilder _ _ _, (Below.refl _ _).alloc (Nat.le_refl _) _, by simp⟩
  case round =>
    obtain ⟨k, done, hk, rfl, ht, hB, hbl, hdl⟩ := hrel
    by_cases hlt : k < xs.length
    · have hpk := hp _ (List.getElem_mem hlt)
      have hwl : w.heap.size ≤ wr.heap.size := hbl.size
      have hcw : wr.cell? ⟨b, k, none⟩ = some (.int .u16 xs[k]) := by
        rw [hbl.cell (p := ⟨b, k, none⟩) hb, HC.out k hlt, List.getD_eq_getElem?_getD, List.getElem?_eq_getElem hlt]; rfl
      have HTT := Lib.hid ht
      have hbc : (Lib.byteCells done).length ≤ 560000 := by rw [Lib.byteCells_length]; omega
      have hhl := hexL_len xs[k]
      generalize hx : xs[k] = x at *
      have HX := Lib.hid hx
      clear ht hx
      by_cases c1 : (k : Int) = at_
      · subst c1
        go_wp2_with fail
        refine (writeString_walk w.heap.size w.heap.size (Lib.byteCells done) ⟨#[58, 58]⟩ _ hB (by simp [ByteArray.size]; omega) hwl).mono ?_
        rintro e w1 ⟨rfl, hA, hb1⟩
        go_wp2_with fail
        refine ⟨text_step hlt HTT.out (new := [58, 58]) (by rw [textAt, if_pos rfl]) (.inr (by rw [Lib.byteCells_append]; exact hA)) (hbl.trans hb1) hdl (by simp), run_meas hlt⟩
      · have e1 : ((k : Int) == at_) = false := beq_eq_false_iff_ne.2 c1
        by_cases c2 : 0 ≤ at_ ∧ at_ < k ∧ (k : Int) < at_ + n
        · obtain ⟨d1, d2, d3⟩ := c2
          go_wp2_with fail
          refine ⟨text_step hlt HTT.out (new := []) (by rw [textAt, if_neg c1, if_pos ⟨d1, d2, d3⟩]) (by simpa using hB) hbl hdl (by simp), run_meas hlt⟩
        · have hN : textAt at_ n k xs[k] = (if 0 < (k : Int) ∧ (k : Int) ≠ at_ + n then [58] else []) ++ hexL x := by rw [textAt, if_neg c1, if_neg c2, HX.out]
          have HN := Lib.hid hN
          clear hN
          have hd : at_ < 0 ∨ (0 ≤ at_ ∧ (k : Int) < at_) ∨ (0 ≤ at_ ∧ at_ < k ∧ at_ + n ≤ k) := by omega
          by_cases c3 : 0 < (k : Int) ∧ (k : Int) ≠ at_ + n
          · obtain ⟨c4, c5⟩ := c3
            have e2 : ((k : Int) != at_ + n) = true := by rw [bne_iff_ne]; exact c5
            clear c2
            rcases hd with d | ⟨d0, d⟩ | ⟨d0, d2, d⟩
            all_goals
              go_wp2_with fail
              refine (writeByte_walk w.heap.size w.heap.size (Lib.byteCells done) 58 _ hB (by omega) hwl).mono ?_
              rintro e w1 ⟨rfl, hA, hb1⟩
              have hcw1 : w1.cell? ⟨b, k, none⟩ = some (.int .u16 x) := by rw [hb1.cell (p := ⟨b, k, none⟩) hb]; exact hcw
              go_wp2_with fail
              refine (hex_walk x hpk _).mono ?_
              rintro e w2 ⟨rfl, hb2⟩
              have hA2 := isB_keep (.inr hA) hb2
              have hs1 := hb1.size
              have hs2 := hb2.size
              go_wp2_with fail
              refine (writeString_walk w.heap.size w.heap.size _ _ _ hA2 (by simp [ByteArray.size]; omega) (by omega)).mono ?_
              rintro e w3 ⟨rfl, hA3, hb3⟩
              go_wp2_with fail
              refine ⟨text_step hlt HTT.out (new := [58] ++ hexL x) (by rw [HN.out, if_pos ⟨c4, c5⟩]) (.inr (by simpa [Lib.byteCells, Lib.strCells] using hA3)) (((hbl.trans hb1).trans (hb2.mono (by omega))).trans hb3) hdl (by simp; omega), run_meas hlt⟩
          · have hd2 : (k : Int) ≤ 0 ∨ (0 < (k : Int) ∧ (k : Int) = at_ + n) := by omega
            rcases hd2 with d4 | ⟨d4, d5⟩
            · rcases hd with d | ⟨d0, d⟩ | ⟨d0, d2, d⟩
              all_goals
                first
                  | (exfalso; omega)
                  | (go_wp2_with fail
                     refine (hex_walk x hpk _).mono ?_
                     rintro e w2 ⟨rfl, hb2⟩
                     have hA2 := isB_keep hB hb2
                     have hs2 := hb2.size
                     go_wp2_with fail
                     refine (writeString_walk w.heap.size w.heap.size _ _ _ hA2 (by simp [ByteArray.size]; omega) (by omega)).mono ?_
                     rintro e w3 ⟨rfl, hA3, hb3⟩
                     go_wp2_with fail
                     refine ⟨text_step hlt HTT.out (new := hexL x) (by rw [HN.out, if_neg c3]; rfl) (.inr (by simpa [Lib.byteCells, Lib.strCells] using hA3)) ((hbl.trans (hb2.mono (by omega))).trans hb3) hdl (by omega), run_meas hlt⟩)
            · have e2 : ((k : Int) != at_ + n) = false := by rw [bne_eq_false_iff_eq]; exact d5
              clear d5
              rcases hd with d | ⟨d0, d⟩ | ⟨d0, d2, d⟩
              all_goals
                first
                  | (exfalso; omega)
                  | (go_wp2_with fail
                     refine (hex_walk x hpk _).mono ?_
                     rintro e w2 ⟨rfl, hb2⟩
                     have hA2 := isB_keep hB hb2
                     have hs2 := hb2.size
                     go_wp2_with fail
                     refine (writeString_walk w.heap.size w.heap.size _ _ _ hA2 (by simp [ByteArray.size]; omega) (by omega)).mono ?_
                     rintro e w3 ⟨rfl, hA3, hb3⟩
                     go_wp2_with fail
                     refine ⟨text_step hlt HTT.out (new := hexL x) (by rw [HN.out, if_neg c3]; rfl) (.inr (by simpa [Lib.byteCells, Lib.strCells] using hA3)) ((hbl.trans (hb2.mono (by omega))).trans hb3) hdl (by omega), run_meas hlt⟩)
    · obtain rfl : k = xs.length := by omega
      rw [List.drop_length, textGo, List.append_nil] at ht
      have hne : done ≠ [] := by
        intro h
        rw [h] at ht
        exact textL_ne h0 ht
      have HTT := Lib.hid ht
      clear ht hlt
      go_wp2_with fail
      refine (builderString_walk w.heap.size w.heap.size done _ hB hne).mono ?_
      rintro e w1 ⟨rfl, hb1⟩
      go_wp2_with fail
      go_returns
      exact ⟨by rw [HTT.out]; rfl, hbl.trans hb1⟩
end Go.Proofs.YtcgdjnmfeibnoaaDoor
/-! SixRunV -/
namespace Go.Proofs.YtcgdjnmfeibnoaaDoor
open Go.RowKit Go.Proofs.YtcgdjnmfeibnoaaDoorW.PrintWords
set_option linter.unusedVariables false
set_option linter.unusedSimpArgs false
/-- Is the piece there a nought? -/
def nought (xs : List Nat) (j : Nat) : Prop := xs.getD j 1 = 0
/-- A stretch of noughts. -/
def noughts (xs : List Nat) (i z : Nat) : Prop := ∀ j, i ≤ j → j < i + z → nought xs j
structure RI (xs : List Nat) (k : Nat) (at_ most from_ : Int) : Prop where
  f0 : 0 ≤ from_
  fk : from_ ≤ k
  fz : ∀ j : Nat, from_ ≤ j → j < k → nought xs j
  fn : 0 < from_ → ¬ nought xs (from_ - 1).toNat
  lo : -1 ≤ at_
  m1 : 1 ≤ most
  pos : 0 ≤ at_ → 2 ≤ most ∧ at_ + most ≤ k ∧ ∀ j : Nat, at_ ≤ j → (j : Int) < at_ + most → nought xs j
  max : ∀ i z : Nat, i + z ≤ k → noughts xs i z → (z : Int) ≤ most
theorem run_inv (xs : List Nat) : ∀ (r : List Nat) (k : Nat) (at_ most from_ : Int), xs.drop k = r → k ≤ xs.length → RI xs k at_ most from_ → ∃ f, RI xs xs.length (runGo r k at_ most from_).1 (runGo r k at_ most from_).2 f
  | [], k, at_, most, from_, hd, hk, h => by
    have : k = xs.length := by
      have := congrArg List.length hd
      simp at this
      omega
    subst this
    exact ⟨from_, h⟩
  | p :: r, k, at_, most, from_, hd, hk, h => by
    have hlt : k < xs.length := by
      have := congrArg List.length hd
      simp at this
      omega
    rw [List.drop_eq_getElem_cons hlt] at hd
    injection hd with hp hd
    have hnp : xs.getD k 1 = p := by rw [List.getD_eq_getElem?_getD, List.getElem?_eq_getElem hlt]; exact hp
    have hlast : ∀ i z : Nat, i + z = k + 1 → 0 < z → noughts xs i z → p = 0 ∧ from_ ≤ i := by
      intro i z hz h0 hn
      have h1 := hn k (by omega) (by omega)
      unfold nought at h1
      refine ⟨by omega, ?_⟩
      rcases Int.lt_or_le (i : Int) from_ with hi | hi
      · exfalso
        have hf := h.fk
        exact h.fn (by omega) (hn (from_ - 1).toNat (by omega) (by omega))
      · exact hi
    rw [runGo]
    by_cases h0 : p = 0
    · rw [if_pos h0]
      have hz : nought xs k := by unfold nought; omega
      have fz : ∀ j : Nat, from_ ≤ j → j < k + 1 → nought xs j := fun j a b => by
        rcases Nat.lt_or_eq_of_le (Nat.le_of_lt_succ b) with c | c
        · exact h.fz j a c
        · rw [c]; exact hz
      by_cases hm : most < (k : Int) + 1 - from_
      · rw [if_pos hm]
        refine run_inv xs r (k + 1) _ _ _ hd hlt ⟨h.f0, by have := h.fk; omega, fz, h.fn, by have := h.f0; omega, by have := h.m1; omega, fun _ => ⟨by have := h.m1; omega, by omega, fun j a b => fz j a (by omega)⟩, ?_⟩
        intro i z hz' hn
        rcases Nat.eq_zero_or_pos z with hz0 | hz0
        · have := h.fk; omega
        · rcases Nat.lt_or_eq_of_le hz' with c | c
          · have := h.max i z (by omega) hn; omega
          · have := (hlast i z c hz0 hn).2; omega
      · rw [if_neg hm]
        refine run_inv xs r (k + 1) _ _ _ hd hlt ⟨h.f0, by have := h.fk; omega, fz, h.fn, h.lo, h.m1, fun a => ⟨(h.pos a).1, by have := (h.pos a).2.1; omega, (h.pos a).2.2⟩, ?_⟩
        intro i z hz' hn
        rcases Nat.eq_zero_or_pos z with hz0 | hz0
        · have := h.m1; omega
        · rcases Nat.lt_or_eq_of_le hz' with c | c
          · exact h.max i z (by omega) hn
          · have := (hlast i z c hz0 hn).2; omega
    · rw [if_neg h0]
      refine run_inv xs r (k + 1) _ _ _ hd hlt ⟨by omega, by omega, fun j a b => by omega, fun _ => ?_, h.lo, h.m1, fun a => ⟨(h.pos a).1, by have := (h.pos a).2.1; omega, (h.pos a).2.2⟩, ?_⟩
      · rw [show ((k : Int) + 1 - 1).toNat = k by omega]
        unfold nought
        omega
      · intro i z hz' hn
        rcases Nat.eq_zero_or_pos z with hz0 | hz0
        · have := h.m1; omega
        · rcases Nat.lt_or_eq_of_le hz' with c | c
          · exact h.max i z (by omega) hn
          · exact absurd (hlast i z c hz0 hn).1 h0
/-- The run: none, and no two noughts stand together; or the longest stretch. -/
theorem runL_spec (xs : List Nat) : (runL xs = (-1, 0) ∧ ∀ i z, i + z ≤ xs.length → noughts xs i z → z ≤ 1) ∨
    ∃ a n : Nat, runL xs = ((a : Int), (n : Int)) ∧ 2 ≤ n ∧ a + n ≤ xs.length ∧ noughts xs a n ∧ ∀ i z, i + z ≤ xs.length → noughts xs i z → z ≤ n := by
  obtain ⟨f, h⟩ := run_inv xs xs 0 (-1) 1 0 rfl (Nat.zero_le _) ⟨by omega, by omega, fun j _ b => by omega, fun q => by omega, by omega, by omega, fun q => by omega, fun i z hz _ => by omega⟩
  have h : RI xs xs.length (runGo xs 0 (-1) 1 0).1 (runGo xs 0 (-1) 1 0).2 f := h
  have hneg : (runGo xs 0 (-1) 1 0).1 < 0 → (runGo xs 0 (-1) 1 0).2 = 1 := by
    have key : ∀ (r : List Nat) (k at_ most from_ : Int), 0 ≤ from_ → (at_ < 0 → most = 1) → (runGo r k at_ most from_).1 < 0 → 0 ≤ k → (runGo r k at_ most from_).2 = 1 := by
      intro r
      induction r with
      | nil => intro k at_ most from_ _ h1 h2 _; exact h1 h2
      | cons p r ih =>
        intro k at_ most from_ h0 h1 h2 hk
        rw [runGo] at h2 ⊢
        split at h2
        · split at h2
          · rename_i a b
            rw [if_pos a, if_pos b]
            exact ih _ _ _ _ h0 (fun q => by omega) h2 (by omega)
          · rename_i a b
            rw [if_pos a, if_neg b]
            exact ih _ _ _ _ h0 h1 h2 (by omega)
        · rename_i a
          rw [if_neg a]
          exact ih _ _ _ _ (by omega) h1 h2 (by omega)
    exact fun q => key xs 0 (-1) 1 0 (Int.le_refl _) (fun _ => rfl) q (Int.le_refl _)
  unfold runL
  by_cases hn : (runGo xs 0 (-1) 1 0).1 < 0
  · left
    rw [if_pos hn]
    refine ⟨rfl, fun i z a b => ?_⟩
    have h1 := h.max i z a b
    have h2 := hneg hn
    omega
  · right
    rw [if_neg hn]
    have hp := h.pos (by simpa using hn)
    obtain ⟨p1, p2, p3⟩ := hp
    have ea : (((runGo xs 0 (-1) 1 0).1.toNat : Nat) : Int) = (runGo xs 0 (-1) 1 0).1 := by omega
    have en : (((runGo xs 0 (-1) 1 0).2.toNat : Nat) : Int) = (runGo xs 0 (-1) 1 0).2 := by omega
    refine ⟨(runGo xs 0 (-1) 1 0).1.toNat, (runGo xs 0 (-1) 1 0).2.toNat, by rw [ea, en], by omega, by omega, fun j a b => p3 j (by omega) (by omega), fun i z a b => ?_⟩
    have := h.max i z a b
    omega
/-- Pieces, a colon ahead of each. -/
def colJ (l : List (List UInt8)) : List UInt8 := l.flatMap (fun p => 58 :: p)
theorem joinC_cons (p : List UInt8) (l : List (List UInt8)) : joinC (p :: l) = p ++ colJ l := by
  induction l generalizing p with
  | nil => simp [joinC, colJ]
  | cons q l ih => rw [joinC, ih]; simp [colJ]
theorem textGo_app (a n : Int) : ∀ (l r : List Nat) (i : Int), textGo a n i (l ++ r) = textGo a n i l ++ textGo a n (i + l.length) r
  | [], r, i => by simp [textGo]
  | p :: l, r, i => by
    rw [List.cons_append, textGo, textGo_app a n l r (i + 1), textGo, List.append_assoc, List.length_cons]
    congr 3
    omega
/-- Pieces out of the run, behind others. -/
theorem textGo_col (a n : Int) (hn : 0 ≤ n) : ∀ (l : List Nat) (i : Int), 0 < i → (a < 0 ∧ n = 0 ∨ i + l.length ≤ a ∨ a + n < i) → textGo a n i l = colJ (l.map hexL)
  | [], i, _, _ => rfl
  | p :: l, i, h0, h => by
    rw [List.length_cons] at h
    rw [textGo, textGo_col a n hn l (i + 1) (by omega) (by omega)]
    unfold textAt
    rw [if_neg (by omega), if_neg (by omega), if_pos (by omega)]
    simp [colJ]
/-- Pieces out of the run: the first ones, or the first ones behind the run. -/
theorem textGo_join (a n : Int) (hn : 0 ≤ n) (l : List Nat) (i : Int) (h : i = 0 ∧ (a < 0 ∧ n = 0 ∨ (l.length : Int) ≤ a) ∨ 0 < i ∧ 0 ≤ a ∧ 0 < n ∧ i = a + n) : textGo a n i l = joinC (l.map hexL) := by
  cases l with
  | nil => rfl
  | cons p l =>
    rw [List.length_cons] at h
    rw [textGo, textGo_col a n hn l (i + 1) (by omega) (by omega), List.map_cons, joinC_cons]
    unfold textAt
    rw [if_neg (by omega), if_neg (by omega), if_neg (by omega)]
    simp
/-- The run itself. -/
theorem textGo_in (a n : Int) (ha : 0 ≤ a) : ∀ (l : List Nat) (i : Int), a < i → i + l.length ≤ a + n → textGo a n i l = []
  | [], i, _, _ => rfl
  | p :: l, i, h0, h => by
    rw [List.length_cons] at h
    rw [textGo, textGo_in a n ha l (i + 1) (by omega) (by omega)]
    unfold textAt
    rw [if_neg (by omega), if_pos (by omega)]
    rfl
theorem textGo_run (a n : Int) (ha : 0 ≤ a) (l : List Nat) (h : (l.length : Int) = n) (hn : 0 < n) : textGo a n a l = [58, 58] := by
  cases l with
  | nil => simp at h; omega
  | cons p l =>
    rw [List.length_cons] at h
    rw [textGo, textGo_in a n ha l (a + 1) (by omega) (by omega)]
    unfold textAt
    rw [if_pos rfl]
    rfl
/-- The text of pieces: all of them; or those ahead of the longest stretch of noughts and those behind it. -/
theorem textL_spec (xs : List Nat) : (textL xs = joinC (xs.map hexL) ∧ runL xs = (-1, 0) ∧ ∀ i z, i + z ≤ xs.length → noughts xs i z → z ≤ 1) ∨
    ∃ a n : Nat, runL xs = ((a : Int), (n : Int)) ∧ 2 ≤ n ∧ a + n ≤ xs.length ∧ noughts xs a n ∧ (∀ i z, i + z ≤ xs.length → noughts xs i z → z ≤ n) ∧ textL xs = joinC ((xs.take a).map hexL) ++ 58 :: 58 :: joinC ((xs.drop (a + n)).map hexL) := by
  rcases runL_spec xs with ⟨h, hm⟩ | ⟨a, n, h, h2, hl, hz, hm⟩
  · left
    refine ⟨?_, h, hm⟩
    unfold textL
    rw [h]
    exact textGo_join (-1) 0 (by decide) xs 0 (.inl ⟨rfl, .inl ⟨by decide, rfl⟩⟩)
  · right
    refine ⟨a, n, h, h2, hl, hz, hm, ?_⟩
    unfold textL
    rw [h]
    have e : xs = xs.take a ++ ((xs.drop a).take n ++ xs.drop (a + n)) := by
      rw [← List.drop_drop, List.take_append_drop, List.take_append_drop]
    have l1 : (xs.take a).length = a := by rw [List.length_take]; omega
    have l2 : ((xs.drop a).take n).length = n := by rw [List.length_take, List.length_drop]; omega
    show textGo (a : Int) (n : Int) 0 xs = _
    rw [show textGo (a : Int) (n : Int) 0 xs = textGo (a : Int) (n : Int) 0 (xs.take a ++ ((xs.drop a).take n ++ xs.drop (a + n))) from by rw [← e]]
    rw [textGo_app, textGo_app, l1, l2, textGo_join (a : Int) (n : Int) (by omega) _ 0 (.inl ⟨rfl, .inr (by omega)⟩)]
    rw [show (0 : Int) + (a : Int) = (a : Int) by omega, textGo_run (a : Int) (n : Int) (by omega) _ (by omega) (by omega)]
    rw [textGo_join (a : Int) (n : Int) (by omega) _ ((a : Int) + (n : Int)) (.inr ⟨by omega, by omega, by omega, rfl⟩)]
    rfl
/-- A piece's text. -/
theorem revHex_short (k : Nat) : ∀ n : Nat, n < 16 ^ (k + 1) → (revHex n).length ≤ k + 1 := by
  induction k with
  | zero =>
    intro n h
    rw [revHex_last (by omega)]
    simp
  | succ k ih =>
    intro n h
    by_cases h0 : n / 16 = 0
    · rw [revHex_last h0]; simp
    · rw [revHex_more h0, List.length_cons]
      have := ih (n / 16) (by rw [Nat.pow_succ] at h; omega)
      omega
theorem hexL_short {n k : Nat} (h : n < 16 ^ (k + 1)) : (hexL n).length ≤ k + 1 := by
  unfold hexL
  rw [List.length_reverse]
  exact revHex_short k n h
theorem digB_dig (d : Nat) (h : d < 16) : digV ((digB d).toNat : Int) 16 = (d : Int) := by
  have hc : d = 0 ∨ d = 1 ∨ d = 2 ∨ d = 3 ∨ d = 4 ∨ d = 5 ∨ d = 6 ∨ d = 7 ∨ d = 8 ∨ d = 9 ∨ d = 10 ∨ d = 11 ∨ d = 12 ∨ d = 13 ∨ d = 14 ∨ d = 15 := by omega
  rcases hc with rfl | rfl | rfl | rfl | rfl | rfl | rfl | rfl | rfl | rfl | rfl | rfl | rfl | rfl | rfl | rfl <;> decide
theorem hexF_snoc (n : Int) (l : List UInt8) (c : UInt8) : hexF n (l ++ [c]) = 16 * hexF n l + digV (c.toNat : Int) 16 := by
  rw [hexF_app]
  rfl
theorem revHex_val (n : Nat) : hexF 0 (revHex n).reverse = (n : Int) ∧ ∀ c ∈ (revHex n).reverse, 0 ≤ digV (c.toNat : Int) 16 := by
  induction n using Nat.strongRecOn with
  | ind n ih =>
    have hd := digB_dig (n % 16) (Nat.mod_lt _ (by decide))
    by_cases h0 : n / 16 = 0
    · rw [revHex_last h0]
      refine ⟨?_, fun c hc => ?_⟩
      · show hexF 0 ([] ++ [digB (n % 16)]) = _
        rw [hexF_snoc, hd]
        show 16 * (0 : Int) + _ = _
        omega
      · simp at hc
        rw [hc, hd]
        omega
    · obtain ⟨a, b⟩ := ih (n / 16) (by omega)
      rw [revHex_more h0, List.reverse_cons]
      refine ⟨by rw [hexF_snoc, a, hd]; omega, fun c hc => ?_⟩
      rcases List.mem_append.1 hc with hc | hc
      · exact b c hc
      · simp at hc
        rw [hc, hd]
        omega
theorem hexL_val (n : Nat) : pcV (hexL n) = (n : Int) := (revHex_val n).1
theorem hexL_pc {n : Nat} (h : n ≤ 65535) : Pc (hexL n) := by
  refine ⟨?_, hexL_short (k := 3) (by show n < 65536; omega), (revHex_val n).2⟩
  have := hexL_ne n
  cases e : hexL n with
  | nil => exact absurd e this
  | cons a l => simp
end Go.Proofs.YtcgdjnmfeibnoaaDoor
/-! SixBackV -/
namespace Go.Proofs.YtcgdjnmfeibnoaaDoor
open Go.RowKit Go.Proofs.YtcgdjnmfeibnoaaDoorW.PrintWords
set_option linter.unusedVariables false
set_option linter.unusedSimpArgs false
/-- A piece with all its digits. -/
def fullL (n : Nat) : List UInt8 := List.replicate (4 - (hexL n).length) 48 ++ hexL n
theorem hexF_noughts (k : Nat) (l : List UInt8) : hexF 0 (List.replicate k 48 ++ l) = hexF 0 l := by
  induction k with
  | zero => rfl
  | succ k ih => rw [List.replicate_succ, List.cons_append]; exact ih
theorem fullL_pc {n : Nat} (h : n ≤ 65535) : Pc (fullL n) ∧ pcV (fullL n) = (n : Int) ∧ (fullL n).length = 4 := by
  obtain ⟨l1, l4, hx⟩ := hexL_pc h
  have hlen : (fullL n).length = 4 := by unfold fullL; rw [List.length_append, List.length_replicate]; omega
  refine ⟨⟨by omega, by omega, ?_⟩, ?_, hlen⟩
  · intro c hc
    rcases List.mem_append.1 hc with hc | hc
    · rw [(List.mem_replicate.1 hc).2]; decide
    · exact hx c hc
  · unfold pcV fullL
    rw [hexF_noughts]
    exact hexL_val n
/-- Six pieces, and an IPv4 address behind them. -/
def mixL (xs : List Nat) (q : List UInt8) : List UInt8 := (if [58, 58] <:+ textL xs then textL xs else textL xs ++ [58]) ++ q
theorem no_suffix {r cur : List UInt8} (hc : Pt cur) : ¬ ([58, 58] : List UInt8) <:+ r ++ cur := by
  rintro ⟨t, ht⟩
  obtain ⟨b, z, rfl⟩ : ∃ b z, cur = b ++ [z] := ⟨cur.dropLast, cur.getLast hc.ne, (List.dropLast_concat_getLast _).symm⟩
  have h1 := congrArg List.getLast? ht
  rw [show t ++ [58, 58] = (t ++ [58]) ++ [58] by simp, ← List.append_assoc r b [z], List.getLast?_append, List.getLast?_append] at h1
  simp at h1
  exact hc.no (by simp [← h1])
theorem pieces_last {xs : List Nat} (h : ∀ x ∈ xs, x ≤ 65535) (hn : xs ≠ []) : ∃ r cur, joinC (xs.map hexL) = r ++ cur ∧ Pt cur := by
  obtain ⟨b, z, rfl⟩ : ∃ b z, xs = b ++ [z] := ⟨xs.dropLast, xs.getLast hn, (List.dropLast_concat_getLast _).symm⟩
  rw [List.map_append, List.map_cons, List.map_nil, joinC_last]
  exact ⟨_, _, rfl, (hexL_pc (h z (by simp))).pt⟩
theorem join_more {fs : List (List UInt8)} (h : fs ≠ []) (q : List UInt8) : joinC fs ++ [58] ++ q = joinC (fs ++ [q]) := by
  rw [joinC_last, endC_join h]
end Go.Proofs.YtcgdjnmfeibnoaaDoor
/-! SixRefWrV -/
namespace Go.Proofs.YtcgdjnmfeibnoaaDoor
open Go.RowKit Go.Proofs.YtcgdjnmfeibnoaaDoorW.PrintWords
set_option linter.unusedVariables false
set_option linter.unusedSimpArgs false
/-- The text of the pieces ahead of a place. -/
def Stage (ys : List Nat) (a n : Int) (i : Nat) (o : List UInt8) : Prop :=
  ((a < 0 ∨ (i : Int) ≤ a) ∧ o = joinC ((ys.take i).map hexL)) ∨
  (0 ≤ a ∧ a + n ≤ i ∧ o = joinC ((ys.take a.toNat).map hexL) ++ 58 :: 58 :: joinC (((ys.take i).drop (a + n).toNat).map hexL))
/-- A list's last byte. -/
def EndsIn (o : List UInt8) (c : UInt8) : Prop := ∃ r, o = r ++ [c]
theorem pt_last {p : List UInt8} (h : Pt p) : ∃ r c, p = r ++ [c] ∧ c ≠ 58 := by
  obtain ⟨b, z, rfl⟩ : ∃ b z, p = b ++ [z] := ⟨p.dropLast, p.getLast h.ne, (List.dropLast_concat_getLast _).symm⟩
  exact ⟨b, z, rfl, fun e => h.no (by simp [e])⟩
theorem join_last {ys : List Nat} (h : ∀ x ∈ ys, x ≤ 65535) (hn : ys ≠ []) (p : List UInt8) : ∃ c, EndsIn (p ++ joinC (ys.map hexL)) c ∧ c ≠ 58 := by
  obtain ⟨r, cur, e, hpt⟩ := pieces_last h hn
  obtain ⟨b, c, rfl, hc⟩ := pt_last hpt
  exact ⟨c, ⟨p ++ (r ++ b), by rw [e]; simp⟩, hc⟩
theorem join_snoc (l : List Nat) (x : Nat) (h : l ≠ []) : joinC ((l ++ [x]).map hexL) = joinC (l.map hexL) ++ [58] ++ hexL x := by
  rw [List.map_append, List.map_cons, List.map_nil, join_more (by simpa using h)]
/-- A round of the loop: at the run; ahead of all; behind a piece; right behind the run. -/
theorem stage_step {ys : List Nat} (hx : ∀ x ∈ ys, x ≤ 65535) {a n : Int} (hr : a = -1 ∧ n = 0 ∨ 0 ≤ a ∧ 2 ≤ n ∧ a + n ≤ ys.length) {i : Nat} (hi : i < ys.length) {o : List UInt8} (h : Stage ys a n i o) :
    ((i : Int) = a ∧ Stage ys a n (a + n).toNat (o ++ [58, 58])) ∨
    ((i : Int) ≠ a ∧ o = [] ∧ Stage ys a n (i + 1) (hexL ys[i])) ∨
    ((i : Int) ≠ a ∧ (∃ c, EndsIn o c ∧ c ≠ 58) ∧ Stage ys a n (i + 1) (o ++ [58] ++ hexL ys[i])) ∨
    ((i : Int) ≠ a ∧ EndsIn o 58 ∧ Stage ys a n (i + 1) (o ++ hexL ys[i])) := by
  have ht : ys.take (i + 1) = ys.take i ++ [ys[i]] := by rw [List.take_succ_eq_append_getElem hi]
  by_cases ha : (i : Int) = a
  · left
    refine ⟨ha, ?_⟩
    rcases h with ⟨h1, rfl⟩ | ⟨h1, h2, rfl⟩
    · right
      refine ⟨by omega, by omega, ?_⟩
      rw [show a.toNat = i by omega]
      have e : (ys.take (a + n).toNat).drop (a + n).toNat = [] := by rw [List.drop_eq_nil_iff, List.length_take]; omega
      rw [e]
      rfl
    · omega
  · right
    rcases h with ⟨h1, rfl⟩ | ⟨h1, h2, rfl⟩
    · rcases Nat.eq_zero_or_pos i with rfl | h0
      · left
        refine ⟨ha, rfl, .inl ⟨by omega, ?_⟩⟩
        rw [ht]
        rfl
      · right; left
        have hne : ys.take i ≠ [] := fun e => by
          have := congrArg List.length e
          rw [List.length_take, List.length_nil] at this
          omega
        refine ⟨ha, ?_, .inl ⟨by omega, by rw [ht, join_snoc _ _ hne]⟩⟩
        have := join_last (fun x q => hx x (List.mem_of_mem_take q)) hne []
        simpa using this
    · have hd : (ys.take (i + 1)).drop (a + n).toNat = (ys.take i).drop (a + n).toNat ++ [ys[i]] := by rw [ht, List.drop_append_of_le_length (by rw [List.length_take]; omega)]
      by_cases he : (i : Int) = a + n
      · right; right
        have e : (ys.take i).drop (a + n).toNat = [] := by rw [List.drop_eq_nil_iff, List.length_take]; omega
        refine ⟨ha, ?_, .inr ⟨h1, by omega, ?_⟩⟩
        · rw [e]
          exact ⟨joinC ((ys.take a.toNat).map hexL) ++ [58], by simp [joinC]⟩
        · rw [hd, e]
          simp [joinC]
      · right; left
        have hne : (ys.take i).drop (a + n).toNat ≠ [] := fun e => by
          rw [List.drop_eq_nil_iff, List.length_take] at e
          omega
        refine ⟨ha, ?_, .inr ⟨h1, by omega, ?_⟩⟩
        · have := join_last (fun x q => hx x (List.mem_of_mem_take (List.mem_of_mem_drop q))) hne (joinC ((ys.take a.toNat).map hexL) ++ [58, 58])
          simpa using this
        · rw [hd, join_snoc _ _ hne]
          simp
theorem stage_start (ys : List Nat) {a n : Int} (hr : a = -1 ∧ n = 0 ∨ 0 ≤ a ∧ 2 ≤ n ∧ a + n ≤ ys.length) : Stage ys a n 0 [] := .inl ⟨by omega, rfl⟩
/-- The run that there is. -/
theorem run_cases (ys : List Nat) : (runL ys).1 = -1 ∧ (runL ys).2 = 0 ∨ 0 ≤ (runL ys).1 ∧ 2 ≤ (runL ys).2 ∧ (runL ys).1 + (runL ys).2 ≤ ys.length := by
  rcases runL_spec ys with ⟨h, _⟩ | ⟨a, n, h, h2, hl, _⟩
  · left; rw [h]; exact ⟨rfl, rfl⟩
  · right; rw [h]; exact ⟨Int.natCast_nonneg _, by show (2 : Int) ≤ (n : Int); omega, by show (a : Int) + (n : Int) ≤ _; omega⟩
/-- The end: all is written; it ends in a colon just if it ends in two. -/
theorem stage_end {ys : List Nat} (hx : ∀ x ∈ ys, x ≤ 65535) (hn : ys ≠ []) {o : List UInt8} (h : Stage ys (runL ys).1 (runL ys).2 ys.length o) :
    o = textL ys ∧ ∃ c, EndsIn o c ∧ (c = 58 ∧ [58, 58] <:+ textL ys ∨ c ≠ 58 ∧ ¬ [58, 58] <:+ textL ys) := by
  have hlen : 0 < ys.length := List.length_pos_iff.2 hn
  have ho : o = textL ys := by
    rcases textL_spec ys with ⟨e, hr, _⟩ | ⟨a, n, hr, h2, hl, _, _, e⟩
    · rw [hr] at h
      rcases h with ⟨_, rfl⟩ | ⟨h1, _, _⟩
      · rw [List.take_length, e]
      · exact absurd h1 (by decide)
    · rw [hr] at h
      rcases h with ⟨h1, rfl⟩ | ⟨_, _, rfl⟩
      · exfalso
        have : (ys.length : Int) ≤ (a : Int) := by rcases h1 with q | q; exact absurd q (by show ¬ (a : Int) < 0; omega); exact q
        omega
      · rw [List.take_length, e]
        rw [show ((a : Int), (n : Int)).1.toNat = a from by show (a : Int).toNat = a; omega, show (((a : Int), (n : Int)).1 + ((a : Int), (n : Int)).2).toNat = a + n from by show ((a : Int) + (n : Int)).toNat = a + n; omega]
  refine ⟨ho, ?_⟩
  rw [ho]
  rcases textL_spec ys with ⟨e, _, _⟩ | ⟨a, n, _, h2, hl, _, _, e⟩
  · obtain ⟨r, cur, e1, hpt⟩ := pieces_last hx hn
    obtain ⟨b, c, hb, hc⟩ := pt_last hpt
    refine ⟨c, ⟨r ++ b, by rw [e, e1, hb]; simp⟩, .inr ⟨hc, ?_⟩⟩
    rw [e, e1]
    exact no_suffix hpt
  · by_cases hd : ys.drop (a + n) = []
    · refine ⟨58, ⟨joinC ((ys.take a).map hexL) ++ [58], by rw [e, hd]; simp [joinC]⟩, .inl ⟨rfl, ?_⟩⟩
      rw [e, hd]
      exact ⟨joinC ((ys.take a).map hexL), rfl⟩
    · obtain ⟨r, cur, e1, hpt⟩ := pieces_last (fun x q => hx x (List.mem_of_mem_drop q)) hd
      obtain ⟨b, c, hb, hc⟩ := pt_last hpt
      have e2 : textL ys = (joinC ((ys.take a).map hexL) ++ 58 :: 58 :: r) ++ cur := by rw [e, e1]; simp
      refine ⟨c, ⟨joinC ((ys.take a).map hexL) ++ 58 :: 58 :: r ++ b, by rw [e2, hb]; simp⟩, .inr ⟨hc, ?_⟩⟩
      rw [e2]
      exact no_suffix hpt
end Go.Proofs.YtcgdjnmfeibnoaaDoor
/-! SixBox -/
namespace Go.Proofs.YtcgdjnmfeibnoaaDoor
open Go.RowKit
set_option linter.unusedVariables false
set_option linter.unusedSimpArgs false
theorem heap_at (W : World) (o : Obj) : (W.alloc o).heap[W.heap.size]? = some o := heap_alloc_last W o
theorem heap_below (W : World) (o : Obj) (g : Nat) (h : g < W.heap.size) : (W.alloc o).heap[g]? = W.heap[g]? := by
  show (W.heap.push o)[g]? = _
  rw [Array.getElem?_push, if_neg (by omega)]
theorem setRow_new (W : World) (c c' : Array Value) (t : TypeId) : (W.alloc (.cells c t)).setRow W.heap.size c' = W.alloc (.cells c' t) := World.setRow_alloc_new W c c' t
theorem setRow_below (W : World) (o : Obj) (g : Nat) (c : Array Value) (h : g < W.heap.size) : (W.alloc o).setRow g c = (W.setRow g c).alloc o := by
  simp only [World.setRow, World.alloc]
  congr 1
  apply Array.ext_getElem?
  intro i
  rw [Array.getElem?_modify, Array.getElem?_push, Array.getElem?_push, Array.size_modify, Array.getElem?_modify]
  by_cases h1 : i = W.heap.size
  · have h2 : ¬ g = i := by omega
    simp [h1, h2]
    intro e
    omega
  · by_cases h2 : g = i
    · simp [h1, h2]
    · simp [h1, h2]
theorem drewN_alloc (w : World) (o : Obj) (n : Nat) : (w.alloc o).drewN n = (w.drewN n).alloc o := rfl
/-- The whole variable, read and written. -/
@[irreducible] def loadS (x : Value) : Sem Value := Instr.loadAt 90 x
@[irreducible] def loadVS (x : Addr) : Sem Value := loadVar 90 x
@[irreducible] def storeS (x v : Value) : Sem Unit := Instr.storeAt 90 x v
@[go_sem ↓ high] theorem loadS_of (x : Value) : Instr.loadAt 90 x = loadS x := by unfold loadS; rfl
@[go_sem ↓ high] theorem loadVS_of (x : Addr) : loadVar 90 x = loadVS x := by unfold loadVS; rfl
@[go_sem ↓ high] theorem storeS_of (x v : Value) : Instr.storeAt 90 x v = storeS x v := by unfold storeS; rfl
theorem scan_ld0 {n : Nat} (W : World) (x0 x1 x2 x3 x4 x5 x6 x7 x8 x9 x10 x11 x12 x13 x14 x15 : Int) (hn : n = W.heap.size) :
    (loadVar 90 ⟨n, 0, none⟩).run Tryd.prog (W.alloc (.cells #[.int .u16 x0, .int .u16 x1, .int .u16 x2, .int .u16 x3, .int .u16 x4, .int .u16 x5, .int .u16 x6, .int .u16 x7, .int .i64 x8, .int .i64 x9, .int .i64 x10, .int .i64 x11, .int .i64 x12, .int .i64 x13, .int .i64 x14, .int .i64 x15] 90)) = .ok (.agg #[.int .u16 x0, .int .u16 x1, .int .u16 x2, .int .u16 x3, .int .u16 x4, .int .u16 x5, .int .u16 x6, .int .u16 x7, .int .i64 x8, .int .i64 x9, .int .i64 x10, .int .i64 x11, .int .i64 x12, .int .i64 x13, .int .i64 x14, .int .i64 x15]) (W.alloc (.cells #[.int .u16 x0, .int .u16 x1, .int .u16 x2, .int .u16 x3, .int .u16 x4, .int .u16 x5, .int .u16 x6, .int .u16 x7, .int .i64 x8, .int .i64 x9, .int .i64 x10, .int .i64 x11, .int .i64 x12, .int .i64 x13, .int .i64 x14, .int .i64 x15] 90)) := by
  subst hn
  exact run_loadVar_row _ _ 90 90 #[.int .u16 x0, .int .u16 x1, .int .u16 x2, .int .u16 x3, .int .u16 x4, .int .u16 x5, .int .u16 x6, .int .u16 x7, .int .i64 x8, .int .i64 x9, .int .i64 x10, .int .i64 x11, .int .i64 x12, .int .i64 x13, .int .i64 x14, .int .i64 x15] (0, 0) _ (heap_at W _) Tryd.underlying90 rfl (by kernel_rfl)
theorem scan_st0 {n : Nat} (W : World) (x0 x1 x2 x3 x4 x5 x6 x7 x8 x9 x10 x11 x12 x13 x14 x15 y0 y1 y2 y3 y4 y5 y6 y7 y8 y9 y10 y11 y12 y13 y14 y15 : Int) (hn : n = W.heap.size) :
    (storeVar 90 ⟨n, 0, none⟩ (.agg #[.int .u16 y0, .int .u16 y1, .int .u16 y2, .int .u16 y3, .int .u16 y4, .int .u16 y5, .int .u16 y6, .int .u16 y7, .int .i64 y8, .int .i64 y9, .int .i64 y10, .int .i64 y11, .int .i64 y12, .int .i64 y13, .int .i64 y14, .int .i64 y15])).run Tryd.prog (W.alloc (.cells #[.int .u16 x0, .int .u16 x1, .int .u16 x2, .int .u16 x3, .int .u16 x4, .int .u16 x5, .int .u16 x6, .int .u16 x7, .int .i64 x8, .int .i64 x9, .int .i64 x10, .int .i64 x11, .int .i64 x12, .int .i64 x13, .int .i64 x14, .int .i64 x15] 90)) = .ok () (W.alloc (.cells #[.int .u16 y0, .int .u16 y1, .int .u16 y2, .int .u16 y3, .int .u16 y4, .int .u16 y5, .int .u16 y6, .int .u16 y7, .int .i64 y8, .int .i64 y9, .int .i64 y10, .int .i64 y11, .int .i64 y12, .int .i64 y13, .int .i64 y14, .int .i64 y15] 90)) := by
  subst hn
  rw [run_storeVar_row _ _ 90 90 #[.int .u16 x0, .int .u16 x1, .int .u16 x2, .int .u16 x3, .int .u16 x4, .int .u16 x5, .int .u16 x6, .int .u16 x7, .int .i64 x8, .int .i64 x9, .int .i64 x10, .int .i64 x11, .int .i64 x12, .int .i64 x13, .int .i64 x14, .int .i64 x15] #[.int .u16 y0, .int .u16 y1, .int .u16 y2, .int .u16 y3, .int .u16 y4, .int .u16 y5, .int .u16 y6, .int .u16 y7, .int .i64 y8, .int .i64 y9, .int .i64 y10, .int .i64 y11, .int .i64 y12, .int .i64 y13, .int .i64 y14, .int .i64 y15] (heap_at W _) (by kernel_rfl) rfl (by simp [Value.oneCell'])]
  congr 1
  exact setRow_new W _ _ _
theorem scan_ld1 {n : Nat} (W : World) (x0 x1 x2 x3 x4 x5 x6 x7 x8 x9 x10 x11 x12 x13 x14 x15 : Int) (o1 : Obj) (hn : n = W.heap.size) :
    (loadVar 90 ⟨n, 0, none⟩).run Tryd.prog ((W.alloc (.cells #[.int .u16 x0, .int .u16 x1, .int .u16 x2, .int .u16 x3, .int .u16 x4, .int .u16 x5, .int .u16 x6, .int .u16 x7, .int .i64 x8, .int .i64 x9, .int .i64 x10, .int .i64 x11, .int .i64 x12, .int .i64 x13, .int .i64 x14, .int .i64 x15] 90)).alloc o1) = .ok (.agg #[.int .u16 x0, .int .u16 x1, .int .u16 x2, .int .u16 x3, .int .u16 x4, .int .u16 x5, .int .u16 x6, .int .u16 x7, .int .i64 x8, .int .i64 x9, .int .i64 x10, .int .i64 x11, .int .i64 x12, .int .i64 x13, .int .i64 x14, .int .i64 x15]) ((W.alloc (.cells #[.int .u16 x0, .int .u16 x1, .int .u16 x2, .int .u16 x3, .int .u16 x4, .int .u16 x5, .int .u16 x6, .int .u16 x7, .int .i64 x8, .int .i64 x9, .int .i64 x10, .int .i64 x11, .int .i64 x12, .int .i64 x13, .int .i64 x14, .int .i64 x15] 90)).alloc o1) := by
  subst hn
  exact run_loadVar_row _ _ 90 90 #[.int .u16 x0, .int .u16 x1, .int .u16 x2, .int .u16 x3, .int .u16 x4, .int .u16 x5, .int .u16 x6, .int .u16 x7, .int .i64 x8, .int .i64 x9, .int .i64 x10, .int .i64 x11, .int .i64 x12, .int .i64 x13, .int .i64 x14, .int .i64 x15] (0, 0) _ ((heap_below _ _ _ (by simp only [World.size_alloc]; omega)).trans (heap_at W _)) Tryd.underlying90 rfl (by kernel_rfl)
theorem scan_st1 {n : Nat} (W : World) (x0 x1 x2 x3 x4 x5 x6 x7 x8 x9 x10 x11 x12 x13 x14 x15 y0 y1 y2 y3 y4 y5 y6 y7 y8 y9 y10 y11 y12 y13 y14 y15 : Int) (o1 : Obj) (hn : n = W.heap.size) :
    (storeVar 90 ⟨n, 0, none⟩ (.agg #[.int .u16 y0, .int .u16 y1, .int .u16 y2, .int .u16 y3, .int .u16 y4, .int .u16 y5, .int .u16 y6, .int .u16 y7, .int .i64 y8, .int .i64 y9, .int .i64 y10, .int .i64 y11, .int .i64 y12, .int .i64 y13, .int .i64 y14, .int .i64 y15])).run Tryd.prog ((W.alloc (.cells #[.int .u16 x0, .int .u16 x1, .int .u16 x2, .int .u16 x3, .int .u16 x4, .int .u16 x5, .int .u16 x6, .int .u16 x7, .int .i64 x8, .int .i64 x9, .int .i64 x10, .int .i64 x11, .int .i64 x12, .int .i64 x13, .int .i64 x14, .int .i64 x15] 90)).alloc o1) = .ok () ((W.alloc (.cells #[.int .u16 y0, .int .u16 y1, .int .u16 y2, .int .u16 y3, .int .u16 y4, .int .u16 y5, .int .u16 y6, .int .u16 y7, .int .i64 y8, .int .i64 y9, .int .i64 y10, .int .i64 y11, .int .i64 y12, .int .i64 y13, .int .i64 y14, .int .i64 y15] 90)).alloc o1) := by
  subst hn
  rw [run_storeVar_row _ _ 90 90 #[.int .u16 x0, .int .u16 x1, .int .u16 x2, .int .u16 x3, .int .u16 x4, .int .u16 x5, .int .u16 x6, .int .u16 x7, .int .i64 x8, .int .i64 x9, .int .i64 x10, .int .i64 x11, .int .i64 x12, .int .i64 x13, .int .i64 x14, .int .i64 x15] #[.int .u16 y0, .int .u16 y1, .int .u16 y2, .int .u16 y3, .int .u16 y4, .int .u16 y5, .int .u16 y6, .int .u16 y7, .int .i64 y8, .int .i64 y9, .int .i64 y10, .int .i64 y11, .int .i64 y12, .int .i64 y13, .int .i64 y14, .int .i64 y15] ((heap_below _ _ _ (by simp only [World.size_alloc]; omega)).trans (heap_at W _)) (by kernel_rfl) rfl (by simp [Value.oneCell'])]
  congr 1
  exact (setRow_below _ _ _ _ (by simp only [World.size_alloc]; omega)).trans (congrArg (fun w => World.alloc w _) (setRow_new W _ _ _))
theorem scan_ld2 {n : Nat} (W : World) (x0 x1 x2 x3 x4 x5 x6 x7 x8 x9 x10 x11 x12 x13 x14 x15 : Int) (o1 o2 : Obj) (hn : n = W.heap.size) :
    (loadVar 90 ⟨n, 0, none⟩).run Tryd.prog (((W.alloc (.cells #[.int .u16 x0, .int .u16 x1, .int .u16 x2, .int .u16 x3, .int .u16 x4, .int .u16 x5, .int .u16 x6, .int .u16 x7, .int .i64 x8, .int .i64 x9, .int .i64 x10, .int .i64 x11, .int .i64 x12, .int .i64 x13, .int .i64 x14, .int .i64 x15] 90)).alloc o1).alloc o2) = .ok (.agg #[.int .u16 x0, .int .u16 x1, .int .u16 x2, .int .u16 x3, .int .u16 x4, .int .u16 x5, .int .u16 x6, .int .u16 x7, .int .i64 x8, .int .i64 x9, .int .i64 x10, .int .i64 x11, .int .i64 x12, .int .i64 x13, .int .i64 x14, .int .i64 x15]) (((W.alloc (.cells #[.int .u16 x0, .int .u16 x1, .int .u16 x2, .int .u16 x3, .int .u16 x4, .int .u16 x5, .int .u16 x6, .int .u16 x7, .int .i64 x8, .int .i64 x9, .int .i64 x10, .int .i64 x11, .int .i64 x12, .int .i64 x13, .int .i64 x14, .int .i64 x15] 90)).alloc o1).alloc o2) := by
  subst hn
  exact run_loadVar_row _ _ 90 90 #[.int .u16 x0, .int .u16 x1, .int .u16 x2, .int .u16 x3, .int .u16 x4, .int .u16 x5, .int .u16 x6, .int .u16 x7, .int .i64 x8, .int .i64 x9, .int .i64 x10, .int .i64 x11, .int .i64 x12, .int .i64 x13, .int .i64 x14, .int .i64 x15] (0, 0) _ ((heap_below _ _ _ (by simp only [World.size_alloc]; omega)).trans ((heap_below _ _ _ (by simp only [World.size_alloc]; omega)).trans (heap_at W _))) Tryd.underlying90 rfl (by kernel_rfl)
theorem scan_st2 {n : Nat} (W : World) (x0 x1 x2 x3 x4 x5 x6 x7 x8 x9 x10 x11 x12 x13 x14 x15 y0 y1 y2 y3 y4 y5 y6 y7 y8 y9 y10 y11 y12 y13 y14 y15 : Int) (o1 o2 : Obj) (hn : n = W.heap.size) :
    (storeVar 90 ⟨n, 0, none⟩ (.agg #[.int .u16 y0, .int .u16 y1, .int .u16 y2, .int .u16 y3, .int .u16 y4, .int .u16 y5, .int .u16 y6, .int .u16 y7, .int .i64 y8, .int .i64 y9, .int .i64 y10, .int .i64 y11, .int .i64 y12, .int .i64 y13, .int .i64 y14, .int .i64 y15])).run Tryd.prog (((W.alloc (.cells #[.int .u16 x0, .int .u16 x1, .int .u16 x2, .int .u16 x3, .int .u16 x4, .int .u16 x5, .int .u16 x6, .int .u16 x7, .int .i64 x8, .int .i64 x9, .int .i64 x10, .int .i64 x11, .int .i64 x12, .int .i64 x13, .int .i64 x14, .int .i64 x15] 90)).alloc o1).alloc o2) = .ok () (((W.alloc (.cells #[.int .u16 y0, .int .u16 y1, .int .u16 y2, .int .u16 y3, .int .u16 y4, .int .u16 y5, .int .u16 y6, .int .u16 y7, .int .i64 y8, .int .i64 y9, .int .i64 y10, .int .i64 y11, .int .i64 y12, .int .i64 y13, .int .i64 y14, .int .i64 y15] 90)).alloc o1).alloc o2) := by
  subst hn
  rw [run_storeVar_row _ _ 90 90 #[.int .u16 x0, .int .u16 x1, .int .u16 x2, .int .u16 x3, .int .u16 x4, .int .u16 x5, .int .u16 x6, .int .u16 x7, .int .i64 x8, .int .i64 x9, .int .i64 x10, .int .i64 x11, .int .i64 x12, .int .i64 x13, .int .i64 x14, .int .i64 x15] #[.int .u16 y0, .int .u16 y1, .int .u16 y2, .int .u16 y3, .int .u16 y4, .int .u16 y5, .int .u16 y6, .int .u16 y7, .int .i64 y8, .int .i64 y9, .int .i64 y10, .int .i64 y11, .int .i64 y12, .int .i64 y13, .int .i64 y14, .int .i64 y15] ((heap_below _ _ _ (by simp only [World.size_alloc]; omega)).trans ((heap_below _ _ _ (by simp only [World.size_alloc]; omega)).trans (heap_at W _))) (by kernel_rfl) rfl (by simp [Value.oneCell'])]
  congr 1
  exact (setRow_below _ _ _ _ (by simp only [World.size_alloc]; omega)).trans (congrArg (fun w => World.alloc w _) ((setRow_below _ _ _ _ (by simp only [World.size_alloc]; omega)).trans (congrArg (fun w => World.alloc w _) (setRow_new W _ _ _))))
theorem scan_ld3 {n : Nat} (W : World) (x0 x1 x2 x3 x4 x5 x6 x7 x8 x9 x10 x11 x12 x13 x14 x15 : Int) (o1 o2 o3 : Obj) (hn : n = W.heap.size) :
    (loadVar 90 ⟨n, 0, none⟩).run Tryd.prog ((((W.alloc (.cells #[.int .u16 x0, .int .u16 x1, .int .u16 x2, .int .u16 x3, .int .u16 x4, .int .u16 x5, .int .u16 x6, .int .u16 x7, .int .i64 x8, .int .i64 x9, .int .i64 x10, .int .i64 x11, .int .i64 x12, .int .i64 x13, .int .i64 x14, .int .i64 x15] 90)).alloc o1).alloc o2).alloc o3) = .ok (.agg #[.int .u16 x0, .int .u16 x1, .int .u16 x2, .int .u16 x3, .int .u16 x4, .int .u16 x5, .int .u16 x6, .int .u16 x7, .int .i64 x8, .int .i64 x9, .int .i64 x10, .int .i64 x11, .int .i64 x12, .int .i64 x13, .int .i64 x14, .int .i64 x15]) ((((W.alloc (.cells #[.int .u16 x0, .int .u16 x1, .int .u16 x2, .int .u16 x3, .int .u16 x4, .int .u16 x5, .int .u16 x6, .int .u16 x7, .int .i64 x8, .int .i64 x9, .int .i64 x10, .int .i64 x11, .int .i64 x12, .int .i64 x13, .int .i64 x14, .int .i64 x15] 90)).alloc o1).alloc o2).alloc o3) := by
  subst hn
  exact run_loadVar_row _ _ 90 90 #[.int .u16 x0, .int .u16 x1, .int .u16 x2, .int .u16 x3, .int .u16 x4, .int .u16 x5, .int .u16 x6, .int .u16 x7, .int .i64 x8, .int .i64 x9, .int .i64 x10, .int .i64 x11, .int .i64 x12, .int .i64 x13, .int .i64 x14, .int .i64 x15] (0, 0) _ ((heap_below _ _ _ (by simp only [World.size_alloc]; omega)).trans ((heap_below _ _ _ (by simp only [World.size_alloc]; omega)).trans ((heap_below _ _ _ (by simp only [World.size_alloc]; omega)).trans (heap_at W _)))) Tryd.underlying90 rfl (by kernel_rfl)
theorem scan_st3 {n : Nat} (W : World) (x0 x1 x2 x3 x4 x5 x6 x7 x8 x9 x10 x11 x12 x13 x14 x15 y0 y1 y2 y3 y4 y5 y6 y7 y8 y9 y10 y11 y12 y13 y14 y15 : Int) (o1 o2 o3 : Obj) (hn : n = W.heap.size) :
    (storeVar 90 ⟨n, 0, none⟩ (.agg #[.int .u16 y0, .int .u16 y1, .int .u16 y2, .int .u16 y3, .int .u16 y4, .int .u16 y5, .int .u16 y6, .int .u16 y7, .int .i64 y8, .int .i64 y9, .int .i64 y10, .int .i64 y11, .int .i64 y12, .int .i64 y13, .int .i64 y14, .int .i64 y15])).run Tryd.prog ((((W.alloc (.cells #[.int .u16 x0, .int .u16 x1, .int .u16 x2, .int .u16 x3, .int .u16 x4, .int .u16 x5, .int .u16 x6, .int .u16 x7, .int .i64 x8, .int .i64 x9, .int .i64 x10, .int .i64 x11, .int .i64 x12, .int .i64 x13, .int .i64 x14, .int .i64 x15] 90)).alloc o1).alloc o2).alloc o3) = .ok () ((((W.alloc (.cells #[.int .u16 y0, .int .u16 y1, .int .u16 y2, .int .u16 y3, .int .u16 y4, .int .u16 y5, .int .u16 y6, .int .u16 y7, .int .i64 y8, .int .i64 y9, .int .i64 y10, .int .i64 y11, .int .i64 y12, .int .i64 y13, .int .i64 y14, .int .i64 y15] 90)).alloc o1).alloc o2).alloc o3) := by
  subst hn
  rw [run_storeVar_row _ _ 90 90 #[.int .u16 x0, .int .u16 x1, .int .u16 x2, .int .u16 x3, .int .u16 x4, .int .u16 x5, .int .u16 x6, .int .u16 x7, .int .i64 x8, .int .i64 x9, .int .i64 x10, .int .i64 x11, .int .i64 x12, .int .i64 x13, .int .i64 x14, .int .i64 x15] #[.int .u16 y0, .int .u16 y1, .int .u16 y2, .int .u16 y3, .int .u16 y4, .int .u16 y5, .int .u16 y6, .int .u16 y7, .int .i64 y8, .int .i64 y9, .int .i64 y10, .int .i64 y11, .int .i64 y12, .int .i64 y13, .int .i64 y14, .int .i64 y15] ((heap_below _ _ _ (by simp only [World.size_alloc]; omega)).trans ((heap_below _ _ _ (by simp only [World.size_alloc]; omega)).trans ((heap_below _ _ _ (by simp only [World.size_alloc]; omega)).trans (heap_at W _)))) (by kernel_rfl) rfl (by simp [Value.oneCell'])]
  congr 1
  exact (setRow_below _ _ _ _ (by simp only [World.size_alloc]; omega)).trans (congrArg (fun w => World.alloc w _) ((setRow_below _ _ _ _ (by simp only [World.size_alloc]; omega)).trans (congrArg (fun w => World.alloc w _) ((setRow_below _ _ _ _ (by simp only [World.size_alloc]; omega)).trans (congrArg (fun w => World.alloc w _) (setRow_new W _ _ _))))))
@[go_sem] theorem loadS_0 {n : Nat} (W : World) (x0 x1 x2 x3 x4 x5 x6 x7 x8 x9 x10 x11 x12 x13 x14 x15 : Int) (hn : n = W.heap.size) :
    (loadS (.pointer (some ⟨n, 0, none⟩))).run Tryd.prog (W.alloc (.cells #[.int .u16 x0, .int .u16 x1, .int .u16 x2, .int .u16 x3, .int .u16 x4, .int .u16 x5, .int .u16 x6, .int .u16 x7, .int .i64 x8, .int .i64 x9, .int .i64 x10, .int .i64 x11, .int .i64 x12, .int .i64 x13, .int .i64 x14, .int .i64 x15] 90)) = .ok (.agg #[.int .u16 x0, .int .u16 x1, .int .u16 x2, .int .u16 x3, .int .u16 x4, .int .u16 x5, .int .u16 x6, .int .u16 x7, .int .i64 x8, .int .i64 x9, .int .i64 x10, .int .i64 x11, .int .i64 x12, .int .i64 x13, .int .i64 x14, .int .i64 x15]) (W.alloc (.cells #[.int .u16 x0, .int .u16 x1, .int .u16 x2, .int .u16 x3, .int .u16 x4, .int .u16 x5, .int .u16 x6, .int .u16 x7, .int .i64 x8, .int .i64 x9, .int .i64 x10, .int .i64 x11, .int .i64 x12, .int .i64 x13, .int .i64 x14, .int .i64 x15] 90)) := by
  unfold loadS
  simp only [Instr.loadAt, Instr.sureAddr, Sem.run_bind, Sem.run_pure, Result.andThen]
  exact scan_ld0 W _ _ _ _ _ _ _ _ _ _ _ _ _ _ _ _ hn
@[go_sem] theorem loadVS_0 {n : Nat} (W : World) (x0 x1 x2 x3 x4 x5 x6 x7 x8 x9 x10 x11 x12 x13 x14 x15 : Int) (hn : n = W.heap.size) :
    (loadVS ⟨n, 0, none⟩).run Tryd.prog (W.alloc (.cells #[.int .u16 x0, .int .u16 x1, .int .u16 x2, .int .u16 x3, .int .u16 x4, .int .u16 x5, .int .u16 x6, .int .u16 x7, .int .i64 x8, .int .i64 x9, .int .i64 x10, .int .i64 x11, .int .i64 x12, .int .i64 x13, .int .i64 x14, .int .i64 x15] 90)) = .ok (.agg #[.int .u16 x0, .int .u16 x1, .int .u16 x2, .int .u16 x3, .int .u16 x4, .int .u16 x5, .int .u16 x6, .int .u16 x7, .int .i64 x8, .int .i64 x9, .int .i64 x10, .int .i64 x11, .int .i64 x12, .int .i64 x13, .int .i64 x14, .int .i64 x15]) (W.alloc (.cells #[.int .u16 x0, .int .u16 x1, .int .u16 x2, .int .u16 x3, .int .u16 x4, .int .u16 x5, .int .u16 x6, .int .u16 x7, .int .i64 x8, .int .i64 x9, .int .i64 x10, .int .i64 x11, .int .i64 x12, .int .i64 x13, .int .i64 x14, .int .i64 x15] 90)) := by
  unfold loadVS
  exact scan_ld0 W _ _ _ _ _ _ _ _ _ _ _ _ _ _ _ _ hn
@[go_sem] theorem storeS_0 {n : Nat} (W : World) (x0 x1 x2 x3 x4 x5 x6 x7 x8 x9 x10 x11 x12 x13 x14 x15 y0 y1 y2 y3 y4 y5 y6 y7 y8 y9 y10 y11 y12 y13 y14 y15 : Int) (hn : n = W.heap.size) :
    (storeS (.pointer (some ⟨n, 0, none⟩)) (.agg #[.int .u16 y0, .int .u16 y1, .int .u16 y2, .int .u16 y3, .int .u16 y4, .int .u16 y5, .int .u16 y6, .int .u16 y7, .int .i64 y8, .int .i64 y9, .int .i64 y10, .int .i64 y11, .int .i64 y12, .int .i64 y13, .int .i64 y14, .int .i64 y15])).run Tryd.prog (W.alloc (.cells #[.int .u16 x0, .int .u16 x1, .int .u16 x2, .int .u16 x3, .int .u16 x4, .int .u16 x5, .int .u16 x6, .int .u16 x7, .int .i64 x8, .int .i64 x9, .int .i64 x10, .int .i64 x11, .int .i64 x12, .int .i64 x13, .int .i64 x14, .int .i64 x15] 90)) = .ok () (W.alloc (.cells #[.int .u16 y0, .int .u16 y1, .int .u16 y2, .int .u16 y3, .int .u16 y4, .int .u16 y5, .int .u16 y6, .int .u16 y7, .int .i64 y8, .int .i64 y9, .int .i64 y10, .int .i64 y11, .int .i64 y12, .int .i64 y13, .int .i64 y14, .int .i64 y15] 90)) := by
  unfold storeS
  simp only [Instr.storeAt, Instr.sureAddr, Sem.run_bind, Sem.run_pure, Result.andThen]
  exact scan_st0 W _ _ _ _ _ _ _ _ _ _ _ _ _ _ _ _ _ _ _ _ _ _ _ _ _ _ _ _ _ _ _ _ hn
@[go_sem] theorem loadS_1 {n : Nat} (W : World) (x0 x1 x2 x3 x4 x5 x6 x7 x8 x9 x10 x11 x12 x13 x14 x15 : Int) (o1 : Obj) (hn : n = W.heap.size) :
    (loadS (.pointer (some ⟨n, 0, none⟩))).run Tryd.prog ((W.alloc (.cells #[.int .u16 x0, .int .u16 x1, .int .u16 x2, .int .u16 x3, .int .u16 x4, .int .u16 x5, .int .u16 x6, .int .u16 x7, .int .i64 x8, .int .i64 x9, .int .i64 x10, .int .i64 x11, .int .i64 x12, .int .i64 x13, .int .i64 x14, .int .i64 x15] 90)).alloc o1) = .ok (.agg #[.int .u16 x0, .int .u16 x1, .int .u16 x2, .int .u16 x3, .int .u16 x4, .int .u16 x5, .int .u16 x6, .int .u16 x7, .int .i64 x8, .int .i64 x9, .int .i64 x10, .int .i64 x11, .int .i64 x12, .int .i64 x13, .int .i64 x14, .int .i64 x15]) ((W.alloc (.cells #[.int .u16 x0, .int .u16 x1, .int .u16 x2, .int .u16 x3, .int .u16 x4, .int .u16 x5, .int .u16 x6, .int .u16 x7, .int .i64 x8, .int .i64 x9, .int .i64 x10, .int .i64 x11, .int .i64 x12, .int .i64 x13, .int .i64 x14, .int .i64 x15] 90)).alloc o1) := by
  unfold loadS
  simp only [Instr.loadAt, Instr.sureAddr, Sem.run_bind, Sem.run_pure, Result.andThen]
  exact scan_ld1 W _ _ _ _ _ _ _ _ _ _ _ _ _ _ _ _ _ hn
@[go_sem] theorem loadVS_1 {n : Nat} (W : World) (x0 x1 x2 x3 x4 x5 x6 x7 x8 x9 x10 x11 x12 x13 x14 x15 : Int) (o1 : Obj) (hn : n = W.heap.size) :
    (loadVS ⟨n, 0, none⟩).run Tryd.prog ((W.alloc (.cells #[.int .u16 x0, .int .u16 x1, .int .u16 x2, .int .u16 x3, .int .u16 x4, .int .u16 x5, .int .u16 x6, .int .u16 x7, .int .i64 x8, .int .i64 x9, .int .i64 x10, .int .i64 x11, .int .i64 x12, .int .i64 x13, .int .i64 x14, .int .i64 x15] 90)).alloc o1) = .ok (.agg #[.int .u16 x0, .int .u16 x1, .int .u16 x2, .int .u16 x3, .int .u16 x4, .int .u16 x5, .int .u16 x6, .int .u16 x7, .int .i64 x8, .int .i64 x9, .int .i64 x10, .int .i64 x11, .int .i64 x12, .int .i64 x13, .int .i64 x14, .int .i64 x15]) ((W.alloc (.cells #[.int .u16 x0, .int .u16 x1, .int .u16 x2, .int .u16 x3, .int .u16 x4, .int .u16 x5, .int .u16 x6, .int .u16 x7, .int .i64 x8, .int .i64 x9, .int .i64 x10, .int .i64 x11, .int .i64 x12, .int .i64 x13, .int .i64 x14, .int .i64 x15] 90)).alloc o1) := by
  unfold loadVS
  exact scan_ld1 W _ _ _ _ _ _ _ _ _ _ _ _ _ _ _ _ _ hn
@[go_sem] theorem storeS_1 {n : Nat} (W : World) (x0 x1 x2 x3 x4 x5 x6 x7 x8 x9 x10 x11 x12 x13 x14 x15 y0 y1 y2 y3 y4 y5 y6 y7 y8 y9 y10 y11 y12 y13 y14 y15 : Int) (o1 : Obj) (hn : n = W.heap.size) :
    (storeS (.pointer (some ⟨n, 0, none⟩)) (.agg #[.int .u16 y0, .int .u16 y1, .int .u16 y2, .int .u16 y3, .int .u16 y4, .int .u16 y5, .int .u16 y6, .int .u16 y7, .int .i64 y8, .int .i64 y9, .int .i64 y10, .int .i64 y11, .int .i64 y12, .int .i64 y13, .int .i64 y14, .int .i64 y15])).run Tryd.prog ((W.alloc (.cells #[.int .u16 x0, .int .u16 x1, .int .u16 x2, .int .u16 x3, .int .u16 x4, .int .u16 x5, .int .u16 x6, .int .u16 x7, .int .i64 x8, .int .i64 x9, .int .i64 x10, .int .i64 x11, .int .i64 x12, .int .i64 x13, .int .i64 x14, .int .i64 x15] 90)).alloc o1) = .ok () ((W.alloc (.cells #[.int .u16 y0, .int .u16 y1, .int .u16 y2, .int .u16 y3, .int .u16 y4, .int .u16 y5, .int .u16 y6, .int .u16 y7, .int .i64 y8, .int .i64 y9, .int .i64 y10, .int .i64 y11, .int .i64 y12, .int .i64 y13, .int .i64 y14, .int .i64 y15] 90)).alloc o1) := by
  unfold storeS
  simp only [Instr.storeAt, Instr.sureAddr, Sem.run_bind, Sem.run_pure, Result.andThen]
  exact scan_st1 W _ _ _ _ _ _ _ _ _ _ _ _ _ _ _ _ _ _ _ _ _ _ _ _ _ _ _ _ _ _ _ _ _ hn
@[go_sem] theorem loadS_2 {n : Nat} (W : World) (x0 x1 x2 x3 x4 x5 x6 x7 x8 x9 x10 x11 x12 x13 x14 x15 : Int) (o1 o2 : Obj) (hn : n = W.heap.size) :
    (loadS (.pointer (some ⟨n, 0, none⟩))).run Tryd.prog (((W.alloc (.cells #[.int .u16 x0, .int .u16 x1, .int .u16 x2, .int .u16 x3, .int .u16 x4, .int .u16 x5, .int .u16 x6, .int .u16 x7, .int .i64 x8, .int .i64 x9, .int .i64 x10, .int .i64 x11, .int .i64 x12, .int .i64 x13, .int .i64 x14, .int .i64 x15] 90)).alloc o1).alloc o2) = .ok (.agg #[.int .u16 x0, .int .u16 x1, .int .u16 x2, .int .u16 x3, .int .u16 x4, .int .u16 x5, .int .u16 x6, .int .u16 x7, .int .i64 x8, .int .i64 x9, .int .i64 x10, .int .i64 x11, .int .i64 x12, .int .i64 x13, .int .i64 x14, .int .i64 x15]) (((W.alloc (.cells #[.int .u16 x0, .int .u16 x1, .int .u16 x2, .int .u16 x3, .int .u16 x4, .int .u16 x5, .int .u16 x6, .int .u16 x7, .int .i64 x8, .int .i64 x9, .int .i64 x10, .int .i64 x11, .int .i64 x12, .int .i64 x13, .int .i64 x14, .int .i64 x15] 90)).alloc o1).alloc o2) := by
  unfold loadS
  simp only [Instr.loadAt, Instr.sureAddr, Sem.run_bind, Sem.run_pure, Result.andThen]
  exact scan_ld2 W _ _ _ _ _ _ _ _ _ _ _ _ _ _ _ _ _ _ hn
@[go_sem] theorem loadVS_2 {n : Nat} (W : World) (x0 x1 x2 x3 x4 x5 x6 x7 x8 x9 x10 x11 x12 x13 x14 x15 : Int) (o1 o2 : Obj) (hn : n = W.heap.size) :
    (loadVS ⟨n, 0, none⟩).run Tryd.prog (((W.alloc (.cells #[.int .u16 x0, .int .u16 x1, .int .u16 x2, .int .u16 x3, .int .u16 x4, .int .u16 x5, .int .u16 x6, .int .u16 x7, .int .i64 x8, .int .i64 x9, .int .i64 x10, .int .i64 x11, .int .i64 x12, .int .i64 x13, .int .i64 x14, .int .i64 x15] 90)).alloc o1).alloc o2) = .ok (.agg #[.int .u16 x0, .int .u16 x1, .int .u16 x2, .int .u16 x3, .int .u16 x4, .int .u16 x5, .int .u16 x6, .int .u16 x7, .int .i64 x8, .int .i64 x9, .int .i64 x10, .int .i64 x11, .int .i64 x12, .int .i64 x13, .int .i64 x14, .int .i64 x15]) (((W.alloc (.cells #[.int .u16 x0, .int .u16 x1, .int .u16 x2, .int .u16 x3, .int .u16 x4, .int .u16 x5, .int .u16 x6, .int .u16 x7, .int .i64 x8, .int .i64 x9, .int .i64 x10, .int .i64 x11, .int .i64 x12, .int .i64 x13, .int .i64 x14, .int .i64 x15] 90)).alloc o1).alloc o2) := by
  unfold loadVS
  exact scan_ld2 W _ _ _ _ _ _ _ _ _ _ _ _ _ _ _ _ _ _ hn
@[go_sem] theorem storeS_2 {n : Nat} (W : World) (x0 x1 x2 x3 x4 x5 x6 x7 x8 x9 x10 x11 x12 x13 x14 x15 y0 y1 y2 y3 y4 y5 y6 y7 y8 y9 y10 y11 y12 y13 y14 y15 : Int) (o1 o2 : Obj) (hn : n = W.heap.size) :
    (storeS (.pointer (some ⟨n, 0, none⟩)) (.agg #[.int .u16 y0, .int .u16 y1, .int .u16 y2, .int .u16 y3, .int .u16 y4, .int .u16 y5, .int .u16 y6, .int .u16 y7, .int .i64 y8, .int .i64 y9, .int .i64 y10, .int .i64 y11, .int .i64 y12, .int .i64 y13, .int .i64 y14, .int .i64 y15])).run Tryd.prog (((W.alloc (.cells #[.int .u16 x0, .int .u16 x1, .int .u16 x2, .int .u16 x3, .int .u16 x4, .int .u16 x5, .int .u16 x6, .int .u16 x7, .int .i64 x8, .int .i64 x9, .int .i64 x10, .int .i64 x11, .int .i64 x12, .int .i64 x13, .int .i64 x14, .int .i64 x15] 90)).alloc o1).alloc o2) = .ok () (((W.alloc (.cells #[.int .u16 y0, .int .u16 y1, .int .u16 y2, .int .u16 y3, .int .u16 y4, .int .u16 y5, .int .u16 y6, .int .u16 y7, .int .i64 y8, .int .i64 y9, .int .i64 y10, .int .i64 y11, .int .i64 y12, .int .i64 y13, .int .i64 y14, .int .i64 y15] 90)).alloc o1).alloc o2) := by
  unfold storeS
  simp only [Instr.storeAt, Instr.sureAddr, Sem.run_bind, Sem.run_pure, Result.andThen]
  exact scan_st2 W _ _ _ _ _ _ _ _ _ _ _ _ _ _ _ _ _ _ _ _ _ _ _ _ _ _ _ _ _ _ _ _ _ _ hn
@[go_sem] theorem loadS_3 {n : Nat} (W : World) (x0 x1 x2 x3 x4 x5 x6 x7 x8 x9 x10 x11 x12 x13 x14 x15 : Int) (o1 o2 o3 : Obj) (hn : n = W.heap.size) :
    (loadS (.pointer (some ⟨n, 0, none⟩))).run Tryd.prog ((((W.alloc (.cells #[.int .u16 x0, .int .u16 x1, .int .u16 x2, .int .u16 x3, .int .u16 x4, .int .u16 x5, .int .u16 x6, .int .u16 x7, .int .i64 x8, .int .i64 x9, .int .i64 x10, .int .i64 x11, .int .i64 x12, .int .i64 x13, .int .i64 x14, .int .i64 x15] 90)).alloc o1).alloc o2).alloc o3) = .ok (.agg #[.int .u16 x0, .int .u16 x1, .int .u16 x2, .int .u16 x3, .int .u16 x4, .int .u16 x5, .int .u16 x6, .int .u16 x7, .int .i64 x8, .int .i64 x9, .int .i64 x10, .int .i64 x11, .int .i64 x12, .int .i64 x13, .int .i64 x14, .int .i64 x15]) ((((W.alloc (.cells #[.int .u16 x0, .int .u16 x1, .int .u16 x2, .int .u16 x3, .int .u16 x4, .int .u16 x5, .int .u16 x6, .int .u16 x7, .int .i64 x8, .int .i64 x9, .int .i64 x10, .int .i64 x11, .int .i64 x12, .int .i64 x13, .int .i64 x14, .int .i64 x15] 90)).alloc o1).alloc o2).alloc o3) := by
  unfold loadS
  simp only [Instr.loadAt, Instr.sureAddr, Sem.run_bind, Sem.run_pure, Result.andThen]
  exact scan_ld3 W _ _ _ _ _ _ _ _ _ _ _ _ _ _ _ _ _ _ _ hn
@[go_sem] theorem loadVS_3 {n : Nat} (W : World) (x0 x1 x2 x3 x4 x5 x6 x7 x8 x9 x10 x11 x12 x13 x14 x15 : Int) (o1 o2 o3 : Obj) (hn : n = W.heap.size) :
    (loadVS ⟨n, 0, none⟩).run Tryd.prog ((((W.alloc (.cells #[.int .u16 x0, .int .u16 x1, .int .u16 x2, .int .u16 x3, .int .u16 x4, .int .u16 x5, .int .u16 x6, .int .u16 x7, .int .i64 x8, .int .i64 x9, .int .i64 x10, .int .i64 x11, .int .i64 x12, .int .i64 x13, .int .i64 x14, .int .i64 x15] 90)).alloc o1).alloc o2).alloc o3) = .ok (.agg #[.int .u16 x0, .int .u16 x1, .int .u16 x2, .int .u16 x3, .int .u16 x4, .int .u16 x5, .int .u16 x6, .int .u16 x7, .int .i64 x8, .int .i64 x9, .int .i64 x10, .int .i64 x11, .int .i64 x12, .int .i64 x13, .int .i64 x14, .int .i64 x15]) ((((W.alloc (.cells #[.int .u16 x0, .int .u16 x1, .int .u16 x2, .int .u16 x3, .int .u16 x4, .int .u16 x5, .int .u16 x6, .int .u16 x7, .int .i64 x8, .int .i64 x9, .int .i64 x10, .int .i64 x11, .int .i64 x12, .int .i64 x13, .int .i64 x14, .int .i64 x15] 90)).alloc o1).alloc o2).alloc o3) := by
  unfold loadVS
  exact scan_ld3 W _ _ _ _ _ _ _ _ _ _ _ _ _ _ _ _ _ _ _ hn
@[go_sem] theorem storeS_3 {n : Nat} (W : World) (x0 x1 x2 x3 x4 x5 x6 x7 x8 x9 x10 x11 x12 x13 x14 x15 y0 y1 y2 y3 y4 y5 y6 y7 y8 y9 y10 y11 y12 y13 y14 y15 : Int) (o1 o2 o3 : Obj) (hn : n = W.heap.size) :
    (storeS (.pointer (some ⟨n, 0, none⟩)) (.agg #[.int .u16 y0, .int .u16 y1, .int .u16 y2, .int .u16 y3, .int .u16 y4, .int .u16 y5, .int .u16 y6, .int .u16 y7, .int .i64 y8, .int .i64 y9, .int .i64 y10, .int .i64 y11, .int .i64 y12, .int .i64 y13, .int .i64 y14, .int .i64 y15])).run Tryd.prog ((((W.alloc (.cells #[.int .u16 x0, .int .u16 x1, .int .u16 x2, .int .u16 x3, .int .u16 x4, .int .u16 x5, .int .u16 x6, .int .u16 x7, .int .i64 x8, .int .i64 x9, .int .i64 x10, .int .i64 x11, .int .i64 x12, .int .i64 x13, .int .i64 x14, .int .i64 x15] 90)).alloc o1).alloc o2).alloc o3) = .ok () ((((W.alloc (.cells #[.int .u16 y0, .int .u16 y1, .int .u16 y2, .int .u16 y3, .int .u16 y4, .int .u16 y5, .int .u16 y6, .int .u16 y7, .int .i64 y8, .int .i64 y9, .int .i64 y10, .int .i64 y11, .int .i64 y12, .int .i64 y13, .int .i64 y14, .int .i64 y15] 90)).alloc o1).alloc o2).alloc o3) := by
  unfold storeS
  simp only [Instr.storeAt, Instr.sureAddr, Sem.run_bind, Sem.run_pure, Result.andThen]
  exact scan_st3 W _ _ _ _ _ _ _ _ _ _ _ _ _ _ _ _ _ _ _ _ _ _ _ _ _ _ _ _ _ _ _ _ _ _ _ hn
/-- Blocks that were made behind a world. -/
@[irreducible] def GA (l : List Obj) (W : World) : World := l.foldl World.alloc W
theorem GA_nil (W : World) : GA [] W = W := by unfold GA; rfl
theorem GA_cons (o : Obj) (l : List Obj) (W : World) : GA (o :: l) W = GA l (W.alloc o) := by unfold GA; rfl
theorem GA_GA (l m : List Obj) (W : World) : GA m (GA l W) = GA (l ++ m) W := by unfold GA; rw [List.foldl_append]
theorem GA_one (o : Obj) (W : World) : W.alloc o = GA [o] W := by rw [GA_cons, GA_nil]
theorem GA_drewN : ∀ (l : List Obj) (W : World) (m : Nat), (GA l W).drewN m = GA l (W.drewN m)
  | [], W, m => by rw [GA_nil, GA_nil]
  | o :: l, W, m => by rw [GA_cons, GA_cons, GA_drewN l, drewN_alloc]
theorem GA_heap : ∀ (l : List Obj) (W : World) (g : Nat), g < W.heap.size → (GA l W).heap[g]? = W.heap[g]?
  | [], W, g, _ => by rw [GA_nil]
  | o :: l, W, g, h => by rw [GA_cons, GA_heap l _ g (by simp; omega), heap_below _ _ _ h]
theorem GA_below : ∀ (l : List Obj) (w W : World), Below w.heap.size w W → Below w.heap.size w (GA l W)
  | [], w, W, h => by rw [GA_nil]; exact h
  | o :: l, w, W, h => by rw [GA_cons]; exact GA_below l w _ (h.alloc h.size _)
theorem GA_below_drew (l : List Obj) (w : World) (m : Nat) : Below w.heap.size w (GA l (w.drewN m)) := GA_below l w _ (bdn (Below.refl _ _) m)
theorem setCell_below (W : World) (o : Obj) (a : Addr) (v : Value) (h : a.block < W.heap.size) : (W.alloc o).setCell a v = (W.setCell a v).alloc o := by
  simp only [World.setCell, World.alloc]
  congr 1
  apply Array.ext_getElem?
  intro i
  rw [Array.getElem?_modify, Array.getElem?_push, Array.getElem?_push, Array.size_modify, Array.getElem?_modify]
  by_cases h1 : i = W.heap.size
  · have h2 : ¬ a.block = i := by omega
    simp [h1, h2]
    intro e
    omega
  · by_cases h2 : a.block = i
    · simp [h1, h2]
    · simp [h1, h2]
theorem GA_setRow : ∀ (l : List Obj) (W : World) (g : Nat) (c : Array Value), g < W.heap.size → (GA l W).setRow g c = GA l (W.setRow g c)
  | [], W, g, c, _ => by rw [GA_nil, GA_nil]
  | o :: l, W, g, c, h => by rw [GA_cons, GA_cons, GA_setRow l _ g c (by simp; omega), setRow_below _ _ _ _ h]
@[go_sem] theorem GA_setCell {n k : Nat} (l : List Obj) (W : World) (v : Value) (h : n < W.heap.size) : (GA l W).setCell ⟨n, k, none⟩ v = GA l (W.setCell ⟨n, k, none⟩ v) := by
  induction l generalizing W with
  | nil => rw [GA_nil, GA_nil]
  | cons o l ih => rw [GA_cons, GA_cons, ih _ (by simp; omega), setCell_below _ _ _ _ h]
@[go_sem] theorem GA_cell {n k : Nat} (l : List Obj) (W : World) (h : n < W.heap.size) : (GA l W).cell? ⟨n, k, none⟩ = W.cell? ⟨n, k, none⟩ := by
  have e := GA_heap l W n h
  simp only [World.cell?, e]
@[go_sem] theorem GA_frozen {n k : Nat} (l : List Obj) (W : World) (h : n < W.heap.size) : (GA l W).frozen? ⟨n, k, none⟩ = W.frozen? ⟨n, k, none⟩ := by
  have e := GA_heap l W n h
  simp only [World.frozen?, e]
theorem scan_gld0 {n : Nat} (l : List Obj) (W : World) (x0 x1 x2 x3 x4 x5 x6 x7 x8 x9 x10 x11 x12 x13 x14 x15 : Int) (hn : n = W.heap.size) :
    (loadVar 90 ⟨n, 0, none⟩).run Tryd.prog (GA l (W.alloc (.cells #[.int .u16 x0, .int .u16 x1, .int .u16 x2, .int .u16 x3, .int .u16 x4, .int .u16 x5, .int .u16 x6, .int .u16 x7, .int .i64 x8, .int .i64 x9, .int .i64 x10, .int .i64 x11, .int .i64 x12, .int .i64 x13, .int .i64 x14, .int .i64 x15] 90))) = .ok (.agg #[.int .u16 x0, .int .u16 x1, .int .u16 x2, .int .u16 x3, .int .u16 x4, .int .u16 x5, .int .u16 x6, .int .u16 x7, .int .i64 x8, .int .i64 x9, .int .i64 x10, .int .i64 x11, .int .i64 x12, .int .i64 x13, .int .i64 x14, .int .i64 x15]) (GA l (W.alloc (.cells #[.int .u16 x0, .int .u16 x1, .int .u16 x2, .int .u16 x3, .int .u16 x4, .int .u16 x5, .int .u16 x6, .int .u16 x7, .int .i64 x8, .int .i64 x9, .int .i64 x10, .int .i64 x11, .int .i64 x12, .int .i64 x13, .int .i64 x14, .int .i64 x15] 90))) := by
  subst hn
  exact run_loadVar_row _ _ 90 90 #[.int .u16 x0, .int .u16 x1, .int .u16 x2, .int .u16 x3, .int .u16 x4, .int .u16 x5, .int .u16 x6, .int .u16 x7, .int .i64 x8, .int .i64 x9, .int .i64 x10, .int .i64 x11, .int .i64 x12, .int .i64 x13, .int .i64 x14, .int .i64 x15] (0, 0) _ ((GA_heap _ _ _ (by simp only [World.size_alloc]; omega)).trans (heap_at W _)) Tryd.underlying90 rfl (by kernel_rfl)
@[go_sem] theorem loadS_g0 {n : Nat} (l : List Obj) (W : World) (x0 x1 x2 x3 x4 x5 x6 x7 x8 x9 x10 x11 x12 x13 x14 x15 : Int) (hn : n = W.heap.size) :
    (loadS (.pointer (some ⟨n, 0, none⟩))).run Tryd.prog (GA l (W.alloc (.cells #[.int .u16 x0, .int .u16 x1, .int .u16 x2, .int .u16 x3, .int .u16 x4, .int .u16 x5, .int .u16 x6, .int .u16 x7, .int .i64 x8, .int .i64 x9, .int .i64 x10, .int .i64 x11, .int .i64 x12, .int .i64 x13, .int .i64 x14, .int .i64 x15] 90))) = .ok (.agg #[.int .u16 x0, .int .u16 x1, .int .u16 x2, .int .u16 x3, .int .u16 x4, .int .u16 x5, .int .u16 x6, .int .u16 x7, .int .i64 x8, .int .i64 x9, .int .i64 x10, .int .i64 x11, .int .i64 x12, .int .i64 x13, .int .i64 x14, .int .i64 x15]) (GA l (W.alloc (.cells #[.int .u16 x0, .int .u16 x1, .int .u16 x2, .int .u16 x3, .int .u16 x4, .int .u16 x5, .int .u16 x6, .int .u16 x7, .int .i64 x8, .int .i64 x9, .int .i64 x10, .int .i64 x11, .int .i64 x12, .int .i64 x13, .int .i64 x14, .int .i64 x15] 90))) := by
  unfold loadS
  simp only [Instr.loadAt, Instr.sureAddr, Sem.run_bind, Sem.run_pure, Result.andThen]
  exact scan_gld0 l W _ _ _ _ _ _ _ _ _ _ _ _ _ _ _ _ hn
@[go_sem] theorem storeS_g0 {n : Nat} (l : List Obj) (W : World) (x0 x1 x2 x3 x4 x5 x6 x7 x8 x9 x10 x11 x12 x13 x14 x15 y0 y1 y2 y3 y4 y5 y6 y7 y8 y9 y10 y11 y12 y13 y14 y15 : Int) (hn : n = W.heap.size) :
    (storeS (.pointer (some ⟨n, 0, none⟩)) (.agg #[.int .u16 y0, .int .u16 y1, .int .u16 y2, .int .u16 y3, .int .u16 y4, .int .u16 y5, .int .u16 y6, .int .u16 y7, .int .i64 y8, .int .i64 y9, .int .i64 y10, .int .i64 y11, .int .i64 y12, .int .i64 y13, .int .i64 y14, .int .i64 y15])).run Tryd.prog (GA l (W.alloc (.cells #[.int .u16 x0, .int .u16 x1, .int .u16 x2, .int .u16 x3, .int .u16 x4, .int .u16 x5, .int .u16 x6, .int .u16 x7, .int .i64 x8, .int .i64 x9, .int .i64 x10, .int .i64 x11, .int .i64 x12, .int .i64 x13, .int .i64 x14, .int .i64 x15] 90))) = .ok () (GA l (W.alloc (.cells #[.int .u16 y0, .int .u16 y1, .int .u16 y2, .int .u16 y3, .int .u16 y4, .int .u16 y5, .int .u16 y6, .int .u16 y7, .int .i64 y8, .int .i64 y9, .int .i64 y10, .int .i64 y11, .int .i64 y12, .int .i64 y13, .int .i64 y14, .int .i64 y15] 90))) := by
  unfold storeS
  simp only [Instr.storeAt, Instr.sureAddr, Sem.run_bind, Sem.run_pure, Result.andThen]
  subst hn
  rw [run_storeVar_row _ _ 90 90 #[.int .u16 x0, .int .u16 x1, .int .u16 x2, .int .u16 x3, .int .u16 x4, .int .u16 x5, .int .u16 x6, .int .u16 x7, .int .i64 x8, .int .i64 x9, .int .i64 x10, .int .i64 x11, .int .i64 x12, .int .i64 x13, .int .i64 x14, .int .i64 x15] #[.int .u16 y0, .int .u16 y1, .int .u16 y2, .int .u16 y3, .int .u16 y4, .int .u16 y5, .int .u16 y6, .int .u16 y7, .int .i64 y8, .int .i64 y9, .int .i64 y10, .int .i64 y11, .int .i64 y12, .int .i64 y13, .int .i64 y14, .int .i64 y15] ((GA_heap _ _ _ (by simp only [World.size_alloc]; omega)).trans (heap_at W _)) (by kernel_rfl) rfl (by simp [Value.oneCell'])]
  rw [GA_setRow _ _ _ _ (by simp only [World.size_alloc]; omega)]
  congr 2
  exact setRow_new W _ _ _
theorem scan_gld1 {n : Nat} (l : List Obj) (W : World) (x0 x1 x2 x3 x4 x5 x6 x7 x8 x9 x10 x11 x12 x13 x14 x15 : Int) (o1 : Obj) (hn : n = W.heap.size) :
    (loadVar 90 ⟨n, 0, none⟩).run Tryd.prog (GA l ((W.alloc (.cells #[.int .u16 x0, .int .u16 x1, .int .u16 x2, .int .u16 x3, .int .u16 x4, .int .u16 x5, .int .u16 x6, .int .u16 x7, .int .i64 x8, .int .i64 x9, .int .i64 x10, .int .i64 x11, .int .i64 x12, .int .i64 x13, .int .i64 x14, .int .i64 x15] 90)).alloc o1)) = .ok (.agg #[.int .u16 x0, .int .u16 x1, .int .u16 x2, .int .u16 x3, .int .u16 x4, .int .u16 x5, .int .u16 x6, .int .u16 x7, .int .i64 x8, .int .i64 x9, .int .i64 x10, .int .i64 x11, .int .i64 x12, .int .i64 x13, .int .i64 x14, .int .i64 x15]) (GA l ((W.alloc (.cells #[.int .u16 x0, .int .u16 x1, .int .u16 x2, .int .u16 x3, .int .u16 x4, .int .u16 x5, .int .u16 x6, .int .u16 x7, .int .i64 x8, .int .i64 x9, .int .i64 x10, .int .i64 x11, .int .i64 x12, .int .i64 x13, .int .i64 x14, .int .i64 x15] 90)).alloc o1)) := by
  subst hn
  exact run_loadVar_row _ _ 90 90 #[.int .u16 x0, .int .u16 x1, .int .u16 x2, .int .u16 x3, .int .u16 x4, .int .u16 x5, .int .u16 x6, .int .u16 x7, .int .i64 x8, .int .i64 x9, .int .i64 x10, .int .i64 x11, .int .i64 x12, .int .i64 x13, .int .i64 x14, .int .i64 x15] (0, 0) _ ((GA_heap _ _ _ (by simp only [World.size_alloc]; omega)).trans ((heap_below _ _ _ (by simp only [World.size_alloc]; omega)).trans (heap_at W _))) Tryd.underlying90 rfl (by kernel_rfl)
@[go_sem] theorem loadS_g1 {n : Nat} (l : List Obj) (W : World) (x0 x1 x2 x3 x4 x5 x6 x7 x8 x9 x10 x11 x12 x13 x14 x15 : Int) (o1 : Obj) (hn : n = W.heap.size) :
    (loadS (.pointer (some ⟨n, 0, none⟩))).run Tryd.prog (GA l ((W.alloc (.cells #[.int .u16 x0, .int .u16 x1, .int .u16 x2, .int .u16 x3, .int .u16 x4, .int .u16 x5, .int .u16 x6, .int .u16 x7, .int .i64 x8, .int .i64 x9, .int .i64 x10, .int .i64 x11, .int .i64 x12, .int .i64 x13, .int .i64 x14, .int .i64 x15] 90)).alloc o1)) = .ok (.agg #[.int .u16 x0, .int .u16 x1, .int .u16 x2, .int .u16 x3, .int .u16 x4, .int .u16 x5, .int .u16 x6, .int .u16 x7, .int .i64 x8, .int .i64 x9, .int .i64 x10, .int .i64 x11, .int .i64 x12, .int .i64 x13, .int .i64 x14, .int .i64 x15]) (GA l ((W.alloc (.cells #[.int .u16 x0, .int .u16 x1, .int .u16 x2, .int .u16 x3, .int .u16 x4, .int .u16 x5, .int .u16 x6, .int .u16 x7, .int .i64 x8, .int .i64 x9, .int .i64 x10, .int .i64 x11, .int .i64 x12, .int .i64 x13, .int .i64 x14, .int .i64 x15] 90)).alloc o1)) := by
  unfold loadS
  simp only [Instr.loadAt, Instr.sureAddr, Sem.run_bind, Sem.run_pure, Result.andThen]
  exact scan_gld1 l W _ _ _ _ _ _ _ _ _ _ _ _ _ _ _ _ _ hn
@[go_sem] theorem storeS_g1 {n : Nat} (l : List Obj) (W : World) (x0 x1 x2 x3 x4 x5 x6 x7 x8 x9 x10 x11 x12 x13 x14 x15 y0 y1 y2 y3 y4 y5 y6 y7 y8 y9 y10 y11 y12 y13 y14 y15 : Int) (o1 : Obj) (hn : n = W.heap.size) :
    (storeS (.pointer (some ⟨n, 0, none⟩)) (.agg #[.int .u16 y0, .int .u16 y1, .int .u16 y2, .int .u16 y3, .int .u16 y4, .int .u16 y5, .int .u16 y6, .int .u16 y7, .int .i64 y8, .int .i64 y9, .int .i64 y10, .int .i64 y11, .int .i64 y12, .int .i64 y13, .int .i64 y14, .int .i64 y15])).run Tryd.prog (GA l ((W.alloc (.cells #[.int .u16 x0, .int .u16 x1, .int .u16 x2, .int .u16 x3, .int .u16 x4, .int .u16 x5, .int .u16 x6, .int .u16 x7, .int .i64 x8, .int .i64 x9, .int .i64 x10, .int .i64 x11, .int .i64 x12, .int .i64 x13, .int .i64 x14, .int .i64 x15] 90)).alloc o1)) = .ok () (GA l ((W.alloc (.cells #[.int .u16 y0, .int .u16 y1, .int .u16 y2, .int .u16 y3, .int .u16 y4, .int .u16 y5, .int .u16 y6, .int .u16 y7, .int .i64 y8, .int .i64 y9, .int .i64 y10, .int .i64 y11, .int .i64 y12, .int .i64 y13, .int .i64 y14, .int .i64 y15] 90)).alloc o1)) := by
  unfold storeS
  simp only [Instr.storeAt, Instr.sureAddr, Sem.run_bind, Sem.run_pure, Result.andThen]
  subst hn
  rw [run_storeVar_row _ _ 90 90 #[.int .u16 x0, .int .u16 x1, .int .u16 x2, .int .u16 x3, .int .u16 x4, .int .u16 x5, .int .u16 x6, .int .u16 x7, .int .i64 x8, .int .i64 x9, .int .i64 x10, .int .i64 x11, .int .i64 x12, .int .i64 x13, .int .i64 x14, .int .i64 x15] #[.int .u16 y0, .int .u16 y1, .int .u16 y2, .int .u16 y3, .int .u16 y4, .int .u16 y5, .int .u16 y6, .int .u16 y7, .int .i64 y8, .int .i64 y9, .int .i64 y10, .int .i64 y11, .int .i64 y12, .int .i64 y13, .int .i64 y14, .int .i64 y15] ((GA_heap _ _ _ (by simp only [World.size_alloc]; omega)).trans ((heap_below _ _ _ (by simp only [World.size_alloc]; omega)).trans (heap_at W _))) (by kernel_rfl) rfl (by simp [Value.oneCell'])]
  rw [GA_setRow _ _ _ _ (by simp only [World.size_alloc]; omega)]
  congr 2
  exact (setRow_below _ _ _ _ (by simp only [World.size_alloc]; omega)).trans (congrArg (fun w => World.alloc w _) (setRow_new W _ _ _))
theorem scan_gld2 {n : Nat} (l : List Obj) (W : World) (x0 x1 x2 x3 x4 x5 x6 x7 x8 x9 x10 x11 x12 x13 x14 x15 : Int) (o1 o2 : Obj) (hn : n = W.heap.size) :
    (loadVar 90 ⟨n, 0, none⟩).run Tryd.prog (GA l (((W.alloc (.cells #[.int .u16 x0, .int .u16 x1, .int .u16 x2, .int .u16 x3, .int .u16 x4, .int .u16 x5, .int .u16 x6, .int .u16 x7, .int .i64 x8, .int .i64 x9, .int .i64 x10, .int .i64 x11, .int .i64 x12, .int .i64 x13, .int .i64 x14, .int .i64 x15] 90)).alloc o1).alloc o2)) = .ok (.agg #[.int .u16 x0, .int .u16 x1, .int .u16 x2, .int .u16 x3, .int .u16 x4, .int .u16 x5, .int .u16 x6, .int .u16 x7, .int .i64 x8, .int .i64 x9, .int .i64 x10, .int .i64 x11, .int .i64 x12, .int .i64 x13, .int .i64 x14, .int .i64 x15]) (GA l (((W.alloc (.cells #[.int .u16 x0, .int .u16 x1, .int .u16 x2, .int .u16 x3, .int .u16 x4, .int .u16 x5, .int .u16 x6, .int .u16 x7, .int .i64 x8, .int .i64 x9, .int .i64 x10, .int .i64 x11, .int .i64 x12, .int .i64 x13, .int .i64 x14, .int .i64 x15] 90)).alloc o1).alloc o2)) := by
  subst hn
  exact run_loadVar_row _ _ 90 90 #[.int .u16 x0, .int .u16 x1, .int .u16 x2, .int .u16 x3, .int .u16 x4, .int .u16 x5, .int .u16 x6, .int .u16 x7, .int .i64 x8, .int .i64 x9, .int .i64 x10, .int .i64 x11, .int .i64 x12, .int .i64 x13, .int .i64 x14, .int .i64 x15] (0, 0) _ ((GA_heap _ _ _ (by simp only [World.size_alloc]; omega)).trans ((heap_below _ _ _ (by simp only [World.size_alloc]; omega)).trans ((heap_below _ _ _ (by simp only [World.size_alloc]; omega)).trans (heap_at W _)))) Tryd.underlying90 rfl (by kernel_rfl)
@[go_sem] theorem loadS_g2 {n : Nat} (l : List Obj) (W : World) (x0 x1 x2 x3 x4 x5 x6 x7 x8 x9 x10 x11 x12 x13 x14 x15 : Int) (o1 o2 : Obj) (hn : n = W.heap.size) :
    (loadS (.pointer (some ⟨n, 0, none⟩))).run Tryd.prog (GA l (((W.alloc (.cells #[.int .u16 x0, .int .u16 x1, .int .u16 x2, .int .u16 x3, .int .u16 x4, .int .u16 x5, .int .u16 x6, .int .u16 x7, .int .i64 x8, .int .i64 x9, .int .i64 x10, .int .i64 x11, .int .i64 x12, .int .i64 x13, .int .i64 x14, .int .i64 x15] 90)).alloc o1).alloc o2)) = .ok (.agg #[.int .u16 x0, .int .u16 x1, .int .u16 x2, .int .u16 x3, .int .u16 x4, .int .u16 x5, .int .u16 x6, .int .u16 x7, .int .i64 x8, .int .i64 x9, .int .i64 x10, .int .i64 x11, .int .i64 x12, .int .i64 x13, .int .i64 x14, .int .i64 x15]) (GA l (((W.alloc (.cells #[.int .u16 x0, .int .u16 x1, .int .u16 x2, .int .u16 x3, .int .u16 x4, .int .u16 x5, .int .u16 x6, .int .u16 x7, .int .i64 x8, .int .i64 x9, .int .i64 x10, .int .i64 x11, .int .i64 x12, .int .i64 x13, .int .i64 x14, .int .i64 x15] 90)).alloc o1).alloc o2)) := by
  unfold loadS
  simp only [Instr.loadAt, Instr.sureAddr, Sem.run_bind, Sem.run_pure, Result.andThen]
  exact scan_gld2 l W _ _ _ _ _ _ _ _ _ _ _ _ _ _ _ _ _ _ hn
@[go_sem] theorem storeS_g2 {n : Nat} (l : List Obj) (W : World) (x0 x1 x2 x3 x4 x5 x6 x7 x8 x9 x10 x11 x12 x13 x14 x15 y0 y1 y2 y3 y4 y5 y6 y7 y8 y9 y10 y11 y12 y13 y14 y15 : Int) (o1 o2 : Obj) (hn : n = W.heap.size) :
    (storeS (.pointer (some ⟨n, 0, none⟩)) (.agg #[.int .u16 y0, .int .u16 y1, .int .u16 y2, .int .u16 y3, .int .u16 y4, .int .u16 y5, .int .u16 y6, .int .u16 y7, .int .i64 y8, .int .i64 y9, .int .i64 y10, .int .i64 y11, .int .i64 y12, .int .i64 y13, .int .i64 y14, .int .i64 y15])).run Tryd.prog (GA l (((W.alloc (.cells #[.int .u16 x0, .int .u16 x1, .int .u16 x2, .int .u16 x3, .int .u16 x4, .int .u16 x5, .int .u16 x6, .int .u16 x7, .int .i64 x8, .int .i64 x9, .int .i64 x10, .int .i64 x11, .int .i64 x12, .int .i64 x13, .int .i64 x14, .int .i64 x15] 90)).alloc o1).alloc o2)) = .ok () (GA l (((W.alloc (.cells #[.int .u16 y0, .int .u16 y1, .int .u16 y2, .int .u16 y3, .int .u16 y4, .int .u16 y5, .int .u16 y6, .int .u16 y7, .int .i64 y8, .int .i64 y9, .int .i64 y10, .int .i64 y11, .int .i64 y12, .int .i64 y13, .int .i64 y14, .int .i64 y15] 90)).alloc o1).alloc o2)) := by
  unfold storeS
  simp only [Instr.storeAt, Instr.sureAddr, Sem.run_bind, Sem.run_pure, Result.andThen]
  subst hn
  rw [run_storeVar_row _ _ 90 90 #[.int .u16 x0, .int .u16 x1, .int .u16 x2, .int .u16 x3, .int .u16 x4, .int .u16 x5, .int .u16 x6, .int .u16 x7, .int .i64 x8, .int .i64 x9, .int .i64 x10, .int .i64 x11, .int .i64 x12, .int .i64 x13, .int .i64 x14, .int .i64 x15] #[.int .u16 y0, .int .u16 y1, .int .u16 y2, .int .u16 y3, .int .u16 y4, .int .u16 y5, .int .u16 y6, .int .u16 y7, .int .i64 y8, .int .i64 y9, .int .i64 y10, .int .i64 y11, .int .i64 y12, .int .i64 y13, .int .i64 y14, .int .i64 y15] ((GA_heap _ _ _ (by simp only [World.size_alloc]; omega)).trans ((heap_below _ _ _ (by simp only [World.size_alloc]; omega)).trans ((heap_below _ _ _ (by simp only [World.size_alloc]; omega)).trans (heap_at W _)))) (by kernel_rfl) rfl (by simp [Value.oneCell'])]
  rw [GA_setRow _ _ _ _ (by simp only [World.size_alloc]; omega)]
  congr 2
  exact (setRow_below _ _ _ _ (by simp only [World.size_alloc]; omega)).trans (congrArg (fun w => World.alloc w _) ((setRow_below _ _ _ _ (by simp only [World.size_alloc]; omega)).trans (congrArg (fun w => World.alloc w _) (setRow_new W _ _ _))))
theorem scan_gld3 {n : Nat} (l : List Obj) (W : World) (x0 x1 x2 x3 x4 x5 x6 x7 x8 x9 x10 x11 x12 x13 x14 x15 : Int) (o1 o2 o3 : Obj) (hn : n = W.heap.size) :
    (loadVar 90 ⟨n, 0, none⟩).run Tryd.prog (GA l ((((W.alloc (.cells #[.int .u16 x0, .int .u16 x1, .int .u16 x2, .int .u16 x3, .int .u16 x4, .int .u16 x5, .int .u16 x6, .int .u16 x7, .int .i64 x8, .int .i64 x9, .int .i64 x10, .int .i64 x11, .int .i64 x12, .int .i64 x13, .int .i64 x14, .int .i64 x15] 90)).alloc o1).alloc o2).alloc o3)) = .ok (.agg #[.int .u16 x0, .int .u16 x1, .int .u16 x2, .int .u16 x3, .int .u16 x4, .int .u16 x5, .int .u16 x6, .int .u16 x7, .int .i64 x8, .int .i64 x9, .int .i64 x10, .int .i64 x11, .int .i64 x12, .int .i64 x13, .int .i64 x14, .int .i64 x15]) (GA l ((((W.alloc (.cells #[.int .u16 x0, .int .u16 x1, .int .u16 x2, .int .u16 x3, .int .u16 x4, .int .u16 x5, .int .u16 x6, .int .u16 x7, .int .i64 x8, .int .i64 x9, .int .i64 x10, .int .i64 x11, .int .i64 x12, .int .i64 x13, .int .i64 x14, .int .i64 x15] 90)).alloc o1).alloc o2).alloc o3)) := by
  subst hn
  exact run_loadVar_row _ _ 90 90 #[.int .u16 x0, .int .u16 x1, .int .u16 x2, .int .u16 x3, .int .u16 x4, .int .u16 x5, .int .u16 x6, .int .u16 x7, .int .i64 x8, .int .i64 x9, .int .i64 x10, .int .i64 x11, .int .i64 x12, .int .i64 x13, .int .i64 x14, .int .i64 x15] (0, 0) _ ((GA_heap _ _ _ (by simp only [World.size_alloc]; omega)).trans ((heap_below _ _ _ (by simp only [World.size_alloc]; omega)).trans ((heap_below _ _ _ (by simp only [World.size_alloc]; omega)).trans ((heap_below _ _ _ (by simp only [World.size_alloc]; omega)).trans (heap_at W _))))) Tryd.underlying90 rfl (by kernel_rfl)
@[go_sem] theorem loadS_g3 {n : Nat} (l : List Obj) (W : World) (x0 x1 x2 x3 x4 x5 x6 x7 x8 x9 x10 x11 x12 x13 x14 x15 : Int) (o1 o2 o3 : Obj) (hn : n = W.heap.size) :
    (loadS (.pointer (some ⟨n, 0, none⟩))).run Tryd.prog (GA l ((((W.alloc (.cells #[.int .u16 x0, .int .u16 x1, .int .u16 x2, .int .u16 x3, .int .u16 x4, .int .u16 x5, .int .u16 x6, .int .u16 x7, .int .i64 x8, .int .i64 x9, .int .i64 x10, .int .i64 x11, .int .i64 x12, .int .i64 x13, .int .i64 x14, .int .i64 x15] 90)).alloc o1).alloc o2).alloc o3)) = .ok (.agg #[.int .u16 x0, .int .u16 x1, .int .u16 x2, .int .u16 x3, .int .u16 x4, .int .u16 x5, .int .u16 x6, .int .u16 x7, .int .i64 x8, .int .i64 x9, .int .i64 x10, .int .i64 x11, .int .i64 x12, .int .i64 x13, .int .i64 x14, .int .i64 x15]) (GA l ((((W.alloc (.cells #[.int .u16 x0, .int .u16 x1, .int .u16 x2, .int .u16 x3, .int .u16 x4, .int .u16 x5, .int .u16 x6, .int .u16 x7, .int .i64 x8, .int .i64 x9, .int .i64 x10, .int .i64 x11, .int .i64 x12, .int .i64 x13, .int .i64 x14, .int .i64 x15] 90)).alloc o1).alloc o2).alloc o3)) := by
  unfold loadS
  simp only [Instr.loadAt, Instr.sureAddr, Sem.run_bind, Sem.run_pure, Result.andThen]
  exact scan_gld3 l W _ _ _ _ _ _ _ _ _ _ _ _ _ _ _ _ _ _ _ hn
@[go_sem] theorem storeS_g3 {n : Nat} (l : List Obj) (W : World) (x0 x1 x2 x3 x4 x5 x6 x7 x8 x9 x10 x11 x12 x13 x14 x15 y0 y1 y2 y3 y4 y5 y6 y7 y8 y9 y10 y11 y12 y13 y14 y15 : Int) (o1 o2 o3 : Obj) (hn : n = W.heap.size) :
    (storeS (.pointer (some ⟨n, 0, none⟩)) (.agg #[.int .u16 y0, .int .u16 y1, .int .u16 y2, .int .u16 y3, .int .u16 y4, .int .u16 y5, .int .u16 y6, .int .u16 y7, .int .i64 y8, .int .i64 y9, .int .i64 y10, .int .i64 y11, .int .i64 y12, .int .i64 y13, .int .i64 y14, .int .i64 y15])).run Tryd.prog (GA l ((((W.alloc (.cells #[.int .u16 x0, .int .u16 x1, .int .u16 x2, .int .u16 x3, .int .u16 x4, .int .u16 x5, .int .u16 x6, .int .u16 x7, .int .i64 x8, .int .i64 x9, .int .i64 x10, .int .i64 x11, .int .i64 x12, .int .i64 x13, .int .i64 x14, .int .i64 x15] 90)).alloc o1).alloc o2).alloc o3)) = .ok () (GA l ((((W.alloc (.cells #[.int .u16 y0, .int .u16 y1, .int .u16 y2, .int .u16 y3, .int .u16 y4, .int .u16 y5, .int .u16 y6, .int .u16 y7, .int .i64 y8, .int .i64 y9, .int .i64 y10, .int .i64 y11, .int .i64 y12, .int .i64 y13, .int .i64 y14, .int .i64 y15] 90)).alloc o1).alloc o2).alloc o3)) := by
  unfold storeS
  simp only [Instr.storeAt, Instr.sureAddr, Sem.run_bind, Sem.run_pure, Result.andThen]
  subst hn
  rw [run_storeVar_row _ _ 90 90 #[.int .u16 x0, .int .u16 x1, .int .u16 x2, .int .u16 x3, .int .u16 x4, .int .u16 x5, .int .u16 x6, .int .u16 x7, .int .i64 x8, .int .i64 x9, .int .i64 x10, .int .i64 x11, .int .i64 x12, .int .i64 x13, .int .i64 x14, .int .i64 x15] #[.int .u16 y0, .int .u16 y1, .int .u16 y2, .int .u16 y3, .int .u16 y4, .int .u16 y5, .int .u16 y6, .int .u16 y7, .int .i64 y8, .int .i64 y9, .int .i64 y10, .int .i64 y11, .int .i64 y12, .int .i64 y13, .int .i64 y14, .int .i64 y15] ((GA_heap _ _ _ (by simp only [World.size_alloc]; omega)).trans ((heap_below _ _ _ (by simp only [World.size_alloc]; omega)).trans ((heap_below _ _ _ (by simp only [World.size_alloc]; omega)).trans ((heap_below _ _ _ (by simp only [World.size_alloc]; omega)).trans (heap_at W _))))) (by kernel_rfl) rfl (by simp [Value.oneCell'])]
  rw [GA_setRow _ _ _ _ (by simp only [World.size_alloc]; omega)]
  congr 2
  exact (setRow_below _ _ _ _ (by simp only [World.size_alloc]; omega)).trans (congrArg (fun w => World.alloc w _) ((setRow_below _ _ _ _ (by simp only [World.size_alloc]; omega)).trans (congrArg (fun w => World.alloc w _) ((setRow_below _ _ _ _ (by simp only [World.size_alloc]; omega)).trans (congrArg (fun w => World.alloc w _) (setRow_new W _ _ _))))))
end Go.Proofs.YtcgdjnmfeibnoaaDoor
/-! SixScan -/
namespace Go.Proofs.YtcgdjnmfeibnoaaDoor
open Go.RowKit Go.Proofs.YtcgdjnmfeibnoaaDoorW.PrintWords Go.Proofs.YtcgdjnmfeibnoaaDoor.X
set_option linter.unusedVariables false
set_option linter.unusedSimpArgs false
/-- What was made or drawn behind a world: nothing else. -/
def Grw (w w' : World) : Prop := ∃ (m : Nat) (l : List Obj), w' = GA l (w.drewN m)
theorem Grw.refl (w : World) : Grw w w := ⟨0, [], by rw [GA_nil]; rfl⟩
theorem Grw.alloc {w W : World} (h : Grw w W) (o : Obj) : Grw w (W.alloc o) := by
  obtain ⟨m, l, rfl⟩ := h
  exact ⟨m, l ++ [o], by rw [GA_one, GA_GA]⟩
theorem Grw.ga {w W : World} (h : Grw w W) (l : List Obj) : Grw w (GA l W) := by
  obtain ⟨m, k, rfl⟩ := h
  exact ⟨m, k ++ l, by rw [GA_GA]⟩
theorem Grw.drewN {w W : World} (h : Grw w W) (n : Nat) : Grw w (W.drewN n) := by
  obtain ⟨m, k, rfl⟩ := h
  exact ⟨m + n, k, by rw [GA_drewN, World.drewN_drewN]⟩
theorem Grw.below {w W : World} (h : Grw w W) : Below w.heap.size w W := by
  obtain ⟨m, l, rfl⟩ := h
  exact GA_below_drew l w m
theorem Grw.trans {w W X : World} (h : Grw w W) (k : Grw W X) : Grw w X := by
  obtain ⟨m, l, rfl⟩ := k
  exact (h.drewN m).ga l
end Go.Proofs.YtcgdjnmfeibnoaaDoor
/-! SixWhole -/
namespace Go.Proofs.YtcgdjnmfeibnoaaDoor
open Go.RowKit Go.Proofs.YtcgdjnmfeibnoaaDoorW.PrintWords Go.Proofs.YtcgdjnmfeibnoaaDoor.X
set_option linter.unusedVariables false
set_option linter.unusedSimpArgs false
abbrev scC (x : Sc) : Array Value := #[.int .u16 (x.L 0), .int .u16 (x.L 1), .int .u16 (x.L 2), .int .u16 (x.L 3), .int .u16 (x.L 4), .int .u16 (x.L 5), .int .u16 (x.L 6), .int .u16 (x.L 7), .int .i64 x.N, .int .i64 x.skip, .int .i64 x.st, .int .i64 x.digs, .int .i64 x.val, .int .i64 x.ten, .int .i64 x.parts, .int .i64 x.four]
def ar8 (f : Nat → Int) : Array Value := #[.int .u16 (f 0), .int .u16 (f 1), .int .u16 (f 2), .int .u16 (f 3), .int .u16 (f 4), .int .u16 (f 5), .int .u16 (f 6), .int .u16 (f 7)]
theorem ar8_set (f : Nat → Int) (v : Int) : ∀ (n : Nat), n < 8 → (ar8 f).setIfInBounds n (.int .u16 v) = ar8 (fun j => if j = n then v else f j)
  | 0, _ => rfl | 1, _ => rfl | 2, _ => rfl | 3, _ => rfl | 4, _ => rfl | 5, _ => rfl | 6, _ => rfl | 7, _ => rfl
  | n + 8, h => absurd h (by omega)
theorem ar8_ext {f g : Nat → Int} (h : ∀ j, j < 8 → f j = g j) : ar8 f = ar8 g := by
  unfold ar8
  rw [h 0 (by decide), h 1 (by decide), h 2 (by decide), h 3 (by decide), h 4 (by decide), h 5 (by decide), h 6 (by decide), h 7 (by decide)]
structure LR (w : World) (y : Sc) (b1 b2 b5 : Nat) (f : Nat → Int) (W : World) : Prop where
  k1 : W.heap[b1]? = some (.cells (scC y) 90 (0, 0))
  k2 : W.heap[b2]? = some (.cells (ar8 fun _ => 0) 30 (0, 0))
  k5 : W.heap[b5]? = some (.cells (ar8 f) 30 (0, 0))
  l1 : w.heap.size ≤ b1
  l2 : w.heap.size ≤ b2
  l5 : w.heap.size ≤ b5
  n12 : b1 ≠ b2
  n15 : b1 ≠ b5
  n25 : b2 ≠ b5
  below : Below w.heap.size w W
theorem LR.put {w W : World} {y : Sc} {b1 b2 b5 : Nat} {f g : Nat → Int} (h : LR w y b1 b2 b5 f W) (n : Nat) (hn : n < 8) (v : Int) (hg : ∀ j, j < 8 → (if j = n then v else f j) = g j) : LR w y b1 b2 b5 g (W.setCell ⟨b5, n, none⟩ (.int .u16 v)) :=
  ⟨blk_far h.k1 h.n15 _, blk_far h.k2 h.n25 _, blk_put h.k5 n _ ((ar8_set f v n hn).trans (ar8_ext hg)), h.l1, h.l2, h.l5, h.n12, h.n15, h.n25, h.below.setCell h.l5 _⟩
theorem LR.drewN {w W : World} {y : Sc} {b1 b2 b5 : Nat} {f : Nat → Int} (h : LR w y b1 b2 b5 f W) (q : Nat) : LR w y b1 b2 b5 f (W.drewN q) :=
  ⟨h.k1, h.k2, h.k5, h.l1, h.l2, h.l5, h.n12, h.n15, h.n25, bdn h.below q⟩
theorem LR.drew {w W : World} {y : Sc} {b1 b2 b5 : Nat} {f : Nat → Int} (h : LR w y b1 b2 b5 f W) : LR w y b1 b2 b5 f W.drew := h.drewN 1
/-- The pieces ahead of the gap, and those behind it up to one. -/
def g2 (y : Sc) (K M m : Nat) : Nat → Int := fun j => if j < K then y.L j else if 8 + K ≤ j + M ∧ j + M < 8 + m then y.L (j + M - 8) else 0
end Go.Proofs.YtcgdjnmfeibnoaaDoor
/-! SixRefRun -/
namespace Go.Proofs.YtcgdjnmfeibnoaaDoor
open Go.RowKit Go.Proofs.YtcgdjnmfeibnoaaDoorW.PrintWords
set_option linter.unusedVariables false
set_option linter.unusedSimpArgs false
/-- How many noughts pieces begin with. -/
def zc : List Nat → Nat
  | [] => 0
  | p :: r => if p = 0 then zc r + 1 else 0
/-- The document's search. -/
def refGo : List Nat → Int → Int → Int → Int × Int
  | [], _, at_, most => (at_, most)
  | p :: r, i, at_, most => if most < (zc (p :: r) : Int) then refGo r (i + 1) i (zc (p :: r)) else refGo r (i + 1) at_ most
/-- The same over what alone counts: is a piece a nought? -/
def zcB : List Bool → Nat
  | [] => 0
  | p :: r => if p = true then zcB r + 1 else 0
def refGoB : List Bool → Int → Int → Int → Int × Int
  | [], _, at_, most => (at_, most)
  | p :: r, i, at_, most => if most < (zcB (p :: r) : Int) then refGoB r (i + 1) i (zcB (p :: r)) else refGoB r (i + 1) at_ most
def runGoB : List Bool → Int → Int → Int → Int → Int × Int
  | [], _, at_, most, _ => (at_, most)
  | p :: r, i, at_, most, from_ => if p = true then (if most < i + 1 - from_ then runGoB r (i + 1) from_ (i + 1 - from_) from_ else runGoB r (i + 1) at_ most from_) else runGoB r (i + 1) at_ most (i + 1)
def isN (p : Nat) : Bool := p == 0
theorem zc_b (l : List Nat) : zc l = zcB (l.map isN) := by
  induction l with
  | nil => rfl
  | cons p r ih =>
    rw [zc, List.map_cons, zcB, ih]
    unfold isN
    simp only [beq_iff_eq]
theorem refGo_b : ∀ (l : List Nat) (i a m : Int), refGo l i a m = refGoB (l.map isN) i a m
  | [], _, _, _ => rfl
  | p :: r, i, a, m => by
    rw [refGo, List.map_cons, refGoB, refGo_b r, refGo_b r, zc_b (p :: r), List.map_cons]
theorem runGo_b : ∀ (l : List Nat) (i a m f : Int), runGo l i a m f = runGoB (l.map isN) i a m f
  | [], _, _, _, _ => rfl
  | p :: r, i, a, m, f => by
    rw [runGo, List.map_cons, runGoB, runGo_b r, runGo_b r, runGo_b r]
    unfold isN
    simp only [beq_iff_eq]
theorem same8 : ∀ b0 b1 b2 b3 b4 b5 b6 b7 : Bool, refGoB [b0, b1, b2, b3, b4, b5, b6, b7] 0 (-1) 1 = runGoB [b0, b1, b2, b3, b4, b5, b6, b7] 0 (-1) 1 0 := by decide +kernel
theorem same6 : ∀ b0 b1 b2 b3 b4 b5 : Bool, refGoB [b0, b1, b2, b3, b4, b5] 0 (-1) 1 = runGoB [b0, b1, b2, b3, b4, b5] 0 (-1) 1 0 := by decide +kernel
theorem refGo8 (n0 n1 n2 n3 n4 n5 n6 n7 : Nat) : refGo [n0, n1, n2, n3, n4, n5, n6, n7] 0 (-1) 1 = runGo [n0, n1, n2, n3, n4, n5, n6, n7] 0 (-1) 1 0 := by
  rw [refGo_b, runGo_b]
  exact same8 _ _ _ _ _ _ _ _
theorem refGo6 (n0 n1 n2 n3 n4 n5 : Nat) : refGo [n0, n1, n2, n3, n4, n5] 0 (-1) 1 = runGo [n0, n1, n2, n3, n4, n5] 0 (-1) 1 0 := by
  rw [refGo_b, runGo_b]
  exact same6 _ _ _ _ _ _
theorem zc_le (l : List Nat) : zc l ≤ l.length := by
  induction l with
  | nil => exact Nat.le_refl _
  | cons p r ih =>
    rw [zc, List.length_cons]
    split <;> omega
theorem zc_at : ∀ (l : List Nat) (n : Nat), n < zc l → ∃ h : n < l.length, l[n] = 0
  | [], n, h => absurd h (by simp [zc])
  | p :: r, n, h => by
    rw [zc] at h
    split at h
    · rename_i hp
      cases n with
      | zero => exact ⟨by simp, hp⟩
      | succ n =>
        obtain ⟨a, b⟩ := zc_at r n (by omega)
        exact ⟨by simp; omega, b⟩
    · omega
theorem zc_end : ∀ (l : List Nat) (h : zc l < l.length), l[zc l] ≠ 0
  | [], h => absurd h (by simp)
  | p :: r, h => by
    have e : zc (p :: r) = if p = 0 then zc r + 1 else 0 := rfl
    by_cases hp : p = 0
    · rw [if_pos hp] at e
      have h2 : zc r < r.length := by rw [e] at h; simpa using h
      have := zc_end r h2
      simp only [e, List.getElem_cons_succ]
      exact this
    · rw [if_neg hp] at e
      simp only [e, List.getElem_cons_zero]
      exact hp
/-- What stands at the head of a round; of a round over a stretch. -/
def FRel (ys : List Nat) (a m i : Value) : Prop :=
  ∃ (n : Nat) (at_ most : Int), n ≤ ys.length ∧ i = .int .i64 n ∧ a = .int .i64 at_ ∧ m = .int .i64 most ∧ refGo ys 0 (-1) 1 = refGo (ys.drop n) n at_ most ∧ 1 ≤ most ∧ most ≤ 8
def ZRel (l : List Nat) (v : Value) : Prop := ∃ k : Nat, k ≤ zc l ∧ v = .int .i64 k
set_option maxHeartbeats 4000000 in
set_option maxRecDepth 100000 in
theorem refRun_walk (n0 n1 n2 n3 n4 n5 n6 n7 P : Nat) (hP : P ≤ 8) (ys : List Nat) (hy : ys = [n0, n1, n2, n3, n4, n5, n6, n7].take P) (hs : refGo ys 0 (-1) 1 = runGo ys 0 (-1) 1 0) (w : World) :
    Calls Tryd.prog 66 #[.agg #[.int .u16 (n0 : Int), .int .u16 (n1 : Int), .int .u16 (n2 : Int), .int .u16 (n3 : Int), .int .u16 (n4 : Int), .int .u16 (n5 : Int), .int .u16 (n6 : Int), .int .u16 (n7 : Int)], .int .i64 P] w fun e w' => e = .returned (.tuple #[.int .i64 (runL ys).1, .int .i64 (runL ys).2]) ∧ Below w.heap.size w w' := by
  have hyl : ys.length = P := by rw [hy, List.length_take]; simp; omega
  have hk : (w.alloc (.cells #[.int .u16 (n0 : Int), .int .u16 (n1 : Int), .int .u16 (n2 : Int), .int .u16 (n3 : Int), .int .u16 (n4 : Int), .int .u16 (n5 : Int), .int .u16 (n6 : Int), .int .u16 (n7 : Int)] 30)).heap[w.heap.size]? = some (.cells #[.int .u16 (n0 : Int), .int .u16 (n1 : Int), .int .u16 (n2 : Int), .int .u16 (n3 : Int), .int .u16 (n4 : Int), .int .u16 (n5 : Int), .int .u16 (n6 : Int), .int .u16 (n7 : Int)] 30 (0, 0)) := blk_new _ _
  have hB : Below w.heap.size w (w.alloc (.cells #[.int .u16 (n0 : Int), .int .u16 (n1 : Int), .int .u16 (n2 : Int), .int .u16 (n3 : Int), .int .u16 (n4 : Int), .int .u16 (n5 : Int), .int .u16 (n6 : Int), .int .u16 (n7 : Int)] 30)) := (Below.refl _ _).alloc (Nat.le_refl _) _
  have hc : ∀ j, j < ys.length → (w.alloc (.cells #[.int .u16 (n0 : Int), .int .u16 (n1 : Int), .int .u16 (n2 : Int), .int .u16 (n3 : Int), .int .u16 (n4 : Int), .int .u16 (n5 : Int), .int .u16 (n6 : Int), .int .u16 (n7 : Int)] 30)).cell? ⟨w.heap.size, j, none⟩ = some (.int .u16 ((ys.getD j 0 : Nat) : Int)) := by
    intro j h
    rw [blk_cell hk j]
    have e : ys.getD j 0 = [n0, n1, n2, n3, n4, n5, n6, n7].getD j 0 := by rw [hy, List.getD_eq_getElem?_getD, List.getElem?_take, if_pos (by omega), List.getD_eq_getElem?_getD]
    rw [e]
    have hj : j < 8 := by omega
    clear e h
    match j, hj with
    | 0, _ => rfl
    | 1, _ => rfl
    | 2, _ => rfl
    | 3, _ => rfl
    | 4, _ => rfl
    | 5, _ => rfl
    | 6, _ => rfl
    | 7, _ => rfl
    | j + 8, hj => exact absurd hj (by omega)
  have hlt : w.heap.size < (w.alloc (.cells #[.int .u16 (n0 : Int), .int .u16 (n1 : Int), .int .u16 (n2 : Int), .int .u16 (n3 : Int), .int .u16 (n4 : Int), .int .u16 (n5 : Int), .int .u16 (n6 : Int), .int .u16 (n7 : Int)] 30)).heap.size := blk_lt hk
  have HS := Lib.hid hs
  clear hs hk
  go_enter Tryd.func66, Tryd.ntmps66
  go_wp2_with fail
  generalize w.alloc (.cells #[.int .u16 (n0 : Int), .int .u16 (n1 : Int), .int .u16 (n2 : Int), .int .u16 (n3 : Int), .int .u16 (n4 : Int), .int .u16 (n5 : Int), .int .u16 (n6 : Int), .int .u16 (n7 : Int)] 30) = W at *
  have HC := Lib.hid hc
  have HB := Lib.hid hB
  clear hc hB
  subst hyl
  clear hy
  go_loop [6, 7, 8] (FRel ys) (fun _ _ i => ys.length - (intOf i).toNat)
  case atStart => exact ⟨0, -1, 1, Nat.zero_le _, rfl, rfl, rfl, rfl, by omega, by omega⟩
  case round =>
    obtain ⟨n, at_, most, hn, rfl, rfl, rfl, hr, hm1, hm8⟩ := hrel
    by_cases hl : n < ys.length
    · have hd := List.drop_eq_getElem_cons hl
      have hz := zc_le (ys.drop n)
      rw [List.length_drop] at hz
      have HR := Lib.hid hr
      have HD := Lib.hid hd
      clear hr hd
      go_wp2_with fail
      go_loop [9] (ZRel (ys.drop n)) (fun v => zc (ys.drop n) + 1 - (intOf v).toNat)
      case atStart => exact ⟨0, Nat.zero_le _, rfl⟩
      case round =>
        obtain ⟨k, hk, rfl⟩ := hrel
        have hnk : ((n : Int) + (k : Int)).toNat = n + k := by omega
        by_cases hkz : k < zc (ys.drop n)
        · have h0 : W.cell? ⟨w.heap.size, n + k, none⟩ = some (.int .u16 0) := by
            obtain ⟨h1, h2⟩ := zc_at _ k hkz
            rw [HC.out (n + k) (by omega), List.getD_eq_getElem?_getD, List.getElem?_eq_getElem (by omega)]
            rw [List.getElem_drop] at h2
            simp only [Option.getD_some, h2]
            rfl
          have hb1 : n + k < ys.length := by omega
          have hb2 : (n : Int) + (k : Int) < 8 := by omega
          have hb3 : (n : Int) + (k : Int) < (ys.length : Int) := by omega
          go_wp2_with fail
          refine ⟨⟨k + 1, by omega, by go_num⟩, by simp [intOf]; omega⟩
        · obtain rfl : k = zc (ys.drop n) := by omega
          have hout : n + zc (ys.drop n) < ys.length → ¬ ys.getD (n + zc (ys.drop n)) 0 = 0 := fun h e => by
            refine zc_end (ys.drop n) (by rw [List.length_drop]; omega) ?_
            rw [List.getElem_drop]
            rw [List.getD_eq_getElem?_getD, List.getElem?_eq_getElem h] at e
            exact e
          have hcz : n + zc (ys.drop n) < ys.length → W.cell? ⟨w.heap.size, n + zc (ys.drop n), none⟩ = some (.int .u16 ((ys.getD (n + zc (ys.drop n)) 0 : Nat) : Int)) := fun h => HC.out _ h
          have hnext : refGo ys 0 (-1) 1 = (if most < (zc (ys.drop n) : Int) then refGo (ys.drop (n + 1)) (n + 1) n (zc (ys.drop n)) else refGo (ys.drop (n + 1)) (n + 1) at_ most) := by
            rw [HR.out, HD.out, refGo]
          have HN := Lib.hid hnext
          clear hnext HR HD
          generalize zc (ys.drop n) = z at *
          generalize ys.getD (n + z) 0 = x at *
          by_cases hin : n + z < ys.length
          · have hc1 := hcz hin
            have hx : ((x : Int) == 0) = false := beq_eq_false_iff_ne.2 (fun e => hout hin (by omega))
            have hb2 : (n : Int) + (z : Int) < 8 := by omega
            have hb3 : (n : Int) + (z : Int) < (ys.length : Int) := by omega
            clear hcz hout
            by_cases hm : most < (z : Int)
            · go_wp2_with fail
              refine ⟨⟨n + 1, n, z, by omega, by go_num, rfl, rfl, by rw [HN.out, if_pos hm]; rfl, by omega, by omega⟩, by simp [intOf]; omega⟩
            · go_wp2_with fail
              refine ⟨⟨n + 1, at_, most, by omega, by go_num, rfl, rfl, by rw [HN.out, if_neg hm]; rfl, by omega, by omega⟩, by simp [intOf]; omega⟩
          · have hb3 : ¬ (n : Int) + (z : Int) < (ys.length : Int) := by omega
            clear hcz hout
            by_cases hm : most < (z : Int)
            · go_wp2_with fail
              refine ⟨⟨n + 1, n, z, by omega, by go_num, rfl, rfl, by rw [HN.out, if_pos hm]; rfl, by omega, by omega⟩, by simp [intOf]; omega⟩
            · go_wp2_with fail
              refine ⟨⟨n + 1, at_, most, by omega, by go_num, rfl, rfl, by rw [HN.out, if_neg hm]; rfl, by omega, by omega⟩, by simp [intOf]; omega⟩
    · obtain rfl : n = ys.length := by omega
      have hr' : runGo ys 0 (-1) 1 0 = (at_, most) := by
        rw [← HS.out, hr, List.drop_length]
        rfl
      have HR := Lib.hid hr'
      clear hr hr' hl
      by_cases hneg : at_ < 0
      · go_wp2_with fail
        go_returns
        refine ⟨?_, HB.out⟩
        unfold runL
        rw [HR.out, if_pos hneg]
        rfl
      · go_wp2_with fail
        go_returns
        refine ⟨?_, HB.out⟩
        unfold runL
        rw [HR.out, if_neg (by omega)]
        rfl
end Go.Proofs.YtcgdjnmfeibnoaaDoor
/-! X3 -/
namespace Go.Proofs.YtcgdjnmfeibnoaaDoor.X
open Go.RowKit Go.Proofs.YtcgdjnmfeibnoaaDoorW.PrintWords Go.Proofs.YtcgdjnmfeibnoaaDoorW.PrintLast Go.Proofs.YtcgdjnmfeibnoaaDoorW.PrintMore
attribute [local go_sem] max2_int min2_int max_two min_two max_three min_three max_four min_four
set_option linter.unusedVariables false
set_option linter.unusedSimpArgs false
def strings_HasSuffix.f (a0 : ByteArray) (a1 : ByteArray) : Option (Bool) := (stringslite_HasSuffix.f a0 a1).bind fun t152 => (some t152)
set_option maxHeartbeats 8000000 in
set_option maxRecDepth 100000 in
theorem strings_HasSuffix.calls (a0 : ByteArray) (a1 : ByteArray) (r : Bool) (w : World) (h : strings_HasSuffix.f a0 a1 = some r) :
    Calls Tryd.prog 72 #[.string a0, .string a1] w fun e w' => e = .returned (.bool r) ∧ Drawn0 w w' := by
  have H : ((stringslite_HasSuffix.f a0 a1).bind fun t152 => (some t152)) = some r := h
  clear h
  replace H := Option.bind_eq_some_iff.mp H
  obtain ⟨t152, A30, H⟩ := H
  replace H : (some t152) = some r := H
  have A3 := Aside0.mk A30
  clear A30
  obtain rfl := Option.some.inj H
  go_enter Tryd.func72, Tryd.ntmps72
  go_wp2_with (first | ((with_reducible refine gate_callee (f := 109) rfl ?_); refine goesL_ (some 7) rfl rfl Tryd.func109 (by kernel_rfl) rfl #[.string a0, .string a1] rfl (by (try simp only [List.map_toArray, List.map_cons, List.map_nil]); first | done | rfl | (simp only [List.length_drop, List.length_take]; rfl)) ?_; (with_reducible refine (stringslite_HasSuffix.calls a0 a1 t152 _ A3.out).mono ?_); rintro e w' ⟨rfl, ⟨nd, rfl⟩⟩; refine ⟨_, rfl, ?_⟩))
  go_ret
  exact ⟨by first | rfl | (simp; done) | (simp [*]; done), by repeat (first | exact Drawn0.refl _ | apply Drawn0.step)⟩
def six_low.f (a0_0 : Int) (a0_1 : Int) (a0_2 : Int) (a0_3 : Int) (a0_4 : Int) (a0_5 : Int) (a0_6 : Int) (a0_7 : Int) : Option (Int) := some (Go.bits .or .u32 ((((a0_6) % 4294967296) * 65536) % 4294967296) ((a0_7) % 4294967296))
set_option maxHeartbeats 8000000 in
set_option maxRecDepth 100000 in
theorem six_low.calls (a0_0 : Int) (a0_1 : Int) (a0_2 : Int) (a0_3 : Int) (a0_4 : Int) (a0_5 : Int) (a0_6 : Int) (a0_7 : Int) (r : Int) (w : World) (h : six_low.f a0_0 a0_1 a0_2 a0_3 a0_4 a0_5 a0_6 a0_7 = some r) :
    Calls Tryd.prog 74 #[.agg #[.int .u16 a0_0, .int .u16 a0_1, .int .u16 a0_2, .int .u16 a0_3, .int .u16 a0_4, .int .u16 a0_5, .int .u16 a0_6, .int .u16 a0_7]] w fun e w' => e = .returned (.int .u32 r) ∧ Below w.heap.size w w' := by
  have hu24 := Tryd.underlying24
  have HB := Aside0.mk (Below.refl w.heap.size w)
  have H : (some (Go.bits .or .u32 ((((a0_6) % 4294967296) * 65536) % 4294967296) ((a0_7) % 4294967296))) = some r := h
  clear h
  obtain rfl := Option.some.inj H
  go_enter Tryd.func74, Tryd.ntmps74
  go_wp2_with (first | ((with_reducible refine gate_dst (N := 1) rfl ?_); refine box_event ?hg (N := 1) ?hd (cs := #[.int .u16 a0_0, .int .u16 a0_1, .int .u16 a0_2, .int .u16 a0_3, .int .u16 a0_4, .int .u16 a0_5, .int .u16 a0_6, .int .u16 a0_7]) (t := 24) ?hr ?_; (case hd => rfl); (case hg => rfl); (case hr => first | (go_simp; done) | (go_simp; rfl)); intro gb158 hg w2 hbox hb; have n0_ := Aside0.mk (below_step (by repeat (first | (with_reducible first | exact HB.out | apply below_alloc | apply pw_below_drewN | apply below_drew1) | exact HB.out)) hb); have n1_ := Aside0.mk (hbox); have n2_ := Aside0.mk ((by rw [hg]; exact (below_size (by repeat (first | (with_reducible first | exact HB.out | apply below_alloc | apply pw_below_drewN | apply below_drew1) | exact HB.out))) : w.heap.size ≤ gb158)); have n3_ := Aside0.mk ((by rw [hg]; exact (below_size (by repeat (first | (with_reducible first | exact HB.out | apply below_alloc | apply pw_below_drewN | apply below_drew1) | exact HB.out))) : w.heap.size ≤ gb158)); clear HB; have HB := n0_; have BK158 := n1_; have GW158 := n2_; have GE158 := n3_; clear n0_ n1_ n2_ n3_; clear hb hbox hg; have hcz3_0 : w2.cell? ⟨gb158, 0, none⟩ = some (.int .u16 a0_0) := (blk_cell BK158.out 0).trans rfl; have hcz3_1 : w2.cell? ⟨gb158, 1, none⟩ = some (.int .u16 a0_1) := (blk_cell BK158.out 1).trans rfl; have hcz3_2 : w2.cell? ⟨gb158, 2, none⟩ = some (.int .u16 a0_2) := (blk_cell BK158.out 2).trans rfl; have hcz3_3 : w2.cell? ⟨gb158, 3, none⟩ = some (.int .u16 a0_3) := (blk_cell BK158.out 3).trans rfl; have hcz3_4 : w2.cell? ⟨gb158, 4, none⟩ = some (.int .u16 a0_4) := (blk_cell BK158.out 4).trans rfl; have hcz3_5 : w2.cell? ⟨gb158, 5, none⟩ = some (.int .u16 a0_5) := (blk_cell BK158.out 5).trans rfl; have hcz3_6 : w2.cell? ⟨gb158, 6, none⟩ = some (.int .u16 a0_6) := (blk_cell BK158.out 6).trans rfl; have hcz3_7 : w2.cell? ⟨gb158, 7, none⟩ = some (.int .u16 a0_7) := (blk_cell BK158.out 7).trans rfl; have hfz3_0 := blk_frozen BK158.out 0; have hfz3_1 := blk_frozen BK158.out 1; have hfz3_2 := blk_frozen BK158.out 2; have hfz3_3 := blk_frozen BK158.out 3; have hfz3_4 := blk_frozen BK158.out 4; have hfz3_5 := blk_frozen BK158.out 5; have hfz3_6 := blk_frozen BK158.out 6; have hfz3_7 := blk_frozen BK158.out 7))
  go_ret
  exact ⟨by first | rfl | (simp [errW_none, errW_some] <;> rfl) | (simp [*, errW_none, errW_some] <;> rfl), by repeat (first | (with_reducible first | exact HB.out | apply below_alloc | apply pw_below_drewN | apply below_drew1 | refine below_set ?_ GE158.out) | exact HB.out)⟩
def posternref21_hex.l0 : Nat → Int → Int → ByteArray → Int → Option (ByteArray)
  | 0, _, _, _, _ => none
  | k + 1, x0, x1, x5, x6 => if x6 < x1 then (if 0 ≤ (Int.tmod x0 16) then (if (Int.tmod x0 16) ≤ (IntKind.u16.wrap ((Int.tmod x0 16) + 1)) then (if (IntKind.u16.wrap ((Int.tmod x0 16) + 1)) ≤ 16 then (if ((⟨#[48, 49, 50, 51, 52, 53, 54, 55, 56, 57, 97, 98, 99, 100, 101, 102]⟩ : ByteArray).extract ((Int.tmod x0 16) : Int).toNat ((IntKind.u16.wrap ((Int.tmod x0 16) + 1)) : Int).toNat).size + x5.size ≤ 9223372036854775807 then (posternref21_hex.l0 k (IntKind.u16.wrap (Int.tdiv x0 16)) x1 (((⟨#[48, 49, 50, 51, 52, 53, 54, 55, 56, 57, 97, 98, 99, 100, 101, 102]⟩ : ByteArray).extract ((Int.tmod x0 16) : Int).toNat ((IntKind.u16.wrap ((Int.tmod x0 16) + 1)) : Int).toNat) ++ x5) (wrap64 (x6 + 1))) else (none)) else (none)) else (none)) else (none)) else (if x0 > 0 then (if 0 ≤ (Int.tmod x0 16) then (if (Int.tmod x0 16) ≤ (IntKind.u16.wrap ((Int.tmod x0 16) + 1)) then (if (IntKind.u16.wrap ((Int.tmod x0 16) + 1)) ≤ 16 then (if ((⟨#[48, 49, 50, 51, 52, 53, 54, 55, 56, 57, 97, 98, 99, 100, 101, 102]⟩ : ByteArray).extract ((Int.tmod x0 16) : Int).toNat ((IntKind.u16.wrap ((Int.tmod x0 16) + 1)) : Int).toNat).size + x5.size ≤ 9223372036854775807 then (posternref21_hex.l0 k (IntKind.u16.wrap (Int.tdiv x0 16)) x1 (((⟨#[48, 49, 50, 51, 52, 53, 54, 55, 56, 57, 97, 98, 99, 100, 101, 102]⟩ : ByteArray).extract ((Int.tmod x0 16) : Int).toNat ((IntKind.u16.wrap ((Int.tmod x0 16) + 1)) : Int).toNat) ++ x5) (wrap64 (x6 + 1))) else (none)) else (none)) else (none)) else (none)) else (some x5))
def posternref21_hex.f (k : Nat) (a0 : Int) (a1 : Int) : Option (ByteArray) := posternref21_hex.l0 k a0 a1 (⟨#[]⟩ : ByteArray) 0
set_option maxHeartbeats 8000000 in
set_option maxRecDepth 100000 in
theorem posternref21_hex.calls (k : Nat) (a0 : Int) (a1 : Int) (r : ByteArray) (w : World) (h : posternref21_hex.f k a0 a1 = some r) :
    Calls Tryd.prog 71 #[.int .u16 a0, .int .i64 a1] w fun e w' => e = .returned (.string r) ∧ Drawn0 w w' := by
  have H : (posternref21_hex.l0 k a0 a1 (⟨#[]⟩ : ByteArray) 0) = some r := h
  clear h
  have H' := Aside0.mk H
  clear H
  go_enter Tryd.func71, Tryd.ntmps71
  go_wp2
  go_loopg [0, 5, 6] k (fun kq v0 v5 v6 w' => ∃ (x0_1 : Int) (x5_1 : ByteArray) (x6_1 : Int), v0 = .int .u16 x0_1 ∧ v5 = .string x5_1 ∧ v6 = .int .i64 x6_1 ∧ Aside0 (posternref21_hex.l0 kq x0_1 a1 x5_1 x6_1 = some r) ∧ Aside0 (kq ≤ k) ∧ Drawn0 w w')
  case atStart => exact ⟨(a0), ((⟨#[]⟩ : ByteArray)), (0), (by first | rfl | (simp; done) | (simp [*]; done)), (by first | rfl | (simp; done) | (simp [*]; done)), (by first | rfl | (simp; done) | (simp [*]; done)), H', ⟨Nat.le_refl _⟩, by repeat (first | exact Drawn0.refl _ | apply Drawn0.step)⟩
  case round =>
    clear H'
    try clear p2
    obtain ⟨x0_1, x5_1, x6_1, rfl, rfl, rfl, HA, HK1, ⟨m1, rfl⟩⟩ := hrel
    cases gk with
    | zero => exact absurd HA.out (by simp [posternref21_hex.l0])
    | succ k1 =>
      have H := HA.out
      clear HA
      simp only [posternref21_hex.l0] at H
      by_cases c3 : x6_1 < a1
      · rw [if_pos c3] at H
        have c3b0 : decide (x6_1 < a1) = true := decide_eq_true c3
        clear c3
        obtain ⟨ji4, hji4⟩ : ∃ j_ : Int, (Int.tmod x0_1 16) = j_ := ⟨_, rfl⟩
        replace H : (if 0 ≤ (ji4) then (if (ji4) ≤ (IntKind.u16.wrap ((ji4) + 1)) then (if (IntKind.u16.wrap ((ji4) + 1)) ≤ 16 then (if ((⟨#[48, 49, 50, 51, 52, 53, 54, 55, 56, 57, 97, 98, 99, 100, 101, 102]⟩ : ByteArray).extract ((ji4) : Int).toNat ((IntKind.u16.wrap ((ji4) + 1)) : Int).toNat).size + x5_1.size ≤ 9223372036854775807 then (posternref21_hex.l0 k1 (IntKind.u16.wrap (Int.tdiv x0_1 16)) a1 (((⟨#[48, 49, 50, 51, 52, 53, 54, 55, 56, 57, 97, 98, 99, 100, 101, 102]⟩ : ByteArray).extract ((ji4) : Int).toNat ((IntKind.u16.wrap ((ji4) + 1)) : Int).toNat) ++ x5_1) (wrap64 (x6_1 + 1))) else (none)) else (none)) else (none)) else (none)) = some r := by first | (rw [hji4] at H; exact H) | (simp only [hji4] at H ⊢; exact H)
        by_cases c5 : 0 ≤ (ji4)
        · rw [if_pos c5] at H
          have c5b0 := eq_true c5
          have c5b1 : decide (0 ≤ (ji4)) = true := decide_eq_true c5
          clear c5
          by_cases c6 : (ji4) ≤ (IntKind.u16.wrap ((ji4) + 1))
          · rw [if_pos c6] at H
            have c6b0 := eq_true c6
            have c6b1 : decide ((ji4) ≤ (IntKind.u16.wrap ((ji4) + 1))) = true := decide_eq_true c6
            by_cases c7 : (IntKind.u16.wrap ((ji4) + 1)) ≤ 16
            · rw [if_pos c7] at H
              have c7b0 := eq_true c7
              have c7b1 : decide ((IntKind.u16.wrap ((ji4) + 1)) ≤ 16) = true := decide_eq_true c7
              by_cases c8 : ((⟨#[48, 49, 50, 51, 52, 53, 54, 55, 56, 57, 97, 98, 99, 100, 101, 102]⟩ : ByteArray).extract ((ji4) : Int).toNat ((IntKind.u16.wrap ((ji4) + 1)) : Int).toNat).size + x5_1.size ≤ 9223372036854775807
              · rw [if_pos c8] at H
                have c8b0 := eq_true c8
                have c8b1 : decide (((⟨#[48, 49, 50, 51, 52, 53, 54, 55, 56, 57, 97, 98, 99, 100, 101, 102]⟩ : ByteArray).extract ((ji4) : Int).toNat ((IntKind.u16.wrap ((ji4) + 1)) : Int).toNat).size + x5_1.size ≤ 9223372036854775807) = true := decide_eq_true c8
                try have c8b2 : (9223372036854775807 < ((⟨#[48, 49, 50, 51, 52, 53, 54, 55, 56, 57, 97, 98, 99, 100, 101, 102]⟩ : ByteArray).extract ((ji4) : Int).toNat ((IntKind.u16.wrap ((ji4) + 1)) : Int).toNat).size + x5_1.size) = False := eq_false (Nat.not_lt.2 c8)
                have H' := Aside0.mk H
                clear H
                go_wp2
                go_roundg k1
                case measure => have := HK1.out; omega
                case rel => exact ⟨(IntKind.u16.wrap (Int.tdiv x0_1 16)), (((⟨#[48, 49, 50, 51, 52, 53, 54, 55, 56, 57, 97, 98, 99, 100, 101, 102]⟩ : ByteArray).extract ((ji4) : Int).toNat ((IntKind.u16.wrap ((ji4) + 1)) : Int).toNat) ++ x5_1), (wrap64 (x6_1 + 1)), (by first | rfl | (simp; done) | (simp [*]; done)), (by first | rfl | (simp; done) | (simp only [← hji4] <;> (first | rfl | simp)) | (simp [*]; done)), (by first | rfl | (simp; done) | (simp [*]; done)), H', ⟨by have := HK1.out; omega⟩, by repeat (first | exact Drawn0.refl _ | apply Drawn0.step)⟩
              · rw [if_neg c8] at H
                exact absurd H (by simp)
            · rw [if_neg c7] at H
              exact absurd H (by simp)
          · rw [if_neg c6] at H
            exact absurd H (by simp)
        · rw [if_neg c5] at H
          exact absurd H (by simp)
      · rw [if_neg c3] at H
        have c3b0 : decide (x6_1 < a1) = false := decide_eq_false c3
        clear c3
        by_cases c9 : x0_1 > 0
        · rw [if_pos c9] at H
          have c9b0 : decide (0 < x0_1) = true := decide_eq_true c9
          clear c9
          obtain ⟨ji10, hji10⟩ : ∃ j_ : Int, (Int.tmod x0_1 16) = j_ := ⟨_, rfl⟩
          replace H : (if 0 ≤ (ji10) then (if (ji10) ≤ (IntKind.u16.wrap ((ji10) + 1)) then (if (IntKind.u16.wrap ((ji10) + 1)) ≤ 16 then (if ((⟨#[48, 49, 50, 51, 52, 53, 54, 55, 56, 57, 97, 98, 99, 100, 101, 102]⟩ : ByteArray).extract ((ji10) : Int).toNat ((IntKind.u16.wrap ((ji10) + 1)) : Int).toNat).size + x5_1.size ≤ 9223372036854775807 then (posternref21_hex.l0 k1 (IntKind.u16.wrap (Int.tdiv x0_1 16)) a1 (((⟨#[48, 49, 50, 51, 52, 53, 54, 55, 56, 57, 97, 98, 99, 100, 101, 102]⟩ : ByteArray).extract ((ji10) : Int).toNat ((IntKind.u16.wrap ((ji10) + 1)) : Int).toNat) ++ x5_1) (wrap64 (x6_1 + 1))) else (none)) else (none)) else (none)) else (none)) = some r := by first | (rw [hji10] at H; exact H) | (simp only [hji10] at H ⊢; exact H)
          by_cases c11 : 0 ≤ (ji10)
          · rw [if_pos c11] at H
            have c11b0 := eq_true c11
            have c11b1 : decide (0 ≤ (ji10)) = true := decide_eq_true c11
            clear c11
            by_cases c12 : (ji10) ≤ (IntKind.u16.wrap ((ji10) + 1))
            · rw [if_pos c12] at H
              have c12b0 := eq_true c12
              have c12b1 : decide ((ji10) ≤ (IntKind.u16.wrap ((ji10) + 1))) = true := decide_eq_true c12
              by_cases c13 : (IntKind.u16.wrap ((ji10) + 1)) ≤ 16
              · rw [if_pos c13] at H
                have c13b0 := eq_true c13
                have c13b1 : decide ((IntKind.u16.wrap ((ji10) + 1)) ≤ 16) = true := decide_eq_true c13
                by_cases c14 : ((⟨#[48, 49, 50, 51, 52, 53, 54, 55, 56, 57, 97, 98, 99, 100, 101, 102]⟩ : ByteArray).extract ((ji10) : Int).toNat ((IntKind.u16.wrap ((ji10) + 1)) : Int).toNat).size + x5_1.size ≤ 9223372036854775807
                · rw [if_pos c14] at H
                  have c14b0 := eq_true c14
                  have c14b1 : decide (((⟨#[48, 49, 50, 51, 52, 53, 54, 55, 56, 57, 97, 98, 99, 100, 101, 102]⟩ : ByteArray).extract ((ji10) : Int).toNat ((IntKind.u16.wrap ((ji10) + 1)) : Int).toNat).size + x5_1.size ≤ 9223372036854775807) = true := decide_eq_true c14
                  try have c14b2 : (9223372036854775807 < ((⟨#[48, 49, 50, 51, 52, 53, 54, 55, 56, 57, 97, 98, 99, 100, 101, 102]⟩ : ByteArray).extract ((ji10) : Int).toNat ((IntKind.u16.wrap ((ji10) + 1)) : Int).toNat).size + x5_1.size) = False := eq_false (Nat.not_lt.2 c14)
                  have H' := Aside0.mk H
                  clear H
                  go_wp2
                  go_roundg k1
                  case measure => have := HK1.out; omega
                  case rel => exact ⟨(IntKind.u16.wrap (Int.tdiv x0_1 16)), (((⟨#[48, 49, 50, 51, 52, 53, 54, 55, 56, 57, 97, 98, 99, 100, 101, 102]⟩ : ByteArray).extract ((ji10) : Int).toNat ((IntKind.u16.wrap ((ji10) + 1)) : Int).toNat) ++ x5_1), (wrap64 (x6_1 + 1)), (by first | rfl | (simp; done) | (simp [*]; done)), (by first | rfl | (simp; done) | (simp only [← hji10] <;> (first | rfl | simp)) | (simp [*]; done)), (by first | rfl | (simp; done) | (simp [*]; done)), H', ⟨by have := HK1.out; omega⟩, by repeat (first | exact Drawn0.refl _ | apply Drawn0.step)⟩
                · rw [if_neg c14] at H
                  exact absurd H (by simp)
              · rw [if_neg c13] at H
                exact absurd H (by simp)
            · rw [if_neg c12] at H
              exact absurd H (by simp)
          · rw [if_neg c11] at H
            exact absurd H (by simp)
        · rw [if_neg c9] at H
          have c9b0 : decide (0 < x0_1) = false := decide_eq_false c9
          clear c9
          obtain rfl := Option.some.inj H
          go_wp2
          go_ret
          exact ⟨by first | rfl | (simp; done) | (simp [*]; done), by repeat (first | exact Drawn0.refl _ | apply Drawn0.step)⟩
end Go.Proofs.YtcgdjnmfeibnoaaDoor.X
