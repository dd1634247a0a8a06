/- Several texts in one (wip/gen/pack.py): SixPz SixWide SixWide2 SixCover SixRng SixR8 SixRz SixSameZ AppRow SixGiven SixS8 SixBounds Itoa SixPfx SixPath SixRunV SixBackV SixRefWrV SixRefRun X4 SixRefHex SixRefWr Dec SixRefDec SixOneV SixRefPr SixPfxPr SixPfxBack SixComV SixCom SixRefCom SixRefPfx SixLawPfx SixEqP. -/
import Derived.Test.YtcgdjnmfeibnoaaGreatDoorPSY2
import Derived.Laws.Externs
import Derived.Lib.Hide
import Derived.Test.YtcgdjnmfeibnoaaGreatDoorPSY1
import Derived.Shelf.Spec.TrailingZeros
import Derived.Deep.LoopGhost
import Derived.Deep.Onto
import Derived.Laws.OwnMore
import Derived.Deep.WholeRow
import Derived.Test.YtcgdjnmfeibnoaaGreatDoorPSY0
import Derived.Deep.AppendLies
import Derived.Deep.RegionHeld3
import Derived.Laws.AppendOwnNone
import Derived.Lib.ItoaNum
import Derived.Lib.Join
import Derived.Lib.LastIndexByte
import Derived.Outline
import Derived.Lib.BitFns
import Derived.Laws.BitsAllLaws
/-! SixPz -/
namespace Go.Proofs.YtcgdjnmfeibnoaaGreatDoor
open Go.RowKit Go.Lib
set_option linter.unusedVariables false
set_option linter.unusedSimpArgs false
/-- A prefix: its address as a number, its bits. -/
structure Pz where
  a : Int
  n : Int
deriving Inhabited
/-- Its cells. -/
def zc (x : Pz) : List Value := [.int .u16 (pc 0 x.a), .int .u16 (pc 1 x.a), .int .u16 (pc 2 x.a), .int .u16 (pc 3 x.a), .int .u16 (pc 4 x.a), .int .u16 (pc 5 x.a), .int .u16 (pc 6 x.a), .int .u16 (pc 7 x.a), .int .i64 x.n]
/-- The number that its pieces say. -/
def Pz.v (x : Pz) : Int := V8 (pc 0 x.a) (pc 1 x.a) (pc 2 x.a) (pc 3 x.a) (pc 4 x.a) (pc 5 x.a) (pc 6 x.a) (pc 7 x.a)
theorem Pz.v_wide {x : Pz} (h : Wide x.a) : x.v = x.a := pc_v8 h
def isZ (x : Pz) : Bool := isPre x.v x.n
theorem zc_one (x : Pz) : ∀ v ∈ zc x, v.oneCell' = true := by
  intro v hv
  simp [zc] at hv
  rcases hv with rfl | rfl | rfl | rfl | rfl | rfl | rfl | rfl | rfl <;> rfl
end Go.Proofs.YtcgdjnmfeibnoaaGreatDoor
/-! SixWide -/
namespace Go.Proofs.YtcgdjnmfeibnoaaGreatDoor
open Go.RowKit
set_option linter.unusedVariables false
set_option linter.unusedSimpArgs false
/-- The number of four pieces. -/
def Q4 (x0 x1 x2 x3 : Int) : Int := ((x0 * 65536 + x1) * 65536 + x2) * 65536 + x3
abbrev W2 (h l : Int) : Value := .agg #[.int .u64 h, .int .u64 l]
/-- A word of 64 bits. -/
def Word (x : Int) : Prop := 0 ≤ x ∧ x < 18446744073709551616
/-- The number of two words. -/
def N2 (h l : Int) : Int := h * 18446744073709551616 + l
@[go_sem] theorem at8_0 (x0 x1 x2 x3 x4 x5 x6 x7 : Int) (w : World) : (Instr.index 24 (A8 x0 x1 x2 x3 x4 x5 x6 x7) (.int .i64 0)).run Tryz.prog w = .ok (.int .u16 x0) w := by
  change _ = _
  kernel_rfl
@[go_sem] theorem at8_1 (x0 x1 x2 x3 x4 x5 x6 x7 : Int) (w : World) : (Instr.index 24 (A8 x0 x1 x2 x3 x4 x5 x6 x7) (.int .i64 1)).run Tryz.prog w = .ok (.int .u16 x1) w := by
  change _ = _
  kernel_rfl
@[go_sem] theorem at8_2 (x0 x1 x2 x3 x4 x5 x6 x7 : Int) (w : World) : (Instr.index 24 (A8 x0 x1 x2 x3 x4 x5 x6 x7) (.int .i64 2)).run Tryz.prog w = .ok (.int .u16 x2) w := by
  change _ = _
  kernel_rfl
@[go_sem] theorem at8_3 (x0 x1 x2 x3 x4 x5 x6 x7 : Int) (w : World) : (Instr.index 24 (A8 x0 x1 x2 x3 x4 x5 x6 x7) (.int .i64 3)).run Tryz.prog w = .ok (.int .u16 x3) w := by
  change _ = _
  kernel_rfl
@[go_sem] theorem at8_4 (x0 x1 x2 x3 x4 x5 x6 x7 : Int) (w : World) : (Instr.index 24 (A8 x0 x1 x2 x3 x4 x5 x6 x7) (.int .i64 4)).run Tryz.prog w = .ok (.int .u16 x4) w := by
  change _ = _
  kernel_rfl
@[go_sem] theorem at8_5 (x0 x1 x2 x3 x4 x5 x6 x7 : Int) (w : World) : (Instr.index 24 (A8 x0 x1 x2 x3 x4 x5 x6 x7) (.int .i64 5)).run Tryz.prog w = .ok (.int .u16 x5) w := by
  change _ = _
  kernel_rfl
@[go_sem] theorem at8_6 (x0 x1 x2 x3 x4 x5 x6 x7 : Int) (w : World) : (Instr.index 24 (A8 x0 x1 x2 x3 x4 x5 x6 x7) (.int .i64 6)).run Tryz.prog w = .ok (.int .u16 x6) w := by
  change _ = _
  kernel_rfl
@[go_sem] theorem at8_7 (x0 x1 x2 x3 x4 x5 x6 x7 : Int) (w : World) : (Instr.index 24 (A8 x0 x1 x2 x3 x4 x5 x6 x7) (.int .i64 7)).run Tryz.prog w = .ok (.int .u16 x7) w := by
  change _ = _
  kernel_rfl
theorem nat_or_add (k x y : Nat) (hx : x % 2 ^ k = 0) (hy : y < 2 ^ k) : x ||| y = x + y := nat_join k x y hx hy
theorem or16_64 (h x : Int) (h0 : 0 ≤ h) (h1 : h < 281474976710656) (x0 : 0 ≤ x) (x1 : x ≤ 65535) : bits .or .u64 (IntKind.u64.wrap (h * 65536)) (IntKind.u64.wrap x) = h * 65536 + x := by
  rw [IntKind.wrap_u64, IntKind.wrap_u64, show h * 65536 % 18446744073709551616 = h * 65536 from by omega, show x % 18446744073709551616 = x from by omega, u64_or _ _ (by omega) (by omega) (by omega) (by omega)]
  obtain ⟨a, rfl⟩ := Int.eq_ofNat_of_zero_le h0
  obtain ⟨b, rfl⟩ := Int.eq_ofNat_of_zero_le x0
  rw [show ((a : Int) * 65536).toNat = a * 65536 from by omega, Int.toNat_natCast, nat_join16 _ _ (by omega) (by omega)]
  omega
theorem or0_64 (x : Int) (x0 : 0 ≤ x) (x1 : x ≤ 65535) : bits .or .u64 0 (IntKind.u64.wrap x) = x := by
  have := or16_64 0 x (by omega) (by omega) x0 x1
  simpa [IntKind.wrap_u64] using this
theorem or_q4 (x0 x1 x2 x3 : Int) (h0 : 0 ≤ x0 ∧ x0 ≤ 65535) (h1 : 0 ≤ x1 ∧ x1 ≤ 65535) (h2 : 0 ≤ x2 ∧ x2 ≤ 65535) (h3 : 0 ≤ x3 ∧ x3 ≤ 65535) :
    bits .or .u64 (IntKind.u64.wrap (bits .or .u64 (IntKind.u64.wrap (bits .or .u64 (IntKind.u64.wrap (bits .or .u64 0 (IntKind.u64.wrap x0) * 65536)) (IntKind.u64.wrap x1) * 65536)) (IntKind.u64.wrap x2) * 65536)) (IntKind.u64.wrap x3) = Q4 x0 x1 x2 x3 := by
  rw [or0_64 x0 h0.1 h0.2, or16_64 _ _ (by omega) (by omega) h1.1 h1.2, or16_64 _ _ (by omega) (by omega) h2.1 h2.2, or16_64 _ _ (by omega) (by omega) h3.1 h3.2]
  rfl
theorem q4_word {x0 x1 x2 x3 : Int} (h0 : 0 ≤ x0 ∧ x0 ≤ 65535) (h1 : 0 ≤ x1 ∧ x1 ≤ 65535) (h2 : 0 ≤ x2 ∧ x2 ≤ 65535) (h3 : 0 ≤ x3 ∧ x3 ≤ 65535) : Word (Q4 x0 x1 x2 x3) := by unfold Word Q4; omega
theorem n2_v8 (x0 x1 x2 x3 x4 x5 x6 x7 : Int) : N2 (Q4 x0 x1 x2 x3) (Q4 x4 x5 x6 x7) = V8 x0 x1 x2 x3 x4 x5 x6 x7 := by unfold N2 Q4 V8; omega
theorem ret_two {a b c d : Int} (h1 : a = c) (h2 : b = d) : Ending.returned (W2 a b) = .returned (W2 c d) := by rw [h1, h2]
set_option maxHeartbeats 4000000 in
set_option maxRecDepth 100000 in
theorem wideOf_walk (x0 x1 x2 x3 x4 x5 x6 x7 : Int) (h : R8 x0 x1 x2 x3 x4 x5 x6 x7) (w : World) :
    Calls Tryz.prog 23 #[A8 x0 x1 x2 x3 x4 x5 x6 x7] w fun e w' => e = .returned (W2 (Q4 x0 x1 x2 x3) (Q4 x4 x5 x6 x7)) ∧ Below w.heap.size w w' := by
  go_enter Tryz.func23, Tryz.ntmps23
  go_wp2
  refine wp_loop_rounds 9 ?_
  iterate 8 (rw [rounds_succ]; go_wp2)
  rw [rounds_succ]
  go_wp2
  go_returns
  exact ⟨ret_two (or_q4 _ _ _ _ h.h0 h.h1 h.h2 h.h3) (or_q4 _ _ _ _ h.h4 h.h5 h.h6 h.h7), by go_grown⟩
/-- One piece is taken off at the right. -/
theorem or48 (h l : Int) (hh : Word h) (hl : Word l) : bits .or .u64 (l / 65536) (IntKind.u64.wrap (h * 281474976710656)) = h % 65536 * 281474976710656 + l / 65536 := by
  obtain ⟨h0, h1⟩ := hh
  obtain ⟨l0, l1⟩ := hl
  rw [IntKind.wrap_u64, show h * 281474976710656 % 18446744073709551616 = h % 65536 * 281474976710656 from by omega, u64_or _ _ (by omega) (by omega) (by omega) (by omega)]
  obtain ⟨a, rfl⟩ := Int.eq_ofNat_of_zero_le h0
  obtain ⟨b, rfl⟩ := Int.eq_ofNat_of_zero_le l0
  rw [show ((a : Int) % 65536 * 281474976710656).toNat = a % 65536 * 281474976710656 from by omega, show ((b : Int) / 65536).toNat = b / 65536 from by omega, Nat.or_comm, nat_or_add 48 _ _ (by omega) (by omega)]
  omega
theorem shr_step {h l h' l' : Int} (hh : Word h) (hl : Word l) (e1 : h / 65536 = h') (e2 : h % 65536 * 281474976710656 + l / 65536 = l') : Word h' ∧ Word l' ∧ N2 h l = N2 h' l' * 65536 + l % 65536 := by
  obtain ⟨h0, h1⟩ := hh
  obtain ⟨l0, l1⟩ := hl
  unfold Word N2
  omega
set_option maxHeartbeats 4000000 in
set_option maxRecDepth 100000 in
theorem wsix_walk (h0 l0 : Int) (hh0 : Word h0) (hl0 : Word l0) (w : World) :
    Calls Tryz.prog 25 #[W2 h0 l0] w fun e w' => ∃ y0 y1 y2 y3 y4 y5 y6 y7 : Int, e = .returned (A8 y0 y1 y2 y3 y4 y5 y6 y7) ∧ R8 y0 y1 y2 y3 y4 y5 y6 y7 ∧ V8 y0 y1 y2 y3 y4 y5 y6 y7 = N2 h0 l0 ∧ Below w.heap.size w w' := by
  go_enter Tryz.func25, Tryz.ntmps25
  go_wp2
  refine wp_loop_rounds 9 ?_
  rw [rounds_succ]
  go_wp2
  rw [or48 h0 l0 hh0 hl0]
  generalize e0 : h0 / 65536 = h1
  generalize f0 : h0 % 65536 * 281474976710656 + l0 / 65536 = l1
  obtain ⟨hh1, hl1, g0⟩ := shr_step hh0 hl0 e0 f0
  clear e0 f0
  have G0 := Lib.hid g0
  clear g0
  rw [rounds_succ]
  go_wp2
  rw [or48 h1 l1 hh1 hl1]
  generalize e1 : h1 / 65536 = h2
  generalize f1 : h1 % 65536 * 281474976710656 + l1 / 65536 = l2
  obtain ⟨hh2, hl2, g1⟩ := shr_step hh1 hl1 e1 f1
  clear e1 f1
  have G1 := Lib.hid g1
  clear g1
  rw [rounds_succ]
  go_wp2
  rw [or48 h2 l2 hh2 hl2]
  generalize e2 : h2 / 65536 = h3
  generalize f2 : h2 % 65536 * 281474976710656 + l2 / 65536 = l3
  obtain ⟨hh3, hl3, g2⟩ := shr_step hh2 hl2 e2 f2
  clear e2 f2
  have G2 := Lib.hid g2
  clear g2
  rw [rounds_succ]
  go_wp2
  rw [or48 h3 l3 hh3 hl3]
  generalize e3 : h3 / 65536 = h4
  generalize f3 : h3 % 65536 * 281474976710656 + l3 / 65536 = l4
  obtain ⟨hh4, hl4, g3⟩ := shr_step hh3 hl3 e3 f3
  clear e3 f3
  have G3 := Lib.hid g3
  clear g3
  rw [rounds_succ]
  go_wp2
  rw [or48 h4 l4 hh4 hl4]
  generalize e4 : h4 / 65536 = h5
  generalize f4 : h4 % 65536 * 281474976710656 + l4 / 65536 = l5
  obtain ⟨hh5, hl5, g4⟩ := shr_step hh4 hl4 e4 f4
  clear e4 f4
  have G4 := Lib.hid g4
  clear g4
  rw [rounds_succ]
  go_wp2
  rw [or48 h5 l5 hh5 hl5]
  generalize e5 : h5 / 65536 = h6
  generalize f5 : h5 % 65536 * 281474976710656 + l5 / 65536 = l6
  obtain ⟨hh6, hl6, g5⟩ := shr_step hh5 hl5 e5 f5
  clear e5 f5
  have G5 := Lib.hid g5
  clear g5
  rw [rounds_succ]
  go_wp2
  rw [or48 h6 l6 hh6 hl6]
  generalize e6 : h6 / 65536 = h7
  generalize f6 : h6 % 65536 * 281474976710656 + l6 / 65536 = l7
  obtain ⟨hh7, hl7, g6⟩ := shr_step hh6 hl6 e6 f6
  clear e6 f6
  have G6 := Lib.hid g6
  clear g6
  rw [rounds_succ]
  go_wp2
  rw [or48 h7 l7 hh7 hl7]
  generalize e7 : h7 / 65536 = h8
  generalize f7 : h7 % 65536 * 281474976710656 + l7 / 65536 = l8
  obtain ⟨hh8, hl8, g7⟩ := shr_step hh7 hl7 e7 f7
  clear e7 f7
  have G7 := Lib.hid g7
  clear g7
  rw [rounds_succ]
  go_wp2
  go_returns
  refine ⟨_, _, _, _, _, _, _, _, rfl, ?_, ?_, by go_grown⟩
  · simp only [IntKind.wrap_u16]
    constructor <;> omega
  · simp only [IntKind.wrap_u16]
    have g0 := G0.out
    have g1 := G1.out
    have g2 := G2.out
    have g3 := G3.out
    have g4 := G4.out
    have g5 := G5.out
    have g6 := G6.out
    have g7 := G7.out
    obtain ⟨_, _⟩ := hh0
    obtain ⟨_, _⟩ := hl0
    have z : N2 h8 l8 = 0 := by
      unfold N2 at *
      unfold Word at *
      omega
    rw [z] at g7
    unfold V8
    omega
end Go.Proofs.YtcgdjnmfeibnoaaGreatDoor
/-! SixWide2 -/
namespace Go.Proofs.YtcgdjnmfeibnoaaGreatDoor
open Go.RowKit
set_option linter.unusedVariables false
set_option linter.unusedSimpArgs false
/-- The library's table stands as it was laid. -/
def Tab (w : World) : Prop := TabAt 5 Lib.deBruijn64tab w
theorem Tab.keep {w W : World} {B : Nat} (h : Tab w) (hg : 5 < B) (hb : Below B w W) : Tab W := fun j hj => (hb.cell (p := ⟨5, j, none⟩) hg).trans (h j hj)
theorem n2_mod_low {h l : Int} {t : Nat} (ht : t ≤ 64) : N2 h l % 2 ^ t = l % 2 ^ t := by
  unfold N2
  have : (18446744073709551616 : Int) = 2 ^ t * 2 ^ (64 - t) := by
    rw [← Int.pow_add, show t + (64 - t) = 64 from by omega]; rfl
  rw [this, show h * (2 ^ t * 2 ^ (64 - t)) = 2 ^ t * (h * 2 ^ (64 - t)) from by ac_rfl, Int.mul_add_emod_self_left]
theorem n2_mod_high {h l : Int} {t : Nat} (hl : Word l) : N2 h l % 2 ^ (64 + t) = N2 (h % 2 ^ t) l := by
  obtain ⟨l0, l1⟩ := hl
  have hp := pow_pos2 t
  unfold N2
  have e1 : (2 : Int) ^ (64 + t) = 2 ^ t * 18446744073709551616 := by rw [Nat.add_comm, Int.pow_add]; rfl
  have e2 := Int.mul_ediv_add_emod h (2 ^ t)
  have h3 := Int.emod_nonneg h (show (2 : Int) ^ t ≠ 0 by omega)
  have h4 := Int.emod_lt_of_pos h hp
  have e : h * 18446744073709551616 + l = (h % 2 ^ t * 18446744073709551616 + l) + 2 ^ t * 18446744073709551616 * (h / 2 ^ t) := by
    have : h * 18446744073709551616 = (2 ^ t * (h / 2 ^ t) + h % 2 ^ t) * 18446744073709551616 := by rw [e2]
    rw [this, Int.add_mul]
    have : 2 ^ t * (h / 2 ^ t) * 18446744073709551616 = 2 ^ t * 18446744073709551616 * (h / 2 ^ t) := by ac_rfl
    omega
  rw [e1, e, Int.add_mul_emod_self_left]
  apply Int.emod_eq_of_lt
  · omega
  · have : h % 2 ^ t + 1 ≤ 2 ^ t := by omega
    have := Int.mul_le_mul_of_nonneg_right this (show (0 : Int) ≤ 18446744073709551616 by decide)
    rw [Int.add_mul] at this
    omega
theorem pow_lt64 {t : Nat} (h : t < 64) : (2 : Int) ^ t ≤ 9223372036854775808 := by
  have := Nat.pow_le_pow_right (n := 2) (by omega) (show t ≤ 63 by omega)
  have h : ((2 ^ t : Nat) : Int) ≤ ((2 ^ 63 : Nat) : Int) := by exact_mod_cast this
  simpa using h
theorem or_tail (x : Int) (t : Nat) (hx : Word x) (ht : t ≤ 64) (hz : x % 2 ^ t = 0) : bits .or .u64 x (2 ^ t - 1) = x + (2 ^ t - 1) := by
  obtain ⟨x0, x1⟩ := hx
  have hp := pow_pos2 t
  have hl : (2 : Int) ^ t ≤ 18446744073709551616 := by
    have := Nat.pow_le_pow_right (n := 2) (by omega) ht
    have h : ((2 ^ t : Nat) : Int) ≤ ((2 ^ 64 : Nat) : Int) := by exact_mod_cast this
    simpa using h
  obtain ⟨a, rfl⟩ := Int.eq_ofNat_of_zero_le x0
  have e : (2 : Int) ^ t = ((2 ^ t : Nat) : Int) := by simp
  rw [e] at hz hl hp ⊢
  have hz' : a % 2 ^ t = 0 := by exact_mod_cast hz
  rw [u64_or _ _ x0 x1 (by omega) (by omega), show (((2 ^ t : Nat) : Int) - 1).toNat = 2 ^ t - 1 from by omega, Int.toNat_natCast, nat_or_add t _ _ hz' (by omega)]
  omega
theorem wrap_tail {t : Nat} (ht : t ≤ 64) : IntKind.u64.wrap (IntKind.u64.wrap (2 ^ t) - 1) = 2 ^ t - 1 := by
  have hp := pow_pos2 t
  rw [IntKind.wrap_u64, IntKind.wrap_u64]
  by_cases h : t = 64
  · subst h; decide
  · have := pow_lt64 (t := t) (by omega)
    omega
/-- The lowest n bits set. -/
def TailPost (n : Int) (w : World) (e : Ending) (w' : World) : Prop :=
  e = .returned (if 64 ≤ n then W2 (2 ^ (n - 64).toNat - 1) 18446744073709551615 else W2 0 (2 ^ n.toNat - 1)) ∧ Below w.heap.size w w'
set_option maxHeartbeats 1000000 in
set_option maxRecDepth 100000 in
theorem tail_walk (n : Int) (n0 : 0 ≤ n) (n1 : n ≤ 128) (w : World) : Calls Tryz.prog 43 #[.int .i64 n] w (TailPost n w) := by
  by_cases h : 64 ≤ n
  · unfold TailPost
    rw [if_pos h]
    go_enter Tryz.func43, Tryz.ntmps43
    go_wp2
    go_returns
    refine ⟨ret_two (wrap_tail (by omega)) rfl, by go_grown⟩
  · unfold TailPost
    rw [if_neg h]
    go_enter Tryz.func43, Tryz.ntmps43
    go_wp2
    go_returns
    refine ⟨ret_two rfl (wrap_tail (by omega)), by go_grown⟩
/-- What last answers: the last of the addresses of a prefix. -/
def LastPost (v n : Int) (w : World) (e : Ending) (w' : World) : Prop :=
  ∃ k m : Int, e = .returned (W2 k m) ∧ Word k ∧ Word m ∧ N2 k m = v + 2 ^ (128 - n).toNat - 1 ∧ Below w.heap.size w w'
theorem n2_zero {h l : Int} {t : Nat} (hl : Word l) (hz : N2 (h % 2 ^ t) l = 0) : h % 2 ^ t = 0 ∧ l = 0 := by
  obtain ⟨l0, l1⟩ := hl
  have hp := pow_pos2 t
  have h3 := Int.emod_nonneg h (show (2 : Int) ^ t ≠ 0 by omega)
  unfold N2 at hz
  omega
theorem tail_room {x : Int} {t : Nat} (hx : Word x) (ht : t ≤ 64) (hz : x % 2 ^ t = 0) : x + 2 ^ t ≤ 18446744073709551616 ∧ Word (x + (2 ^ t - 1)) := by
  obtain ⟨x0, x1⟩ := hx
  have hp := pow_pos2 t
  have hq := pow_pos2 (64 - t)
  have e : (18446744073709551616 : Int) = 2 ^ t * 2 ^ (64 - t) := by
    rw [← Int.pow_add, show t + (64 - t) = 64 from by omega]; rfl
  have e2 := Int.mul_ediv_add_emod x (2 ^ t)
  rw [hz, Int.add_zero] at e2
  have e3 : x / 2 ^ t < 2 ^ (64 - t) := by
    apply Int.lt_of_mul_lt_mul_left (a := 2 ^ t) _ (Int.le_of_lt hp)
    rw [e2, ← e]; exact x1
  have e4 := Int.mul_le_mul_of_nonneg_left (show x / 2 ^ t + 1 ≤ 2 ^ (64 - t) by omega) (Int.le_of_lt hp)
  rw [Int.mul_add, e2, ← e, Int.mul_one] at e4
  exact ⟨e4, by omega, by omega⟩
theorem or_all : bits .or .u64 0 18446744073709551615 = 18446744073709551615 := by decide
theorem or_none (x : Int) (hx : Word x) : bits .or .u64 x 0 = x := by
  have := or_tail x 0 hx (by omega) (by simp)
  simpa using this
theorem two_at0 {w : World} {b : Nat} {x y : Value} (h0 : w.cell? ⟨b, 0, none⟩ = some x) (h1 : w.cell? ⟨b, 1, none⟩ = some y) (hb : b < w.heap.size) (u v : Value) (o : Obj) :
    (((w.setCell ⟨b, 0, none⟩ u).setCell ⟨b, 1, none⟩ v).alloc o).cell? ⟨b, 0, none⟩ = some u := by
  have hB : Below (w.setCell ⟨b, 0, none⟩ u |>.setCell ⟨b, 1, none⟩ v).heap.size (w.setCell ⟨b, 0, none⟩ u |>.setCell ⟨b, 1, none⟩ v) (((w.setCell ⟨b, 0, none⟩ u).setCell ⟨b, 1, none⟩ v).alloc o) := (Below.refl _ _).alloc (Nat.le_refl _) _
  rw [hB.cell (p := ⟨b, 0, none⟩) (by simp only [World.size_setCell]; exact hb), World.cell?_setCell_other _ _ _ _ (by simp), World.cell?_setCell_same _ _ _ h0]
theorem two_at1 {w : World} {b : Nat} {x y : Value} (h0 : w.cell? ⟨b, 0, none⟩ = some x) (h1 : w.cell? ⟨b, 1, none⟩ = some y) (hb : b < w.heap.size) (u v : Value) (o : Obj) :
    (((w.setCell ⟨b, 0, none⟩ u).setCell ⟨b, 1, none⟩ v).alloc o).cell? ⟨b, 1, none⟩ = some v := by
  have hB : Below (w.setCell ⟨b, 0, none⟩ u |>.setCell ⟨b, 1, none⟩ v).heap.size (w.setCell ⟨b, 0, none⟩ u |>.setCell ⟨b, 1, none⟩ v) (((w.setCell ⟨b, 0, none⟩ u).setCell ⟨b, 1, none⟩ v).alloc o) := (Below.refl _ _).alloc (Nat.le_refl _) _
  rw [hB.cell (p := ⟨b, 1, none⟩) (by simp only [World.size_setCell]; exact hb)]
  exact World.cell?_setCell_same (u := y) _ _ _ ((World.cell?_setCell_other _ _ _ _ (by simp)).trans h1)
set_option maxHeartbeats 1000000 in
set_option maxRecDepth 100000 in
theorem wlast_walk (h l n : Int) (hh : Word h) (hl : Word l) (n0 : 0 ≤ n) (n1 : n ≤ 128) (hz : N2 h l % 2 ^ (128 - n).toNat = 0) (w : World) :
    Calls Tryz.prog 24 #[W2 h l, .int .i64 n] w (LastPost (N2 h l) n w) := by
  have hT := tail_walk (128 - n) (by omega) (by omega)
  by_cases h64 : 64 ≤ 128 - n
  · unfold TailPost at hT
    rw [if_pos h64] at hT
    have HT := Lib.hid hT
    clear hT
    go_enter Tryz.func24, Tryz.ntmps24
    go_wp2_with fail
    refine (HT.out _).mono ?_
    rintro e w1 ⟨rfl, hb⟩
    have B1 : Below w.heap.size w w1 := chain (by go_grown) hb
    obtain ⟨hc, hf, hs⟩ := after hb
    simp only [World.size_alloc] at hs
    have l0 : w.heap.size < w1.heap.size := by omega
    have l1 : w.heap.size + 1 < w1.heap.size := by omega
    have z0 : w1.cell? ⟨w.heap.size + 1, 0, none⟩ = some (.int .u64 0) := (hc _ _ (by simp only [World.size_alloc]; omega)).trans (by go_simp)
    have z1 : w1.cell? ⟨w.heap.size + 1, 1, none⟩ = some (.int .u64 0) := (hc _ _ (by simp only [World.size_alloc]; omega)).trans (by go_simp)
    clear hs hb
    go_wp2_with fail
    refine bodyPost_ret (by simp [results, Tryz.results24, go_sem, two_at0 z0 z1 l1, two_at1 z0 z1 l1]; try rfl) rfl ?_
    have ht : (128 - n).toNat = 64 + (128 - n - 64).toNat := by omega
    rw [ht] at hz
    unfold LastPost
    rw [ht]
    generalize (128 - n - 64).toNat = t at *
    have ht2 : t ≤ 64 := by omega
    obtain ⟨e1, e2⟩ := n2_zero hl (by rw [← n2_mod_high hl]; exact hz)
    subst e2
    obtain ⟨q1, q2⟩ := tail_room hh ht2 e1
    refine ⟨_, _, rfl, ?_, ?_, ?_, by go_grown⟩
    · rw [or_tail h t hh ht2 e1]; exact q2
    · rw [or_all]; exact ⟨by decide, by decide⟩
    · rw [or_tail h t hh ht2 e1, or_all, Int.pow_add]
      unfold N2
      rw [show (2 : Int) ^ 64 = 18446744073709551616 from by decide]
      omega
  · unfold TailPost at hT
    rw [if_neg h64] at hT
    have HT := Lib.hid hT
    clear hT
    go_enter Tryz.func24, Tryz.ntmps24
    go_wp2_with fail
    refine (HT.out _).mono ?_
    rintro e w1 ⟨rfl, hb⟩
    have B1 : Below w.heap.size w w1 := chain (by go_grown) hb
    obtain ⟨hc, hf, hs⟩ := after hb
    simp only [World.size_alloc] at hs
    have l0 : w.heap.size < w1.heap.size := by omega
    have l1 : w.heap.size + 1 < w1.heap.size := by omega
    have z0 : w1.cell? ⟨w.heap.size + 1, 0, none⟩ = some (.int .u64 0) := (hc _ _ (by simp only [World.size_alloc]; omega)).trans (by go_simp)
    have z1 : w1.cell? ⟨w.heap.size + 1, 1, none⟩ = some (.int .u64 0) := (hc _ _ (by simp only [World.size_alloc]; omega)).trans (by go_simp)
    clear hs hb
    go_wp2_with fail
    refine bodyPost_ret (by simp [results, Tryz.results24, go_sem, two_at0 z0 z1 l1, two_at1 z0 z1 l1]; try rfl) rfl ?_
    have ht : (128 - n).toNat ≤ 64 := by omega
    unfold LastPost
    generalize (128 - n).toNat = t at *
    have e1 : l % 2 ^ t = 0 := by rw [← n2_mod_low (h := h) ht]; exact hz
    obtain ⟨q1, q2⟩ := tail_room hl ht e1
    refine ⟨_, _, rfl, ?_, ?_, ?_, by go_grown⟩
    · rw [or_none h hh]; exact hh
    · rw [or_tail l t hl ht e1]; exact q2
    · rw [or_none h hh, or_tail l t hl ht e1]
      unfold N2
      omega
end Go.Proofs.YtcgdjnmfeibnoaaGreatDoor
/-! SixCover -/
namespace Go.Proofs.YtcgdjnmfeibnoaaGreatDoor
open Go.RowKit
set_option linter.unusedVariables false
set_option linter.unusedSimpArgs false
/-- The cells of a prefix. -/
def pcell (p : Int × Nat) : List Value := [.int .u16 (pc 0 p.1), .int .u16 (pc 1 p.1), .int .u16 (pc 2 p.1), .int .u16 (pc 3 p.1), .int .u16 (pc 4 p.1), .int .u16 (pc 5 p.1), .int .u16 (pc 6 p.1), .int .u16 (pc 7 p.1), .int .i64 p.2]
def pcells (l : List (Int × Nat)) : List Value := l.flatMap pcell
theorem n2_split {v : Int} : N2 (v / 18446744073709551616) (v % 18446744073709551616) = v := by unfold N2; omega
theorem wide_words {v : Int} (h : Wide v) : Word (v / 18446744073709551616) ∧ Word (v % 18446744073709551616) := by
  obtain ⟨_, _⟩ := h
  unfold Word; omega
theorem n2_halves {k m v : Int} (hm : Word m) (e : N2 k m = v) : k = v / 18446744073709551616 ∧ m = v % 18446744073709551616 := by
  obtain ⟨_, _⟩ := hm
  unfold N2 at e; omega
/-- A number as the program has it. -/
abbrev WV (v : Int) : Value := W2 (v / 18446744073709551616) (v % 18446744073709551616)
theorem last_wide {v : Int} {n : Nat} (hv : Wide v) (hn : n ≤ 128) (hz : v % 2 ^ (128 - n) = 0) : Wide (v + 2 ^ (128 - n) - 1) := by
  obtain ⟨v0, v1⟩ := hv
  have hp := pow_pos2 (128 - n)
  have e : (340282366920938463463374607431768211456 : Int) = 2 ^ (128 - n) * 2 ^ n := by
    rw [← pow_add2, show 128 - n + n = 128 from by omega]; rfl
  have e2 := Int.mul_ediv_add_emod v (2 ^ (128 - n))
  rw [hz, Int.add_zero] at e2
  have e3 : v / 2 ^ (128 - n) < 2 ^ n := by
    apply Int.lt_of_mul_lt_mul_left (a := 2 ^ (128 - n)) _ (Int.le_of_lt hp)
    rw [e2, ← e]; exact v1
  have e4 := Int.mul_le_mul_of_nonneg_left (show v / 2 ^ (128 - n) + 1 ≤ 2 ^ n by omega) (Int.le_of_lt hp)
  rw [Int.mul_add, e2, ← e, Int.mul_one] at e4
  exact ⟨by omega, by omega⟩
theorem wlast_at {v : Int} {n : Nat} (hv : Wide v) (hn : n ≤ 128) (hz : v % 2 ^ (128 - n) = 0) (w : World) :
    Calls Tryz.prog 24 #[WV v, .int .i64 n] w fun e w' => e = .returned (WV (v + 2 ^ (128 - n) - 1)) ∧ Below w.heap.size w w' := by
  obtain ⟨hh, hl⟩ := wide_words hv
  have e : (128 - (n : Int)).toNat = 128 - n := by omega
  refine (wlast_walk _ _ n hh hl (by omega) (by omega) (by rw [n2_split, e]; exact hz) w).mono ?_
  rintro e1 w' ⟨k, m, rfl, hk, hm, h, hb⟩
  rw [n2_split, e] at h
  obtain ⟨rfl, rfl⟩ := n2_halves hm h
  exact ⟨rfl, hb⟩
theorem wsix_at {v : Int} (hv : Wide v) (w : World) :
    Calls Tryz.prog 25 #[WV v] w fun e w' => e = .returned (A8 (pc 0 v) (pc 1 v) (pc 2 v) (pc 3 v) (pc 4 v) (pc 5 v) (pc 6 v) (pc 7 v)) ∧ Below w.heap.size w w' := by
  obtain ⟨hh, hl⟩ := wide_words hv
  refine (wsix_walk _ _ hh hl w).mono ?_
  rintro e w' ⟨y0, y1, y2, y3, y4, y5, y6, y7, rfl, hr, h, hb⟩
  rw [n2_split] at h
  obtain ⟨rfl, rfl, rfl, rfl, rfl, rfl, rfl, rfl⟩ := pc_of hr h
  exact ⟨rfl, hb⟩
theorem wideOf_at (x0 x1 x2 x3 x4 x5 x6 x7 : Int) (h : R8 x0 x1 x2 x3 x4 x5 x6 x7) (w : World) :
    Calls Tryz.prog 23 #[A8 x0 x1 x2 x3 x4 x5 x6 x7] w fun e w' => e = .returned (WV (V8 x0 x1 x2 x3 x4 x5 x6 x7)) ∧ Below w.heap.size w w' := by
  refine (wideOf_walk _ _ _ _ _ _ _ _ h w).mono ?_
  rintro e w' ⟨rfl, hb⟩
  obtain ⟨e1, e2⟩ := n2_halves (q4_word h.h4 h.h5 h.h6 h.h7) (n2_v8 x0 x1 x2 x3 x4 x5 x6 x7)
  exact ⟨by rw [e1, e2], hb⟩
/-- Two cells: a number. -/
def CW (w : World) (b : Nat) (v : Int) : Prop := w.cell? ⟨b, 0, none⟩ = some (.int .u64 (v / 18446744073709551616)) ∧ w.cell? ⟨b, 1, none⟩ = some (.int .u64 (v % 18446744073709551616))
theorem CW.keep {w W : World} {b B : Nat} {v : Int} (h : CW w b v) (hb : b < B) (hB : Below B w W) : CW W b v :=
  ⟨(hB.cell (p := ⟨b, 0, none⟩) hb).trans h.1, (hB.cell (p := ⟨b, 1, none⟩) hb).trans h.2⟩
theorem own_below {W W' : World} {base size n : Nat} {e : TypeId} {v : Value} {xs : List Value} (h : W.ownsRow base e size v n xs) (hb : Below W.heap.size W W') : W'.ownsRow base e size v n xs :=
  h.kept (row := none) ⟨hb.os, hb.tape, hb.output, hb.size, fun k hk _ => hb.block k hk⟩ (by cases hv : v.ownBlock <;> simp)
/-- What is kept: the two numbers in their boxes, the row so far. -/
structure CB (w : World) (g t : Int) (s : Value) (done : List (Int × Nat)) (W : World) : Prop where
  c0 : CW W w.heap.size g
  c1 : CW W (w.heap.size + 1) t
  own : W.ownsRow (w.heap.size + 2) 26 9 s done.length (pcells done)
  below : Below w.heap.size w W
  size : w.heap.size + 2 ≤ W.heap.size
  z0 : W.frozen? ⟨w.heap.size, 0, none⟩ = false
  z1 : W.frozen? ⟨w.heap.size, 1, none⟩ = false
theorem CB.keep {w W W' : World} {g t : Int} {s : Value} {done : List (Int × Nat)} (h : CB w g t s done W) (hb : Below W.heap.size W W') : CB w g t s done W' :=
  ⟨h.c0.keep (by have := h.size; omega) hb, h.c1.keep (by have := h.size; omega) hb, own_below h.own hb, chain h.below hb, Nat.le_trans h.size hb.size,
    (hb.frozen (p := ⟨w.heap.size, 0, none⟩) (by have := h.size; simp; omega)).trans h.z0, (hb.frozen (p := ⟨w.heap.size, 1, none⟩) (by have := h.size; simp; omega)).trans h.z1⟩
end Go.Proofs.YtcgdjnmfeibnoaaGreatDoor
/-! SixRng -/
namespace Go.Proofs.YtcgdjnmfeibnoaaGreatDoor
open Go.RowKit Go.Lib
set_option linter.unusedVariables false
set_option linter.unusedSimpArgs false
/-- A prefix as a range. -/
def rngZ (x : Pz) : Int × Int := (x.v, x.v + 2 ^ (128 - x.n).toNat - 1)
theorem rngZ_ok {x : Pz} (h : isZ x = true) (hw : Wide x.a) : 0 ≤ x.n ∧ x.n ≤ 128 ∧ x.v = x.a ∧ x.a % 2 ^ (128 - x.n.toNat) = 0 ∧ (rngZ x).2 = x.a + 2 ^ (128 - x.n.toNat) - 1 := by
  have hv := Pz.v_wide hw
  unfold isZ isPre at h
  have h := of_decide_eq_true h
  rw [hv] at h
  unfold tailOf at h
  have e : (128 - x.n).toNat = 128 - x.n.toNat := by omega
  rw [e] at h
  refine ⟨h.1, h.2.1, hv, h.2.2, ?_⟩
  unfold rngZ
  rw [hv, e]
theorem wlast_z {x : Pz} (h : isZ x = true) (hw : Wide x.a) (w : World) : Calls Tryz.prog 24 #[WV x.a, .int .i64 x.n] w fun e w' => e = .returned (WV (rngZ x).2) ∧ Below w.heap.size w w' := by
  obtain ⟨h0, h1, h2, h3, h4⟩ := rngZ_ok h hw
  have := wlast_at (n := x.n.toNat) hw (by omega) h3 w
  rw [show ((x.n.toNat : Nat) : Int) = x.n by omega] at this
  rw [h4]
  exact this
theorem wide_z {x : Pz} (h : isZ x = true) (hw : Wide x.a) : Wide (rngZ x).2 ∧ x.a ≤ (rngZ x).2 := by
  obtain ⟨h0, h1, h2, h3, h4⟩ := rngZ_ok h hw
  have := last_wide (n := x.n.toNat) hw (by omega) h3
  have hp := pow_pos2 (128 - x.n.toNat)
  rw [h4]
  exact ⟨this, by omega⟩
end Go.Proofs.YtcgdjnmfeibnoaaGreatDoor
/-! SixR8 -/
namespace Go.Proofs.YtcgdjnmfeibnoaaGreatDoor
open Go.RowKit Go.Lib Go.Proofs.YtcgdjnmfeibnoaaGreatDoorW.PrintWords
set_option linter.unusedVariables false
set_option linter.unusedSimpArgs false
@[irreducible] def storeR (x v : Value) : Sem Unit := Instr.storeAt 30 x v
@[go_sem ↓ high] theorem storeR_of (x v : Value) : Instr.storeAt 30 x v = storeR x v := by unfold storeR; rfl
theorem storeR_old {W : World} {g : Nat} {old : Array Value} (h : W.heap[g]? = some (.cells old 30 (0, 0))) (ho : old.size = 8) (y0 y1 y2 y3 y4 y5 y6 y7 : Int) :
    (storeR (.pointer (some ⟨g, 0, none⟩)) (.agg #[.int .u16 y0, .int .u16 y1, .int .u16 y2, .int .u16 y3, .int .u16 y4, .int .u16 y5, .int .u16 y6, .int .u16 y7])).run Tryz.prog W = .ok () (W.setRow g #[.int .u16 y0, .int .u16 y1, .int .u16 y2, .int .u16 y3, .int .u16 y4, .int .u16 y5, .int .u16 y6, .int .u16 y7]) := by
  unfold storeR
  simp only [Instr.storeAt, Instr.sureAddr, Sem.run_bind, Sem.run_pure, Result.andThen]
  exact run_storeVar_row _ _ 30 30 old #[.int .u16 y0, .int .u16 y1, .int .u16 y2, .int .u16 y3, .int .u16 y4, .int .u16 y5, .int .u16 y6, .int .u16 y7] h (by kernel_rfl) ho (by simp [Value.oneCell'])
@[go_sem] theorem storeR_new {n : Nat} (W : World) (z0 z1 z2 z3 z4 z5 z6 z7 y0 y1 y2 y3 y4 y5 y6 y7 : Int) (hn : n = W.heap.size) :
    (storeR (.pointer (some ⟨n, 0, none⟩)) (.agg #[.int .u16 y0, .int .u16 y1, .int .u16 y2, .int .u16 y3, .int .u16 y4, .int .u16 y5, .int .u16 y6, .int .u16 y7])).run Tryz.prog (W.alloc (.cells #[.int .u16 z0, .int .u16 z1, .int .u16 z2, .int .u16 z3, .int .u16 z4, .int .u16 z5, .int .u16 z6, .int .u16 z7] 30)) = .ok () (W.alloc (.cells #[.int .u16 y0, .int .u16 y1, .int .u16 y2, .int .u16 y3, .int .u16 y4, .int .u16 y5, .int .u16 y6, .int .u16 y7] 30)) := by
  subst hn
  rw [storeR_old (heap_alloc_new W _) rfl]
  congr 1
  exact World.setRow_alloc_new W _ _ 30
theorem setRow_at {W : World} {g : Nat} {old c : Array Value} {t : TypeId} (h : W.heap[g]? = some (.cells old t (0, 0))) : (W.setRow g c).heap[g]? = some (.cells c t (0, 0)) := by
  simp [World.setRow, Array.getElem?_modify, h]
theorem below_setRow {B : Nat} {w W : World} (h : Below B w W) {g : Nat} (hg : B ≤ g) (c : Array Value) : Below B w (W.setRow g c) := by
  refine ⟨h.os, h.tape, h.output, ?_, fun k hk => ?_⟩
  · have := h.size
    simpa [World.setRow] using this
  · have := h.block k hk
    rw [← this]
    simp only [World.setRow, Array.getElem?_modify]
    rw [if_neg (by omega)]
end Go.Proofs.YtcgdjnmfeibnoaaGreatDoor
/-! SixRz -/
namespace Go.Proofs.YtcgdjnmfeibnoaaGreatDoor
open Go.RowKit Go.Lib
set_option linter.unusedVariables false
set_option linter.unusedSimpArgs false
def zcs (l : List Pz) : List Value := l.flatMap zc
theorem zcs_get : ∀ (l : List Pz) (k : Nat) (p : Pz), l[k]? = some p → ∀ j, j < 9 → (zcs l)[k * 9 + j]? = (zc p)[j]?
  | [], k, p, h, j, hj => by simp at h
  | q :: l, 0, p, h, j, hj => by
    obtain rfl : q = p := by simpa using h
    show (zc q ++ zcs l)[0 * 9 + j]? = _
    rw [List.getElem?_append_left (by simp [zc]; omega), Nat.zero_mul, Nat.zero_add]
  | q :: l, k + 1, p, h, j, hj => by
    show (zc q ++ zcs l)[(k + 1) * 9 + j]? = _
    rw [List.getElem?_append_right (by simp [zc]; omega), show (k + 1) * 9 + j - (zc q).length = k * 9 + j from by simp [zc]; omega]
    exact zcs_get l k p (by simpa using h) j hj
/-- The prefixes that stand at an address. -/
def RdZ (W : World) (A : Option Addr) (l : List Pz) : Prop := ∀ k x, l[k]? = some x → ∃ g o, A = some ⟨g, o, none⟩ ∧ g < W.heap.size ∧ ∀ j, j < 9 → W.cell? ⟨g, o + (k * 9 + j), none⟩ = (zc x)[j]?
theorem RdZ.keep {W W' : World} {A : Option Addr} {l : List Pz} (h : RdZ W A l) (hb : Below W.heap.size W W') : RdZ W' A l := by
  intro k x hk
  obtain ⟨g, o, hA, hg, hc⟩ := h k x hk
  exact ⟨g, o, hA, Nat.lt_of_lt_of_le hg hb.size, fun j hj => (hb.cell (p := ⟨g, o + (k * 9 + j), none⟩) hg).trans (hc j hj)⟩
theorem rdz_nil (W : World) (A : Option Addr) : RdZ W A [] := fun k x h => by simp at h
/-- A row of the call's own, read. -/
theorem rdz_own {W : World} {base n : Nat} {e : TypeId} {v : Value} {l : List Pz} (h : W.ownsRow base e 9 v n (zcs l)) (hn : n = l.length) : ∃ A c, v = .slice A l.length c ∧ l.length ≤ c ∧ RdZ W A l := by
  subst hn
  have h' := h
  rcases h.2 with ⟨rfl, h0⟩ | ⟨g, c, cur, rfl, hb, hg, hn, _⟩
  · obtain rfl : l = [] := List.eq_nil_of_length_eq_zero h0
    exact ⟨none, 0, rfl, Nat.le_refl _, rdz_nil _ _⟩
  · refine ⟨_, c, rfl, hn, fun k x hk => ?_⟩
    have hkl : k < l.length := (List.getElem?_eq_some_iff.1 hk).1
    have hlt : g < W.heap.size := by
      rcases Nat.lt_or_ge g W.heap.size with h' | h'
      · exact h'
      · rw [Array.getElem?_eq_none h'] at hg; cases hg
    exact ⟨g, 0, rfl, hlt, fun j hj => by rw [Nat.zero_add, h'.cellAt _ (by omega), zcs_get l k x hk j hj]⟩
end Go.Proofs.YtcgdjnmfeibnoaaGreatDoor
/-! SixSameZ -/
namespace Go.Proofs.YtcgdjnmfeibnoaaGreatDoor
open Go.RowKit Go.Lib Go.Proofs.YtcgdjnmfeibnoaaGreatDoorW.PrintWords
set_option linter.unusedVariables false
set_option linter.unusedSimpArgs false
def SameZRel (w : World) (n : Nat) (i : Value) (W : World) : Prop := ∃ k : Nat, k ≤ n ∧ i = .int .i64 k ∧ ∃ m, W = w.drewN m
set_option maxHeartbeats 4000000 in
set_option maxRecDepth 100000 in
theorem sameZ_walk (l : List Pz) (A B : Option Addr) (c1 c2 : Nat) (w : World) (hn : l.length ≤ 9223372036854775807) (h1 : RdZ w A l) (h2 : RdZ w B l) :
    Calls Tryz.prog 10 #[.slice A l.length c1, .slice B l.length c2] w fun e w' => e = .returned (.bool true) ∧ Below w.heap.size w w' := by
  go_enter Tryz.func10, Tryz.ntmps10
  have H1 := Lib.hid h1
  have H2 := Lib.hid h2
  clear h1 h2
  go_wp2_with fail
  go_loopw [5] (fun i W => SameZRel w l.length i W) (fun i _ => l.length - (intOf i).toNat)
  case atStart => exact ⟨0, Nat.zero_le _, rfl, 0, rfl⟩
  case round =>
    obtain ⟨k, hk, rfl, m, rfl⟩ := hrel
    by_cases hlt : k < l.length
    · obtain ⟨x, hp⟩ : ∃ x, l[k]? = some x := ⟨l[k], List.getElem?_eq_getElem hlt⟩
      obtain ⟨g, o, rfl, hg, hc⟩ := H1.out k x hp
      obtain ⟨g2, o2, rfl, hg2, hd⟩ := H2.out k x hp
      have a0 := (hc 0 (by decide)).trans (show (zc x)[0]? = some (.int .u16 (pc 0 x.a)) from rfl)
      have a1 := (hc 1 (by decide)).trans (show (zc x)[1]? = some (.int .u16 (pc 1 x.a)) from rfl)
      have a2 := (hc 2 (by decide)).trans (show (zc x)[2]? = some (.int .u16 (pc 2 x.a)) from rfl)
      have a3 := (hc 3 (by decide)).trans (show (zc x)[3]? = some (.int .u16 (pc 3 x.a)) from rfl)
      have a4 := (hc 4 (by decide)).trans (show (zc x)[4]? = some (.int .u16 (pc 4 x.a)) from rfl)
      have a5 := (hc 5 (by decide)).trans (show (zc x)[5]? = some (.int .u16 (pc 5 x.a)) from rfl)
      have a6 := (hc 6 (by decide)).trans (show (zc x)[6]? = some (.int .u16 (pc 6 x.a)) from rfl)
      have a7 := (hc 7 (by decide)).trans (show (zc x)[7]? = some (.int .u16 (pc 7 x.a)) from rfl)
      have a8 := (hc 8 (by decide)).trans (show (zc x)[8]? = some (.int .i64 x.n) from rfl)
      simp only [Nat.add_zero, ← Nat.add_assoc] at a0 a1 a2 a3 a4 a5 a6 a7 a8
      have b0 := (hd 0 (by decide)).trans (show (zc x)[0]? = some (.int .u16 (pc 0 x.a)) from rfl)
      have b1 := (hd 1 (by decide)).trans (show (zc x)[1]? = some (.int .u16 (pc 1 x.a)) from rfl)
      have b2 := (hd 2 (by decide)).trans (show (zc x)[2]? = some (.int .u16 (pc 2 x.a)) from rfl)
      have b3 := (hd 3 (by decide)).trans (show (zc x)[3]? = some (.int .u16 (pc 3 x.a)) from rfl)
      have b4 := (hd 4 (by decide)).trans (show (zc x)[4]? = some (.int .u16 (pc 4 x.a)) from rfl)
      have b5 := (hd 5 (by decide)).trans (show (zc x)[5]? = some (.int .u16 (pc 5 x.a)) from rfl)
      have b6 := (hd 6 (by decide)).trans (show (zc x)[6]? = some (.int .u16 (pc 6 x.a)) from rfl)
      have b7 := (hd 7 (by decide)).trans (show (zc x)[7]? = some (.int .u16 (pc 7 x.a)) from rfl)
      have b8 := (hd 8 (by decide)).trans (show (zc x)[8]? = some (.int .i64 x.n) from rfl)
      simp only [Nat.add_zero, ← Nat.add_assoc] at b0 b1 b2 b3 b4 b5 b6 b7 b8
      clear hc hd hp hg hg2
      go_wp2_with fail
      go_quiet (fail)
      go_wp2_with fail
      exact ⟨⟨k + 1, by omega, by simp, m + nq, rfl⟩, by simp [intOf]; omega⟩
    · obtain rfl : k = l.length := by omega
      go_wp2_with fail
      go_returns
      exact ⟨rfl, bdn (Below.refl _ _) _⟩
end Go.Proofs.YtcgdjnmfeibnoaaGreatDoor
/-! AppRow -/
namespace Go.Proofs.YtcgdjnmfeibnoaaGreatDoor
open Go.RowKit
set_option linter.unusedVariables false
set_option linter.unusedSimpArgs false
end Go.Proofs.YtcgdjnmfeibnoaaGreatDoor
/-! SixGiven -/
namespace Go.Proofs.YtcgdjnmfeibnoaaGreatDoor
open Go.RowKit Go.Lib Go.Proofs.YtcgdjnmfeibnoaaGreatDoorW.PrintWords
set_option linter.unusedVariables false
set_option linter.unusedSimpArgs false
theorem rpre_info9 : ∃ i0 : TypeInfo, Tryz.prog.info? 32 = some i0 ∧ i0.zero = some (.agg #[.int .u16 0, .int .u16 0, .int .u16 0, .int .u16 0, .int .u16 0, .int .u16 0, .int .u16 0, .int .u16 0, .int .i64 0]) ∧ i0.size = 9 ∧ i0.bytes = 24 := by
  have h : (Tryz.prog.info? 32).map (fun i => (i.zero, i.size, i.bytes)) = some (some (.agg #[.int .u16 0, .int .u16 0, .int .u16 0, .int .u16 0, .int .u16 0, .int .u16 0, .int .u16 0, .int .u16 0, .int .i64 0]), 9, 24) := by kernel_rfl
  cases hi : Tryz.prog.info? 32 with
  | none => rw [hi] at h; cases h
  | some i0 =>
    rw [hi] at h
    have h := Option.some.inj h
    exact ⟨i0, rfl, congrArg (·.1) h, congrArg (·.2.1) h, congrArg (·.2.2) h⟩
theorem zcs_snoc {l : List Pz} {k : Nat} {x : Pz} (h : l[k]? = some x) : zcs (l.take k) ++ zc x = zcs (l.take (k + 1)) := by
  obtain ⟨hlt, e⟩ := List.getElem?_eq_some_iff.1 h
  rw [List.take_add_one, h]
  simp [zcs]
theorem own_none (w : World) (e : TypeId) : (w.alloc (.cells #[] e)).ownsRow w.heap.size e 9 (.slice (some ⟨w.heap.size, 0, none⟩) 0 0) 0 (zcs []) :=
  World.ownsRow_made w #[] 0 (Nat.le_refl _) (by decide) (by simp)
theorem own_one {B : Nat} (w : World) (x : Pz) (e : TypeId) (hB : B ≤ w.heap.size) : (w.alloc (.cells (zc x).toArray e)).ownsRow B e 9 (.slice (some ⟨w.heap.size, 0, none⟩) 1 1) 1 (zc x) :=
  ⟨by simp [zc], .inr ⟨w.heap.size, 1, (zc x).toArray, rfl, hB, heap_alloc_new w _, Nat.le_refl _, by decide, by simp [zc], by simp [zc]⟩⟩
def GivRel (w : World) (l : List Pz) (v i : Value) (W : World) : Prop := ∃ k : Nat, k ≤ l.length ∧ i = .int .i64 k ∧ W.ownsRow w.heap.size 32 9 v k (zcs (l.take k)) ∧ Below w.heap.size w W
set_option maxHeartbeats 4000000 in
set_option maxRecDepth 100000 in
theorem given_walk (l : List Pz) (A : Option Addr) (c : Nat) (w : World) (hn : l.length ≤ 1099511627776) (hr : RdZ w A l) :
    Calls Tryz.prog 8 #[.slice A l.length c] w fun e w' => ∃ v, e = .returned v ∧ w'.ownsRow w.heap.size 32 9 v l.length (zcs l) ∧ Below w.heap.size w w' := by
  go_enter Tryz.func8, Tryz.ntmps8
  have HR := Lib.hid hr
  clear hr
  go_wp2_with fail
  obtain ⟨i0, hi0, hz0, hz1, hz2⟩ := rpre_info9
  have HI := Lib.hid hi0
  have HZ0 := Lib.hid hz0
  have HZ1 := Lib.hid hz1
  have HZ2 := Lib.hid hz2
  clear hi0 hz0 hz1 hz2
  go_loopw [3, 4] (fun v i W => GivRel w l v i W) (fun _ i _ => l.length - (intOf i).toNat)
  case atStart => exact ⟨0, Nat.zero_le _, rfl, own_none _ _, (Below.refl _ _).alloc (Nat.le_refl _) _⟩
  case round =>
    obtain ⟨k, hk, rfl, hown, hb⟩ := hrel
    have HO := Lib.hid hown
    have HB := Lib.hid hb
    by_cases hlt : k < l.length
    · obtain ⟨x, hx⟩ : ∃ x, l[k]? = some x := ⟨l[k], List.getElem?_eq_getElem hlt⟩
      obtain ⟨g, o, rfl, hg, hc⟩ := HR.out k x hx
      clear hown
      have c0 := (hb.cell (p := ⟨g, o + (k * 9 + 0), none⟩) hg).trans ((hc 0 (by decide)).trans (show (zc x)[0]? = some (.int .u16 (pc 0 x.a)) from rfl))
      have c1 := (hb.cell (p := ⟨g, o + (k * 9 + 1), none⟩) hg).trans ((hc 1 (by decide)).trans (show (zc x)[1]? = some (.int .u16 (pc 1 x.a)) from rfl))
      have c2 := (hb.cell (p := ⟨g, o + (k * 9 + 2), none⟩) hg).trans ((hc 2 (by decide)).trans (show (zc x)[2]? = some (.int .u16 (pc 2 x.a)) from rfl))
      have c3 := (hb.cell (p := ⟨g, o + (k * 9 + 3), none⟩) hg).trans ((hc 3 (by decide)).trans (show (zc x)[3]? = some (.int .u16 (pc 3 x.a)) from rfl))
      have c4 := (hb.cell (p := ⟨g, o + (k * 9 + 4), none⟩) hg).trans ((hc 4 (by decide)).trans (show (zc x)[4]? = some (.int .u16 (pc 4 x.a)) from rfl))
      have c5 := (hb.cell (p := ⟨g, o + (k * 9 + 5), none⟩) hg).trans ((hc 5 (by decide)).trans (show (zc x)[5]? = some (.int .u16 (pc 5 x.a)) from rfl))
      have c6 := (hb.cell (p := ⟨g, o + (k * 9 + 6), none⟩) hg).trans ((hc 6 (by decide)).trans (show (zc x)[6]? = some (.int .u16 (pc 6 x.a)) from rfl))
      have c7 := (hb.cell (p := ⟨g, o + (k * 9 + 7), none⟩) hg).trans ((hc 7 (by decide)).trans (show (zc x)[7]? = some (.int .u16 (pc 7 x.a)) from rfl))
      have c8 := (hb.cell (p := ⟨g, o + (k * 9 + 8), none⟩) hg).trans ((hc 8 (by decide)).trans (show (zc x)[8]? = some (.int .i64 x.n) from rfl))
      simp only [Nat.add_zero, ← Nat.add_assoc] at c0 c1 c2 c3 c4 c5 c6 c7 c8
      clear hc
      have HX := Lib.hid hx
      clear hx hb
      have hgW := Nat.lt_of_lt_of_le hg HB.out.size
      go_upto_region 5 with fail
      go_region_held3 (fun w' => w'.cell? ⟨g, o + k * 9, none⟩ = some (.int .u16 (pc 0 x.a)) ∧ w'.cell? ⟨g, o + k * 9 + 1, none⟩ = some (.int .u16 (pc 1 x.a)) ∧ w'.cell? ⟨g, o + k * 9 + 2, none⟩ = some (.int .u16 (pc 2 x.a)) ∧ w'.cell? ⟨g, o + k * 9 + 3, none⟩ = some (.int .u16 (pc 3 x.a)) ∧ w'.cell? ⟨g, o + k * 9 + 4, none⟩ = some (.int .u16 (pc 4 x.a)) ∧ w'.cell? ⟨g, o + k * 9 + 5, none⟩ = some (.int .u16 (pc 5 x.a)) ∧ w'.cell? ⟨g, o + k * 9 + 6, none⟩ = some (.int .u16 (pc 6 x.a)) ∧ w'.cell? ⟨g, o + k * 9 + 7, none⟩ = some (.int .u16 (pc 7 x.a)) ∧ w'.cell? ⟨g, o + k * 9 + 8, none⟩ = some (.int .i64 x.n))
        (first | go_keep | (refine ⟨?_, ?_, ?_, ?_, ?_, ?_, ?_, ?_, ?_⟩ <;> assumption))
        (first
          | (refine step_app_row (by rfl) (.tmp 12) (.tmp 24) 39 (by rfl) w.heap.size 32 i0 (.agg #[.int .u16 0, .int .u16 0, .int .u16 0, .int .u16 0, .int .u16 0, .int .u16 0, .int .u16 0, .int .u16 0, .int .i64 0]) 9 24 Tryz.underlying39 HI.out HZ0.out HZ1.out HZ2.out rfl (by decide) _ k (zcs (l.take k)) (by rfl) (own_belowS HO.out (by first | exact (bdn (Below.refl _ _) 1).alloc (Nat.le_refl _) _ | exact (Below.refl _ _).alloc (Nat.le_refl _) _)) _ w.heap.size 1 (zc x) (by rfl) (own_one _ x _ HB.out.size) (zc_one x) (by unfold maxLen; omega) (by omega) (Nat.le_trans HB.out.size (by simp)) ?_
             intro v4 w4 hown4 hbel4 hgrow
             have hB4 : Below w.heap.size w w4 := hbel4 _ _ (Nat.le_refl _) (by first | exact (bdn HB.out 1).alloc HB.out.size _ | exact HB.out.alloc HB.out.size _)
             have d0 := (hB4.cell (p := ⟨g, o + k * 9, none⟩) hg).trans ((HB.out.cell (p := ⟨g, o + k * 9, none⟩) hg).symm.trans c0)
             have d1 := (hB4.cell (p := ⟨g, o + k * 9 + 1, none⟩) hg).trans ((HB.out.cell (p := ⟨g, o + k * 9 + 1, none⟩) hg).symm.trans c1)
             have d2 := (hB4.cell (p := ⟨g, o + k * 9 + 2, none⟩) hg).trans ((HB.out.cell (p := ⟨g, o + k * 9 + 2, none⟩) hg).symm.trans c2)
             have d3 := (hB4.cell (p := ⟨g, o + k * 9 + 3, none⟩) hg).trans ((HB.out.cell (p := ⟨g, o + k * 9 + 3, none⟩) hg).symm.trans c3)
             have d4 := (hB4.cell (p := ⟨g, o + k * 9 + 4, none⟩) hg).trans ((HB.out.cell (p := ⟨g, o + k * 9 + 4, none⟩) hg).symm.trans c4)
             have d5 := (hB4.cell (p := ⟨g, o + k * 9 + 5, none⟩) hg).trans ((HB.out.cell (p := ⟨g, o + k * 9 + 5, none⟩) hg).symm.trans c5)
             have d6 := (hB4.cell (p := ⟨g, o + k * 9 + 6, none⟩) hg).trans ((HB.out.cell (p := ⟨g, o + k * 9 + 6, none⟩) hg).symm.trans c6)
             have d7 := (hB4.cell (p := ⟨g, o + k * 9 + 7, none⟩) hg).trans ((HB.out.cell (p := ⟨g, o + k * 9 + 7, none⟩) hg).symm.trans c7)
             have d8 := (hB4.cell (p := ⟨g, o + k * 9 + 8, none⟩) hg).trans ((HB.out.cell (p := ⟨g, o + k * 9 + 8, none⟩) hg).symm.trans c8)))
      go_wp2_with fail
      rw [zcs_snoc HX.out] at hown4
      exact ⟨⟨k + 1, by omega, by simp, hown4, hB4⟩, by simp [intOf]; omega⟩
    · obtain rfl : k = l.length := by omega
      clear hown hb
      go_wp2_with fail
      go_returns
      have h := HO.out
      rw [List.take_length] at h
      exact ⟨_, rfl, h, HB.out⟩
end Go.Proofs.YtcgdjnmfeibnoaaGreatDoor
/-! SixS8 -/
namespace Go.Proofs.YtcgdjnmfeibnoaaGreatDoor
open Go.RowKit Go.Lib Go.Proofs.YtcgdjnmfeibnoaaGreatDoorW.PrintWords
set_option linter.unusedVariables false
set_option linter.unusedSimpArgs false
@[irreducible] def storeA6 (x v : Value) : Sem Unit := Instr.storeAt 24 x v
@[go_sem ↓ high] theorem storeA6_of (x v : Value) : Instr.storeAt 24 x v = storeA6 x v := by unfold storeA6; rfl
theorem storeA6_old {W : World} {g : Nat} {old : Array Value} (h : W.heap[g]? = some (.cells old 24 (0, 0))) (ho : old.size = 8) (y0 y1 y2 y3 y4 y5 y6 y7 : Int) :
    (storeA6 (.pointer (some ⟨g, 0, none⟩)) (.agg #[.int .u16 y0, .int .u16 y1, .int .u16 y2, .int .u16 y3, .int .u16 y4, .int .u16 y5, .int .u16 y6, .int .u16 y7])).run Tryz.prog W = .ok () (W.setRow g #[.int .u16 y0, .int .u16 y1, .int .u16 y2, .int .u16 y3, .int .u16 y4, .int .u16 y5, .int .u16 y6, .int .u16 y7]) := by
  unfold storeA6
  simp only [Instr.storeAt, Instr.sureAddr, Sem.run_bind, Sem.run_pure, Result.andThen]
  exact run_storeVar_row _ _ 24 24 old #[.int .u16 y0, .int .u16 y1, .int .u16 y2, .int .u16 y3, .int .u16 y4, .int .u16 y5, .int .u16 y6, .int .u16 y7] h (by kernel_rfl) ho (by simp [Value.oneCell'])
@[go_sem] theorem storeA6_new {n : Nat} (W : World) (z0 z1 z2 z3 z4 z5 z6 z7 y0 y1 y2 y3 y4 y5 y6 y7 : Int) (hn : n = W.heap.size) :
    (storeA6 (.pointer (some ⟨n, 0, none⟩)) (.agg #[.int .u16 y0, .int .u16 y1, .int .u16 y2, .int .u16 y3, .int .u16 y4, .int .u16 y5, .int .u16 y6, .int .u16 y7])).run Tryz.prog (W.alloc (.cells #[.int .u16 z0, .int .u16 z1, .int .u16 z2, .int .u16 z3, .int .u16 z4, .int .u16 z5, .int .u16 z6, .int .u16 z7] 24)) = .ok () (W.alloc (.cells #[.int .u16 y0, .int .u16 y1, .int .u16 y2, .int .u16 y3, .int .u16 y4, .int .u16 y5, .int .u16 y6, .int .u16 y7] 24)) := by
  subst hn
  rw [storeA6_old (heap_alloc_new W _) rfl]
  congr 1
  exact World.setRow_alloc_new W _ _ 24
theorem blk_newS (W : World) (o o' : Obj) : ((W.alloc o).alloc o').heap[W.heap.size + 1]? = some o' := by
  have := blk_new (W.alloc o) o'
  rwa [World.size_alloc] at this
/-- A variable that holds an address. -/
def BAd (W : World) (b : Nat) (v : Int) : Prop := W.heap[b]? = some (.cells #[.int .u16 (pc 0 v), .int .u16 (pc 1 v), .int .u16 (pc 2 v), .int .u16 (pc 3 v), .int .u16 (pc 4 v), .int .u16 (pc 5 v), .int .u16 (pc 6 v), .int .u16 (pc 7 v)] 24 (0, 0))
theorem BAd.below {W W' : World} {b : Nat} {v : Int} (h : BAd W b v) (hb : Below W.heap.size W W') : BAd W' b v := blk_below h hb
theorem BAd.lt {W : World} {b : Nat} {v : Int} (h : BAd W b v) : b < W.heap.size := blk_lt h
theorem setRow_elseS {W : World} {g b : Nat} {c : Array Value} (h : b ≠ g) : (W.setRow g c).heap[b]? = W.heap[b]? := by
  simp only [World.setRow, Array.getElem?_modify]
  rw [if_neg (fun e => h e.symm)]
/-- A store into a variable that holds an address, whatever it held. -/
theorem store_toS {W : World} {g : Nat} {old : Array Value} (h : W.heap[g]? = some (.cells old 24 (0, 0))) (ho : old.size = 8) (v : Int) :
    ∃ wB, (storeA6 (.pointer (some ⟨g, 0, none⟩)) (.agg #[.int .u16 (pc 0 v), .int .u16 (pc 1 v), .int .u16 (pc 2 v), .int .u16 (pc 3 v), .int .u16 (pc 4 v), .int .u16 (pc 5 v), .int .u16 (pc 6 v), .int .u16 (pc 7 v)])).run Tryz.prog W = .ok () wB ∧ BAd wB g v ∧ (∀ B w0, B ≤ g → Below B w0 W → Below B w0 wB) ∧ (∀ b, b ≠ g → wB.heap[b]? = W.heap[b]?) ∧ W.grownBy wB (some g) :=
  ⟨_, storeA6_old h ho _ _ _ _ _ _ _ _, setRow_at h, fun B w0 hB hw => below_setRow hw hB _, fun b hb => setRow_elseS hb, ⟨rfl, rfl, rfl, by simp [World.setRow], fun k _ hk => setRow_elseS (fun e => hk (by rw [e]))⟩⟩
/-- A store into a new variable behind which one more was made. -/
@[go_sem] theorem storeA6_new2 {n : Nat} (W : World) (o : Obj) (z0 z1 z2 z3 z4 z5 z6 z7 y0 y1 y2 y3 y4 y5 y6 y7 : Int) (hn : n = W.heap.size) :
    (storeA6 (.pointer (some ⟨n, 0, none⟩)) (.agg #[.int .u16 y0, .int .u16 y1, .int .u16 y2, .int .u16 y3, .int .u16 y4, .int .u16 y5, .int .u16 y6, .int .u16 y7])).run Tryz.prog ((W.alloc (.cells #[.int .u16 z0, .int .u16 z1, .int .u16 z2, .int .u16 z3, .int .u16 z4, .int .u16 z5, .int .u16 z6, .int .u16 z7] 24)).alloc o) = .ok () ((W.alloc (.cells #[.int .u16 y0, .int .u16 y1, .int .u16 y2, .int .u16 y3, .int .u16 y4, .int .u16 y5, .int .u16 y6, .int .u16 y7] 24)).alloc o) := by
  subst hn
  rw [storeA6_old (blk_alloc (blk_new W _) o) rfl]
  congr 1
  simp only [World.setRow, World.alloc]
  congr 1
  apply Array.ext_getElem?
  intro i
  rw [Array.getElem?_modify]
  by_cases h : W.heap.size = i
  · subst h
    simp [Array.getElem?_push]
  · have h' : ¬ i = W.heap.size := fun e => h e.symm
    rw [if_neg h]
    simp [Array.getElem?_push, h']
end Go.Proofs.YtcgdjnmfeibnoaaGreatDoor
/-! SixBounds -/
namespace Go.Proofs.YtcgdjnmfeibnoaaGreatDoor
open Go.RowKit Go.Lib Go.Proofs.YtcgdjnmfeibnoaaGreatDoorW.PrintWords
set_option linter.unusedVariables false
set_option linter.unusedSimpArgs false
theorem is_z (x : Pz) (w : World) : Calls Tryz.prog 20 #[.agg #[.int .u16 (pc 0 x.a), .int .u16 (pc 1 x.a), .int .u16 (pc 2 x.a), .int .u16 (pc 3 x.a), .int .u16 (pc 4 x.a), .int .u16 (pc 5 x.a), .int .u16 (pc 6 x.a), .int .u16 (pc 7 x.a), .int .i64 x.n]] w fun e w' => e = .returned (.bool (isZ x)) ∧ Below w.heap.size w w' := is_walk _ _ _ _ _ _ _ _ (pc_r8 x.a) x.n w
set_option maxHeartbeats 4000000 in
set_option maxRecDepth 100000 in
theorem bounds_walk {x : Pz} (hz : isZ x = true) (hw : Wide x.a) (w : World) :
    Calls Tryz.prog 7 #[PV x.a x.n] w fun e w' => e = .returned (.tuple #[AV x.a, AV (rngZ x).2, .int .i64 0]) ∧ Below w.heap.size w w' := by
  have HI := is_z x
  rw [hz] at HI
  have HI := Lib.hid HI
  have hwl := wide_z hz hw
  have HLA := Lib.hid (wlast_z hz hw)
  obtain ⟨t, et⟩ : ∃ t, t = (rngZ x).2 := ⟨_, rfl⟩
  rw [← et] at HLA hwl ⊢
  have HWT := Lib.hid hwl.1
  have HW := Lib.hid hw
  clear et hwl hz hw
  have hW := wideOf_at _ _ _ _ _ _ _ _ (pc_r8 x.a)
  rw [pc_v8 HW.out] at hW
  have HWO := Lib.hid hW
  have HSX := Lib.hid (wsix_at HWT.out)
  clear hW
  have B0 : Below w.heap.size w (((w.alloc (.cells #[.int .u16 (pc 0 x.a), .int .u16 (pc 1 x.a), .int .u16 (pc 2 x.a), .int .u16 (pc 3 x.a), .int .u16 (pc 4 x.a), .int .u16 (pc 5 x.a), .int .u16 (pc 6 x.a), .int .u16 (pc 7 x.a), .int .i64 x.n] 26)).alloc (.cells #[.int .u16 0, .int .u16 0, .int .u16 0, .int .u16 0, .int .u16 0, .int .u16 0, .int .u16 0, .int .u16 0] 24)).alloc (.cells #[.int .u16 0, .int .u16 0, .int .u16 0, .int .u16 0, .int .u16 0, .int .u16 0, .int .u16 0, .int .u16 0] 24)) := (((Below.refl _ _).alloc (Nat.le_refl _) _).alloc (by simp) _).alloc (by simp; omega) _
  have h0 : (((w.alloc (.cells #[.int .u16 (pc 0 x.a), .int .u16 (pc 1 x.a), .int .u16 (pc 2 x.a), .int .u16 (pc 3 x.a), .int .u16 (pc 4 x.a), .int .u16 (pc 5 x.a), .int .u16 (pc 6 x.a), .int .u16 (pc 7 x.a), .int .i64 x.n] 26)).alloc (.cells #[.int .u16 0, .int .u16 0, .int .u16 0, .int .u16 0, .int .u16 0, .int .u16 0, .int .u16 0, .int .u16 0] 24)).alloc (.cells #[.int .u16 0, .int .u16 0, .int .u16 0, .int .u16 0, .int .u16 0, .int .u16 0, .int .u16 0, .int .u16 0] 24)).heap[w.heap.size]? = some (.cells #[.int .u16 (pc 0 x.a), .int .u16 (pc 1 x.a), .int .u16 (pc 2 x.a), .int .u16 (pc 3 x.a), .int .u16 (pc 4 x.a), .int .u16 (pc 5 x.a), .int .u16 (pc 6 x.a), .int .u16 (pc 7 x.a), .int .i64 x.n] 26 (0, 0)) := blk_alloc (blk_alloc (blk_new _ _) _) _
  have h1 : (((w.alloc (.cells #[.int .u16 (pc 0 x.a), .int .u16 (pc 1 x.a), .int .u16 (pc 2 x.a), .int .u16 (pc 3 x.a), .int .u16 (pc 4 x.a), .int .u16 (pc 5 x.a), .int .u16 (pc 6 x.a), .int .u16 (pc 7 x.a), .int .i64 x.n] 26)).alloc (.cells #[.int .u16 0, .int .u16 0, .int .u16 0, .int .u16 0, .int .u16 0, .int .u16 0, .int .u16 0, .int .u16 0] 24)).alloc (.cells #[.int .u16 0, .int .u16 0, .int .u16 0, .int .u16 0, .int .u16 0, .int .u16 0, .int .u16 0, .int .u16 0] 24)).heap[w.heap.size + 1]? = some (.cells #[.int .u16 0, .int .u16 0, .int .u16 0, .int .u16 0, .int .u16 0, .int .u16 0, .int .u16 0, .int .u16 0] 24 (0, 0)) := blk_alloc (blk_newS _ _ _) _
  have h2 : (((w.alloc (.cells #[.int .u16 (pc 0 x.a), .int .u16 (pc 1 x.a), .int .u16 (pc 2 x.a), .int .u16 (pc 3 x.a), .int .u16 (pc 4 x.a), .int .u16 (pc 5 x.a), .int .u16 (pc 6 x.a), .int .u16 (pc 7 x.a), .int .i64 x.n] 26)).alloc (.cells #[.int .u16 0, .int .u16 0, .int .u16 0, .int .u16 0, .int .u16 0, .int .u16 0, .int .u16 0, .int .u16 0] 24)).alloc (.cells #[.int .u16 0, .int .u16 0, .int .u16 0, .int .u16 0, .int .u16 0, .int .u16 0, .int .u16 0, .int .u16 0] 24)).heap[w.heap.size + 1 + 1]? = some (.cells #[.int .u16 0, .int .u16 0, .int .u16 0, .int .u16 0, .int .u16 0, .int .u16 0, .int .u16 0, .int .u16 0] 24 (0, 0)) := by
    have := blk_newS (w.alloc (.cells #[.int .u16 (pc 0 x.a), .int .u16 (pc 1 x.a), .int .u16 (pc 2 x.a), .int .u16 (pc 3 x.a), .int .u16 (pc 4 x.a), .int .u16 (pc 5 x.a), .int .u16 (pc 6 x.a), .int .u16 (pc 7 x.a), .int .i64 x.n] 26)) (.cells #[.int .u16 0, .int .u16 0, .int .u16 0, .int .u16 0, .int .u16 0, .int .u16 0, .int .u16 0, .int .u16 0] 24) (.cells #[.int .u16 0, .int .u16 0, .int .u16 0, .int .u16 0, .int .u16 0, .int .u16 0, .int .u16 0, .int .u16 0] 24)
    rwa [World.size_alloc] at this
  go_enter Tryz.func7, Tryz.ntmps7
  go_upto_region 1 with fail
  generalize ((w.alloc (.cells #[.int .u16 (pc 0 x.a), .int .u16 (pc 1 x.a), .int .u16 (pc 2 x.a), .int .u16 (pc 3 x.a), .int .u16 (pc 4 x.a), .int .u16 (pc 5 x.a), .int .u16 (pc 6 x.a), .int .u16 (pc 7 x.a), .int .i64 x.n] 26)).alloc (.cells #[.int .u16 0, .int .u16 0, .int .u16 0, .int .u16 0, .int .u16 0, .int .u16 0, .int .u16 0, .int .u16 0] 24)).alloc (.cells #[.int .u16 0, .int .u16 0, .int .u16 0, .int .u16 0, .int .u16 0, .int .u16 0, .int .u16 0, .int .u16 0] 24) = W0 at *
  have HB := Lib.hid B0
  have H1 := Lib.hid h1
  have H2 := Lib.hid h2
  have c0 := (blk_cell h0 0).trans (show _ = some (Value.int .u16 (pc 0 x.a)) from rfl)
  have c1 := (blk_cell h0 1).trans (show _ = some (Value.int .u16 (pc 1 x.a)) from rfl)
  have c2 := (blk_cell h0 2).trans (show _ = some (Value.int .u16 (pc 2 x.a)) from rfl)
  have c3 := (blk_cell h0 3).trans (show _ = some (Value.int .u16 (pc 3 x.a)) from rfl)
  have c4 := (blk_cell h0 4).trans (show _ = some (Value.int .u16 (pc 4 x.a)) from rfl)
  have c5 := (blk_cell h0 5).trans (show _ = some (Value.int .u16 (pc 5 x.a)) from rfl)
  have c6 := (blk_cell h0 6).trans (show _ = some (Value.int .u16 (pc 6 x.a)) from rfl)
  have c7 := (blk_cell h0 7).trans (show _ = some (Value.int .u16 (pc 7 x.a)) from rfl)
  have c8 := (blk_cell h0 8).trans (show _ = some (Value.int .i64 x.n) from rfl)
  have hl0 := blk_lt h0
  have H0 := Lib.hid h0
  clear h0 h1 h2 B0
  go_wp2_with fail
  refine (HI.out _).mono ?_
  rintro e w1 ⟨rfl, hb1⟩
  have B1 := Lib.hid hb1
  have h01 := blk_below H0.out hb1
  clear c0 c1 c2 c3 c4 c5 c6 c7 c8 hl0 hb1
  have c0 := (blk_cell h01 0).trans (show _ = some (Value.int .u16 (pc 0 x.a)) from rfl)
  have c1 := (blk_cell h01 1).trans (show _ = some (Value.int .u16 (pc 1 x.a)) from rfl)
  have c2 := (blk_cell h01 2).trans (show _ = some (Value.int .u16 (pc 2 x.a)) from rfl)
  have c3 := (blk_cell h01 3).trans (show _ = some (Value.int .u16 (pc 3 x.a)) from rfl)
  have c4 := (blk_cell h01 4).trans (show _ = some (Value.int .u16 (pc 4 x.a)) from rfl)
  have c5 := (blk_cell h01 5).trans (show _ = some (Value.int .u16 (pc 5 x.a)) from rfl)
  have c6 := (blk_cell h01 6).trans (show _ = some (Value.int .u16 (pc 6 x.a)) from rfl)
  have c7 := (blk_cell h01 7).trans (show _ = some (Value.int .u16 (pc 7 x.a)) from rfl)
  have c8 := (blk_cell h01 8).trans (show _ = some (Value.int .i64 x.n) from rfl)
  have hl0 := blk_lt h01
  clear h01
  go_upto_region 3 with fail
  refine wp_region_ext_tail 9 (by kernel_rfl) (by kernel_rfl) ?_
  dsimp only [List.take, List.drop]
  repeat (go_big_quiet_step (first | (with_reducible exact ext_of (HWO.out _)) | (with_reducible exact ext_of (HLA.out _)) | (with_reducible exact ext_of (HSX.out _))))
  refine wpQuiet_nil ?_
  rintro w2 ⟨⟨_, hb2⟩, rfl⟩
  have B2 := below_step B1.out hb2
  obtain ⟨wA, hA, xA, bA, oA, _⟩ := store_toS (blk_below H1.out B2) rfl x.a
  obtain ⟨wB, hB, xB, bB, oB, _⟩ := store_toS ((oA (w.heap.size + 1 + 1) (by omega)).trans (blk_below H2.out B2)) rfl t
  have xA2 : BAd wB (w.heap.size + 1) x.a := (oB (w.heap.size + 1) (by omega)).trans xA
  have B3 := Lib.hid (bB w.heap.size w (by omega) (bA w.heap.size w (by omega) (below_step HB.out B2)))
  have u0 := (blk_cell xA2 0).trans (show _ = some (Value.int .u16 (pc 0 x.a)) from rfl)
  have u1 := (blk_cell xA2 1).trans (show _ = some (Value.int .u16 (pc 1 x.a)) from rfl)
  have u2 := (blk_cell xA2 2).trans (show _ = some (Value.int .u16 (pc 2 x.a)) from rfl)
  have u3 := (blk_cell xA2 3).trans (show _ = some (Value.int .u16 (pc 3 x.a)) from rfl)
  have u4 := (blk_cell xA2 4).trans (show _ = some (Value.int .u16 (pc 4 x.a)) from rfl)
  have u5 := (blk_cell xA2 5).trans (show _ = some (Value.int .u16 (pc 5 x.a)) from rfl)
  have u6 := (blk_cell xA2 6).trans (show _ = some (Value.int .u16 (pc 6 x.a)) from rfl)
  have u7 := (blk_cell xA2 7).trans (show _ = some (Value.int .u16 (pc 7 x.a)) from rfl)
  have v0 := (blk_cell xB 0).trans (show _ = some (Value.int .u16 (pc 0 t)) from rfl)
  have v1 := (blk_cell xB 1).trans (show _ = some (Value.int .u16 (pc 1 t)) from rfl)
  have v2 := (blk_cell xB 2).trans (show _ = some (Value.int .u16 (pc 2 t)) from rfl)
  have v3 := (blk_cell xB 3).trans (show _ = some (Value.int .u16 (pc 3 t)) from rfl)
  have v4 := (blk_cell xB 4).trans (show _ = some (Value.int .u16 (pc 4 t)) from rfl)
  have v5 := (blk_cell xB 5).trans (show _ = some (Value.int .u16 (pc 5 t)) from rfl)
  have v6 := (blk_cell xB 6).trans (show _ = some (Value.int .u16 (pc 6 t)) from rfl)
  have v7 := (blk_cell xB 7).trans (show _ = some (Value.int .u16 (pc 7 t)) from rfl)
  clear c0 c1 c2 c3 c4 c5 c6 c7 c8 hl0 hb2 B2 xA xA2 xB bA bB oA oB
  go_wp2_with fail
  refine bodyPost_ret (by simp [results, Tryz.results7, go_sem, u0, u1, u2, u3, u4, u5, u6, u7, v0, v1, v2, v3, v4, v5, v6, v7]; try rfl) rfl ?_
  exact ⟨rfl, B3.out⟩
set_option maxHeartbeats 4000000 in
set_option maxRecDepth 100000 in
theorem bounds_bad {x : Pz} (hz : isZ x = false) (w : World) :
    Calls Tryz.prog 7 #[PV x.a x.n] w fun e w' => e = .returned (.tuple #[A8 0 0 0 0 0 0 0 0, A8 0 0 0 0 0 0 0 0, .int .i64 211]) ∧ Below w.heap.size w w' := by
  have HI := is_z x
  rw [hz] at HI
  have HI := Lib.hid HI
  clear hz
  go_enter Tryz.func7, Tryz.ntmps7
  have B0 : Below w.heap.size w (((w.alloc (.cells #[.int .u16 (pc 0 x.a), .int .u16 (pc 1 x.a), .int .u16 (pc 2 x.a), .int .u16 (pc 3 x.a), .int .u16 (pc 4 x.a), .int .u16 (pc 5 x.a), .int .u16 (pc 6 x.a), .int .u16 (pc 7 x.a), .int .i64 x.n] 26)).alloc (.cells #[.int .u16 0, .int .u16 0, .int .u16 0, .int .u16 0, .int .u16 0, .int .u16 0, .int .u16 0, .int .u16 0] 24)).alloc (.cells #[.int .u16 0, .int .u16 0, .int .u16 0, .int .u16 0, .int .u16 0, .int .u16 0, .int .u16 0, .int .u16 0] 24)) := (((Below.refl _ _).alloc (Nat.le_refl _) _).alloc (by simp) _).alloc (by simp; omega) _
  have h0 : (((w.alloc (.cells #[.int .u16 (pc 0 x.a), .int .u16 (pc 1 x.a), .int .u16 (pc 2 x.a), .int .u16 (pc 3 x.a), .int .u16 (pc 4 x.a), .int .u16 (pc 5 x.a), .int .u16 (pc 6 x.a), .int .u16 (pc 7 x.a), .int .i64 x.n] 26)).alloc (.cells #[.int .u16 0, .int .u16 0, .int .u16 0, .int .u16 0, .int .u16 0, .int .u16 0, .int .u16 0, .int .u16 0] 24)).alloc (.cells #[.int .u16 0, .int .u16 0, .int .u16 0, .int .u16 0, .int .u16 0, .int .u16 0, .int .u16 0, .int .u16 0] 24)).heap[w.heap.size]? = some (.cells #[.int .u16 (pc 0 x.a), .int .u16 (pc 1 x.a), .int .u16 (pc 2 x.a), .int .u16 (pc 3 x.a), .int .u16 (pc 4 x.a), .int .u16 (pc 5 x.a), .int .u16 (pc 6 x.a), .int .u16 (pc 7 x.a), .int .i64 x.n] 26 (0, 0)) := blk_alloc (blk_alloc (blk_new _ _) _) _
  have h1 : (((w.alloc (.cells #[.int .u16 (pc 0 x.a), .int .u16 (pc 1 x.a), .int .u16 (pc 2 x.a), .int .u16 (pc 3 x.a), .int .u16 (pc 4 x.a), .int .u16 (pc 5 x.a), .int .u16 (pc 6 x.a), .int .u16 (pc 7 x.a), .int .i64 x.n] 26)).alloc (.cells #[.int .u16 0, .int .u16 0, .int .u16 0, .int .u16 0, .int .u16 0, .int .u16 0, .int .u16 0, .int .u16 0] 24)).alloc (.cells #[.int .u16 0, .int .u16 0, .int .u16 0, .int .u16 0, .int .u16 0, .int .u16 0, .int .u16 0, .int .u16 0] 24)).heap[w.heap.size + 1]? = some (.cells #[.int .u16 0, .int .u16 0, .int .u16 0, .int .u16 0, .int .u16 0, .int .u16 0, .int .u16 0, .int .u16 0] 24 (0, 0)) := blk_alloc (blk_newS _ _ _) _
  have h2 : (((w.alloc (.cells #[.int .u16 (pc 0 x.a), .int .u16 (pc 1 x.a), .int .u16 (pc 2 x.a), .int .u16 (pc 3 x.a), .int .u16 (pc 4 x.a), .int .u16 (pc 5 x.a), .int .u16 (pc 6 x.a), .int .u16 (pc 7 x.a), .int .i64 x.n] 26)).alloc (.cells #[.int .u16 0, .int .u16 0, .int .u16 0, .int .u16 0, .int .u16 0, .int .u16 0, .int .u16 0, .int .u16 0] 24)).alloc (.cells #[.int .u16 0, .int .u16 0, .int .u16 0, .int .u16 0, .int .u16 0, .int .u16 0, .int .u16 0, .int .u16 0] 24)).heap[w.heap.size + 1 + 1]? = some (.cells #[.int .u16 0, .int .u16 0, .int .u16 0, .int .u16 0, .int .u16 0, .int .u16 0, .int .u16 0, .int .u16 0] 24 (0, 0)) := by
    have := blk_newS (w.alloc (.cells #[.int .u16 (pc 0 x.a), .int .u16 (pc 1 x.a), .int .u16 (pc 2 x.a), .int .u16 (pc 3 x.a), .int .u16 (pc 4 x.a), .int .u16 (pc 5 x.a), .int .u16 (pc 6 x.a), .int .u16 (pc 7 x.a), .int .i64 x.n] 26)) (.cells #[.int .u16 0, .int .u16 0, .int .u16 0, .int .u16 0, .int .u16 0, .int .u16 0, .int .u16 0, .int .u16 0] 24) (.cells #[.int .u16 0, .int .u16 0, .int .u16 0, .int .u16 0, .int .u16 0, .int .u16 0, .int .u16 0, .int .u16 0] 24)
    rwa [World.size_alloc] at this
  go_upto_region 1 with fail
  generalize ((w.alloc (.cells #[.int .u16 (pc 0 x.a), .int .u16 (pc 1 x.a), .int .u16 (pc 2 x.a), .int .u16 (pc 3 x.a), .int .u16 (pc 4 x.a), .int .u16 (pc 5 x.a), .int .u16 (pc 6 x.a), .int .u16 (pc 7 x.a), .int .i64 x.n] 26)).alloc (.cells #[.int .u16 0, .int .u16 0, .int .u16 0, .int .u16 0, .int .u16 0, .int .u16 0, .int .u16 0, .int .u16 0] 24)).alloc (.cells #[.int .u16 0, .int .u16 0, .int .u16 0, .int .u16 0, .int .u16 0, .int .u16 0, .int .u16 0, .int .u16 0] 24) = W0 at *
  have HB := Lib.hid B0
  have H1 := Lib.hid h1
  have H2 := Lib.hid h2
  have c0 := (blk_cell h0 0).trans (show _ = some (Value.int .u16 (pc 0 x.a)) from rfl)
  have c1 := (blk_cell h0 1).trans (show _ = some (Value.int .u16 (pc 1 x.a)) from rfl)
  have c2 := (blk_cell h0 2).trans (show _ = some (Value.int .u16 (pc 2 x.a)) from rfl)
  have c3 := (blk_cell h0 3).trans (show _ = some (Value.int .u16 (pc 3 x.a)) from rfl)
  have c4 := (blk_cell h0 4).trans (show _ = some (Value.int .u16 (pc 4 x.a)) from rfl)
  have c5 := (blk_cell h0 5).trans (show _ = some (Value.int .u16 (pc 5 x.a)) from rfl)
  have c6 := (blk_cell h0 6).trans (show _ = some (Value.int .u16 (pc 6 x.a)) from rfl)
  have c7 := (blk_cell h0 7).trans (show _ = some (Value.int .u16 (pc 7 x.a)) from rfl)
  have c8 := (blk_cell h0 8).trans (show _ = some (Value.int .i64 x.n) from rfl)
  have hl0 := blk_lt h0
  clear h0 h1 h2 B0
  go_wp2_with fail
  refine (HI.out _).mono ?_
  rintro e w1 ⟨rfl, hb1⟩
  have e0 : ∀ (i : Nat), i < 8 → pc i 0 = 0 := by decide
  obtain ⟨wA, hA, xA, bA, oA, _⟩ := store_toS (blk_below H1.out hb1) rfl 0
  obtain ⟨wB, hB, xB, bB, oB, _⟩ := store_toS ((oA (w.heap.size + 1 + 1) (by omega)).trans (blk_below H2.out hb1)) rfl 0
  have xA2 : BAd wB (w.heap.size + 1) 0 := (oB (w.heap.size + 1) (by omega)).trans xA
  have B3 := Lib.hid (bB w.heap.size w (by omega) (bA w.heap.size w (by omega) (below_step HB.out hb1)))
  have u0 := (blk_cell xA2 0).trans (show _ = some (Value.int .u16 (pc 0 0)) from rfl)
  have u1 := (blk_cell xA2 1).trans (show _ = some (Value.int .u16 (pc 1 0)) from rfl)
  have u2 := (blk_cell xA2 2).trans (show _ = some (Value.int .u16 (pc 2 0)) from rfl)
  have u3 := (blk_cell xA2 3).trans (show _ = some (Value.int .u16 (pc 3 0)) from rfl)
  have u4 := (blk_cell xA2 4).trans (show _ = some (Value.int .u16 (pc 4 0)) from rfl)
  have u5 := (blk_cell xA2 5).trans (show _ = some (Value.int .u16 (pc 5 0)) from rfl)
  have u6 := (blk_cell xA2 6).trans (show _ = some (Value.int .u16 (pc 6 0)) from rfl)
  have u7 := (blk_cell xA2 7).trans (show _ = some (Value.int .u16 (pc 7 0)) from rfl)
  have v0 := (blk_cell xB 0).trans (show _ = some (Value.int .u16 (pc 0 0)) from rfl)
  have v1 := (blk_cell xB 1).trans (show _ = some (Value.int .u16 (pc 1 0)) from rfl)
  have v2 := (blk_cell xB 2).trans (show _ = some (Value.int .u16 (pc 2 0)) from rfl)
  have v3 := (blk_cell xB 3).trans (show _ = some (Value.int .u16 (pc 3 0)) from rfl)
  have v4 := (blk_cell xB 4).trans (show _ = some (Value.int .u16 (pc 4 0)) from rfl)
  have v5 := (blk_cell xB 5).trans (show _ = some (Value.int .u16 (pc 5 0)) from rfl)
  have v6 := (blk_cell xB 6).trans (show _ = some (Value.int .u16 (pc 6 0)) from rfl)
  have v7 := (blk_cell xB 7).trans (show _ = some (Value.int .u16 (pc 7 0)) from rfl)
  rw [e0 0 (by decide), e0 1 (by decide), e0 2 (by decide), e0 3 (by decide), e0 4 (by decide), e0 5 (by decide), e0 6 (by decide), e0 7 (by decide)] at hA hB
  rw [e0 0 (by decide)] at u0 v0
  rw [e0 1 (by decide)] at u1 v1
  rw [e0 2 (by decide)] at u2 v2
  rw [e0 3 (by decide)] at u3 v3
  rw [e0 4 (by decide)] at u4 v4
  rw [e0 5 (by decide)] at u5 v5
  rw [e0 6 (by decide)] at u6 v6
  rw [e0 7 (by decide)] at u7 v7
  clear e0 c0 c1 c2 c3 c4 c5 c6 c7 c8 hl0 hb1 xA xA2 xB bA bB oA oB
  go_wp2_with fail
  refine bodyPost_ret (by simp [results, Tryz.results7, go_sem, u0, u1, u2, u3, u4, u5, u6, u7, v0, v1, v2, v3, v4, v5, v6, v7]; try rfl) rfl ?_
  exact ⟨rfl, B3.out⟩
end Go.Proofs.YtcgdjnmfeibnoaaGreatDoor
/-! Itoa -/
namespace Go.Proofs.YtcgdjnmfeibnoaaGreatDoor
open Go.RowKit Go.Proofs.YtcgdjnmfeibnoaaGreatDoorW.PrintWords Go.Sort
set_option linter.unusedVariables false
set_option linter.unusedSimpArgs false
theorem below_grow (w : World) (n : Nat) (os : Array Obj) : Below w.heap.size w (grow (w.drewN n) os) :=
  ⟨rfl, rfl, rfl, by show w.heap.size ≤ (w.heap ++ os).size; rw [Array.size_append]; omega, fun _ hj => Sort.heap_grow_old (w.drewN n) os hj⟩
def strconv_Itoa.f (a0 : Int) : Option ByteArray := if -9223372036854775808 ≤ a0 ∧ a0 ≤ 9223372036854775807 then some ⟨(Lib.itoa a0).toArray⟩ else none
/-- What Itoa asks of the library's variables: its table. -/
structure GI (w : World) : Prop where
  pow10 : Lib.TabIs Tryz.prog w "internal/strconv.uint64pow10" .u64 Lib.pow10Tab
theorem GI.keep {w w' : World} (h : GI w) (hb : Below w.heap.size w w') : GI w' := ⟨tab_keep h.pow10 hb⟩
theorem itoa_at (a0 : Int) (r : ByteArray) (w : World) (hG : GI w) (h : strconv_Itoa.f a0 = some r) :
    Calls Tryz.prog 19 #[.int .i64 a0] w fun e w' => e = .returned (.string r) ∧ Below w.heap.size w w' := by
  unfold strconv_Itoa.f at h
  by_cases hs : -9223372036854775808 ≤ a0 ∧ a0 ≤ 9223372036854775807
  · rw [if_pos hs] at h
    obtain rfl := Option.some.inj h
    refine (Tryz.strconv_Itoa a0 hs.1 hs.2 w hG.pow10).mono ?_
    rintro e w' ⟨rfl, k, os, rfl⟩
    exact ⟨rfl, below_grow w k os⟩
  · rw [if_neg hs] at h
    cases h
end Go.Proofs.YtcgdjnmfeibnoaaGreatDoor
/-! SixPfx -/
namespace Go.Proofs.YtcgdjnmfeibnoaaGreatDoor
open Go.RowKit Go.Proofs.YtcgdjnmfeibnoaaGreatDoorW.PrintWords
set_option linter.unusedVariables false
set_option linter.unusedSimpArgs false
/-- The library's two error variables hold errors. -/
structure GE (w : World) : Prop where
  syn : ∃ ev, w.cell? ⟨1, 0, none⟩ = some ev ∧ (ev = .nilIface ∨ ∃ te pe, ev = .iface te pe)
  rng : ∃ ev, w.cell? ⟨2, 0, none⟩ = some ev ∧ (ev = .nilIface ∨ ∃ te pe, ev = .iface te pe)
theorem GE.keep {w w' : World} (h : GE w) (hb : Below w.heap.size w w') : GE w' := by
  obtain ⟨⟨e1, h1, k1⟩, ⟨e2, h2, k2⟩⟩ := h
  exact ⟨⟨e1, (hb.cell (p := ⟨1, 0, none⟩) (World.block_lt_of_cell? w _ h1)).trans h1, k1⟩, ⟨e2, (hb.cell (p := ⟨2, 0, none⟩) (World.block_lt_of_cell? w _ h2)).trans h2, k2⟩⟩
theorem ext_ofB {P : Program} {f : FuncId} {args : Array Value} {w : World} {x : Ext w} {v : Value} (h : ∀ W, Below w.heap.size w W → Calls P f args W fun e w' => e = .returned v ∧ Below W.heap.size W w') :
    Calls P f args x.wd fun e w'' => e = .returned v ∧ ∃ y : Ext w, w'' = y.wd := ext_of (h _ x.below)
/-- strconv.Atoi: a number, or an error. -/
theorem atoi_any (t : ByteArray) (ht : t.size ≤ 281474976710656) (w : World) (hE : GE w) : Calls Tryz.prog 18 #[.string t] w fun e w' =>
    (∃ v, e = .returned (.tuple #[.int .i64 v, .nilIface]) ∧ Lib.atoiAll t.data.toList = .ok v ∧ Below w.heap.size w w') ∨
    (∃ v ty p, e = .returned (.tuple #[.int .i64 v, .iface ty p]) ∧ (∀ u, Lib.atoiAll t.data.toList ≠ .ok u) ∧ Below w.heap.size w w') := by
  cases h : Lib.atoiAll t.data.toList
  case ok v =>
    refine (Tryz.strconv_Atoi_ok t (by omega) v h w).mono ?_
    rintro e w' ⟨rfl, hw⟩
    refine .inl ⟨v, rfl, rfl, ?_⟩
    rcases hw with rfl | ⟨s, rfl⟩
    · exact Below.refl _ _
    · exact bytes_below (Below.refl _ _) (Nat.le_refl _) _ _
  case range =>
    obtain ⟨ev, h1, h2⟩ := hE.rng
    refine (Tryz.strconv_Atoi_range t ht h ev w h1 h2).mono ?_
    rintro e w' ⟨N, rfl, _, _, hb⟩
    exact .inr ⟨_, _, _, rfl, (fun u hu => by cases hu), hb⟩
  case _ =>
    obtain ⟨ev, h1, h2⟩ := hE.syn
    refine (Any.strconv_Atoi_syntax Tryz.laysC172 t ht h ev w h1 h2).mono ?_
    rintro e w' ⟨N, rfl, _, _, hb⟩
    exact .inr ⟨_, _, _, rfl, (fun u hu => by cases hu), hb⟩
/-- The last stroke. -/
theorem last_spec (D : List UInt8) : LastR D D.length (Lib.lastIndexByte (BA D) 47) := by
  have hd : ∀ j, j < D.length → D[j]? = some ((BA D).data[j]!) := by
    intro j hj
    have e : (BA D).data.toList = D := ba_list D
    rw [← Array.getElem!_toList, e, getElem!_pos D j hj, List.getElem?_eq_getElem hj]
  have hz : (BA D).size = D.length := ba_size D
  have hc : ∀ b : UInt8, ((b.toNat : Nat) : Int) = 47 ↔ b = 47 := fun b => ⟨fun h => UInt8.toNat_inj.1 (show b.toNat = (47 : UInt8).toNat from by have : (47 : UInt8).toNat = 47 := rfl; omega), fun h => by rw [h]; rfl⟩
  rcases Lib.lastIndexByte_spec (BA D) 47 with ⟨e, h⟩ | ⟨k, hk, e, h1, h2⟩
  · refine .inl ⟨e, fun j hj hj2 => ?_⟩
    rw [hd j hj] at hj2
    exact h j (by omega) ((hc _).2 (Option.some.inj hj2))
  · refine .inr ⟨k, by omega, e, ?_, fun j hj hjm hj2 => ?_⟩
    · rw [hd k (by omega), (hc _).1 h1]
    · rw [hd j hjm] at hj2
      exact h2 j hj (by omega) ((hc _).2 (Option.some.inj hj2))
theorem pfx_bad {D : List UInt8} {k : Nat} {f : Nat → Int} {a : Int} (hp : parseR (D.take k) = (f, a, 0)) (h : ∀ n, bitsP (D.drop (k + 1)) = some n → isPre (V8 (f 0) (f 1) (f 2) (f 3) (f 4) (f 5) (f 6) (f 7)) n = false) : pfxR D k = (fun _ => 0, 0, (k : Int) + 1, 211) := by
  unfold pfxR
  rw [if_neg (show ¬ ((k : Int) < 0) from by omega), Int.toNat_natCast, hp]
  simp only [if_true]
  cases hb : bitsP (D.drop (k + 1)) with
  | none => rfl
  | some n =>
    simp only []
    rw [h n hb]
    rfl
theorem pfx_good {D : List UInt8} {k n : Nat} {f : Nat → Int} {a : Int} (hp : parseR (D.take k) = (f, a, 0)) (hb : bitsP (D.drop (k + 1)) = some n) (h : isPre (V8 (f 0) (f 1) (f 2) (f 3) (f 4) (f 5) (f 6) (f 7)) n = true) : pfxR D k = (f, (n : Int), 0, 0) := by
  unfold pfxR
  rw [if_neg (show ¬ ((k : Int) < 0) from by omega), Int.toNat_natCast, hp]
  simp only [if_true, hb, h]
theorem atoi_rng {l : List UInt8} {v : Int} (h : Lib.atoiAll l = .ok v) : -9223372036854775808 ≤ v ∧ v ≤ 9223372036854775807 := by
  unfold Lib.atoiAll at h
  cases l with
  | nil => cases h
  | cons c r =>
    simp only [] at h
    split at h
    · cases h
    · cases h
    · split at h
      · cases h
      · split at h
        · cases h
        · injection h with h
          split at h <;> omega
theorem pre_out {v n : Int} (h : isPre v n = true) : 0 ≤ n ∧ n ≤ 128 := by
  unfold isPre at h
  have := of_decide_eq_true h
  exact ⟨this.1, this.2.1⟩
@[irreducible] def storeP (x v : Value) : Sem Unit := Instr.storeAt 26 x v
@[go_sem ↓ high] theorem storeP_of (x v : Value) : Instr.storeAt 26 x v = storeP x v := by unfold storeP; rfl
theorem storeP_old {W : World} {g : Nat} {old : Array Value} (h : W.heap[g]? = some (.cells old 26 (0, 0))) (ho : old.size = 9) (y0 y1 y2 y3 y4 y5 y6 y7 n : Int) :
    (storeP (.pointer (some ⟨g, 0, none⟩)) (.agg #[.int .u16 y0, .int .u16 y1, .int .u16 y2, .int .u16 y3, .int .u16 y4, .int .u16 y5, .int .u16 y6, .int .u16 y7, .int .i64 n])).run Tryz.prog W = .ok () (W.setRow g #[.int .u16 y0, .int .u16 y1, .int .u16 y2, .int .u16 y3, .int .u16 y4, .int .u16 y5, .int .u16 y6, .int .u16 y7, .int .i64 n]) := by
  unfold storeP
  simp only [Instr.storeAt, Instr.sureAddr, Sem.run_bind, Sem.run_pure, Result.andThen]
  exact run_storeVar_row _ _ 26 26 old #[.int .u16 y0, .int .u16 y1, .int .u16 y2, .int .u16 y3, .int .u16 y4, .int .u16 y5, .int .u16 y6, .int .u16 y7, .int .i64 n] h (by kernel_rfl) ho (by simp [Value.oneCell'])
@[go_sem] theorem storeP_new {b : Nat} (W : World) (z0 z1 z2 z3 z4 z5 z6 z7 m y0 y1 y2 y3 y4 y5 y6 y7 n : Int) (hn : b = W.heap.size) :
    (storeP (.pointer (some ⟨b, 0, none⟩)) (.agg #[.int .u16 y0, .int .u16 y1, .int .u16 y2, .int .u16 y3, .int .u16 y4, .int .u16 y5, .int .u16 y6, .int .u16 y7, .int .i64 n])).run Tryz.prog (W.alloc (.cells #[.int .u16 z0, .int .u16 z1, .int .u16 z2, .int .u16 z3, .int .u16 z4, .int .u16 z5, .int .u16 z6, .int .u16 z7, .int .i64 m] 26)) = .ok () (W.alloc (.cells #[.int .u16 y0, .int .u16 y1, .int .u16 y2, .int .u16 y3, .int .u16 y4, .int .u16 y5, .int .u16 y6, .int .u16 y7, .int .i64 n] 26)) := by
  subst hn
  rw [storeP_old (heap_alloc_new W _) rfl]
  congr 1
  exact World.setRow_alloc_new W _ _ 26
theorem store_toP {W : World} {g : Nat} {old : Array Value} (h : W.heap[g]? = some (.cells old 26 (0, 0))) (ho : old.size = 9) (y0 y1 y2 y3 y4 y5 y6 y7 n : Int) :
    ∃ wB, (storeP (.pointer (some ⟨g, 0, none⟩)) (.agg #[.int .u16 y0, .int .u16 y1, .int .u16 y2, .int .u16 y3, .int .u16 y4, .int .u16 y5, .int .u16 y6, .int .u16 y7, .int .i64 n])).run Tryz.prog W = .ok () wB ∧ wB.heap[g]? = some (.cells #[.int .u16 y0, .int .u16 y1, .int .u16 y2, .int .u16 y3, .int .u16 y4, .int .u16 y5, .int .u16 y6, .int .u16 y7, .int .i64 n] 26 (0, 0)) ∧ (∀ B w0, B ≤ g → Below B w0 W → Below B w0 wB) ∧ (∀ b, b ≠ g → wB.heap[b]? = W.heap[b]?) :=
  ⟨_, storeP_old h ho _ _ _ _ _ _ _ _ _, setRow_at h, fun B w0 hB hw => below_setRow hw hB _, fun b hb => setRow_elseS hb⟩
/-- What a prefix's reader answers. -/
def PfxV (D : List UInt8) (c : Int) : Value := .tuple #[.agg #[.int .u16 ((pfxR D c).1 0), .int .u16 ((pfxR D c).1 1), .int .u16 ((pfxR D c).1 2), .int .u16 ((pfxR D c).1 3), .int .u16 ((pfxR D c).1 4), .int .u16 ((pfxR D c).1 5), .int .u16 ((pfxR D c).1 6), .int .u16 ((pfxR D c).1 7), .int .i64 (pfxR D c).2.1], .int .i64 (pfxR D c).2.2.1, .int .i64 (pfxR D c).2.2.2]
set_option maxHeartbeats 4000000 in
set_option maxRecDepth 100000 in
theorem parsePrefix_walk (D : List UInt8) (hD : D.length ≤ 1048576) (w : World) (hG : GW w) (hI : GI w) (hE : GE w) :
    Calls Tryz.prog 4 #[.string (BA D)] w fun e w' => e = .returned (PfxV D (Lib.lastIndexByte (BA D) 47)) ∧ Below w.heap.size w w' := by
  have hl := last_spec D
  have hsz : (BA D).size = D.length := ba_size D
  have HLI := Lib.hid (fun w => Tryz.strings_LastIndexByte (BA D) 47 (by rw [hsz]; omega) w)
  obtain ⟨c, hc⟩ : ∃ c, c = Lib.lastIndexByte (BA D) 47 := ⟨_, rfl⟩
  rw [← hc] at hl HLI ⊢
  have HL := Lib.hid hl
  have HG := Lib.hid hG
  have HI := Lib.hid hI
  have HE := Lib.hid hE
  clear hc hl hG hI hE
  go_enter Tryz.func4, Tryz.ntmps4
  go_wp2_with fail
  refine (HLI.out _).mono ?_
  rintro e w1 ⟨rfl, rfl⟩
  clear HLI
  by_cases hneg : c < 0
  · have hp : pfxR D c = (fun _ => 0, 0, (D.length : Int), 211) := by unfold pfxR; rw [if_pos hneg]
    have HPX := Lib.hid hp
    clear hp
    go_wp2_with fail
    go_returns
    exact ⟨by unfold PfxV; rw [HPX.out], (Below.refl _ _).alloc (Nat.le_refl _) _⟩
  · obtain ⟨k, rfl⟩ : ∃ k : Nat, c = k := ⟨c.toNat, by omega⟩
    have hk : k < D.length := by
      rcases HL.out with ⟨e, _⟩ | ⟨k', h, e, _⟩
      · omega
      · omega
    have ex1 : (BA D).extract 0 k = BA (D.take k) := by rw [extract_head, ba_list]
    have ex2 : (BA D).extract (k + 1) D.length = BA (D.drop (k + 1)) := by rw [extract_ba, ba_list, List.take_of_length_le (by simp)]
    obtain ⟨f, a, b, hpr⟩ : ∃ f a b, parseR (D.take k) = (f, a, b) := ⟨_, _, _, rfl⟩
    have HPR := Lib.hid hpr
    have HPW := Lib.hid (fun w (hG : GW w) => (parse_walk (BA (D.take k)) (Nat.le_trans (Nat.le_of_eq (ba_size _)) (by have := List.length_take (i := k) (l := D); omega)) w hG).mono fun e w' h => parsed_at (f := f) (a := a) (b := b) (by rw [ba_list]; exact hpr) h)
    have hneg' : ¬ (k : Int) < 0 := by omega
    have hkz : (k : Int) ≤ (D.length : Int) := by omega
    have hkz2 : (k : Int) + 1 ≤ (D.length : Int) := by omega
    clear hpr
    have hz0 : (w.alloc (.cells #[.int .u16 0, .int .u16 0, .int .u16 0, .int .u16 0, .int .u16 0, .int .u16 0, .int .u16 0, .int .u16 0, .int .i64 0] 26)).heap[w.heap.size]? = some (.cells #[.int .u16 0, .int .u16 0, .int .u16 0, .int .u16 0, .int .u16 0, .int .u16 0, .int .u16 0, .int .u16 0, .int .i64 0] 26 (0, 0)) := blk_new _ _
    have hbz : Below w.heap.size w (w.alloc (.cells #[.int .u16 0, .int .u16 0, .int .u16 0, .int .u16 0, .int .u16 0, .int .u16 0, .int .u16 0, .int .u16 0, .int .i64 0] 26)) := (Below.refl _ _).alloc (Nat.le_refl _) _
    go_wp2_with fail
    refine (HPW.out _ (HG.out.keep hbz)).mono ?_
    rintro e w2 ⟨rfl, hb2⟩
    have hz2 := blk_alloc (blk_below hz0 hb2) (.cells #[.int .u16 (f 0), .int .u16 (f 1), .int .u16 (f 2), .int .u16 (f 3), .int .u16 (f 4), .int .u16 (f 5), .int .u16 (f 6), .int .u16 (f 7)] 24)
    have hB2 : Below w.heap.size w (w2.alloc (.cells #[.int .u16 (f 0), .int .u16 (f 1), .int .u16 (f 2), .int .u16 (f 3), .int .u16 (f 4), .int .u16 (f 5), .int .u16 (f 6), .int .u16 (f 7)] 24)) := (below_step hbz hb2).alloc (below_step hbz hb2).size _
    have h6 : (w2.alloc (.cells #[.int .u16 (f 0), .int .u16 (f 1), .int .u16 (f 2), .int .u16 (f 3), .int .u16 (f 4), .int .u16 (f 5), .int .u16 (f 6), .int .u16 (f 7)] 24)).heap[w2.heap.size]? = some (.cells #[.int .u16 (f 0), .int .u16 (f 1), .int .u16 (f 2), .int .u16 (f 3), .int .u16 (f 4), .int .u16 (f 5), .int .u16 (f 6), .int .u16 (f 7)] 24 (0, 0)) := blk_new _ _
    clear hz0 hb2 hbz HPW
    by_cases hb0 : b = 0
    · subst hb0
      go_upto_region 5 with fail
      generalize w2.heap.size = b6 at *
      generalize w2.alloc (.cells #[.int .u16 (f 0), .int .u16 (f 1), .int .u16 (f 2), .int .u16 (f 3), .int .u16 (f 4), .int .u16 (f 5), .int .u16 (f 6), .int .u16 (f 7)] 24) = W3 at *
      have H6 := Lib.hid h6
      have HZ := Lib.hid hz2
      have HB2 := Lib.hid hB2
      have HAT := Lib.hid (fun w (hE : GE w) => atoi_any (BA (D.drop (k + 1))) (Nat.le_trans (Nat.le_of_eq (ba_size _)) (by have := List.length_drop (i := k + 1) (l := D); omega)) w hE)
      clear h6 hz2 hB2
      go_wp2_with fail
      refine (HAT.out _ (HE.out.keep HB2.out)).mono ?_
      rintro e w4 (⟨v, rfl, hv, hb4⟩ | ⟨v, ty, p, rfl, hno, hb4⟩)
      · rw [ba_list] at hv
        have HV := Lib.hid hv
        have H64 := blk_below H6.out hb4
        clear hv
        have c0 := (blk_cell H64 0).trans (show _ = some (Value.int .u16 (f 0)) from rfl)
        have c1 := (blk_cell H64 1).trans (show _ = some (Value.int .u16 (f 1)) from rfl)
        have c2 := (blk_cell H64 2).trans (show _ = some (Value.int .u16 (f 2)) from rfl)
        have c3 := (blk_cell H64 3).trans (show _ = some (Value.int .u16 (f 3)) from rfl)
        have c4 := (blk_cell H64 4).trans (show _ = some (Value.int .u16 (f 4)) from rfl)
        have c5 := (blk_cell H64 5).trans (show _ = some (Value.int .u16 (f 5)) from rfl)
        have c6 := (blk_cell H64 6).trans (show _ = some (Value.int .u16 (f 6)) from rfl)
        have c7 := (blk_cell H64 7).trans (show _ = some (Value.int .u16 (f 7)) from rfl)
        have hl4 := blk_lt H64
        go_upto_region 9 with fail
        have h11 : (w4.alloc (.cells #[.int .u16 (f 0), .int .u16 (f 1), .int .u16 (f 2), .int .u16 (f 3), .int .u16 (f 4), .int .u16 (f 5), .int .u16 (f 6), .int .u16 (f 7), .int .i64 v] 26)).heap[w4.heap.size]? = some (.cells #[.int .u16 (f 0), .int .u16 (f 1), .int .u16 (f 2), .int .u16 (f 3), .int .u16 (f 4), .int .u16 (f 5), .int .u16 (f 6), .int .u16 (f 7), .int .i64 v] 26 (0, 0)) := blk_new _ _
        have hz5 := blk_alloc (blk_below HZ.out hb4) (.cells #[.int .u16 (f 0), .int .u16 (f 1), .int .u16 (f 2), .int .u16 (f 3), .int .u16 (f 4), .int .u16 (f 5), .int .u16 (f 6), .int .u16 (f 7), .int .i64 v] 26)
        have hB5 := (below_step HB2.out hb4).alloc (below_step HB2.out hb4).size (.cells #[.int .u16 (f 0), .int .u16 (f 1), .int .u16 (f 2), .int .u16 (f 3), .int .u16 (f 4), .int .u16 (f 5), .int .u16 (f 6), .int .u16 (f 7), .int .i64 v] 26)
        generalize w4.heap.size = b11 at *
        generalize w4.alloc (.cells #[.int .u16 (f 0), .int .u16 (f 1), .int .u16 (f 2), .int .u16 (f 3), .int .u16 (f 4), .int .u16 (f 5), .int .u16 (f 6), .int .u16 (f 7), .int .i64 v] 26) = W5 at *
        have HZ5 := Lib.hid hz5
        have HB5 := Lib.hid hB5
        have H11 := Lib.hid h11
        clear hz5 hB5 hb4 c0 c1 c2 c3 c4 c5 c6 c7 hl4 H64
        have c0 := (blk_cell h11 0).trans (show _ = some (Value.int .u16 (f 0)) from rfl)
        have c1 := (blk_cell h11 1).trans (show _ = some (Value.int .u16 (f 1)) from rfl)
        have c2 := (blk_cell h11 2).trans (show _ = some (Value.int .u16 (f 2)) from rfl)
        have c3 := (blk_cell h11 3).trans (show _ = some (Value.int .u16 (f 3)) from rfl)
        have c4 := (blk_cell h11 4).trans (show _ = some (Value.int .u16 (f 4)) from rfl)
        have c5 := (blk_cell h11 5).trans (show _ = some (Value.int .u16 (f 5)) from rfl)
        have c6 := (blk_cell h11 6).trans (show _ = some (Value.int .u16 (f 6)) from rfl)
        have c7 := (blk_cell h11 7).trans (show _ = some (Value.int .u16 (f 7)) from rfl)
        have c8 := (blk_cell h11 8).trans (show _ = some (Value.int .i64 v) from rfl)
        have hl5 := blk_lt h11
        have hr := parseR_r8 (D.take k)
        rw [HPR.out] at hr
        have HIS := Lib.hid (fun W => is_walk _ _ _ _ _ _ _ _ hr v W)
        have HIT := Lib.hid (fun (W : World) (hb : Below W5.heap.size W5 W) => itoa_at v _ W (HI.out.keep (below_step HB5.out hb)) (by unfold strconv_Itoa.f; rw [if_pos (atoi_rng HV.out)]))
        clear hr h11
        by_cases hit : Lib.itoa v = D.drop (k + 1)
        · rw [show (⟨(Lib.itoa v).toArray⟩ : ByteArray) = BA (D.drop (k + 1)) from by rw [← hit]; rfl] at HIT
          have HHIT := Lib.hid hit
          clear hit
          cases hpre : isPre (V8 (f 0) (f 1) (f 2) (f 3) (f 4) (f 5) (f 6) (f 7)) v with
          | true =>
            rw [hpre] at HIS
            have HPRE := Lib.hid hpre
            clear hpre
            refine wp_region_ext (by kernel_rfl) (by kernel_rfl) ?_
            repeat (first | go_big_quiet_step (first | (with_reducible exact ext_ofB HIT.out) | (with_reducible exact ext_of (HIS.out _))) | (rw [beq_self_eq_true]))
            refine wpQuiet_nil ?_
            rintro W6 ⟨⟨_, hb6⟩, rfl⟩
            have hz6 := blk_below HZ5.out hb6
            have hB6 := below_step HB5.out hb6
            clear c0 c1 c2 c3 c4 c5 c6 c7 c8 hl5
            have h12 := blk_below H11.out hb6
            have c0 := (blk_cell h12 0).trans (show _ = some (Value.int .u16 (f 0)) from rfl)
            have c1 := (blk_cell h12 1).trans (show _ = some (Value.int .u16 (f 1)) from rfl)
            have c2 := (blk_cell h12 2).trans (show _ = some (Value.int .u16 (f 2)) from rfl)
            have c3 := (blk_cell h12 3).trans (show _ = some (Value.int .u16 (f 3)) from rfl)
            have c4 := (blk_cell h12 4).trans (show _ = some (Value.int .u16 (f 4)) from rfl)
            have c5 := (blk_cell h12 5).trans (show _ = some (Value.int .u16 (f 5)) from rfl)
            have c6 := (blk_cell h12 6).trans (show _ = some (Value.int .u16 (f 6)) from rfl)
            have c7 := (blk_cell h12 7).trans (show _ = some (Value.int .u16 (f 7)) from rfl)
            have c8 := (blk_cell h12 8).trans (show _ = some (Value.int .i64 v) from rfl)
            have hl6 := blk_lt h12
            clear hb6 h12
            have hvn : ∃ n : Nat, bitsP (D.drop (k + 1)) = some n ∧ v = n := by
              cases hbp : bitsP (D.drop (k + 1)) with
              | none => exact absurd (pre_out HPRE.out) (bits_none hbp HV.out HHIT.out)
              | some n =>
                have := (bits_some hbp).2.2.1
                rw [HV.out] at this
                injection this with this
                exact ⟨n, rfl, this⟩
            obtain ⟨n, hbn, hvn⟩ := hvn
            have hp := pfx_good HPR.out hbn (by rw [← hvn]; exact HPRE.out)
            have HPX := Lib.hid hp
            have HVN := Lib.hid hvn
            clear hp hbn hvn
            go_upto_region 11 with fail
            obtain ⟨wB, hst, hBx, hBb, _⟩ := store_toP hz6 rfl (f 0) (f 1) (f 2) (f 3) (f 4) (f 5) (f 6) (f 7) v
            have u0 := (blk_cell hBx 0).trans (show _ = some (Value.int .u16 (f 0)) from rfl)
            have u1 := (blk_cell hBx 1).trans (show _ = some (Value.int .u16 (f 1)) from rfl)
            have u2 := (blk_cell hBx 2).trans (show _ = some (Value.int .u16 (f 2)) from rfl)
            have u3 := (blk_cell hBx 3).trans (show _ = some (Value.int .u16 (f 3)) from rfl)
            have u4 := (blk_cell hBx 4).trans (show _ = some (Value.int .u16 (f 4)) from rfl)
            have u5 := (blk_cell hBx 5).trans (show _ = some (Value.int .u16 (f 5)) from rfl)
            have u6 := (blk_cell hBx 6).trans (show _ = some (Value.int .u16 (f 6)) from rfl)
            have u7 := (blk_cell hBx 7).trans (show _ = some (Value.int .u16 (f 7)) from rfl)
            have u8 := (blk_cell hBx 8).trans (show _ = some (Value.int .i64 v) from rfl)
            have hBl := blk_lt hBx
            have HBB := Lib.hid (hBb w.heap.size w (Nat.le_refl _) hB6)
            clear hBx hBb hz6 hB6
            go_wp2_with fail
            refine bodyPost_ret (by simp [results, Tryz.results4, go_sem, u0, u1, u2, u3, u4, u5, u6, u7, u8]; try rfl) rfl ?_
            exact ⟨by unfold PfxV; rw [HPX.out, HVN.out], HBB.out⟩
          | false =>
            rw [hpre] at HIS
            have HPRE := Lib.hid hpre
            clear hpre
            refine wp_region_ext (by kernel_rfl) (by kernel_rfl) ?_
            repeat (first | go_big_quiet_step (first | (with_reducible exact ext_ofB HIT.out) | (with_reducible exact ext_of (HIS.out _))) | (rw [beq_self_eq_true]))
            refine wpQuiet_nil ?_
            rintro W6 ⟨⟨_, hb6⟩, rfl⟩
            have hz6 := blk_below HZ5.out hb6
            have hB6 := below_step HB5.out hb6
            clear c0 c1 c2 c3 c4 c5 c6 c7 c8 hl5
            have hp := pfx_bad HPR.out (fun n hn => by
              have := (bits_some hn).2.2.1
              rw [HV.out] at this
              injection this with this
              rw [← this]
              exact HPRE.out)
            have HPX := Lib.hid hp
            clear hp hb6
            go_upto_region 10 with fail
            obtain ⟨wB, hst, hBx, hBb, _⟩ := store_toP hz6 rfl 0 0 0 0 0 0 0 0 0
            have u0 := (blk_cell hBx 0).trans (show _ = some (Value.int .u16 0) from rfl)
            have u1 := (blk_cell hBx 1).trans (show _ = some (Value.int .u16 0) from rfl)
            have u2 := (blk_cell hBx 2).trans (show _ = some (Value.int .u16 0) from rfl)
            have u3 := (blk_cell hBx 3).trans (show _ = some (Value.int .u16 0) from rfl)
            have u4 := (blk_cell hBx 4).trans (show _ = some (Value.int .u16 0) from rfl)
            have u5 := (blk_cell hBx 5).trans (show _ = some (Value.int .u16 0) from rfl)
            have u6 := (blk_cell hBx 6).trans (show _ = some (Value.int .u16 0) from rfl)
            have u7 := (blk_cell hBx 7).trans (show _ = some (Value.int .u16 0) from rfl)
            have u8 := (blk_cell hBx 8).trans (show _ = some (Value.int .i64 0) from rfl)
            have hBl := blk_lt hBx
            have HBB := Lib.hid (hBb w.heap.size w (Nat.le_refl _) hB6)
            clear hBx hBb hz6 hB6
            go_wp2_with fail
            refine bodyPost_ret (by simp [results, Tryz.results4, go_sem, u0, u1, u2, u3, u4, u5, u6, u7, u8]; try rfl) rfl ?_
            exact ⟨by unfold PfxV; rw [HPX.out], HBB.out⟩
        · have hnb : ((BA (Lib.itoa v)).toList == (BA (D.drop (k + 1))).toList) = false := by
            rw [beq_eq_false_iff_ne]
            intro h
            apply hit
            rw [toList_data, toList_data, ba_list, ba_list] at h
            exact h
          rw [show (⟨(Lib.itoa v).toArray⟩ : ByteArray) = BA (Lib.itoa v) from rfl] at HIT
          have HHIT := Lib.hid hit
          clear hit
          refine wp_region_ext (by kernel_rfl) (by kernel_rfl) ?_
          repeat (first | go_big_quiet_step (first | (with_reducible exact ext_ofB HIT.out) | (with_reducible exact ext_of (HIS.out _))) | (rw [beq_self_eq_true]))
          refine wpQuiet_nil ?_
          rintro W6 ⟨⟨_, hb6⟩, rfl⟩
          have hz6 := blk_below HZ5.out hb6
          have hB6 := below_step HB5.out hb6
          clear c0 c1 c2 c3 c4 c5 c6 c7 c8 hl5
          have hp := pfx_bad HPR.out (fun n hn => by
            exfalso
            obtain ⟨_, _, h1, h2⟩ := bits_some hn
            rw [HV.out] at h1
            injection h1 with h1
            exact HHIT.out (by rw [h1]; exact h2))
          have HPX := Lib.hid hp
          clear hp hb6
          go_upto_region 10 with fail
          obtain ⟨wB, hst, hBx, hBb, _⟩ := store_toP hz6 rfl 0 0 0 0 0 0 0 0 0
          have u0 := (blk_cell hBx 0).trans (show _ = some (Value.int .u16 0) from rfl)
          have u1 := (blk_cell hBx 1).trans (show _ = some (Value.int .u16 0) from rfl)
          have u2 := (blk_cell hBx 2).trans (show _ = some (Value.int .u16 0) from rfl)
          have u3 := (blk_cell hBx 3).trans (show _ = some (Value.int .u16 0) from rfl)
          have u4 := (blk_cell hBx 4).trans (show _ = some (Value.int .u16 0) from rfl)
          have u5 := (blk_cell hBx 5).trans (show _ = some (Value.int .u16 0) from rfl)
          have u6 := (blk_cell hBx 6).trans (show _ = some (Value.int .u16 0) from rfl)
          have u7 := (blk_cell hBx 7).trans (show _ = some (Value.int .u16 0) from rfl)
          have u8 := (blk_cell hBx 8).trans (show _ = some (Value.int .i64 0) from rfl)
          have hBl := blk_lt hBx
          have HBB := Lib.hid (hBb w.heap.size w (Nat.le_refl _) hB6)
          clear hBx hBb hz6 hB6
          go_wp2_with fail
          refine bodyPost_ret (by simp [results, Tryz.results4, go_sem, u0, u1, u2, u3, u4, u5, u6, u7, u8]; try rfl) rfl ?_
          exact ⟨by unfold PfxV; rw [HPX.out], HBB.out⟩
      · rw [ba_list] at hno
        have HNO := Lib.hid hno
        clear hno
        have H64 := blk_below H6.out hb4
        have c0 := (blk_cell H64 0).trans (show _ = some (Value.int .u16 (f 0)) from rfl)
        have c1 := (blk_cell H64 1).trans (show _ = some (Value.int .u16 (f 1)) from rfl)
        have c2 := (blk_cell H64 2).trans (show _ = some (Value.int .u16 (f 2)) from rfl)
        have c3 := (blk_cell H64 3).trans (show _ = some (Value.int .u16 (f 3)) from rfl)
        have c4 := (blk_cell H64 4).trans (show _ = some (Value.int .u16 (f 4)) from rfl)
        have c5 := (blk_cell H64 5).trans (show _ = some (Value.int .u16 (f 5)) from rfl)
        have c6 := (blk_cell H64 6).trans (show _ = some (Value.int .u16 (f 6)) from rfl)
        have c7 := (blk_cell H64 7).trans (show _ = some (Value.int .u16 (f 7)) from rfl)
        have hl4 := blk_lt H64
        go_upto_region 9 with fail
        have hz5 := blk_alloc (blk_below HZ.out hb4) (.cells #[.int .u16 (f 0), .int .u16 (f 1), .int .u16 (f 2), .int .u16 (f 3), .int .u16 (f 4), .int .u16 (f 5), .int .u16 (f 6), .int .u16 (f 7), .int .i64 v] 26)
        have hB5 := (below_step HB2.out hb4).alloc (below_step HB2.out hb4).size (.cells #[.int .u16 (f 0), .int .u16 (f 1), .int .u16 (f 2), .int .u16 (f 3), .int .u16 (f 4), .int .u16 (f 5), .int .u16 (f 6), .int .u16 (f 7), .int .i64 v] 26)
        generalize w4.heap.size = b11 at *
        generalize w4.alloc (.cells #[.int .u16 (f 0), .int .u16 (f 1), .int .u16 (f 2), .int .u16 (f 3), .int .u16 (f 4), .int .u16 (f 5), .int .u16 (f 6), .int .u16 (f 7), .int .i64 v] 26) = W5 at *
        have HZ5 := Lib.hid hz5
        have HB5 := Lib.hid hB5
        clear hz5 hB5 hb4 c0 c1 c2 c3 c4 c5 c6 c7 hl4 H64
        refine wp_region_ext (by kernel_rfl) (by kernel_rfl) ?_
        repeat (go_big_quiet_step (fail))
        refine wpQuiet_nil ?_
        rintro W6 ⟨⟨_, hb6⟩, rfl⟩
        have hz6 := blk_below HZ5.out hb6
        have hB6 := below_step HB5.out hb6
        have hp := pfx_bad HPR.out (fun n hn => absurd (bits_some hn).2.2.1 (HNO.out n))
        have HPX := Lib.hid hp
        clear hp hb6
        go_upto_region 10 with fail
        obtain ⟨wB, hst, hBx, hBb, _⟩ := store_toP hz6 rfl 0 0 0 0 0 0 0 0 0
        have u0 := (blk_cell hBx 0).trans (show _ = some (Value.int .u16 0) from rfl)
        have u1 := (blk_cell hBx 1).trans (show _ = some (Value.int .u16 0) from rfl)
        have u2 := (blk_cell hBx 2).trans (show _ = some (Value.int .u16 0) from rfl)
        have u3 := (blk_cell hBx 3).trans (show _ = some (Value.int .u16 0) from rfl)
        have u4 := (blk_cell hBx 4).trans (show _ = some (Value.int .u16 0) from rfl)
        have u5 := (blk_cell hBx 5).trans (show _ = some (Value.int .u16 0) from rfl)
        have u6 := (blk_cell hBx 6).trans (show _ = some (Value.int .u16 0) from rfl)
        have u7 := (blk_cell hBx 7).trans (show _ = some (Value.int .u16 0) from rfl)
        have u8 := (blk_cell hBx 8).trans (show _ = some (Value.int .i64 0) from rfl)
        have hBl := blk_lt hBx
        have HBB := Lib.hid (hBb w.heap.size w (Nat.le_refl _) hB6)
        clear hBx hBb hz6 hB6
        go_wp2_with fail
        refine bodyPost_ret (by simp [results, Tryz.results4, go_sem, u0, u1, u2, u3, u4, u5, u6, u7, u8]; try rfl) rfl ?_
        exact ⟨by unfold PfxV; rw [HPX.out], HBB.out⟩
    · have hp : pfxR D k = (fun _ => 0, 0, a, b) := by
        unfold pfxR
        rw [if_neg (show ¬ ((k : Int) < 0) from by omega), Int.toNat_natCast, HPR.out, if_neg hb0]
      have HPX := Lib.hid hp
      clear hp
      have hbne : (b == 0) = false := by rw [beq_eq_false_iff_ne]; exact hb0
      go_upto_region 6 with fail
      obtain ⟨wB, hst, hBx, hBb, _⟩ := store_toP hz2 rfl 0 0 0 0 0 0 0 0 0
      have u0 := (blk_cell hBx 0).trans (show _ = some (Value.int .u16 0) from rfl)
      have u1 := (blk_cell hBx 1).trans (show _ = some (Value.int .u16 0) from rfl)
      have u2 := (blk_cell hBx 2).trans (show _ = some (Value.int .u16 0) from rfl)
      have u3 := (blk_cell hBx 3).trans (show _ = some (Value.int .u16 0) from rfl)
      have u4 := (blk_cell hBx 4).trans (show _ = some (Value.int .u16 0) from rfl)
      have u5 := (blk_cell hBx 5).trans (show _ = some (Value.int .u16 0) from rfl)
      have u6 := (blk_cell hBx 6).trans (show _ = some (Value.int .u16 0) from rfl)
      have u7 := (blk_cell hBx 7).trans (show _ = some (Value.int .u16 0) from rfl)
      have u8 := (blk_cell hBx 8).trans (show _ = some (Value.int .i64 0) from rfl)
      have hBl := blk_lt hBx
      have HBB := Lib.hid (hBb w.heap.size w (Nat.le_refl _) hB2)
      clear hBx hBb
      go_wp2_with fail
      refine bodyPost_ret (by simp [results, Tryz.results4, go_sem, u0, u1, u2, u3, u4, u5, u6, u7, u8]; try rfl) rfl ?_
      exact ⟨by unfold PfxV; rw [HPX.out], HBB.out⟩
end Go.Proofs.YtcgdjnmfeibnoaaGreatDoor
/-! SixPath -/
namespace Go.Proofs.YtcgdjnmfeibnoaaGreatDoor
open Go.RowKit Go.Proofs.YtcgdjnmfeibnoaaGreatDoorW.PrintWords
set_option linter.unusedVariables false
set_option linter.unusedSimpArgs false
/-- A way of a reader over a text. -/
inductive Way : List UInt8 → St → St → Prop
  | none {s : St} : Way [] s s
  | more {c : UInt8} {t : List UInt8} {s y z : St} (h : y ∈ nextP s (c.toNat : Int)) (r : Way t y z) : Way (c :: t) s z
theorem Way.one {c : UInt8} {s y : St} (h : y ∈ nextP s (c.toNat : Int)) : Way [c] s y := .more h .none
theorem Way.trans {a b : List UInt8} {s y z : St} (h : Way a s y) (k : Way b y z) : Way (a ++ b) s z := by
  induction h with
  | none => exact k
  | more h _ ih => exact .more h (ih k)
theorem Way.states {t : List UInt8} {s z : St} (h : Way t s z) : ∀ (l : List St) (i : Nat), s ∈ l → ∃ m, statesV t l i = .inr m ∧ z ∈ m := by
  induction h with
  | none => exact fun l i hs => ⟨l, rfl, hs⟩
  | @more c t s y z h _ ih =>
    intro l i hs
    have hy : y ∈ l.flatMap (nextP · (c.toNat : Int)) := List.mem_flatMap.2 ⟨s, hs, h⟩
    rw [statesV, if_neg (fun e => by rw [e] at hy; cases hy)]
    exact ih _ _ hy
theorem way_parse {t : List UInt8} {z : St} (h : Way t st0 z) (he : endsP z = true) : parseP t = (outOf (writtenV (cut2 t).1) (writtenV (cut2 t).2.1), 0, 0) := by
  obtain ⟨m, hm, hz⟩ := h.states [st0] 0 (by simp)
  unfold parseP
  rw [hm]
  simp only
  rw [if_pos (List.any_eq_true.2 ⟨z, hz, he⟩)]
theorem hex_not58 {c : UInt8} (h : 0 ≤ digV (c.toNat : Int) 16) : ¬ (c.toNat : Int) = 58 := fun e => by rw [e, hex_58] at h; omega
theorem next_dig {s : St} {c : UInt8} (hw : s.wh = 4) (hd : s.dg < 4) (h : 0 ≤ digV (c.toNat : Int) 16) : { s with dg := s.dg + 1 } ∈ nextP s (c.toNat : Int) := by
  have h58 := hex_not58 h
  unfold nextP
  rw [if_neg (by omega), if_neg (by omega), if_neg (by omega), if_neg (by omega), if_pos ⟨hw, h, hd⟩]
  simp
theorem way_digits : ∀ (p : List UInt8) (s : St), s.wh = 4 → s.dg + (p.length : Int) ≤ 4 → (∀ c ∈ p, 0 ≤ digV (c.toNat : Int) 16) → Way p s { s with dg := s.dg + (p.length : Int) }
  | [], s, _, _, _ => by
    have : ({ s with dg := s.dg + (([] : List UInt8).length : Int) } : St) = s := by simp
    rw [this]; exact .none
  | c :: p, s, hw, hd, h => by
    rw [List.length_cons] at hd
    have ih := way_digits p { s with dg := s.dg + 1 } hw (by show s.dg + 1 + (p.length : Int) ≤ 4; omega) (fun x hx => h x (List.mem_cons_of_mem _ hx))
    have e : ({ s with dg := s.dg + ((c :: p).length : Int) } : St) = { s with dg := s.dg + 1 + (p.length : Int) } := by
      rw [List.length_cons]
      congr 1
      omega
    rw [e]
    exact .more (next_dig hw (by omega) (h c (by simp))) ih
/-- Where a piece may begin. -/
def opens (s : St) : Prop := s.wh = 0 ∨ s.wh = 2 ∨ s.wh = 3
theorem next_first {s : St} {c : UInt8} (hw : opens s) (hm : moreP s = true) (h : 0 ≤ digV (c.toNat : Int) 16) : { s with wh := 4, dg := 1 } ∈ nextP s (c.toNat : Int) := by
  have h58 := hex_not58 h
  unfold nextP opens at *
  rw [if_neg (by omega), if_neg (by omega), if_pos hw]
  unfold beginP
  rw [if_pos ⟨h, hm⟩]
  simp
theorem way_piece {p : List UInt8} (hp : Pc p) {s : St} (hw : opens s) (hm : moreP s = true) : Way p s { s with wh := 4, dg := (p.length : Int) } := by
  obtain ⟨l1, l4, hx⟩ := hp
  cases p with
  | nil => simp at l1
  | cons c p =>
    have h1 := next_first hw hm (hx c (by simp))
    have h2 := way_digits p { s with wh := 4, dg := 1 } rfl (by simp at l4; show (1 : Int) + p.length ≤ 4; omega) (fun x q => hx x (List.mem_cons_of_mem _ q))
    have e : ({ s with wh := 4, dg := ((c :: p).length : Int) } : St) = { s with wh := 4, dg := 1 + (p.length : Int) } := by
      rw [List.length_cons]
      congr 1
      omega
    rw [e]
    exact .more h1 h2
theorem next_end {s : St} (hw : s.wh = 4) (hm : moreP { s with wh := 2, pc := s.pc + 1 } = true) : { s with wh := 2, pc := s.pc + 1 } ∈ nextP s 58 := by
  unfold nextP
  rw [if_neg (by omega), if_neg (by omega), if_neg (by omega), if_pos ⟨hw, rfl⟩, if_pos hm]
  simp
/-- How many pieces there may be. -/
def mostOf (s : St) : Int := if s.gap then 7 else 8
theorem more_most (s : St) : moreP s = decide (s.pc < mostOf s) := by
  unfold moreP mostOf
  split <;> rfl
/-- Pieces, a colon behind each, behind which one more may stand. -/
theorem way_ends : ∀ (fs : List (List UInt8)) (s : St), (∀ p ∈ fs, Pc p) → opens s → s.pc + (fs.length : Int) < mostOf s → ∃ z, Way (endC fs) s z ∧ opens z ∧ z.pc = s.pc + (fs.length : Int) ∧ z.gap = s.gap ∧ z.nu = s.nu ∧ (fs ≠ [] → z.wh = 2) ∧ (fs = [] → z = s)
  | [], s, _, hw, _ => ⟨s, .none, hw, by simp, rfl, rfl, fun h => absurd rfl h, fun _ => rfl⟩
  | p :: r, s, hp, hw, hn => by
    rw [List.length_cons] at hn
    have h1 := way_piece (hp p (by simp)) hw (by rw [more_most]; exact decide_eq_true (by omega))
    have hm : moreP { s with wh := 2, pc := s.pc + 1, dg := (p.length : Int) } = true := by
      rw [more_most]
      refine decide_eq_true ?_
      show s.pc + 1 < mostOf s
      omega
    have h2 : Way [58] { s with wh := 4, dg := (p.length : Int) } { s with wh := 2, pc := s.pc + 1, dg := (p.length : Int) } := .one (next_end (s := { s with wh := 4, dg := (p.length : Int) }) rfl hm)
    obtain ⟨z, hz, ho, a, b, c, d, e⟩ := way_ends r { s with wh := 2, pc := s.pc + 1, dg := (p.length : Int) } (fun q hq => hp q (List.mem_cons_of_mem _ hq)) (.inr (.inl rfl)) (by show s.pc + 1 + (r.length : Int) < mostOf s; omega)
    refine ⟨z, ?_, ho, by rw [a, List.length_cons]; show s.pc + 1 + (r.length : Int) = _; omega, b, c, fun _ => ?_, fun h => by cases h⟩
    · have := (h1.trans h2).trans hz
      rw [endC]
      simpa using this
    · by_cases hr : r = []
      · rw [e hr]
      · exact d hr
/-- The state behind '::'. -/
theorem way_gap (fs : List (List UInt8)) (hp : ∀ p ∈ fs, Pc p) (hn : fs.length ≤ 7) : ∃ z, Way (headC fs ++ [58]) st0 z ∧ z.wh = 3 ∧ z.pc = (fs.length : Int) ∧ z.gap = true ∧ z.nu = 0 := by
  unfold headC
  by_cases hf : fs = []
  · subst hf
    rw [if_pos rfl]
    refine ⟨{ st0 with wh := 3, gap := true }, .more (y := { st0 with wh := 1 }) ?_ (.one ?_), rfl, rfl, rfl, rfl⟩
    · unfold nextP; rw [if_pos ⟨rfl, rfl⟩]; simp
    · unfold nextP; rw [if_neg (by decide), if_pos (by decide)]; simp
  · rw [if_neg hf]
    obtain ⟨z, hz, _, a, b, c, d, _⟩ := way_ends fs st0 hp (.inl rfl) (by show (0 : Int) + _ < 8; omega)
    have h2 := d hf
    refine ⟨{ z with wh := 3, gap := true }, hz.trans (.one ?_), rfl, by rw [show ({ z with wh := 3, gap := true } : St).pc = z.pc from rfl, a]; show (0 : Int) + _ = _; omega, rfl, c⟩
    unfold nextP
    rw [if_neg (by omega), if_pos ⟨.inr ⟨h2, b⟩, rfl⟩]
    simp
/-- Pieces, all eight of them. -/
theorem parse_full (fs : List (List UInt8)) (hp : ∀ p ∈ fs, Pc p) (hn : fs.length = 8) : parseP (joinC fs) = (outOf (fs.map pcV) [], 0, 0) := by
  obtain ⟨f, cur, rfl⟩ : ∃ f cur, fs = f ++ [cur] := ⟨fs.dropLast, fs.getLast (fun e => by rw [e] at hn; cases hn), (List.dropLast_concat_getLast _).symm⟩
  have hc : Pc cur := hp cur (by simp)
  have hf : ∀ p ∈ f, Pc p := fun p h => hp p (by simp [h])
  rw [List.length_append] at hn
  simp at hn
  rw [joinC_last]
  obtain ⟨z, hz, ho, a, b, c, d, _⟩ := way_ends f st0 hf (.inl rfl) (by show (0 : Int) + _ < 8; omega)
  have ha : z.pc = 7 := by rw [a]; show (0 : Int) + _ = 7; omega
  have hb : z.gap = false := b
  have h1 := hz.trans (way_piece hc ho (by rw [more_most]; refine decide_eq_true ?_; unfold mostOf; rw [hb, ha]; decide))
  rw [way_parse h1 (by unfold endsP; show (if (4 : Int) = 3 then true else if (4 : Int) = 4 then (z.gap || decide (z.pc = 7)) else _) = true; rw [if_neg (by decide), if_pos rfl, ha]; simp)]
  obtain ⟨e1, e2⟩ := cut_neg hf hc.pt
  rw [e1]
  show (outOf (writtenV (endC f ++ cur)) (writtenV []), (0 : Int), (0 : Int)) = _
  rw [e2, grpV_pc hc, List.map_append]
  rfl
/-- Pieces ahead of '::' and behind it. -/
theorem parse_gap (fs bs : List (List UInt8)) (hp : ∀ p ∈ fs, Pc p) (hb : ∀ p ∈ bs, Pc p) (hn : fs.length + bs.length ≤ 7) : parseP (joinC fs ++ 58 :: 58 :: joinC bs) = (outOf (fs.map pcV) (bs.map pcV), 0, 0) := by
  have e0 : ∀ l : List UInt8, joinC fs ++ 58 :: 58 :: l = headC fs ++ 58 :: l := by
    intro l
    unfold headC
    by_cases h : fs = []
    · rw [if_pos h, h]; rfl
    · rw [if_neg h, endC_join h]; simp
  rw [e0]
  obtain ⟨z, hz, z3, zp, zg, zn⟩ := way_gap fs hp (by omega)
  have hcut := cut_pos hp (joinC bs)
  by_cases hbs : bs = []
  · subst hbs
    have h1 : Way (headC fs ++ 58 :: joinC []) st0 z := hz
    rw [way_parse h1 (by unfold endsP; rw [if_pos z3]), hcut.1]
    show (outOf (writtenV (joinC fs)) (writtenV []), (0 : Int), (0 : Int)) = _
    rw [hcut.2]
    rfl
  · obtain ⟨b, cur, rfl⟩ : ∃ b cur, bs = b ++ [cur] := ⟨bs.dropLast, bs.getLast hbs, (List.dropLast_concat_getLast _).symm⟩
    have hc : Pc cur := hb cur (by simp)
    have hf : ∀ p ∈ b, Pc p := fun p h => hb p (by simp [h])
    rw [List.length_append] at hn
    simp at hn
    have hmz : mostOf z = 7 := by unfold mostOf; rw [zg]; rfl
    obtain ⟨y, hy, yo, ya, yb, _, _, _⟩ := way_ends b z hf (.inr (.inr z3)) (by rw [hmz, zp]; omega)
    have h2 := (hz.trans hy).trans (way_piece hc yo (by rw [more_most]; refine decide_eq_true ?_; unfold mostOf; rw [yb, zg, ya, zp]; show _ < (7 : Int); omega))
    have e3 : headC fs ++ [58] ++ endC b ++ cur = headC fs ++ 58 :: joinC (b ++ [cur]) := by rw [joinC_last]; simp
    rw [e3] at h2
    rw [way_parse h2 (by unfold endsP; show (if (4 : Int) = 3 then true else if (4 : Int) = 4 then (y.gap || decide (y.pc = 7)) else _) = true; rw [if_neg (by decide), if_pos rfl, yb, zg]; rfl), hcut.1]
    show (outOf (writtenV (joinC fs)) (writtenV (joinC (b ++ [cur]))), (0 : Int), (0 : Int)) = _
    rw [hcut.2, joinC_last, written_back hf hc.pt, grpV_pc hc, List.map_append]
    rfl
end Go.Proofs.YtcgdjnmfeibnoaaGreatDoor
/-! SixRunV -/
namespace Go.Proofs.YtcgdjnmfeibnoaaGreatDoor
open Go.RowKit Go.Proofs.YtcgdjnmfeibnoaaGreatDoorW.PrintWords
set_option linter.unusedVariables false
set_option linter.unusedSimpArgs false
/-- Is the piece there a nought? -/
def nought (xs : List Nat) (j : Nat) : Prop := xs.getD j 1 = 0
/-- A stretch of noughts. -/
def noughts (xs : List Nat) (i z : Nat) : Prop := ∀ j, i ≤ j → j < i + z → nought xs j
structure RI (xs : List Nat) (k : Nat) (at_ most from_ : Int) : Prop where
  f0 : 0 ≤ from_
  fk : from_ ≤ k
  fz : ∀ j : Nat, from_ ≤ j → j < k → nought xs j
  fn : 0 < from_ → ¬ nought xs (from_ - 1).toNat
  lo : -1 ≤ at_
  m1 : 1 ≤ most
  pos : 0 ≤ at_ → 2 ≤ most ∧ at_ + most ≤ k ∧ ∀ j : Nat, at_ ≤ j → (j : Int) < at_ + most → nought xs j
  max : ∀ i z : Nat, i + z ≤ k → noughts xs i z → (z : Int) ≤ most
theorem run_inv (xs : List Nat) : ∀ (r : List Nat) (k : Nat) (at_ most from_ : Int), xs.drop k = r → k ≤ xs.length → RI xs k at_ most from_ → ∃ f, RI xs xs.length (runGo r k at_ most from_).1 (runGo r k at_ most from_).2 f
  | [], k, at_, most, from_, hd, hk, h => by
    have : k = xs.length := by
      have := congrArg List.length hd
      simp at this
      omega
    subst this
    exact ⟨from_, h⟩
  | p :: r, k, at_, most, from_, hd, hk, h => by
    have hlt : k < xs.length := by
      have := congrArg List.length hd
      simp at this
      omega
    rw [List.drop_eq_getElem_cons hlt] at hd
    injection hd with hp hd
    have hnp : xs.getD k 1 = p := by rw [List.getD_eq_getElem?_getD, List.getElem?_eq_getElem hlt]; exact hp
    have hlast : ∀ i z : Nat, i + z = k + 1 → 0 < z → noughts xs i z → p = 0 ∧ from_ ≤ i := by
      intro i z hz h0 hn
      have h1 := hn k (by omega) (by omega)
      unfold nought at h1
      refine ⟨by omega, ?_⟩
      rcases Int.lt_or_le (i : Int) from_ with hi | hi
      · exfalso
        have hf := h.fk
        exact h.fn (by omega) (hn (from_ - 1).toNat (by omega) (by omega))
      · exact hi
    rw [runGo]
    by_cases h0 : p = 0
    · rw [if_pos h0]
      have hz : nought xs k := by unfold nought; omega
      have fz : ∀ j : Nat, from_ ≤ j → j < k + 1 → nought xs j := fun j a b => by
        rcases Nat.lt_or_eq_of_le (Nat.le_of_lt_succ b) with c | c
        · exact h.fz j a c
        · rw [c]; exact hz
      by_cases hm : most < (k : Int) + 1 - from_
      · rw [if_pos hm]
        refine run_inv xs r (k + 1) _ _ _ hd hlt ⟨h.f0, by have := h.fk; omega, fz, h.fn, by have := h.f0; omega, by have := h.m1; omega, fun _ => ⟨by have := h.m1; omega, by omega, fun j a b => fz j a (by omega)⟩, ?_⟩
        intro i z hz' hn
        rcases Nat.eq_zero_or_pos z with hz0 | hz0
        · have := h.fk; omega
        · rcases Nat.lt_or_eq_of_le hz' with c | c
          · have := h.max i z (by omega) hn; omega
          · have := (hlast i z c hz0 hn).2; omega
      · rw [if_neg hm]
        refine run_inv xs r (k + 1) _ _ _ hd hlt ⟨h.f0, by have := h.fk; omega, fz, h.fn, h.lo, h.m1, fun a => ⟨(h.pos a).1, by have := (h.pos a).2.1; omega, (h.pos a).2.2⟩, ?_⟩
        intro i z hz' hn
        rcases Nat.eq_zero_or_pos z with hz0 | hz0
        · have := h.m1; omega
        · rcases Nat.lt_or_eq_of_le hz' with c | c
          · exact h.max i z (by omega) hn
          · have := (hlast i z c hz0 hn).2; omega
    · rw [if_neg h0]
      refine run_inv xs r (k + 1) _ _ _ hd hlt ⟨by omega, by omega, fun j a b => by omega, fun _ => ?_, h.lo, h.m1, fun a => ⟨(h.pos a).1, by have := (h.pos a).2.1; omega, (h.pos a).2.2⟩, ?_⟩
      · rw [show ((k : Int) + 1 - 1).toNat = k by omega]
        unfold nought
        omega
      · intro i z hz' hn
        rcases Nat.eq_zero_or_pos z with hz0 | hz0
        · have := h.m1; omega
        · rcases Nat.lt_or_eq_of_le hz' with c | c
          · exact h.max i z (by omega) hn
          · exact absurd (hlast i z c hz0 hn).1 h0
/-- The run: none, and no two noughts stand together; or the longest stretch. -/
theorem runL_spec (xs : List Nat) : (runL xs = (-1, 0) ∧ ∀ i z, i + z ≤ xs.length → noughts xs i z → z ≤ 1) ∨
    ∃ a n : Nat, runL xs = ((a : Int), (n : Int)) ∧ 2 ≤ n ∧ a + n ≤ xs.length ∧ noughts xs a n ∧ ∀ i z, i + z ≤ xs.length → noughts xs i z → z ≤ n := by
  obtain ⟨f, h⟩ := run_inv xs xs 0 (-1) 1 0 rfl (Nat.zero_le _) ⟨by omega, by omega, fun j _ b => by omega, fun q => by omega, by omega, by omega, fun q => by omega, fun i z hz _ => by omega⟩
  have h : RI xs xs.length (runGo xs 0 (-1) 1 0).1 (runGo xs 0 (-1) 1 0).2 f := h
  have hneg : (runGo xs 0 (-1) 1 0).1 < 0 → (runGo xs 0 (-1) 1 0).2 = 1 := by
    have key : ∀ (r : List Nat) (k at_ most from_ : Int), 0 ≤ from_ → (at_ < 0 → most = 1) → (runGo r k at_ most from_).1 < 0 → 0 ≤ k → (runGo r k at_ most from_).2 = 1 := by
      intro r
      induction r with
      | nil => intro k at_ most from_ _ h1 h2 _; exact h1 h2
      | cons p r ih =>
        intro k at_ most from_ h0 h1 h2 hk
        rw [runGo] at h2 ⊢
        split at h2
        · split at h2
          · rename_i a b
            rw [if_pos a, if_pos b]
            exact ih _ _ _ _ h0 (fun q => by omega) h2 (by omega)
          · rename_i a b
            rw [if_pos a, if_neg b]
            exact ih _ _ _ _ h0 h1 h2 (by omega)
        · rename_i a
          rw [if_neg a]
          exact ih _ _ _ _ (by omega) h1 h2 (by omega)
    exact fun q => key xs 0 (-1) 1 0 (Int.le_refl _) (fun _ => rfl) q (Int.le_refl _)
  unfold runL
  by_cases hn : (runGo xs 0 (-1) 1 0).1 < 0
  · left
    rw [if_pos hn]
    refine ⟨rfl, fun i z a b => ?_⟩
    have h1 := h.max i z a b
    have h2 := hneg hn
    omega
  · right
    rw [if_neg hn]
    have hp := h.pos (by simpa using hn)
    obtain ⟨p1, p2, p3⟩ := hp
    have ea : (((runGo xs 0 (-1) 1 0).1.toNat : Nat) : Int) = (runGo xs 0 (-1) 1 0).1 := by omega
    have en : (((runGo xs 0 (-1) 1 0).2.toNat : Nat) : Int) = (runGo xs 0 (-1) 1 0).2 := by omega
    refine ⟨(runGo xs 0 (-1) 1 0).1.toNat, (runGo xs 0 (-1) 1 0).2.toNat, by rw [ea, en], by omega, by omega, fun j a b => p3 j (by omega) (by omega), fun i z a b => ?_⟩
    have := h.max i z a b
    omega
/-- Pieces, a colon ahead of each. -/
def colJ (l : List (List UInt8)) : List UInt8 := l.flatMap (fun p => 58 :: p)
theorem joinC_cons (p : List UInt8) (l : List (List UInt8)) : joinC (p :: l) = p ++ colJ l := by
  induction l generalizing p with
  | nil => simp [joinC, colJ]
  | cons q l ih => rw [joinC, ih]; simp [colJ]
theorem textGo_app (a n : Int) : ∀ (l r : List Nat) (i : Int), textGo a n i (l ++ r) = textGo a n i l ++ textGo a n (i + l.length) r
  | [], r, i => by simp [textGo]
  | p :: l, r, i => by
    rw [List.cons_append, textGo, textGo_app a n l r (i + 1), textGo, List.append_assoc, List.length_cons]
    congr 3
    omega
/-- Pieces out of the run, behind others. -/
theorem textGo_col (a n : Int) (hn : 0 ≤ n) : ∀ (l : List Nat) (i : Int), 0 < i → (a < 0 ∧ n = 0 ∨ i + l.length ≤ a ∨ a + n < i) → textGo a n i l = colJ (l.map hexL)
  | [], i, _, _ => rfl
  | p :: l, i, h0, h => by
    rw [List.length_cons] at h
    rw [textGo, textGo_col a n hn l (i + 1) (by omega) (by omega)]
    unfold textAt
    rw [if_neg (by omega), if_neg (by omega), if_pos (by omega)]
    simp [colJ]
/-- Pieces out of the run: the first ones, or the first ones behind the run. -/
theorem textGo_join (a n : Int) (hn : 0 ≤ n) (l : List Nat) (i : Int) (h : i = 0 ∧ (a < 0 ∧ n = 0 ∨ (l.length : Int) ≤ a) ∨ 0 < i ∧ 0 ≤ a ∧ 0 < n ∧ i = a + n) : textGo a n i l = joinC (l.map hexL) := by
  cases l with
  | nil => rfl
  | cons p l =>
    rw [List.length_cons] at h
    rw [textGo, textGo_col a n hn l (i + 1) (by omega) (by omega), List.map_cons, joinC_cons]
    unfold textAt
    rw [if_neg (by omega), if_neg (by omega), if_neg (by omega)]
    simp
/-- The run itself. -/
theorem textGo_in (a n : Int) (ha : 0 ≤ a) : ∀ (l : List Nat) (i : Int), a < i → i + l.length ≤ a + n → textGo a n i l = []
  | [], i, _, _ => rfl
  | p :: l, i, h0, h => by
    rw [List.length_cons] at h
    rw [textGo, textGo_in a n ha l (i + 1) (by omega) (by omega)]
    unfold textAt
    rw [if_neg (by omega), if_pos (by omega)]
    rfl
theorem textGo_run (a n : Int) (ha : 0 ≤ a) (l : List Nat) (h : (l.length : Int) = n) (hn : 0 < n) : textGo a n a l = [58, 58] := by
  cases l with
  | nil => simp at h; omega
  | cons p l =>
    rw [List.length_cons] at h
    rw [textGo, textGo_in a n ha l (a + 1) (by omega) (by omega)]
    unfold textAt
    rw [if_pos rfl]
    rfl
/-- The text of pieces: all of them; or those ahead of the longest stretch of noughts and those behind it. -/
theorem textL_spec (xs : List Nat) : (textL xs = joinC (xs.map hexL) ∧ runL xs = (-1, 0) ∧ ∀ i z, i + z ≤ xs.length → noughts xs i z → z ≤ 1) ∨
    ∃ a n : Nat, runL xs = ((a : Int), (n : Int)) ∧ 2 ≤ n ∧ a + n ≤ xs.length ∧ noughts xs a n ∧ (∀ i z, i + z ≤ xs.length → noughts xs i z → z ≤ n) ∧ textL xs = joinC ((xs.take a).map hexL) ++ 58 :: 58 :: joinC ((xs.drop (a + n)).map hexL) := by
  rcases runL_spec xs with ⟨h, hm⟩ | ⟨a, n, h, h2, hl, hz, hm⟩
  · left
    refine ⟨?_, h, hm⟩
    unfold textL
    rw [h]
    exact textGo_join (-1) 0 (by decide) xs 0 (.inl ⟨rfl, .inl ⟨by decide, rfl⟩⟩)
  · right
    refine ⟨a, n, h, h2, hl, hz, hm, ?_⟩
    unfold textL
    rw [h]
    have e : xs = xs.take a ++ ((xs.drop a).take n ++ xs.drop (a + n)) := by
      rw [← List.drop_drop, List.take_append_drop, List.take_append_drop]
    have l1 : (xs.take a).length = a := by rw [List.length_take]; omega
    have l2 : ((xs.drop a).take n).length = n := by rw [List.length_take, List.length_drop]; omega
    show textGo (a : Int) (n : Int) 0 xs = _
    rw [show textGo (a : Int) (n : Int) 0 xs = textGo (a : Int) (n : Int) 0 (xs.take a ++ ((xs.drop a).take n ++ xs.drop (a + n))) from by rw [← e]]
    rw [textGo_app, textGo_app, l1, l2, textGo_join (a : Int) (n : Int) (by omega) _ 0 (.inl ⟨rfl, .inr (by omega)⟩)]
    rw [show (0 : Int) + (a : Int) = (a : Int) by omega, textGo_run (a : Int) (n : Int) (by omega) _ (by omega) (by omega)]
    rw [textGo_join (a : Int) (n : Int) (by omega) _ ((a : Int) + (n : Int)) (.inr ⟨by omega, by omega, by omega, rfl⟩)]
    rfl
/-- A piece's text. -/
theorem revHex_short (k : Nat) : ∀ n : Nat, n < 16 ^ (k + 1) → (revHex n).length ≤ k + 1 := by
  induction k with
  | zero =>
    intro n h
    rw [revHex_last (by omega)]
    simp
  | succ k ih =>
    intro n h
    by_cases h0 : n / 16 = 0
    · rw [revHex_last h0]; simp
    · rw [revHex_more h0, List.length_cons]
      have := ih (n / 16) (by rw [Nat.pow_succ] at h; omega)
      omega
theorem hexL_short {n k : Nat} (h : n < 16 ^ (k + 1)) : (hexL n).length ≤ k + 1 := by
  unfold hexL
  rw [List.length_reverse]
  exact revHex_short k n h
theorem digB_dig (d : Nat) (h : d < 16) : digV ((digB d).toNat : Int) 16 = (d : Int) := by
  have hc : d = 0 ∨ d = 1 ∨ d = 2 ∨ d = 3 ∨ d = 4 ∨ d = 5 ∨ d = 6 ∨ d = 7 ∨ d = 8 ∨ d = 9 ∨ d = 10 ∨ d = 11 ∨ d = 12 ∨ d = 13 ∨ d = 14 ∨ d = 15 := by omega
  rcases hc with rfl | rfl | rfl | rfl | rfl | rfl | rfl | rfl | rfl | rfl | rfl | rfl | rfl | rfl | rfl | rfl <;> decide
theorem hexF_snoc (n : Int) (l : List UInt8) (c : UInt8) : hexF n (l ++ [c]) = 16 * hexF n l + digV (c.toNat : Int) 16 := by
  rw [hexF_app]
  rfl
theorem revHex_val (n : Nat) : hexF 0 (revHex n).reverse = (n : Int) ∧ ∀ c ∈ (revHex n).reverse, 0 ≤ digV (c.toNat : Int) 16 := by
  induction n using Nat.strongRecOn with
  | ind n ih =>
    have hd := digB_dig (n % 16) (Nat.mod_lt _ (by decide))
    by_cases h0 : n / 16 = 0
    · rw [revHex_last h0]
      refine ⟨?_, fun c hc => ?_⟩
      · show hexF 0 ([] ++ [digB (n % 16)]) = _
        rw [hexF_snoc, hd]
        show 16 * (0 : Int) + _ = _
        omega
      · simp at hc
        rw [hc, hd]
        omega
    · obtain ⟨a, b⟩ := ih (n / 16) (by omega)
      rw [revHex_more h0, List.reverse_cons]
      refine ⟨by rw [hexF_snoc, a, hd]; omega, fun c hc => ?_⟩
      rcases List.mem_append.1 hc with hc | hc
      · exact b c hc
      · simp at hc
        rw [hc, hd]
        omega
theorem hexL_val (n : Nat) : pcV (hexL n) = (n : Int) := (revHex_val n).1
theorem hexL_pc {n : Nat} (h : n ≤ 65535) : Pc (hexL n) := by
  refine ⟨?_, hexL_short (k := 3) (by show n < 65536; omega), (revHex_val n).2⟩
  have := hexL_ne n
  cases e : hexL n with
  | nil => exact absurd e this
  | cons a l => simp
end Go.Proofs.YtcgdjnmfeibnoaaGreatDoor
/-! SixBackV -/
namespace Go.Proofs.YtcgdjnmfeibnoaaGreatDoor
open Go.RowKit Go.Proofs.YtcgdjnmfeibnoaaGreatDoorW.PrintWords
set_option linter.unusedVariables false
set_option linter.unusedSimpArgs false
/-- An address out of eight pieces. -/
def pieceAt (xs : List Nat) (j : Nat) : Int := ((xs.getD j 0 : Nat) : Int)
theorem map_hex (xs : List Nat) : (xs.map hexL).map pcV = xs.map fun n : Nat => (n : Int) := by
  rw [List.map_map]
  exact List.map_congr_left fun n _ => hexL_val n
theorem mem_hex {xs : List Nat} (h : ∀ x ∈ xs, x ≤ 65535) : ∀ p ∈ xs.map hexL, Pc p := by
  intro p hp
  obtain ⟨x, hx, rfl⟩ := List.mem_map.1 hp
  exact hexL_pc (h x hx)
theorem getD_cast (xs : List Nat) (j : Nat) : (xs.map fun n : Nat => (n : Int)).getD j 0 = pieceAt xs j := by
  unfold pieceAt
  rw [List.getD_eq_getElem?_getD, List.getElem?_map, List.getD_eq_getElem?_getD]
  cases xs[j]? <;> rfl
theorem out_full {xs : List Nat} (hl : xs.length = 8) (j : Nat) (hj : j < 8) : outOf (xs.map fun n : Nat => (n : Int)) [] j = pieceAt xs j := by
  unfold outOf
  rw [if_neg (by simp; omega), getD_cast]
theorem out_gap {xs : List Nat} (hl : xs.length = 8) {a n : Nat} (hn : a + n ≤ 8) (hz : noughts xs a n) (j : Nat) (hj : j < 8) :
    outOf ((xs.take a).map fun n : Nat => (n : Int)) ((xs.drop (a + n)).map fun n : Nat => (n : Int)) j = pieceAt xs j := by
  unfold outOf
  rw [List.length_map, List.length_drop, hl, getD_cast, getD_cast]
  by_cases h : 8 - (8 - (a + n)) ≤ j
  · rw [if_pos h]
    unfold pieceAt
    rw [List.getD_eq_getElem?_getD, List.getElem?_drop, List.getD_eq_getElem?_getD, show a + n + (j - (8 - (8 - (a + n)))) = j by omega]
  · rw [if_neg h]
    unfold pieceAt
    by_cases ha : j < a
    · rw [List.getD_eq_getElem?_getD, List.getElem?_take, if_pos ha, List.getD_eq_getElem?_getD]
    · have h1 := hz j (by omega) (by omega)
      unfold nought at h1
      rw [List.getD_eq_getElem?_getD, List.getElem?_eq_none (by rw [List.length_take]; omega)]
      rw [List.getD_eq_getElem?_getD, List.getElem?_eq_getElem (by omega)] at h1
      rw [List.getD_eq_getElem?_getD, List.getElem?_eq_getElem (by omega)]
      simp only [Option.getD_some, Option.getD_none] at h1 ⊢
      rw [h1]
/-- What a text says that is read as an address. -/
def Says (t : List UInt8) (xs : List Nat) : Prop := (∀ j, j < 8 → (parseP t).1 j = pieceAt xs j) ∧ (parseP t).2 = (0, 0)
theorem back_print {xs : List Nat} (hl : xs.length = 8) (h : ∀ x ∈ xs, x ≤ 65535) : Says (textL xs) xs := by
  rcases textL_spec xs with ⟨e, _, _⟩ | ⟨a, n, _, h2, hn, hz, _, e⟩
  · rw [Says, e, parse_full _ (mem_hex h) (by rw [List.length_map]; exact hl), map_hex]
    exact ⟨fun j hj => out_full hl j hj, rfl⟩
  · rw [hl] at hn
    rw [Says, e, parse_gap _ _ (mem_hex fun x hx => h x (List.mem_of_mem_take hx)) (mem_hex fun x hx => h x (List.mem_of_mem_drop hx)) (by simp [hl]; omega), map_hex, map_hex]
    exact ⟨fun j hj => out_gap hl hn hz j hj, rfl⟩
theorem no_suffix {r cur : List UInt8} (hc : Pt cur) : ¬ ([58, 58] : List UInt8) <:+ r ++ cur := by
  rintro ⟨t, ht⟩
  obtain ⟨b, z, rfl⟩ : ∃ b z, cur = b ++ [z] := ⟨cur.dropLast, cur.getLast hc.ne, (List.dropLast_concat_getLast _).symm⟩
  have h1 := congrArg List.getLast? ht
  rw [show t ++ [58, 58] = (t ++ [58]) ++ [58] by simp, ← List.append_assoc r b [z], List.getLast?_append, List.getLast?_append] at h1
  simp at h1
  exact hc.no (by simp [← h1])
theorem pieces_last {xs : List Nat} (h : ∀ x ∈ xs, x ≤ 65535) (hn : xs ≠ []) : ∃ r cur, joinC (xs.map hexL) = r ++ cur ∧ Pt cur := by
  obtain ⟨b, z, rfl⟩ : ∃ b z, xs = b ++ [z] := ⟨xs.dropLast, xs.getLast hn, (List.dropLast_concat_getLast _).symm⟩
  rw [List.map_append, List.map_cons, List.map_nil, joinC_last]
  exact ⟨_, _, rfl, (hexL_pc (h z (by simp))).pt⟩
theorem join_more {fs : List (List UInt8)} (h : fs ≠ []) (q : List UInt8) : joinC fs ++ [58] ++ q = joinC (fs ++ [q]) := by
  rw [joinC_last, endC_join h]
end Go.Proofs.YtcgdjnmfeibnoaaGreatDoor
/-! SixRefWrV -/
namespace Go.Proofs.YtcgdjnmfeibnoaaGreatDoor
open Go.RowKit Go.Proofs.YtcgdjnmfeibnoaaGreatDoorW.PrintWords
set_option linter.unusedVariables false
set_option linter.unusedSimpArgs false
/-- The text of the pieces ahead of a place. -/
def Stage (ys : List Nat) (a n : Int) (i : Nat) (o : List UInt8) : Prop :=
  ((a < 0 ∨ (i : Int) ≤ a) ∧ o = joinC ((ys.take i).map hexL)) ∨
  (0 ≤ a ∧ a + n ≤ i ∧ o = joinC ((ys.take a.toNat).map hexL) ++ 58 :: 58 :: joinC (((ys.take i).drop (a + n).toNat).map hexL))
/-- A list's last byte. -/
def EndsIn (o : List UInt8) (c : UInt8) : Prop := ∃ r, o = r ++ [c]
theorem pt_last {p : List UInt8} (h : Pt p) : ∃ r c, p = r ++ [c] ∧ c ≠ 58 := by
  obtain ⟨b, z, rfl⟩ : ∃ b z, p = b ++ [z] := ⟨p.dropLast, p.getLast h.ne, (List.dropLast_concat_getLast _).symm⟩
  exact ⟨b, z, rfl, fun e => h.no (by simp [e])⟩
theorem join_last {ys : List Nat} (h : ∀ x ∈ ys, x ≤ 65535) (hn : ys ≠ []) (p : List UInt8) : ∃ c, EndsIn (p ++ joinC (ys.map hexL)) c ∧ c ≠ 58 := by
  obtain ⟨r, cur, e, hpt⟩ := pieces_last h hn
  obtain ⟨b, c, rfl, hc⟩ := pt_last hpt
  exact ⟨c, ⟨p ++ (r ++ b), by rw [e]; simp⟩, hc⟩
theorem join_snoc (l : List Nat) (x : Nat) (h : l ≠ []) : joinC ((l ++ [x]).map hexL) = joinC (l.map hexL) ++ [58] ++ hexL x := by
  rw [List.map_append, List.map_cons, List.map_nil, join_more (by simpa using h)]
/-- A round of the loop: at the run; ahead of all; behind a piece; right behind the run. -/
theorem stage_step {ys : List Nat} (hx : ∀ x ∈ ys, x ≤ 65535) {a n : Int} (hr : a = -1 ∧ n = 0 ∨ 0 ≤ a ∧ 2 ≤ n ∧ a + n ≤ ys.length) {i : Nat} (hi : i < ys.length) {o : List UInt8} (h : Stage ys a n i o) :
    ((i : Int) = a ∧ Stage ys a n (a + n).toNat (o ++ [58, 58])) ∨
    ((i : Int) ≠ a ∧ o = [] ∧ Stage ys a n (i + 1) (hexL ys[i])) ∨
    ((i : Int) ≠ a ∧ (∃ c, EndsIn o c ∧ c ≠ 58) ∧ Stage ys a n (i + 1) (o ++ [58] ++ hexL ys[i])) ∨
    ((i : Int) ≠ a ∧ EndsIn o 58 ∧ Stage ys a n (i + 1) (o ++ hexL ys[i])) := by
  have ht : ys.take (i + 1) = ys.take i ++ [ys[i]] := by rw [List.take_succ_eq_append_getElem hi]
  by_cases ha : (i : Int) = a
  · left
    refine ⟨ha, ?_⟩
    rcases h with ⟨h1, rfl⟩ | ⟨h1, h2, rfl⟩
    · right
      refine ⟨by omega, by omega, ?_⟩
      rw [show a.toNat = i by omega]
      have e : (ys.take (a + n).toNat).drop (a + n).toNat = [] := by rw [List.drop_eq_nil_iff, List.length_take]; omega
      rw [e]
      rfl
    · omega
  · right
    rcases h with ⟨h1, rfl⟩ | ⟨h1, h2, rfl⟩
    · rcases Nat.eq_zero_or_pos i with rfl | h0
      · left
        refine ⟨ha, rfl, .inl ⟨by omega, ?_⟩⟩
        rw [ht]
        rfl
      · right; left
        have hne : ys.take i ≠ [] := fun e => by
          have := congrArg List.length e
          rw [List.length_take, List.length_nil] at this
          omega
        refine ⟨ha, ?_, .inl ⟨by omega, by rw [ht, join_snoc _ _ hne]⟩⟩
        have := join_last (fun x q => hx x (List.mem_of_mem_take q)) hne []
        simpa using this
    · have hd : (ys.take (i + 1)).drop (a + n).toNat = (ys.take i).drop (a + n).toNat ++ [ys[i]] := by rw [ht, List.drop_append_of_le_length (by rw [List.length_take]; omega)]
      by_cases he : (i : Int) = a + n
      · right; right
        have e : (ys.take i).drop (a + n).toNat = [] := by rw [List.drop_eq_nil_iff, List.length_take]; omega
        refine ⟨ha, ?_, .inr ⟨h1, by omega, ?_⟩⟩
        · rw [e]
          exact ⟨joinC ((ys.take a.toNat).map hexL) ++ [58], by simp [joinC]⟩
        · rw [hd, e]
          simp [joinC]
      · right; left
        have hne : (ys.take i).drop (a + n).toNat ≠ [] := fun e => by
          rw [List.drop_eq_nil_iff, List.length_take] at e
          omega
        refine ⟨ha, ?_, .inr ⟨h1, by omega, ?_⟩⟩
        · have := join_last (fun x q => hx x (List.mem_of_mem_take (List.mem_of_mem_drop q))) hne (joinC ((ys.take a.toNat).map hexL) ++ [58, 58])
          simpa using this
        · rw [hd, join_snoc _ _ hne]
          simp
theorem stage_start (ys : List Nat) {a n : Int} (hr : a = -1 ∧ n = 0 ∨ 0 ≤ a ∧ 2 ≤ n ∧ a + n ≤ ys.length) : Stage ys a n 0 [] := .inl ⟨by omega, rfl⟩
/-- The run that there is. -/
theorem run_cases (ys : List Nat) : (runL ys).1 = -1 ∧ (runL ys).2 = 0 ∨ 0 ≤ (runL ys).1 ∧ 2 ≤ (runL ys).2 ∧ (runL ys).1 + (runL ys).2 ≤ ys.length := by
  rcases runL_spec ys with ⟨h, _⟩ | ⟨a, n, h, h2, hl, _⟩
  · left; rw [h]; exact ⟨rfl, rfl⟩
  · right; rw [h]; exact ⟨Int.natCast_nonneg _, by show (2 : Int) ≤ (n : Int); omega, by show (a : Int) + (n : Int) ≤ _; omega⟩
/-- The end: all is written; it ends in a colon just if it ends in two. -/
theorem stage_end {ys : List Nat} (hx : ∀ x ∈ ys, x ≤ 65535) (hn : ys ≠ []) {o : List UInt8} (h : Stage ys (runL ys).1 (runL ys).2 ys.length o) :
    o = textL ys ∧ ∃ c, EndsIn o c ∧ (c = 58 ∧ [58, 58] <:+ textL ys ∨ c ≠ 58 ∧ ¬ [58, 58] <:+ textL ys) := by
  have hlen : 0 < ys.length := List.length_pos_iff.2 hn
  have ho : o = textL ys := by
    rcases textL_spec ys with ⟨e, hr, _⟩ | ⟨a, n, hr, h2, hl, _, _, e⟩
    · rw [hr] at h
      rcases h with ⟨_, rfl⟩ | ⟨h1, _, _⟩
      · rw [List.take_length, e]
      · exact absurd h1 (by decide)
    · rw [hr] at h
      rcases h with ⟨h1, rfl⟩ | ⟨_, _, rfl⟩
      · exfalso
        have : (ys.length : Int) ≤ (a : Int) := by rcases h1 with q | q; exact absurd q (by show ¬ (a : Int) < 0; omega); exact q
        omega
      · rw [List.take_length, e]
        rw [show ((a : Int), (n : Int)).1.toNat = a from by show (a : Int).toNat = a; omega, show (((a : Int), (n : Int)).1 + ((a : Int), (n : Int)).2).toNat = a + n from by show ((a : Int) + (n : Int)).toNat = a + n; omega]
  refine ⟨ho, ?_⟩
  rw [ho]
  rcases textL_spec ys with ⟨e, _, _⟩ | ⟨a, n, _, h2, hl, _, _, e⟩
  · obtain ⟨r, cur, e1, hpt⟩ := pieces_last hx hn
    obtain ⟨b, c, hb, hc⟩ := pt_last hpt
    refine ⟨c, ⟨r ++ b, by rw [e, e1, hb]; simp⟩, .inr ⟨hc, ?_⟩⟩
    rw [e, e1]
    exact no_suffix hpt
  · by_cases hd : ys.drop (a + n) = []
    · refine ⟨58, ⟨joinC ((ys.take a).map hexL) ++ [58], by rw [e, hd]; simp [joinC]⟩, .inl ⟨rfl, ?_⟩⟩
      rw [e, hd]
      exact ⟨joinC ((ys.take a).map hexL), rfl⟩
    · obtain ⟨r, cur, e1, hpt⟩ := pieces_last (fun x q => hx x (List.mem_of_mem_drop q)) hd
      obtain ⟨b, c, hb, hc⟩ := pt_last hpt
      have e2 : textL ys = (joinC ((ys.take a).map hexL) ++ 58 :: 58 :: r) ++ cur := by rw [e, e1]; simp
      refine ⟨c, ⟨joinC ((ys.take a).map hexL) ++ 58 :: 58 :: r ++ b, by rw [e2, hb]; simp⟩, .inr ⟨hc, ?_⟩⟩
      rw [e2]
      exact no_suffix hpt
end Go.Proofs.YtcgdjnmfeibnoaaGreatDoor
/-! SixRefRun -/
namespace Go.Proofs.YtcgdjnmfeibnoaaGreatDoor
open Go.RowKit Go.Proofs.YtcgdjnmfeibnoaaGreatDoorW.PrintWords
set_option linter.unusedVariables false
set_option linter.unusedSimpArgs false
/-- How many noughts pieces begin with. -/
def zcN : List Nat → Nat
  | [] => 0
  | p :: r => if p = 0 then zcN r + 1 else 0
/-- The document's search. -/
def refGo : List Nat → Int → Int → Int → Int × Int
  | [], _, at_, most => (at_, most)
  | p :: r, i, at_, most => if most < (zcN (p :: r) : Int) then refGo r (i + 1) i (zcN (p :: r)) else refGo r (i + 1) at_ most
/-- The same over what alone counts: is a piece a nought? -/
def zcB : List Bool → Nat
  | [] => 0
  | p :: r => if p = true then zcB r + 1 else 0
def refGoB : List Bool → Int → Int → Int → Int × Int
  | [], _, at_, most => (at_, most)
  | p :: r, i, at_, most => if most < (zcB (p :: r) : Int) then refGoB r (i + 1) i (zcB (p :: r)) else refGoB r (i + 1) at_ most
def runGoB : List Bool → Int → Int → Int → Int → Int × Int
  | [], _, at_, most, _ => (at_, most)
  | p :: r, i, at_, most, from_ => if p = true then (if most < i + 1 - from_ then runGoB r (i + 1) from_ (i + 1 - from_) from_ else runGoB r (i + 1) at_ most from_) else runGoB r (i + 1) at_ most (i + 1)
def isN (p : Nat) : Bool := p == 0
theorem zcN_b (l : List Nat) : zcN l = zcB (l.map isN) := by
  induction l with
  | nil => rfl
  | cons p r ih =>
    rw [zcN, List.map_cons, zcB, ih]
    unfold isN
    simp only [beq_iff_eq]
theorem refGo_b : ∀ (l : List Nat) (i a m : Int), refGo l i a m = refGoB (l.map isN) i a m
  | [], _, _, _ => rfl
  | p :: r, i, a, m => by
    rw [refGo, List.map_cons, refGoB, refGo_b r, refGo_b r, zcN_b (p :: r), List.map_cons]
theorem runGo_b : ∀ (l : List Nat) (i a m f : Int), runGo l i a m f = runGoB (l.map isN) i a m f
  | [], _, _, _, _ => rfl
  | p :: r, i, a, m, f => by
    rw [runGo, List.map_cons, runGoB, runGo_b r, runGo_b r, runGo_b r]
    unfold isN
    simp only [beq_iff_eq]
theorem same8 : ∀ b0 b1 b2 b3 b4 b5 b6 b7 : Bool, refGoB [b0, b1, b2, b3, b4, b5, b6, b7] 0 (-1) 1 = runGoB [b0, b1, b2, b3, b4, b5, b6, b7] 0 (-1) 1 0 := by decide +kernel
theorem refGo8 (n0 n1 n2 n3 n4 n5 n6 n7 : Nat) : refGo [n0, n1, n2, n3, n4, n5, n6, n7] 0 (-1) 1 = runGo [n0, n1, n2, n3, n4, n5, n6, n7] 0 (-1) 1 0 := by
  rw [refGo_b, runGo_b]
  exact same8 _ _ _ _ _ _ _ _
theorem zcN_le (l : List Nat) : zcN l ≤ l.length := by
  induction l with
  | nil => exact Nat.le_refl _
  | cons p r ih =>
    rw [zcN, List.length_cons]
    split <;> omega
theorem zcN_at : ∀ (l : List Nat) (n : Nat), n < zcN l → ∃ h : n < l.length, l[n] = 0
  | [], n, h => absurd h (by simp [zcN])
  | p :: r, n, h => by
    rw [zcN] at h
    split at h
    · rename_i hp
      cases n with
      | zero => exact ⟨by simp, hp⟩
      | succ n =>
        obtain ⟨a, b⟩ := zcN_at r n (by omega)
        exact ⟨by simp; omega, b⟩
    · omega
theorem zc_end : ∀ (l : List Nat) (h : zcN l < l.length), l[zcN l] ≠ 0
  | [], h => absurd h (by simp)
  | p :: r, h => by
    have e : zcN (p :: r) = if p = 0 then zcN r + 1 else 0 := rfl
    by_cases hp : p = 0
    · rw [if_pos hp] at e
      have h2 : zcN r < r.length := by rw [e] at h; simpa using h
      have := zc_end r h2
      simp only [e, List.getElem_cons_succ]
      exact this
    · rw [if_neg hp] at e
      simp only [e, List.getElem_cons_zero]
      exact hp
/-- What stands at the head of a round; of a round over a stretch. -/
def FRel (ys : List Nat) (a m i : Value) : Prop :=
  ∃ (n : Nat) (at_ most : Int), n ≤ ys.length ∧ i = .int .i64 n ∧ a = .int .i64 at_ ∧ m = .int .i64 most ∧ refGo ys 0 (-1) 1 = refGo (ys.drop n) n at_ most ∧ 1 ≤ most ∧ most ≤ 8
def ZRel (l : List Nat) (v : Value) : Prop := ∃ k : Nat, k ≤ zcN l ∧ v = .int .i64 k
set_option maxHeartbeats 4000000 in
set_option maxRecDepth 100000 in
theorem refRun_walk (n0 n1 n2 n3 n4 n5 n6 n7 P : Nat) (hP : P ≤ 8) (ys : List Nat) (hy : ys = [n0, n1, n2, n3, n4, n5, n6, n7].take P) (hs : refGo ys 0 (-1) 1 = runGo ys 0 (-1) 1 0) (w : World) :
    Calls Tryz.prog 70 #[.agg #[.int .u16 (n0 : Int), .int .u16 (n1 : Int), .int .u16 (n2 : Int), .int .u16 (n3 : Int), .int .u16 (n4 : Int), .int .u16 (n5 : Int), .int .u16 (n6 : Int), .int .u16 (n7 : Int)], .int .i64 P] w fun e w' => e = .returned (.tuple #[.int .i64 (runL ys).1, .int .i64 (runL ys).2]) ∧ Below w.heap.size w w' := by
  have hyl : ys.length = P := by rw [hy, List.length_take]; simp; omega
  have hk : (w.alloc (.cells #[.int .u16 (n0 : Int), .int .u16 (n1 : Int), .int .u16 (n2 : Int), .int .u16 (n3 : Int), .int .u16 (n4 : Int), .int .u16 (n5 : Int), .int .u16 (n6 : Int), .int .u16 (n7 : Int)] 30)).heap[w.heap.size]? = some (.cells #[.int .u16 (n0 : Int), .int .u16 (n1 : Int), .int .u16 (n2 : Int), .int .u16 (n3 : Int), .int .u16 (n4 : Int), .int .u16 (n5 : Int), .int .u16 (n6 : Int), .int .u16 (n7 : Int)] 30 (0, 0)) := blk_new _ _
  have hB : Below w.heap.size w (w.alloc (.cells #[.int .u16 (n0 : Int), .int .u16 (n1 : Int), .int .u16 (n2 : Int), .int .u16 (n3 : Int), .int .u16 (n4 : Int), .int .u16 (n5 : Int), .int .u16 (n6 : Int), .int .u16 (n7 : Int)] 30)) := (Below.refl _ _).alloc (Nat.le_refl _) _
  have hc : ∀ j, j < ys.length → (w.alloc (.cells #[.int .u16 (n0 : Int), .int .u16 (n1 : Int), .int .u16 (n2 : Int), .int .u16 (n3 : Int), .int .u16 (n4 : Int), .int .u16 (n5 : Int), .int .u16 (n6 : Int), .int .u16 (n7 : Int)] 30)).cell? ⟨w.heap.size, j, none⟩ = some (.int .u16 ((ys.getD j 0 : Nat) : Int)) := by
    intro j h
    rw [blk_cell hk j]
    have e : ys.getD j 0 = [n0, n1, n2, n3, n4, n5, n6, n7].getD j 0 := by rw [hy, List.getD_eq_getElem?_getD, List.getElem?_take, if_pos (by omega), List.getD_eq_getElem?_getD]
    rw [e]
    have hj : j < 8 := by omega
    clear e h
    match j, hj with
    | 0, _ => rfl
    | 1, _ => rfl
    | 2, _ => rfl
    | 3, _ => rfl
    | 4, _ => rfl
    | 5, _ => rfl
    | 6, _ => rfl
    | 7, _ => rfl
    | j + 8, hj => exact absurd hj (by omega)
  have hlt : w.heap.size < (w.alloc (.cells #[.int .u16 (n0 : Int), .int .u16 (n1 : Int), .int .u16 (n2 : Int), .int .u16 (n3 : Int), .int .u16 (n4 : Int), .int .u16 (n5 : Int), .int .u16 (n6 : Int), .int .u16 (n7 : Int)] 30)).heap.size := blk_lt hk
  have HS := Lib.hid hs
  clear hs hk
  go_enter Tryz.func70, Tryz.ntmps70
  go_wp2_with fail
  generalize w.alloc (.cells #[.int .u16 (n0 : Int), .int .u16 (n1 : Int), .int .u16 (n2 : Int), .int .u16 (n3 : Int), .int .u16 (n4 : Int), .int .u16 (n5 : Int), .int .u16 (n6 : Int), .int .u16 (n7 : Int)] 30) = W at *
  have HC := Lib.hid hc
  have HB := Lib.hid hB
  clear hc hB
  subst hyl
  clear hy
  go_loop [6, 7, 8] (FRel ys) (fun _ _ i => ys.length - (intOf i).toNat)
  case atStart => exact ⟨0, -1, 1, Nat.zero_le _, rfl, rfl, rfl, rfl, by omega, by omega⟩
  case round =>
    obtain ⟨n, at_, most, hn, rfl, rfl, rfl, hr, hm1, hm8⟩ := hrel
    by_cases hl : n < ys.length
    · have hd := List.drop_eq_getElem_cons hl
      have hz := zcN_le (ys.drop n)
      rw [List.length_drop] at hz
      have HR := Lib.hid hr
      have HD := Lib.hid hd
      clear hr hd
      go_wp2_with fail
      go_loop [9] (ZRel (ys.drop n)) (fun v => zcN (ys.drop n) + 1 - (intOf v).toNat)
      case atStart => exact ⟨0, Nat.zero_le _, rfl⟩
      case round =>
        obtain ⟨k, hk, rfl⟩ := hrel
        have hnk : ((n : Int) + (k : Int)).toNat = n + k := by omega
        by_cases hkz : k < zcN (ys.drop n)
        · have h0 : W.cell? ⟨w.heap.size, n + k, none⟩ = some (.int .u16 0) := by
            obtain ⟨h1, h2⟩ := zcN_at _ k hkz
            rw [HC.out (n + k) (by omega), List.getD_eq_getElem?_getD, List.getElem?_eq_getElem (by omega)]
            rw [List.getElem_drop] at h2
            simp only [Option.getD_some, h2]
            rfl
          have hb1 : n + k < ys.length := by omega
          have hb2 : (n : Int) + (k : Int) < 8 := by omega
          have hb3 : (n : Int) + (k : Int) < (ys.length : Int) := by omega
          go_wp2_with fail
          refine ⟨⟨k + 1, by omega, by go_num⟩, by simp [intOf]; omega⟩
        · obtain rfl : k = zcN (ys.drop n) := by omega
          have hout : n + zcN (ys.drop n) < ys.length → ¬ ys.getD (n + zcN (ys.drop n)) 0 = 0 := fun h e => by
            refine zc_end (ys.drop n) (by rw [List.length_drop]; omega) ?_
            rw [List.getElem_drop]
            rw [List.getD_eq_getElem?_getD, List.getElem?_eq_getElem h] at e
            exact e
          have hcz : n + zcN (ys.drop n) < ys.length → W.cell? ⟨w.heap.size, n + zcN (ys.drop n), none⟩ = some (.int .u16 ((ys.getD (n + zcN (ys.drop n)) 0 : Nat) : Int)) := fun h => HC.out _ h
          have hnext : refGo ys 0 (-1) 1 = (if most < (zcN (ys.drop n) : Int) then refGo (ys.drop (n + 1)) (n + 1) n (zcN (ys.drop n)) else refGo (ys.drop (n + 1)) (n + 1) at_ most) := by
            rw [HR.out, HD.out, refGo]
          have HN := Lib.hid hnext
          clear hnext HR HD
          generalize zcN (ys.drop n) = z at *
          generalize ys.getD (n + z) 0 = x at *
          by_cases hin : n + z < ys.length
          · have hc1 := hcz hin
            have hx : ((x : Int) == 0) = false := beq_eq_false_iff_ne.2 (fun e => hout hin (by omega))
            have hb2 : (n : Int) + (z : Int) < 8 := by omega
            have hb3 : (n : Int) + (z : Int) < (ys.length : Int) := by omega
            clear hcz hout
            by_cases hm : most < (z : Int)
            · go_wp2_with fail
              refine ⟨⟨n + 1, n, z, by omega, by go_num, rfl, rfl, by rw [HN.out, if_pos hm]; rfl, by omega, by omega⟩, by simp [intOf]; omega⟩
            · go_wp2_with fail
              refine ⟨⟨n + 1, at_, most, by omega, by go_num, rfl, rfl, by rw [HN.out, if_neg hm]; rfl, by omega, by omega⟩, by simp [intOf]; omega⟩
          · have hb3 : ¬ (n : Int) + (z : Int) < (ys.length : Int) := by omega
            clear hcz hout
            by_cases hm : most < (z : Int)
            · go_wp2_with fail
              refine ⟨⟨n + 1, n, z, by omega, by go_num, rfl, rfl, by rw [HN.out, if_pos hm]; rfl, by omega, by omega⟩, by simp [intOf]; omega⟩
            · go_wp2_with fail
              refine ⟨⟨n + 1, at_, most, by omega, by go_num, rfl, rfl, by rw [HN.out, if_neg hm]; rfl, by omega, by omega⟩, by simp [intOf]; omega⟩
    · obtain rfl : n = ys.length := by omega
      have hr' : runGo ys 0 (-1) 1 0 = (at_, most) := by
        rw [← HS.out, hr, List.drop_length]
        rfl
      have HR := Lib.hid hr'
      clear hr hr' hl
      by_cases hneg : at_ < 0
      · go_wp2_with fail
        go_returns
        refine ⟨?_, HB.out⟩
        unfold runL
        rw [HR.out, if_pos hneg]
        rfl
      · go_wp2_with fail
        go_returns
        refine ⟨?_, HB.out⟩
        unfold runL
        rw [HR.out, if_neg (by omega)]
        rfl
end Go.Proofs.YtcgdjnmfeibnoaaGreatDoor
/-! X4 -/
namespace Go.Proofs.YtcgdjnmfeibnoaaGreatDoor.X
open Go.RowKit Go.Proofs.YtcgdjnmfeibnoaaGreatDoorW.PrintWords Go.Proofs.YtcgdjnmfeibnoaaGreatDoorW.PrintLast Go.Proofs.YtcgdjnmfeibnoaaGreatDoorW.PrintMore
attribute [local go_sem] max2_int min2_int max_two min_two max_three min_three max_four min_four
set_option linter.unusedVariables false
set_option linter.unusedSimpArgs false
def posternref21_hex.l0 : Nat → Int → Int → ByteArray → Int → Option (ByteArray)
  | 0, _, _, _, _ => none
  | k + 1, x0, x1, x5, x6 => if x6 < x1 then (if 0 ≤ (Int.tmod x0 16) then (if (Int.tmod x0 16) ≤ (IntKind.u16.wrap ((Int.tmod x0 16) + 1)) then (if (IntKind.u16.wrap ((Int.tmod x0 16) + 1)) ≤ 16 then (if ((⟨#[48, 49, 50, 51, 52, 53, 54, 55, 56, 57, 97, 98, 99, 100, 101, 102]⟩ : ByteArray).extract ((Int.tmod x0 16) : Int).toNat ((IntKind.u16.wrap ((Int.tmod x0 16) + 1)) : Int).toNat).size + x5.size ≤ 9223372036854775807 then (posternref21_hex.l0 k (IntKind.u16.wrap (Int.tdiv x0 16)) x1 (((⟨#[48, 49, 50, 51, 52, 53, 54, 55, 56, 57, 97, 98, 99, 100, 101, 102]⟩ : ByteArray).extract ((Int.tmod x0 16) : Int).toNat ((IntKind.u16.wrap ((Int.tmod x0 16) + 1)) : Int).toNat) ++ x5) (wrap64 (x6 + 1))) else (none)) else (none)) else (none)) else (none)) else (if x0 > 0 then (if 0 ≤ (Int.tmod x0 16) then (if (Int.tmod x0 16) ≤ (IntKind.u16.wrap ((Int.tmod x0 16) + 1)) then (if (IntKind.u16.wrap ((Int.tmod x0 16) + 1)) ≤ 16 then (if ((⟨#[48, 49, 50, 51, 52, 53, 54, 55, 56, 57, 97, 98, 99, 100, 101, 102]⟩ : ByteArray).extract ((Int.tmod x0 16) : Int).toNat ((IntKind.u16.wrap ((Int.tmod x0 16) + 1)) : Int).toNat).size + x5.size ≤ 9223372036854775807 then (posternref21_hex.l0 k (IntKind.u16.wrap (Int.tdiv x0 16)) x1 (((⟨#[48, 49, 50, 51, 52, 53, 54, 55, 56, 57, 97, 98, 99, 100, 101, 102]⟩ : ByteArray).extract ((Int.tmod x0 16) : Int).toNat ((IntKind.u16.wrap ((Int.tmod x0 16) + 1)) : Int).toNat) ++ x5) (wrap64 (x6 + 1))) else (none)) else (none)) else (none)) else (none)) else (some x5))
def posternref21_hex.f (k : Nat) (a0 : Int) (a1 : Int) : Option (ByteArray) := posternref21_hex.l0 k a0 a1 (⟨#[]⟩ : ByteArray) 0
set_option maxHeartbeats 8000000 in
set_option maxRecDepth 100000 in
theorem posternref21_hex.calls (k : Nat) (a0 : Int) (a1 : Int) (r : ByteArray) (w : World) (h : posternref21_hex.f k a0 a1 = some r) :
    Calls Tryz.prog 71 #[.int .u16 a0, .int .i64 a1] w fun e w' => e = .returned (.string r) ∧ Drawn0 w w' := by
  have H : (posternref21_hex.l0 k a0 a1 (⟨#[]⟩ : ByteArray) 0) = some r := h
  clear h
  have H' := Aside0.mk H
  clear H
  go_enter Tryz.func71, Tryz.ntmps71
  go_wp2
  go_loopg [0, 5, 6] k (fun kq v0 v5 v6 w' => ∃ (x0_1 : Int) (x5_1 : ByteArray) (x6_1 : Int), v0 = .int .u16 x0_1 ∧ v5 = .string x5_1 ∧ v6 = .int .i64 x6_1 ∧ Aside0 (posternref21_hex.l0 kq x0_1 a1 x5_1 x6_1 = some r) ∧ Aside0 (kq ≤ k) ∧ Drawn0 w w')
  case atStart => exact ⟨(a0), ((⟨#[]⟩ : ByteArray)), (0), (by first | rfl | (simp; done) | (simp [*]; done)), (by first | rfl | (simp; done) | (simp [*]; done)), (by first | rfl | (simp; done) | (simp [*]; done)), H', ⟨Nat.le_refl _⟩, by repeat (first | exact Drawn0.refl _ | apply Drawn0.step)⟩
  case round =>
    clear H'
    try clear p2
    obtain ⟨x0_1, x5_1, x6_1, rfl, rfl, rfl, HA, HK1, ⟨m1, rfl⟩⟩ := hrel
    cases gk with
    | zero => exact absurd HA.out (by simp [posternref21_hex.l0])
    | succ k1 =>
      have H := HA.out
      clear HA
      simp only [posternref21_hex.l0] at H
      by_cases c3 : x6_1 < a1
      · rw [if_pos c3] at H
        have c3b0 : decide (x6_1 < a1) = true := decide_eq_true c3
        clear c3
        obtain ⟨ji4, hji4⟩ : ∃ j_ : Int, (Int.tmod x0_1 16) = j_ := ⟨_, rfl⟩
        replace H : (if 0 ≤ (ji4) then (if (ji4) ≤ (IntKind.u16.wrap ((ji4) + 1)) then (if (IntKind.u16.wrap ((ji4) + 1)) ≤ 16 then (if ((⟨#[48, 49, 50, 51, 52, 53, 54, 55, 56, 57, 97, 98, 99, 100, 101, 102]⟩ : ByteArray).extract ((ji4) : Int).toNat ((IntKind.u16.wrap ((ji4) + 1)) : Int).toNat).size + x5_1.size ≤ 9223372036854775807 then (posternref21_hex.l0 k1 (IntKind.u16.wrap (Int.tdiv x0_1 16)) a1 (((⟨#[48, 49, 50, 51, 52, 53, 54, 55, 56, 57, 97, 98, 99, 100, 101, 102]⟩ : ByteArray).extract ((ji4) : Int).toNat ((IntKind.u16.wrap ((ji4) + 1)) : Int).toNat) ++ x5_1) (wrap64 (x6_1 + 1))) else (none)) else (none)) else (none)) else (none)) = some r := by first | (rw [hji4] at H; exact H) | (simp only [hji4] at H ⊢; exact H)
        by_cases c5 : 0 ≤ (ji4)
        · rw [if_pos c5] at H
          have c5b0 := eq_true c5
          have c5b1 : decide (0 ≤ (ji4)) = true := decide_eq_true c5
          clear c5
          by_cases c6 : (ji4) ≤ (IntKind.u16.wrap ((ji4) + 1))
          · rw [if_pos c6] at H
            have c6b0 := eq_true c6
            have c6b1 : decide ((ji4) ≤ (IntKind.u16.wrap ((ji4) + 1))) = true := decide_eq_true c6
            by_cases c7 : (IntKind.u16.wrap ((ji4) + 1)) ≤ 16
            · rw [if_pos c7] at H
              have c7b0 := eq_true c7
              have c7b1 : decide ((IntKind.u16.wrap ((ji4) + 1)) ≤ 16) = true := decide_eq_true c7
              by_cases c8 : ((⟨#[48, 49, 50, 51, 52, 53, 54, 55, 56, 57, 97, 98, 99, 100, 101, 102]⟩ : ByteArray).extract ((ji4) : Int).toNat ((IntKind.u16.wrap ((ji4) + 1)) : Int).toNat).size + x5_1.size ≤ 9223372036854775807
              · rw [if_pos c8] at H
                have c8b0 := eq_true c8
                have c8b1 : decide (((⟨#[48, 49, 50, 51, 52, 53, 54, 55, 56, 57, 97, 98, 99, 100, 101, 102]⟩ : ByteArray).extract ((ji4) : Int).toNat ((IntKind.u16.wrap ((ji4) + 1)) : Int).toNat).size + x5_1.size ≤ 9223372036854775807) = true := decide_eq_true c8
                try have c8b2 : (9223372036854775807 < ((⟨#[48, 49, 50, 51, 52, 53, 54, 55, 56, 57, 97, 98, 99, 100, 101, 102]⟩ : ByteArray).extract ((ji4) : Int).toNat ((IntKind.u16.wrap ((ji4) + 1)) : Int).toNat).size + x5_1.size) = False := eq_false (Nat.not_lt.2 c8)
                have H' := Aside0.mk H
                clear H
                go_wp2
                go_roundg k1
                case measure => have := HK1.out; omega
                case rel => exact ⟨(IntKind.u16.wrap (Int.tdiv x0_1 16)), (((⟨#[48, 49, 50, 51, 52, 53, 54, 55, 56, 57, 97, 98, 99, 100, 101, 102]⟩ : ByteArray).extract ((ji4) : Int).toNat ((IntKind.u16.wrap ((ji4) + 1)) : Int).toNat) ++ x5_1), (wrap64 (x6_1 + 1)), (by first | rfl | (simp; done) | (simp [*]; done)), (by first | rfl | (simp; done) | (simp only [← hji4] <;> (first | rfl | simp)) | (simp [*]; done)), (by first | rfl | (simp; done) | (simp [*]; done)), H', ⟨by have := HK1.out; omega⟩, by repeat (first | exact Drawn0.refl _ | apply Drawn0.step)⟩
              · rw [if_neg c8] at H
                exact absurd H (by simp)
            · rw [if_neg c7] at H
              exact absurd H (by simp)
          · rw [if_neg c6] at H
            exact absurd H (by simp)
        · rw [if_neg c5] at H
          exact absurd H (by simp)
      · rw [if_neg c3] at H
        have c3b0 : decide (x6_1 < a1) = false := decide_eq_false c3
        clear c3
        by_cases c9 : x0_1 > 0
        · rw [if_pos c9] at H
          have c9b0 : decide (0 < x0_1) = true := decide_eq_true c9
          clear c9
          obtain ⟨ji10, hji10⟩ : ∃ j_ : Int, (Int.tmod x0_1 16) = j_ := ⟨_, rfl⟩
          replace H : (if 0 ≤ (ji10) then (if (ji10) ≤ (IntKind.u16.wrap ((ji10) + 1)) then (if (IntKind.u16.wrap ((ji10) + 1)) ≤ 16 then (if ((⟨#[48, 49, 50, 51, 52, 53, 54, 55, 56, 57, 97, 98, 99, 100, 101, 102]⟩ : ByteArray).extract ((ji10) : Int).toNat ((IntKind.u16.wrap ((ji10) + 1)) : Int).toNat).size + x5_1.size ≤ 9223372036854775807 then (posternref21_hex.l0 k1 (IntKind.u16.wrap (Int.tdiv x0_1 16)) a1 (((⟨#[48, 49, 50, 51, 52, 53, 54, 55, 56, 57, 97, 98, 99, 100, 101, 102]⟩ : ByteArray).extract ((ji10) : Int).toNat ((IntKind.u16.wrap ((ji10) + 1)) : Int).toNat) ++ x5_1) (wrap64 (x6_1 + 1))) else (none)) else (none)) else (none)) else (none)) = some r := by first | (rw [hji10] at H; exact H) | (simp only [hji10] at H ⊢; exact H)
          by_cases c11 : 0 ≤ (ji10)
          · rw [if_pos c11] at H
            have c11b0 := eq_true c11
            have c11b1 : decide (0 ≤ (ji10)) = true := decide_eq_true c11
            clear c11
            by_cases c12 : (ji10) ≤ (IntKind.u16.wrap ((ji10) + 1))
            · rw [if_pos c12] at H
              have c12b0 := eq_true c12
              have c12b1 : decide ((ji10) ≤ (IntKind.u16.wrap ((ji10) + 1))) = true := decide_eq_true c12
              by_cases c13 : (IntKind.u16.wrap ((ji10) + 1)) ≤ 16
              · rw [if_pos c13] at H
                have c13b0 := eq_true c13
                have c13b1 : decide ((IntKind.u16.wrap ((ji10) + 1)) ≤ 16) = true := decide_eq_true c13
                by_cases c14 : ((⟨#[48, 49, 50, 51, 52, 53, 54, 55, 56, 57, 97, 98, 99, 100, 101, 102]⟩ : ByteArray).extract ((ji10) : Int).toNat ((IntKind.u16.wrap ((ji10) + 1)) : Int).toNat).size + x5_1.size ≤ 9223372036854775807
                · rw [if_pos c14] at H
                  have c14b0 := eq_true c14
                  have c14b1 : decide (((⟨#[48, 49, 50, 51, 52, 53, 54, 55, 56, 57, 97, 98, 99, 100, 101, 102]⟩ : ByteArray).extract ((ji10) : Int).toNat ((IntKind.u16.wrap ((ji10) + 1)) : Int).toNat).size + x5_1.size ≤ 9223372036854775807) = true := decide_eq_true c14
                  try have c14b2 : (9223372036854775807 < ((⟨#[48, 49, 50, 51, 52, 53, 54, 55, 56, 57, 97, 98, 99, 100, 101, 102]⟩ : ByteArray).extract ((ji10) : Int).toNat ((IntKind.u16.wrap ((ji10) + 1)) : Int).toNat).size + x5_1.size) = False := eq_false (Nat.not_lt.2 c14)
                  have H' := Aside0.mk H
                  clear H
                  go_wp2
                  go_roundg k1
                  case measure => have := HK1.out; omega
                  case rel => exact ⟨(IntKind.u16.wrap (Int.tdiv x0_1 16)), (((⟨#[48, 49, 50, 51, 52, 53, 54, 55, 56, 57, 97, 98, 99, 100, 101, 102]⟩ : ByteArray).extract ((ji10) : Int).toNat ((IntKind.u16.wrap ((ji10) + 1)) : Int).toNat) ++ x5_1), (wrap64 (x6_1 + 1)), (by first | rfl | (simp; done) | (simp [*]; done)), (by first | rfl | (simp; done) | (simp only [← hji10] <;> (first | rfl | simp)) | (simp [*]; done)), (by first | rfl | (simp; done) | (simp [*]; done)), H', ⟨by have := HK1.out; omega⟩, by repeat (first | exact Drawn0.refl _ | apply Drawn0.step)⟩
                · rw [if_neg c14] at H
                  exact absurd H (by simp)
              · rw [if_neg c13] at H
                exact absurd H (by simp)
            · rw [if_neg c12] at H
              exact absurd H (by simp)
          · rw [if_neg c11] at H
            exact absurd H (by simp)
        · rw [if_neg c9] at H
          have c9b0 : decide (0 < x0_1) = false := decide_eq_false c9
          clear c9
          obtain rfl := Option.some.inj H
          go_wp2
          go_ret
          exact ⟨by first | rfl | (simp; done) | (simp [*]; done), by repeat (first | exact Drawn0.refl _ | apply Drawn0.step)⟩
end Go.Proofs.YtcgdjnmfeibnoaaGreatDoor.X
/-! SixRefHex -/
namespace Go.Proofs.YtcgdjnmfeibnoaaGreatDoor
open Go.RowKit Go.Proofs.YtcgdjnmfeibnoaaGreatDoorW.PrintWords Go.Proofs.YtcgdjnmfeibnoaaGreatDoor.X Go.IntWalk
set_option linter.unusedVariables false
set_option linter.unusedSimpArgs false
theorem hex_tab : ∀ d : Fin 16, (⟨#[48, 49, 50, 51, 52, 53, 54, 55, 56, 57, 97, 98, 99, 100, 101, 102]⟩ : ByteArray).extract d.val (d.val + 1) = BA [digB d.val] := by decide +kernel
theorem ba_join (a b : List UInt8) : BA a ++ BA b = BA (a ++ b) := by
  unfold BA
  apply ByteArray.ext
  simp
/-- One digit more. -/
theorem hex_round (k n least i : Nat) (out : List UInt8) (h : i < least ∨ 0 < n) (hn : n ≤ 65535) (ho : out.length ≤ 10000) (hi : i ≤ 10000) (hl : least ≤ 10000) :
    posternref21_hex.l0 (k + 1) (n : Int) (least : Int) (BA out) (i : Int) = posternref21_hex.l0 k ((n / 16 : Nat) : Int) (least : Int) (BA (digB (n % 16) :: out)) ((i + 1 : Nat) : Int) := by
  have e1 : Int.tmod (n : Int) 16 = ((n % 16 : Nat) : Int) := by rw [Int.tmod_eq_emod_of_nonneg (by omega)]; omega
  have e2 : Int.tdiv (n : Int) 16 = ((n / 16 : Nat) : Int) := by rw [Int.tdiv_eq_ediv_of_nonneg (by omega)]; omega
  have e3 : ((n % 16 : Nat) : Int).toNat = n % 16 := by omega
  have e4 : (IntKind.u16.wrap (((n % 16 : Nat) : Int) + 1)) = ((n % 16 + 1 : Nat) : Int) := by rw [u16w]; omega
  have e5 : ((n % 16 + 1 : Nat) : Int).toNat = n % 16 + 1 := by omega
  have e6 : wrap64 ((i : Int) + 1) = ((i + 1 : Nat) : Int) := by rw [wrap64_in _ (by omega)]; omega
  have e7 : IntKind.u16.wrap ((n / 16 : Nat) : Int) = ((n / 16 : Nat) : Int) := by rw [u16w]; omega
  have e8 := hex_tab ⟨n % 16, by omega⟩
  simp only at e8
  have hd : n % 16 < 16 := Nat.mod_lt _ (by decide)
  simp only [posternref21_hex.l0]
  rw [e1, e2, e4, e7, e3, e5, e8, e6, ba_join, List.singleton_append, ba_size, ba_size]
  clear e1 e2 e3 e4 e5 e6 e7 e8
  have s1 : (List.length [digB (n % 16)] + out.length : Nat) ≤ 9223372036854775807 := by rw [List.length_singleton]; omega
  have s2 : (0 : Int) ≤ ((n % 16 : Nat) : Int) := Int.natCast_nonneg _
  have s3 : ((n % 16 : Nat) : Int) ≤ ((n % 16 + 1 : Nat) : Int) := Int.ofNat_le.2 (Nat.le_succ _)
  have s4 : ((n % 16 + 1 : Nat) : Int) ≤ 16 := Int.ofNat_le.2 hd
  by_cases c : (i : Int) < (least : Int)
  · rw [if_pos c, if_pos s2, if_pos s3, if_pos s4, if_pos s1]
  · rw [if_neg c, if_pos (show (n : Int) > 0 from by omega), if_pos s2, if_pos s3, if_pos s4, if_pos s1]
theorem hex_pad (least : Nat) (hl : least ≤ 10000) : ∀ (m i : Nat) (out : List UInt8), i + m = least → out.length + m ≤ 10000 → Ev (fun k => posternref21_hex.l0 k ((0 : Nat) : Int) (least : Int) (BA out) (i : Int)) (BA (List.replicate m 48 ++ out))
  | 0, i, out, hm, ho => by
    refine Ev.step (f := fun _ => some (BA out)) (fun k => ?_) (Ev.now _)
    simp only [posternref21_hex.l0]
    rw [if_neg (by omega), if_neg (by omega)]
  | m + 1, i, out, hm, ho => by
    have ih := hex_pad least hl m (i + 1) (48 :: out) (by omega) (by simp; omega)
    have e : List.replicate (m + 1) (48 : UInt8) ++ out = List.replicate m 48 ++ 48 :: out := by rw [List.replicate_succ', List.append_assoc]; rfl
    rw [e]
    refine Ev.step (fun k => ?_) ih
    rw [hex_round k 0 least i out (.inl (by omega)) (by omega) (by omega) (by omega) hl]
    rfl
theorem hex_main (least : Nat) (hl : least ≤ 10000) (n : Nat) : ∀ (i : Nat) (out : List UInt8), 0 < n → n ≤ 65535 → out.length + (hexL n).length + least ≤ 10000 → i + (hexL n).length ≤ 10000 →
    Ev (fun k => posternref21_hex.l0 k (n : Int) (least : Int) (BA out) (i : Int)) (BA (List.replicate (least - (i + (hexL n).length)) 48 ++ (hexL n ++ out))) := by
  induction n using Nat.strongRecOn with
  | ind n ih =>
    intro i out h0 hn ho hi
    refine Ev.step (f := fun k => posternref21_hex.l0 k ((n / 16 : Nat) : Int) (least : Int) (BA (digB (n % 16) :: out)) ((i + 1 : Nat) : Int)) (fun k => hex_round k n least i out (.inr h0) hn (by omega) (by omega) hl) ?_
    by_cases hz : n / 16 = 0
    · have e : hexL n = [digB (n % 16)] := by unfold hexL; rw [revHex_last hz]; rfl
      rw [e] at ho hi ⊢
      rw [hz]
      simp only [List.length_singleton] at ho hi ⊢
      by_cases hp : i + 1 ≤ least
      · exact hex_pad least hl (least - (i + 1)) (i + 1) _ (by omega) (by simp; omega)
      · rw [show least - (i + 1) = 0 by omega]
        refine Ev.step (f := fun _ => some (BA (digB (n % 16) :: out))) (fun k => ?_) (Ev.now _)
        simp only [posternref21_hex.l0]
        rw [if_neg (by omega), if_neg (by omega)]
    · have e : hexL n = hexL (n / 16) ++ [digB (n % 16)] := by unfold hexL; rw [revHex_more hz, List.reverse_cons]
      have el : (hexL n).length = (hexL (n / 16)).length + 1 := by rw [e]; simp
      have := ih (n / 16) (by omega) (i + 1) (digB (n % 16) :: out) (by omega) (by omega) (by simp; omega) (by omega)
      rw [show i + 1 + (hexL (n / 16)).length = i + (hexL n).length by omega, show hexL (n / 16) ++ digB (n % 16) :: out = hexL n ++ out by rw [e]; simp] at this
      exact this
theorem hexL_0 : hexL 0 = [48] := by unfold hexL; rw [revHex_last (by decide)]; rfl
theorem hex_any (n least : Nat) (hn : n ≤ 65535) (h1 : 1 ≤ least) (hl : least ≤ 4) : Ev (fun k => posternref21_hex.f k (n : Int) (least : Int)) (BA (List.replicate (least - (hexL n).length) 48 ++ hexL n)) := by
  have h4 := (hexL_pc hn).l4
  by_cases h0 : n = 0
  · subst h0
    have := hex_pad least (by omega) least 0 [] (by omega) (by simp; omega)
    rw [List.append_nil] at this
    rw [hexL_0]
    rw [show List.replicate (least - ([48] : List UInt8).length) (48 : UInt8) ++ [48] = List.replicate least 48 from by
      rw [List.length_singleton, ← List.replicate_succ', show least - 1 + 1 = least by omega]]
    exact this
  · have := hex_main least (by omega) n 0 [] (by omega) hn (by simp; omega) (by omega)
    rw [List.append_nil, Nat.zero_add] at this
    exact this
theorem hex1_walk (n : Nat) (hn : n ≤ 65535) (w : World) : Calls Tryz.prog 71 #[.int .u16 (n : Int), .int .i64 1] w fun e w' => e = .returned (.string (BA (hexL n))) ∧ Below w.heap.size w w' := by
  obtain ⟨k, hk⟩ := (hex_any n 1 hn (Nat.le_refl _) (by decide)).rounds
  have hl := (hexL_pc hn).l1
  rw [show (1 : Nat) - (hexL n).length = 0 by omega] at hk
  exact (posternref21_hex.calls k (n : Int) 1 _ w hk).mono fun e w' ⟨h1, h2⟩ => ⟨h1, h2.below⟩
end Go.Proofs.YtcgdjnmfeibnoaaGreatDoor
/-! SixRefWr -/
namespace Go.Proofs.YtcgdjnmfeibnoaaGreatDoor
open Go.RowKit Go.Proofs.YtcgdjnmfeibnoaaGreatDoorW.PrintWords
set_option linter.unusedVariables false
set_option linter.unusedSimpArgs false
theorem byte_beq (c : UInt8) (k : UInt8) : ((c.toNat : Int) == (k.toNat : Int)) = (c == k) := by
  rw [Bool.eq_iff_iff, beq_iff_eq, beq_iff_eq]
  exact byte_eq c k
/-- The last byte of a text. -/
theorem last_index (r : List UInt8) (c : UInt8) (hr : r.length ≤ 1000) (W : World) : (Instr.index 9 (.string (BA (r ++ [c]))) (.int .i64 (((BA (r ++ [c])).size : Int) - 1))).run Tryz.prog W = .ok (.int .u8 (c.toNat : Int)) W := by
  have hs : (BA (r ++ [c])).size = r.length + 1 := by rw [ba_size]; simp
  rw [hs, show (((r.length + 1 : Nat) : Int) - 1) = (r.length : Int) by omega]
  have hg : ∀ h, (BA (r ++ [c]))[((r.length : Nat) : Int).toNat]'h = c := by
    intro h
    show (r ++ [c]).toArray[((r.length : Nat) : Int).toNat]'h = c
    simp
  rw [run_index_string _ _ _ _ _ Tryz.underlying9, dif_pos ⟨by omega, by rw [hs]; omega⟩, hg]
/-- What is written; with a colon behind it, if something stands there. -/
def wrL (op : Bool) (ys : List Nat) : List UInt8 := if op = true ∧ ¬ [58, 58] <:+ textL ys then textL ys ++ [58] else textL ys
/-- What stands at the head of a round. -/
structure WR8 (w : World) (cells : Array Value) (W : World) : Prop where
  k : W.heap[w.heap.size]? = some (.cells cells 30 (0, 0))
  below : Below w.heap.size w W
theorem WR8.keep {w : World} {cells : Array Value} {W W' : World} (h : WR8 w cells W) (hb : Below W.heap.size W W') : WR8 w cells W' := ⟨blk_below h.k hb, below_step h.below hb⟩
def WRel (ys : List Nat) (w : World) (cells : Array Value) (v9 v10 : Value) (W : World) : Prop :=
  ∃ (i : Nat) (o : List UInt8), i ≤ ys.length ∧ v10 = .int .i64 i ∧ v9 = .string (BA o) ∧ o.length ≤ 5 * i + 2 ∧ Stage ys (runL ys).1 (runL ys).2 i o ∧ WR8 w cells W
set_option maxHeartbeats 4000000 in
set_option maxRecDepth 100000 in
theorem refWritten_walk (n0 n1 n2 n3 n4 n5 n6 n7 P : Nat) (hP : P ≤ 8) (hP1 : 1 ≤ P) (op : Bool) (ys : List Nat) (hy : ys = [n0, n1, n2, n3, n4, n5, n6, n7].take P) (hx : ∀ x ∈ ys, x ≤ 65535) (hs : refGo ys 0 (-1) 1 = runGo ys 0 (-1) 1 0) (w : World) :
    Calls Tryz.prog 45 #[.agg #[.int .u16 (n0 : Int), .int .u16 (n1 : Int), .int .u16 (n2 : Int), .int .u16 (n3 : Int), .int .u16 (n4 : Int), .int .u16 (n5 : Int), .int .u16 (n6 : Int), .int .u16 (n7 : Int)], .int .i64 P, .bool op] w fun e w' => e = .returned (.string (BA (wrL op ys))) ∧ Below w.heap.size w w' := by
  have hyl : ys.length = P := by rw [hy, List.length_take]; simp; omega
  have hRn := fun w => refRun_walk n0 n1 n2 n3 n4 n5 n6 n7 P hP ys hy hs w
  have hK : WR8 w #[.int .u16 (n0 : Int), .int .u16 (n1 : Int), .int .u16 (n2 : Int), .int .u16 (n3 : Int), .int .u16 (n4 : Int), .int .u16 (n5 : Int), .int .u16 (n6 : Int), .int .u16 (n7 : Int)] (w.alloc (.cells #[.int .u16 (n0 : Int), .int .u16 (n1 : Int), .int .u16 (n2 : Int), .int .u16 (n3 : Int), .int .u16 (n4 : Int), .int .u16 (n5 : Int), .int .u16 (n6 : Int), .int .u16 (n7 : Int)] 30)) := ⟨blk_new _ _, (Below.refl _ _).alloc (Nat.le_refl _) _⟩
  have hcell : ∀ W : World, WR8 w #[.int .u16 (n0 : Int), .int .u16 (n1 : Int), .int .u16 (n2 : Int), .int .u16 (n3 : Int), .int .u16 (n4 : Int), .int .u16 (n5 : Int), .int .u16 (n6 : Int), .int .u16 (n7 : Int)] W → ∀ j, j < ys.length → W.cell? ⟨w.heap.size, j, none⟩ = some (.int .u16 ((ys.getD j 0 : Nat) : Int)) := by
    intro W hW j h
    rw [blk_cell hW.k j]
    have e : ys.getD j 0 = [n0, n1, n2, n3, n4, n5, n6, n7].getD j 0 := by rw [hy, List.getD_eq_getElem?_getD, List.getElem?_take, if_pos (by omega), List.getD_eq_getElem?_getD]
    rw [e]
    have hj : j < 8 := by omega
    clear e h
    match j, hj with
    | 0, _ => rfl
    | 1, _ => rfl
    | 2, _ => rfl
    | 3, _ => rfl
    | 4, _ => rfl
    | 5, _ => rfl
    | 6, _ => rfl
    | 7, _ => rfl
    | j + 8, hj => exact absurd hj (by omega)
  have HCE := Lib.hid hcell
  have HRN := Lib.hid hRn
  have HX := Lib.hid hx
  have hlt := blk_lt hK.k
  have HK := Lib.hid hK
  have hne : ys ≠ [] := fun e => by rw [e] at hyl; simp at hyl; omega
  have HNE := Lib.hid hne
  have hst := run_cases ys
  clear hcell hRn hx hK hne hs
  go_enter Tryz.func45, Tryz.ntmps45
  have c0 := (blk_cell HK.out.k 0).trans rfl
  have c1 := (blk_cell HK.out.k 1).trans rfl
  have c2 := (blk_cell HK.out.k 2).trans rfl
  have c3 := (blk_cell HK.out.k 3).trans rfl
  have c4 := (blk_cell HK.out.k 4).trans rfl
  have c5 := (blk_cell HK.out.k 5).trans rfl
  have c6 := (blk_cell HK.out.k 6).trans rfl
  have c7 := (blk_cell HK.out.k 7).trans rfl
  go_wp2_with fail
  refine (HRN.out _).mono ?_
  rintro e w1 ⟨rfl, hb1⟩
  have hK1 := HK.out.keep hb1
  have hlt1 : w.heap.size < w1.heap.size := blk_lt hK1.k
  have HK1 := Lib.hid hK1
  clear c0 c1 c2 c3 c4 c5 c6 c7 hb1 hK1 HRN HK hlt
  subst hyl
  clear hy
  obtain ⟨a, ha⟩ : ∃ a, a = (runL ys).1 := ⟨_, rfl⟩
  obtain ⟨m, hm⟩ : ∃ m, m = (runL ys).2 := ⟨_, rfl⟩
  have HA := Lib.hid ha
  have HM := Lib.hid hm
  rw [← ha, ← hm] at hst ⊢
  clear ha hm
  have HST := Lib.hid hst
  go_wp2_with fail
  go_loopw [9, 10] (fun v9 v10 W => WRel ys w #[.int .u16 (n0 : Int), .int .u16 (n1 : Int), .int .u16 (n2 : Int), .int .u16 (n3 : Int), .int .u16 (n4 : Int), .int .u16 (n5 : Int), .int .u16 (n6 : Int), .int .u16 (n7 : Int)] v9 v10 W) (fun _ v10 _ => ys.length - (intOf v10).toNat)
  case atStart => exact ⟨0, [], Nat.zero_le _, rfl, rfl, by simp, stage_start ys (by rw [← HA.out, ← HM.out]; exact HST.out), HK1.out⟩
  case round =>
    obtain ⟨i, o, hi, rfl, rfl, hol, hsg, hW⟩ := hrel
    rw [← HA.out, ← HM.out] at hsg
    by_cases hl : i < ys.length
    · have hrm : a = -1 ∧ m = 0 ∨ 0 ≤ a ∧ 2 ≤ m ∧ a + m ≤ ys.length := HST.out
      have hstep := stage_step HX.out hrm hl hsg
      have hh := HX.out _ (List.getElem_mem hl)
      have hq4 := (hexL_pc hh).l4
      have hce := HCE.out _ hW i hl
      rw [List.getD_eq_getElem?_getD, List.getElem?_eq_getElem hl, Option.getD_some] at hce
      have hhex := fun w => hex1_walk ys[i] hh w
      obtain ⟨q, eq⟩ : ∃ q, q = hexL ys[i] := ⟨_, rfl⟩
      rw [← eq] at hstep hq4 hhex
      clear eq
      have HH := Lib.hid hhex
      have HSG := Lib.hid hsg
      have HW := Lib.hid hW
      have hlt2 : w.heap.size < wr.heap.size := blk_lt hW.k
      have hi8 : (i : Int) < 8 := by omega
      clear hhex hsg hW
      rcases hstep with ⟨e1, hn⟩ | ⟨e1, e2, hn⟩ | ⟨e1, ⟨c, ⟨r, hr⟩, hc⟩, hn⟩ | ⟨e1, ⟨r, hr⟩, hn⟩
      · subst e1
        have hm2 : 2 ≤ m := by omega
        have hm8 : m ≤ 8 := by omega
        have hsz : (BA o).size + 2 ≤ 9223372036854775807 := by rw [ba_size]; omega
        have HN := Lib.hid hn
        clear hn hrm
        go_wp2_with fail
        refine ⟨⟨((i : Int) + m).toNat, o ++ [58, 58], by omega, ?_, ?_, by simp; omega, by rw [← HA.out, ← HM.out]; exact HN.out, HW.out⟩, by simp [intOf]; omega⟩
        · congr 1; omega
        · exact congrArg Value.string (ba_join o [58, 58])
      · subst e2
        have hneq : ((i : Int) == a) = false := beq_eq_false_iff_ne.2 e1
        have hE : (BA []).toList = [] := by rw [toList_data, ba_list]
        have hsz : (BA []).size + (BA q).size ≤ 9223372036854775807 := by rw [ba_size, ba_size]; simp; omega
        have HJ := Lib.hid (ba_join [] q)
        have HN := Lib.hid hn
        clear hn hrm e1
        generalize BA [] = O at *
        go_wp2_with fail
        refine (HH.out _).mono ?_
        rintro e w2 ⟨rfl, hb2⟩
        go_wp2_with fail
        refine ⟨⟨i + 1, q, by omega, by go_num, ?_, by omega, by rw [← HA.out, ← HM.out]; exact HN.out, HW.out.keep hb2⟩, by simp [intOf]; omega⟩
        rw [HJ.out, List.nil_append]
      · subst hr
        have hneq : ((i : Int) == a) = false := beq_eq_false_iff_ne.2 e1
        have hix := last_index r c (by simp at hol; omega)
        have hos : (BA (r ++ [c])).size ≤ 100 := by rw [ba_size]; omega
        have ho1 : 1 ≤ (BA (r ++ [c])).size := by rw [ba_size]; simp
        have hnl : ¬ (BA (r ++ [c])).toList = [] := by rw [toList_data, ba_list]; simp
        have hie : (BA (r ++ [c])).toList.isEmpty = false := by rw [toList_data, ba_list]; simp
        have hc58 : ((c.toNat : Int) != 58) = true := by
          have := (byte_beq c 58).trans (beq_eq_false_iff_ne.2 hc)
          show (!((c.toNat : Int) == ((58 : UInt8).toNat : Int))) = true
          rw [this]
          rfl
        have hsz : (BA (r ++ [c])).size + 1 + (BA q).size ≤ 9223372036854775807 := by rw [ba_size, ba_size]; omega
        have HJ := Lib.hid (ba_join (r ++ [c]) [58])
        have HJ2 := Lib.hid (ba_join (r ++ [c] ++ [58]) q)
        have HN := Lib.hid hn
        clear hn hrm e1 hc
        generalize BA (r ++ [c]) = O at *
        go_wp2_with fail
        refine (HH.out _).mono ?_
        rintro e w2 ⟨rfl, hb2⟩
        go_wp2_with fail
        refine ⟨⟨i + 1, r ++ [c] ++ [58] ++ q, by omega, by go_num, ?_, by simp only [List.length_append, List.length_singleton] at hol ⊢; omega, by rw [← HA.out, ← HM.out]; exact HN.out, HW.out.keep hb2⟩, by simp [intOf]; omega⟩
        rw [← HJ2.out, ← HJ.out]
        rfl
      · subst hr
        have hneq : ((i : Int) == a) = false := beq_eq_false_iff_ne.2 e1
        have hix := last_index r 58 (by simp at hol; omega)
        have hos : (BA (r ++ [58])).size ≤ 100 := by rw [ba_size]; omega
        have ho1 : 1 ≤ (BA (r ++ [58])).size := by rw [ba_size]; simp
        have hnl : ¬ (BA (r ++ [58])).toList = [] := by rw [toList_data, ba_list]; simp
        have hie : (BA (r ++ [58])).toList.isEmpty = false := by rw [toList_data, ba_list]; simp
        have hsz : (BA (r ++ [58])).size + (BA q).size ≤ 9223372036854775807 := by rw [ba_size, ba_size]; omega
        have HJ := Lib.hid (ba_join (r ++ [58]) q)
        have HN := Lib.hid hn
        clear hn hrm e1
        generalize BA (r ++ [58]) = O at *
        go_wp2_with fail
        refine (HH.out _).mono ?_
        rintro e w2 ⟨rfl, hb2⟩
        go_wp2_with fail
        refine ⟨⟨i + 1, r ++ [58] ++ q, by omega, by go_num, ?_, by simp only [List.length_append, List.length_singleton] at hol ⊢; omega, by rw [← HA.out, ← HM.out]; exact HN.out, HW.out.keep hb2⟩, by simp [intOf]; omega⟩
        rw [← HJ.out]
    · obtain rfl : i = ys.length := by omega
      have hse := stage_end HX.out HNE.out (by rw [HA.out, HM.out] at hsg; exact hsg)
      obtain ⟨ho, c, ⟨r, hr⟩, hcc⟩ := hse
      rw [hr] at ho
      have HO := Lib.hid ho
      have HCC := Lib.hid hcc
      have HB := Lib.hid hW.below
      clear hcc ho hsg hW
      subst hr
      cases op
      · go_wp2_with fail
        go_ret
        refine ⟨?_, HB.out⟩
        unfold wrL
        rw [if_neg (fun q => by cases q.1), ← HO.out]
        rfl
      · have hix := last_index r c (by simp at hol; omega)
        have hos : (BA (r ++ [c])).size ≤ 100 := by rw [ba_size]; omega
        have ho1 : 1 ≤ (BA (r ++ [c])).size := by rw [ba_size]; simp
        have HJ := Lib.hid (ba_join (r ++ [c]) [58])
        rcases HCC.out with ⟨h58, hsf⟩ | ⟨h58, hsf⟩
        · have hc58 : ((c.toNat : Int) != 58) = false := by rw [h58]; rfl
          have HSF := Lib.hid hsf
          clear h58 hsf
          obtain ⟨O, eO⟩ : ∃ O, O = BA (r ++ [c]) := ⟨_, rfl⟩
          rw [← eO] at hix hos ho1 ⊢
          have EO := Lib.hid eO
          clear eO
          go_wp2_with fail
          go_ret
          refine ⟨?_, HB.out⟩
          unfold wrL
          rw [if_neg (fun q => q.2 HSF.out), ← HO.out, ← EO.out]
          rfl
        · have hc58 : ((c.toNat : Int) != 58) = true := by
            have := (byte_beq c 58).trans (beq_eq_false_iff_ne.2 h58)
            show (!((c.toNat : Int) == ((58 : UInt8).toNat : Int))) = true
            rw [this]
            rfl
          have HSF := Lib.hid hsf
          clear h58 hsf
          obtain ⟨O, eO⟩ : ∃ O, O = BA (r ++ [c]) := ⟨_, rfl⟩
          rw [← eO] at hix hos ho1 HJ ⊢
          have EO := Lib.hid eO
          clear eO
          go_wp2_with fail
          go_ret
          refine ⟨?_, HB.out⟩
          unfold wrL
          rw [if_pos ⟨rfl, HSF.out⟩, ← HO.out, ← HJ.out]
          rfl
end Go.Proofs.YtcgdjnmfeibnoaaGreatDoor
/-! Dec -/
namespace Go.Proofs.YtcgdjnmfeibnoaaGreatDoor
open Go.RowKit Go.Proofs.YtcgdjnmfeibnoaaGreatDoorW.PrintWords
set_option linter.unusedVariables false
set_option linter.unusedSimpArgs false
/-- A digit's byte. -/
def dgt (n : Nat) : UInt8 := UInt8.ofNat (48 + n)
/-- A number below 1000 in digits. -/
def dec3 (n : Nat) : List UInt8 := (if 100 ≤ n then [dgt (n / 100)] else []) ++ (if 10 ≤ n then [dgt (n / 10 % 10)] else []) ++ [dgt (n % 10)]
theorem dec3_len (n : Nat) : 1 ≤ (dec3 n).length ∧ (dec3 n).length ≤ 3 := by
  unfold dec3
  (repeat' split) <;> simp
end Go.Proofs.YtcgdjnmfeibnoaaGreatDoor
/-! SixRefDec -/
namespace Go.Proofs.YtcgdjnmfeibnoaaGreatDoor
open Go.RowKit Go.Proofs.YtcgdjnmfeibnoaaGreatDoorW.PrintWords
set_option linter.unusedVariables false
set_option linter.unusedSimpArgs false
theorem dec_slice : ∀ d : Nat, d < 10 → ∀ W : World, (Instr.slice 9 (.string ⟨#[48, 49, 50, 51, 52, 53, 54, 55, 56, 57]⟩) (some (.int .i64 (d : Int))) (some (.int .i64 ((d : Int) + 1))) none).run Tryz.prog W = .ok (.string (BA [dgt d])) W
  | 0, _ => fun W => by kernel_rfl
  | 1, _ => fun W => by kernel_rfl
  | 2, _ => fun W => by kernel_rfl
  | 3, _ => fun W => by kernel_rfl
  | 4, _ => fun W => by kernel_rfl
  | 5, _ => fun W => by kernel_rfl
  | 6, _ => fun W => by kernel_rfl
  | 7, _ => fun W => by kernel_rfl
  | 8, _ => fun W => by kernel_rfl
  | 9, _ => fun W => by kernel_rfl
  | d + 10, h => absurd h (by omega)
set_option maxRecDepth 100000 in
theorem dec_one (d : Nat) (h : d < 10) (w : World) : Calls Tryz.prog 29 #[.int .i64 (d : Int)] w fun e w' => e = .returned (.string (BA [dgt d])) ∧ Below w.heap.size w w' := by
  have hsl := dec_slice d h
  have hd : (d : Int) < 10 := by omega
  go_enter Tryz.func29, Tryz.ntmps29
  go_wp2_with fail
  go_returns
  exact ⟨rfl, Below.refl _ _⟩
set_option maxHeartbeats 1000000 in
set_option maxRecDepth 100000 in
theorem dec_more (n : Nat) (h : 10 ≤ n) (h2 : n < 1000) (q : List UInt8) (hl : q.length ≤ 100) (hq : ∀ w, Calls Tryz.prog 29 #[.int .i64 ((n / 10 : Nat) : Int)] w fun e w' => e = .returned (.string (BA q)) ∧ Below w.heap.size w w') (w : World) :
    Calls Tryz.prog 29 #[.int .i64 (n : Int)] w fun e w' => e = .returned (.string (BA (q ++ [dgt (n % 10)]))) ∧ Below w.heap.size w w' := by
  have hsl := dec_slice (n % 10) (by omega)
  have hd : ¬ (n : Int) < 10 := by omega
  have e1 : ((n / 10 : Nat) : Int) = (n : Int) / 10 := by omega
  have e2 : ((n % 10 : Nat) : Int) = (n : Int) % 10 := by omega
  rw [e1] at hq
  rw [e2] at hsl
  have hsz : (BA q).size + (BA [dgt (n % 10)]).size ≤ 9223372036854775807 := by rw [ba_size, ba_size, List.length_singleton]; omega
  have HJ := Lib.hid (ba_join q [dgt (n % 10)])
  have HQ := Lib.hid hq
  clear hq e1 e2
  go_enter Tryz.func29, Tryz.ntmps29
  go_wp2_with fail
  refine wp_region_ext (by kernel_rfl) (by kernel_rfl) ?_
  repeat (go_big_quiet_step (with_reducible exact ext_of (HQ.out _)))
  refine wpQuiet_nil ?_
  rintro W ⟨⟨_, hb⟩, rfl⟩
  go_wp2_with fail
  go_ret
  exact ⟨by rw [← HJ.out]; rfl, hb⟩
/-- A number below 256. -/
theorem dec_walk (n : Nat) (h : n < 256) (w : World) : Calls Tryz.prog 29 #[.int .i64 (n : Int)] w fun e w' => e = .returned (.string (BA (dec3 n))) ∧ Below w.heap.size w w' := by
  by_cases h1 : n < 10
  · have e : dec3 n = [dgt n] := by unfold dec3; rw [if_neg (by omega), if_neg (by omega), Nat.mod_eq_of_lt h1]; rfl
    rw [e]
    exact dec_one n h1 w
  · by_cases h2 : n < 100
    · have e : dec3 n = [dgt (n / 10)] ++ [dgt (n % 10)] := by unfold dec3; rw [if_neg (by omega), if_pos (by omega), show n / 10 % 10 = n / 10 by omega]; rfl
      rw [e]
      exact dec_more n (by omega) (by omega) [dgt (n / 10)] (by simp) (dec_one (n / 10) (by omega)) w
    · have e : dec3 n = ([dgt (n / 100)] ++ [dgt (n / 10 % 10)]) ++ [dgt (n % 10)] := by unfold dec3; rw [if_pos (by omega), if_pos (by omega)]
      rw [e]
      refine dec_more n (by omega) (by omega) _ (by simp) (fun w => ?_) w
      have h3 := dec_more (n / 10) (by omega) (by omega) [dgt (n / 100)] (by simp) (fun w => by
        rw [Nat.div_div_eq_div_mul]
        exact dec_one (n / 100) (by omega) w) w
      exact h3
end Go.Proofs.YtcgdjnmfeibnoaaGreatDoor
/-! SixOneV -/
namespace Go.Proofs.YtcgdjnmfeibnoaaGreatDoor
open Go.RowKit Go.Proofs.YtcgdjnmfeibnoaaGreatDoorW.PrintWords
set_option linter.unusedVariables false
set_option linter.unusedSimpArgs false
/-- How many bytes parts have. -/
def lsum (l : List (List UInt8)) : Nat := (l.map List.length).sum
/-- How many digits pieces are written with. -/
def hsum (xs : List Nat) : Nat := lsum (xs.map hexL)
theorem lsum_app (a b : List (List UInt8)) : lsum (a ++ b) = lsum a + lsum b := by unfold lsum; rw [List.map_append, List.sum_append]
theorem hsum_app (a b : List Nat) : hsum (a ++ b) = hsum a + hsum b := by unfold hsum; rw [List.map_append, lsum_app]
theorem joinC_len : ∀ l : List (List UInt8), (joinC l).length + (if l = [] then 0 else 1) = lsum l + l.length
  | [] => rfl
  | [p] => by simp [joinC, lsum]
  | p :: q :: r => by
    have ih := joinC_len (q :: r)
    rw [if_neg (by simp)] at ih
    rw [joinC, if_neg (by simp)]
    unfold lsum at ih ⊢
    simp only [List.length_append, List.length_cons, List.map_cons, List.sum_cons] at ih ⊢
    omega
theorem hexL_zero : (hexL 0).length = 1 := by unfold hexL; rw [revHex_last (by decide)]; rfl
theorem hsum_noughts : ∀ l : List Nat, (∀ x ∈ l, x = 0) → hsum l = l.length
  | [], _ => rfl
  | x :: l, h => by
    have ih := hsum_noughts l (fun y hy => h y (List.mem_cons_of_mem _ hy))
    have hx := h x (by simp)
    subst hx
    unfold hsum lsum at ih ⊢
    simp only [List.map_cons, List.sum_cons, List.length_cons, hexL_zero]
    omega
/-- The length of what is written. -/
theorem textL_len (xs : List Nat) (hn : xs ≠ []) : ((textL xs).length + 1 = hsum xs + xs.length ∧ ∀ i z, i + z ≤ xs.length → noughts xs i z → z ≤ 1) ∨
    ∃ n : Nat, 2 ≤ n ∧ (∀ i z, i + z ≤ xs.length → noughts xs i z → z ≤ n) ∧ ((textL xs).length + 2 * n ≤ hsum xs + xs.length + 1 ∨ (textL xs).length = 2) := by
  rcases textL_spec xs with ⟨e, _, hm⟩ | ⟨a, n, _, h2, hl, hz, hm, e⟩
  · left
    refine ⟨?_, hm⟩
    have := joinC_len (xs.map hexL)
    rw [if_neg (by simpa using hn)] at this
    rw [e]
    unfold hsum
    simpa using this
  · right
    refine ⟨n, h2, hm, ?_⟩
    have hsp : xs = xs.take a ++ ((xs.drop a).take n ++ xs.drop (a + n)) := by rw [← List.drop_drop, List.take_append_drop, List.take_append_drop]
    have hrun : hsum ((xs.drop a).take n) = n := by
      rw [hsum_noughts _ (fun x hx => ?_)]
      · rw [List.length_take, List.length_drop]; omega
      · obtain ⟨j, hj, he⟩ := List.getElem_of_mem hx
        rw [List.length_take, List.length_drop] at hj
        have h1 := hz (a + j) (by omega) (by omega)
        unfold nought at h1
        rw [List.getD_eq_getElem?_getD, List.getElem?_eq_getElem (by omega)] at h1
        simp only [Option.getD_some] at h1
        rw [← he, List.getElem_take, List.getElem_drop]
        exact h1
    have hT : hsum xs = hsum (xs.take a) + (n + hsum (xs.drop (a + n))) := by
      rw [show hsum xs = hsum (xs.take a ++ ((xs.drop a).take n ++ xs.drop (a + n))) from by rw [← hsp], hsum_app, hsum_app, hrun]
    have j1 := joinC_len ((xs.take a).map hexL)
    have j2 := joinC_len ((xs.drop (a + n)).map hexL)
    have hlen : (textL xs).length = (joinC ((xs.take a).map hexL)).length + (joinC ((xs.drop (a + n)).map hexL)).length + 2 := by rw [e]; simp; omega
    rw [List.length_map, List.length_take] at j1
    rw [List.length_map, List.length_drop] at j2
    unfold hsum at hT ⊢
    by_cases ha : a = 0
    · by_cases hb : a + n = xs.length
      · right
        rw [if_pos (by rw [ha]; rfl)] at j1
        rw [if_pos (by rw [hb]; simp)] at j2
        have e1 : lsum ((xs.take a).map hexL) = 0 := by rw [ha]; rfl
        have e2 : lsum ((xs.drop (a + n)).map hexL) = 0 := by rw [hb]; simp [lsum]
        omega
      · left
        rw [if_neg (by simp; omega)] at j2
        have : (if (xs.take a).map hexL = [] then 0 else 1) ≤ 1 := by split <;> omega
        omega
    · left
      rw [if_neg (by simp; exact ⟨ha, hn⟩)] at j1
      have : (if (xs.drop (a + n)).map hexL = [] then 0 else 1) ≤ 1 := by split <;> omega
      omega
end Go.Proofs.YtcgdjnmfeibnoaaGreatDoor
/-! SixRefPr -/
namespace Go.Proofs.YtcgdjnmfeibnoaaGreatDoor
open Go.RowKit Go.Proofs.YtcgdjnmfeibnoaaGreatDoorW.PrintWords
set_option linter.unusedVariables false
set_option linter.unusedSimpArgs false
theorem mem8 {n0 n1 n2 n3 n4 n5 n6 n7 : Nat} (h0 : n0 ≤ 65535) (h1 : n1 ≤ 65535) (h2 : n2 ≤ 65535) (h3 : n3 ≤ 65535) (h4 : n4 ≤ 65535) (h5 : n5 ≤ 65535) (h6 : n6 ≤ 65535) (h7 : n7 ≤ 65535) : ∀ x ∈ [n0, n1, n2, n3, n4, n5, n6, n7], x ≤ 65535 := by
  intro x hx
  simp only [List.mem_cons, List.not_mem_nil, or_false] at hx
  omega
theorem refWritten8 (n0 n1 n2 n3 n4 n5 n6 n7 : Nat) (h0 : n0 ≤ 65535) (h1 : n1 ≤ 65535) (h2 : n2 ≤ 65535) (h3 : n3 ≤ 65535) (h4 : n4 ≤ 65535) (h5 : n5 ≤ 65535) (h6 : n6 ≤ 65535) (h7 : n7 ≤ 65535) (w : World) : Calls Tryz.prog 45 #[.agg #[.int .u16 (n0 : Int), .int .u16 (n1 : Int), .int .u16 (n2 : Int), .int .u16 (n3 : Int), .int .u16 (n4 : Int), .int .u16 (n5 : Int), .int .u16 (n6 : Int), .int .u16 (n7 : Int)], .int .i64 8, .bool false] w fun e w' => e = .returned (.string (BA (textL [n0, n1, n2, n3, n4, n5, n6, n7]))) ∧ Below w.heap.size w w' := by
  have h := refWritten_walk n0 n1 n2 n3 n4 n5 n6 n7 8 (by decide) (by decide) false [n0, n1, n2, n3, n4, n5, n6, n7] rfl (mem8 h0 h1 h2 h3 h4 h5 h6 h7) (refGo8 n0 n1 n2 n3 n4 n5 n6 n7) w
  unfold wrL at h
  rw [if_neg (fun q => by cases q.1)] at h
  exact h
set_option maxRecDepth 100000 in
theorem refPrint_walk (n0 n1 n2 n3 n4 n5 n6 n7 : Nat) (h0 : n0 ≤ 65535) (h1 : n1 ≤ 65535) (h2 : n2 ≤ 65535) (h3 : n3 ≤ 65535) (h4 : n4 ≤ 65535) (h5 : n5 ≤ 65535) (h6 : n6 ≤ 65535) (h7 : n7 ≤ 65535) (w : World) : Calls Tryz.prog 28 #[.agg #[.int .u16 (n0 : Int), .int .u16 (n1 : Int), .int .u16 (n2 : Int), .int .u16 (n3 : Int), .int .u16 (n4 : Int), .int .u16 (n5 : Int), .int .u16 (n6 : Int), .int .u16 (n7 : Int)]] w fun e w' => e = .returned (.string (BA (textL [n0, n1, n2, n3, n4, n5, n6, n7]))) ∧ Below w.heap.size w w' := by
  have HW := Lib.hid (fun w => refWritten8 n0 n1 n2 n3 n4 n5 n6 n7 h0 h1 h2 h3 h4 h5 h6 h7 w)
  generalize textL [n0, n1, n2, n3, n4, n5, n6, n7] = T at *
  go_enter Tryz.func28, Tryz.ntmps28
  go_wp2_with fail
  refine (HW.out _).mono ?_
  rintro e w1 ⟨rfl, hb⟩
  go_wp2_with fail
  go_returns
  exact ⟨rfl, ((Below.refl w.heap.size w).alloc (Nat.le_refl _) (.cells #[.int .u16 (n0 : Int), .int .u16 (n1 : Int), .int .u16 (n2 : Int), .int .u16 (n3 : Int), .int .u16 (n4 : Int), .int .u16 (n5 : Int), .int .u16 (n6 : Int), .int .u16 (n7 : Int)] 30)).trans (hb.mono (by simp))⟩
end Go.Proofs.YtcgdjnmfeibnoaaGreatDoor
/-! SixPfxPr -/
namespace Go.Proofs.YtcgdjnmfeibnoaaGreatDoor
open Go.RowKit Go.Proofs.YtcgdjnmfeibnoaaGreatDoorW.PrintWords
set_option linter.unusedVariables false
set_option linter.unusedSimpArgs false
theorem text_short8 {xs : List Nat} (hl : xs.length ≤ 8) (hn : xs ≠ []) (h : ∀ x ∈ xs, x ≤ 65535) : (textL xs).length ≤ 100 := by
  have hs : ∀ l : List Nat, (∀ x ∈ l, x ≤ 65535) → hsum l ≤ 4 * l.length := by
    intro l
    induction l with
    | nil => intro _; exact Nat.le_refl _
    | cons x l ih =>
      intro h
      have h1 := ih (fun y hy => h y (List.mem_cons_of_mem _ hy))
      have h2 := (hexL_pc (h x (by simp))).l4
      unfold hsum lsum at h1 ⊢
      simp only [List.map_cons, List.sum_cons, List.length_cons] at h1 ⊢
      omega
  have h1 := hs xs h
  rcases textL_len xs hn with ⟨e, _⟩ | ⟨n, _, _, e | e⟩ <;> omega
theorem dec_itoa : ∀ n : Fin 256, dec3 n.val = Lib.itoa ((n.val : Nat) : Int) := by decide +kernel
theorem dec_itoa' {n : Nat} (h : n < 256) : dec3 n = Lib.itoa (n : Int) := dec_itoa ⟨n, h⟩
/-- A prefix's text. -/
def ppL (n0 n1 n2 n3 n4 n5 n6 n7 m : Nat) : List UInt8 := textL [n0, n1, n2, n3, n4, n5, n6, n7] ++ 47 :: Lib.itoa (m : Int)
theorem pp_len {n0 n1 n2 n3 n4 n5 n6 n7 m : Nat} (h0 : n0 ≤ 65535) (h1 : n1 ≤ 65535) (h2 : n2 ≤ 65535) (h3 : n3 ≤ 65535) (h4 : n4 ≤ 65535) (h5 : n5 ≤ 65535) (h6 : n6 ≤ 65535) (h7 : n7 ≤ 65535) (hm : m ≤ 128) : (textL [n0, n1, n2, n3, n4, n5, n6, n7]).length ≤ 100 ∧ (Lib.itoa (m : Int)).length ≤ 3 := by
  refine ⟨text_short8 (by simp) (by simp) (by simp; omega), ?_⟩
  rw [← dec_itoa' (by omega)]
  exact (dec3_len m).2
set_option maxHeartbeats 2000000 in
set_option maxRecDepth 100000 in
theorem refPrintPrefix_walk (n0 n1 n2 n3 n4 n5 n6 n7 m : Nat) (h0 : n0 ≤ 65535) (h1 : n1 ≤ 65535) (h2 : n2 ≤ 65535) (h3 : n3 ≤ 65535) (h4 : n4 ≤ 65535) (h5 : n5 ≤ 65535) (h6 : n6 ≤ 65535) (h7 : n7 ≤ 65535) (hm : m ≤ 128) (w : World) :
    Calls Tryz.prog 14 #[.agg #[.int .u16 (n0 : Int), .int .u16 (n1 : Int), .int .u16 (n2 : Int), .int .u16 (n3 : Int), .int .u16 (n4 : Int), .int .u16 (n5 : Int), .int .u16 (n6 : Int), .int .u16 (n7 : Int), .int .i64 (m : Int)]] w fun e w' => e = .returned (.string (BA (ppL n0 n1 n2 n3 n4 n5 n6 n7 m))) ∧ Below w.heap.size w w' := by
  obtain ⟨l1, l2⟩ := pp_len h0 h1 h2 h3 h4 h5 h6 h7 hm
  have HW := Lib.hid (fun w => refPrint_walk n0 n1 n2 n3 n4 n5 n6 n7 h0 h1 h2 h3 h4 h5 h6 h7 w)
  have HD := Lib.hid (fun w => dec_walk m (by omega) w)
  rw [dec_itoa' (show m < 256 by omega)] at HD
  have HE : Hid (ppL n0 n1 n2 n3 n4 n5 n6 n7 m = textL [n0, n1, n2, n3, n4, n5, n6, n7] ++ 47 :: Lib.itoa (m : Int)) := Lib.hid rfl
  generalize textL [n0, n1, n2, n3, n4, n5, n6, n7] = T at *
  generalize Lib.itoa (m : Int) = d at *
  generalize ppL n0 n1 n2 n3 n4 n5 n6 n7 m = R at *
  have b1 : (BA T).size ≤ 100 := l1
  have b2 : (BA d).size ≤ 3 := l2
  have s1 : (BA T).size + 1 ≤ 9223372036854775807 := by omega
  have s2 : (BA T).size + 1 + (BA d).size ≤ 9223372036854775807 := by omega
  have hj : BA T ++ BA [47] ++ BA d = BA R := by
    rw [HE.out]
    simp only [ba_join]
    congr 1
    simp
  have HJ := Lib.hid hj
  have hk : (w.alloc (.cells #[.int .u16 (n0 : Int), .int .u16 (n1 : Int), .int .u16 (n2 : Int), .int .u16 (n3 : Int), .int .u16 (n4 : Int), .int .u16 (n5 : Int), .int .u16 (n6 : Int), .int .u16 (n7 : Int), .int .i64 (m : Int)] 32)).heap[w.heap.size]? = some (.cells #[.int .u16 (n0 : Int), .int .u16 (n1 : Int), .int .u16 (n2 : Int), .int .u16 (n3 : Int), .int .u16 (n4 : Int), .int .u16 (n5 : Int), .int .u16 (n6 : Int), .int .u16 (n7 : Int), .int .i64 (m : Int)] 32 (0, 0)) := blk_new _ _
  have hb : Below w.heap.size w (w.alloc (.cells #[.int .u16 (n0 : Int), .int .u16 (n1 : Int), .int .u16 (n2 : Int), .int .u16 (n3 : Int), .int .u16 (n4 : Int), .int .u16 (n5 : Int), .int .u16 (n6 : Int), .int .u16 (n7 : Int), .int .i64 (m : Int)] 32)) := (Below.refl _ _).alloc (Nat.le_refl _) _
  clear hj l1 l2 b1 b2
  go_enter Tryz.func14, Tryz.ntmps14
  go_upto_region 1 with fail
  generalize w.alloc (.cells #[.int .u16 (n0 : Int), .int .u16 (n1 : Int), .int .u16 (n2 : Int), .int .u16 (n3 : Int), .int .u16 (n4 : Int), .int .u16 (n5 : Int), .int .u16 (n6 : Int), .int .u16 (n7 : Int), .int .i64 (m : Int)] 32) = W0 at *
  have HK := Lib.hid hk
  have HB := Lib.hid hb
  clear hk hb
  have c0 : W0.cell? ⟨w.heap.size, 0, none⟩ = some (.int .u16 (n0 : Int)) := (blk_cell HK.out 0).trans rfl
  have c1 : W0.cell? ⟨w.heap.size, 1, none⟩ = some (.int .u16 (n1 : Int)) := (blk_cell HK.out 1).trans rfl
  have c2 : W0.cell? ⟨w.heap.size, 2, none⟩ = some (.int .u16 (n2 : Int)) := (blk_cell HK.out 2).trans rfl
  have c3 : W0.cell? ⟨w.heap.size, 3, none⟩ = some (.int .u16 (n3 : Int)) := (blk_cell HK.out 3).trans rfl
  have c4 : W0.cell? ⟨w.heap.size, 4, none⟩ = some (.int .u16 (n4 : Int)) := (blk_cell HK.out 4).trans rfl
  have c5 : W0.cell? ⟨w.heap.size, 5, none⟩ = some (.int .u16 (n5 : Int)) := (blk_cell HK.out 5).trans rfl
  have c6 : W0.cell? ⟨w.heap.size, 6, none⟩ = some (.int .u16 (n6 : Int)) := (blk_cell HK.out 6).trans rfl
  have c7 : W0.cell? ⟨w.heap.size, 7, none⟩ = some (.int .u16 (n7 : Int)) := (blk_cell HK.out 7).trans rfl
  have c8 : W0.cell? ⟨w.heap.size, 8, none⟩ = some (.int .i64 (m : Int)) := (blk_cell HK.out 8).trans rfl
  have hlt : w.heap.size < W0.heap.size := blk_lt HK.out
  refine wp_region_ext (by kernel_rfl) (by kernel_rfl) ?_
  repeat (go_big_quiet_step (first | (with_reducible exact ext_of (HW.out _)) | (with_reducible exact ext_of (HD.out _))))
  refine wpQuiet_nil ?_
  rintro W ⟨⟨_, hb⟩, rfl⟩
  go_wp2_with fail
  go_ret
  exact ⟨by rw [← HJ.out]; rfl, below_step HB.out hb⟩
set_option maxHeartbeats 2000000 in
set_option maxRecDepth 100000 in
theorem printPrefix_walk (n0 n1 n2 n3 n4 n5 n6 n7 m : Nat) (h0 : n0 ≤ 65535) (h1 : n1 ≤ 65535) (h2 : n2 ≤ 65535) (h3 : n3 ≤ 65535) (h4 : n4 ≤ 65535) (h5 : n5 ≤ 65535) (h6 : n6 ≤ 65535) (h7 : n7 ≤ 65535) (hm : m ≤ 128) (hp : isPre (V8 n0 n1 n2 n3 n4 n5 n6 n7) m = true) (w : World) (hI : GI w) :
    Calls Tryz.prog 6 #[.agg #[.int .u16 (n0 : Int), .int .u16 (n1 : Int), .int .u16 (n2 : Int), .int .u16 (n3 : Int), .int .u16 (n4 : Int), .int .u16 (n5 : Int), .int .u16 (n6 : Int), .int .u16 (n7 : Int), .int .i64 (m : Int)]] w fun e w' => e = .returned (.tuple #[.string (BA (ppL n0 n1 n2 n3 n4 n5 n6 n7 m)), .int .i64 0]) ∧ Below w.heap.size w w' := by
  obtain ⟨l1, l2⟩ := pp_len h0 h1 h2 h3 h4 h5 h6 h7 hm
  have HW := Lib.hid (fun w => print_walk n0 n1 n2 n3 n4 n5 n6 n7 ⟨by omega, by omega, by omega, by omega, by omega, by omega, by omega, by omega⟩ w)
  have hd := fun (w : World) (hI : GI w) => itoa_at (m : Int) _ w hI (by unfold strconv_Itoa.f; rw [if_pos (by omega)])
  rw [show (⟨(Lib.itoa (m : Int)).toArray⟩ : ByteArray) = BA (Lib.itoa (m : Int)) from rfl] at hd
  have HD := Lib.hid hd
  clear hd
  rw [show (⟨(printL n0 n1 n2 n3 n4 n5 n6 n7).toArray⟩ : ByteArray) = BA (textL [n0, n1, n2, n3, n4, n5, n6, n7]) from rfl] at HW
  have HS := Lib.hid (fun w => is_walk n0 n1 n2 n3 n4 n5 n6 n7 ⟨by omega, by omega, by omega, by omega, by omega, by omega, by omega, by omega⟩ m w)
  rw [hp] at HS
  have HI := Lib.hid hI
  clear hI
  have HE : Hid (ppL n0 n1 n2 n3 n4 n5 n6 n7 m = textL [n0, n1, n2, n3, n4, n5, n6, n7] ++ 47 :: Lib.itoa (m : Int)) := Lib.hid rfl
  generalize textL [n0, n1, n2, n3, n4, n5, n6, n7] = T at *
  generalize Lib.itoa (m : Int) = d at *
  generalize ppL n0 n1 n2 n3 n4 n5 n6 n7 m = R at *
  have b1 : (BA T).size ≤ 100 := l1
  have b2 : (BA d).size ≤ 3 := l2
  have s1 : (BA T).size + 1 ≤ 9223372036854775807 := by omega
  have s2 : (BA T).size + 1 + (BA d).size ≤ 9223372036854775807 := by omega
  have hj : BA T ++ BA [47] ++ BA d = BA R := by
    rw [HE.out]
    simp only [ba_join]
    congr 1
    simp
  have HJ := Lib.hid hj
  have hk : (w.alloc (.cells #[.int .u16 (n0 : Int), .int .u16 (n1 : Int), .int .u16 (n2 : Int), .int .u16 (n3 : Int), .int .u16 (n4 : Int), .int .u16 (n5 : Int), .int .u16 (n6 : Int), .int .u16 (n7 : Int), .int .i64 (m : Int)] 26)).heap[w.heap.size]? = some (.cells #[.int .u16 (n0 : Int), .int .u16 (n1 : Int), .int .u16 (n2 : Int), .int .u16 (n3 : Int), .int .u16 (n4 : Int), .int .u16 (n5 : Int), .int .u16 (n6 : Int), .int .u16 (n7 : Int), .int .i64 (m : Int)] 26 (0, 0)) := blk_new _ _
  have hb : Below w.heap.size w (w.alloc (.cells #[.int .u16 (n0 : Int), .int .u16 (n1 : Int), .int .u16 (n2 : Int), .int .u16 (n3 : Int), .int .u16 (n4 : Int), .int .u16 (n5 : Int), .int .u16 (n6 : Int), .int .u16 (n7 : Int), .int .i64 (m : Int)] 26)) := (Below.refl _ _).alloc (Nat.le_refl _) _
  clear hj l1 l2 b1 b2
  go_enter Tryz.func6, Tryz.ntmps6
  go_upto_region 1 with fail
  generalize w.alloc (.cells #[.int .u16 (n0 : Int), .int .u16 (n1 : Int), .int .u16 (n2 : Int), .int .u16 (n3 : Int), .int .u16 (n4 : Int), .int .u16 (n5 : Int), .int .u16 (n6 : Int), .int .u16 (n7 : Int), .int .i64 (m : Int)] 26) = W0 at *
  have HK := Lib.hid hk
  have HB := Lib.hid hb
  clear hk hb
  have c0 : W0.cell? ⟨w.heap.size, 0, none⟩ = some (.int .u16 (n0 : Int)) := (blk_cell HK.out 0).trans rfl
  have c1 : W0.cell? ⟨w.heap.size, 1, none⟩ = some (.int .u16 (n1 : Int)) := (blk_cell HK.out 1).trans rfl
  have c2 : W0.cell? ⟨w.heap.size, 2, none⟩ = some (.int .u16 (n2 : Int)) := (blk_cell HK.out 2).trans rfl
  have c3 : W0.cell? ⟨w.heap.size, 3, none⟩ = some (.int .u16 (n3 : Int)) := (blk_cell HK.out 3).trans rfl
  have c4 : W0.cell? ⟨w.heap.size, 4, none⟩ = some (.int .u16 (n4 : Int)) := (blk_cell HK.out 4).trans rfl
  have c5 : W0.cell? ⟨w.heap.size, 5, none⟩ = some (.int .u16 (n5 : Int)) := (blk_cell HK.out 5).trans rfl
  have c6 : W0.cell? ⟨w.heap.size, 6, none⟩ = some (.int .u16 (n6 : Int)) := (blk_cell HK.out 6).trans rfl
  have c7 : W0.cell? ⟨w.heap.size, 7, none⟩ = some (.int .u16 (n7 : Int)) := (blk_cell HK.out 7).trans rfl
  have c8 : W0.cell? ⟨w.heap.size, 8, none⟩ = some (.int .i64 (m : Int)) := (blk_cell HK.out 8).trans rfl
  have hlt : w.heap.size < W0.heap.size := blk_lt HK.out
  go_wp2_with fail
  refine (HS.out _).mono ?_
  rintro e w1 ⟨rfl, hb1⟩
  have hk1 := blk_below HK.out hb1
  have HB1 := Lib.hid (below_step HB.out hb1)
  clear c0 c1 c2 c3 c4 c5 c6 c7 c8 hlt
  have c0 : w1.cell? ⟨w.heap.size, 0, none⟩ = some (.int .u16 (n0 : Int)) := (blk_cell hk1 0).trans rfl
  have c1 : w1.cell? ⟨w.heap.size, 1, none⟩ = some (.int .u16 (n1 : Int)) := (blk_cell hk1 1).trans rfl
  have c2 : w1.cell? ⟨w.heap.size, 2, none⟩ = some (.int .u16 (n2 : Int)) := (blk_cell hk1 2).trans rfl
  have c3 : w1.cell? ⟨w.heap.size, 3, none⟩ = some (.int .u16 (n3 : Int)) := (blk_cell hk1 3).trans rfl
  have c4 : w1.cell? ⟨w.heap.size, 4, none⟩ = some (.int .u16 (n4 : Int)) := (blk_cell hk1 4).trans rfl
  have c5 : w1.cell? ⟨w.heap.size, 5, none⟩ = some (.int .u16 (n5 : Int)) := (blk_cell hk1 5).trans rfl
  have c6 : w1.cell? ⟨w.heap.size, 6, none⟩ = some (.int .u16 (n6 : Int)) := (blk_cell hk1 6).trans rfl
  have c7 : w1.cell? ⟨w.heap.size, 7, none⟩ = some (.int .u16 (n7 : Int)) := (blk_cell hk1 7).trans rfl
  have c8 : w1.cell? ⟨w.heap.size, 8, none⟩ = some (.int .i64 (m : Int)) := (blk_cell hk1 8).trans rfl
  have hlt : w.heap.size < w1.heap.size := blk_lt hk1
  have HT := Lib.hid (fun (W : World) (hb : Below w1.heap.size w1 W) => HD.out W (HI.out.keep (below_step HB1.out hb)))
  clear hk1 hb1
  go_upto_region 3 with fail
  refine wp_region_ext (by kernel_rfl) (by kernel_rfl) ?_
  repeat (go_big_quiet_step (first | (with_reducible exact ext_of (HW.out _)) | (with_reducible exact ext_ofB HT.out)))
  refine wpQuiet_nil ?_
  rintro W ⟨⟨_, hb⟩, rfl⟩
  go_wp2_with fail
  refine bodyPost_ret (by simp [results, Tryz.results6, go_sem]; try rfl) rfl ?_
  exact ⟨by rw [← HJ.out]; rfl, below_step HB1.out hb⟩
set_option maxHeartbeats 2000000 in
set_option maxRecDepth 100000 in
theorem printPrefix_bad (x0 x1 x2 x3 x4 x5 x6 x7 : Int) (h : R8 x0 x1 x2 x3 x4 x5 x6 x7) (n : Int) (hp : isPre (V8 x0 x1 x2 x3 x4 x5 x6 x7) n = false) (w : World) :
    Calls Tryz.prog 6 #[.agg #[.int .u16 x0, .int .u16 x1, .int .u16 x2, .int .u16 x3, .int .u16 x4, .int .u16 x5, .int .u16 x6, .int .u16 x7, .int .i64 n]] w fun e w' => e = .returned (.tuple #[.string (BA []), .int .i64 211]) ∧ Below w.heap.size w w' := by
  have HS := Lib.hid (fun w => is_walk x0 x1 x2 x3 x4 x5 x6 x7 h n w)
  rw [hp] at HS
  have hk : (w.alloc (.cells #[.int .u16 x0, .int .u16 x1, .int .u16 x2, .int .u16 x3, .int .u16 x4, .int .u16 x5, .int .u16 x6, .int .u16 x7, .int .i64 n] 26)).heap[w.heap.size]? = some (.cells #[.int .u16 x0, .int .u16 x1, .int .u16 x2, .int .u16 x3, .int .u16 x4, .int .u16 x5, .int .u16 x6, .int .u16 x7, .int .i64 n] 26 (0, 0)) := blk_new _ _
  have hb : Below w.heap.size w (w.alloc (.cells #[.int .u16 x0, .int .u16 x1, .int .u16 x2, .int .u16 x3, .int .u16 x4, .int .u16 x5, .int .u16 x6, .int .u16 x7, .int .i64 n] 26)) := (Below.refl _ _).alloc (Nat.le_refl _) _
  go_enter Tryz.func6, Tryz.ntmps6
  go_upto_region 1 with fail
  generalize w.alloc (.cells #[.int .u16 x0, .int .u16 x1, .int .u16 x2, .int .u16 x3, .int .u16 x4, .int .u16 x5, .int .u16 x6, .int .u16 x7, .int .i64 n] 26) = W0 at *
  have HK := Lib.hid hk
  have HB := Lib.hid hb
  clear hk hb
  have c0 : W0.cell? ⟨w.heap.size, 0, none⟩ = some (.int .u16 x0) := (blk_cell HK.out 0).trans rfl
  have c1 : W0.cell? ⟨w.heap.size, 1, none⟩ = some (.int .u16 x1) := (blk_cell HK.out 1).trans rfl
  have c2 : W0.cell? ⟨w.heap.size, 2, none⟩ = some (.int .u16 x2) := (blk_cell HK.out 2).trans rfl
  have c3 : W0.cell? ⟨w.heap.size, 3, none⟩ = some (.int .u16 x3) := (blk_cell HK.out 3).trans rfl
  have c4 : W0.cell? ⟨w.heap.size, 4, none⟩ = some (.int .u16 x4) := (blk_cell HK.out 4).trans rfl
  have c5 : W0.cell? ⟨w.heap.size, 5, none⟩ = some (.int .u16 x5) := (blk_cell HK.out 5).trans rfl
  have c6 : W0.cell? ⟨w.heap.size, 6, none⟩ = some (.int .u16 x6) := (blk_cell HK.out 6).trans rfl
  have c7 : W0.cell? ⟨w.heap.size, 7, none⟩ = some (.int .u16 x7) := (blk_cell HK.out 7).trans rfl
  have c8 : W0.cell? ⟨w.heap.size, 8, none⟩ = some (.int .i64 n) := (blk_cell HK.out 8).trans rfl
  have hlt : w.heap.size < W0.heap.size := blk_lt HK.out
  go_wp2_with fail
  refine (HS.out _).mono ?_
  rintro e w1 ⟨rfl, hb1⟩
  have HB1 := Lib.hid (below_step HB.out hb1)
  go_wp2_with fail
  refine bodyPost_ret (by simp [results, Tryz.results6, go_sem]; try rfl) rfl ?_
  exact ⟨rfl, HB1.out⟩
end Go.Proofs.YtcgdjnmfeibnoaaGreatDoor
/-! SixPfxBack -/
namespace Go.Proofs.YtcgdjnmfeibnoaaGreatDoor
set_option linter.unusedVariables false
set_option linter.unusedSimpArgs false
theorem dec_no47 : ∀ n : Fin 256, ∀ c ∈ dec3 n.val, c ≠ 47 := by decide +kernel
theorem bits_itoa {m : Nat} (hm : m ≤ 128) : bitsP (Lib.itoa (m : Int)) = some m := by
  unfold bitsP
  rw [digR_small ⟨m, by omega⟩]
  simp [hm]
theorem back_pfx {n0 n1 n2 n3 n4 n5 n6 n7 m : Nat} (h0 : n0 ≤ 65535) (h1 : n1 ≤ 65535) (h2 : n2 ≤ 65535) (h3 : n3 ≤ 65535) (h4 : n4 ≤ 65535) (h5 : n5 ≤ 65535) (h6 : n6 ≤ 65535) (h7 : n7 ≤ 65535) (hm : m ≤ 128)
    (hp : isPre (V8 n0 n1 n2 n3 n4 n5 n6 n7) m = true) :
    PfxV (ppL n0 n1 n2 n3 n4 n5 n6 n7 m) (Lib.lastIndexByte (BA (ppL n0 n1 n2 n3 n4 n5 n6 n7 m)) 47) =
      .tuple #[.agg #[.int .u16 (n0 : Int), .int .u16 (n1 : Int), .int .u16 (n2 : Int), .int .u16 (n3 : Int), .int .u16 (n4 : Int), .int .u16 (n5 : Int), .int .u16 (n6 : Int), .int .u16 (n7 : Int), .int .i64 (m : Int)], .int .i64 0, .int .i64 0] := by
  have hs : Says (textL [n0, n1, n2, n3, n4, n5, n6, n7]) [n0, n1, n2, n3, n4, n5, n6, n7] := back_print (by simp) (by simp; omega)
  have hl := last_spec (ppL n0 n1 n2 n3 n4 n5 n6 n7 m)
  unfold ppL at hl ⊢
  generalize textL [n0, n1, n2, n3, n4, n5, n6, n7] = T at *
  have hk : LastR (T ++ 47 :: Lib.itoa (m : Int)) (T ++ 47 :: Lib.itoa (m : Int)).length (T.length : Nat) := by
    refine .inr ⟨T.length, by simp, rfl, by simp, fun j hj hj2 => ?_⟩
    rw [List.getElem?_append_right (by omega)]
    obtain ⟨i, rfl⟩ : ∃ i, j = T.length + 1 + i := ⟨j - T.length - 1, by omega⟩
    rw [show T.length + 1 + i - T.length = i + 1 from by omega, List.getElem?_cons_succ]
    intro h
    have hmem := List.mem_of_getElem? h
    rw [← dec_itoa' (by omega)] at hmem
    exact dec_no47 ⟨m, by omega⟩ _ hmem rfl
  rw [hl.one hk]
  have ht : (T ++ 47 :: Lib.itoa (m : Int)).take T.length = T := by simp
  have hd : (T ++ 47 :: Lib.itoa (m : Int)).drop (T.length + 1) = Lib.itoa (m : Int) := by rw [← List.drop_drop]; simp
  have e : ∀ j, j < 8 → (parseR T).1 j = pieceAt [n0, n1, n2, n3, n4, n5, n6, n7] j := fun j hj => by rw [← (parse_same T).1 j hj, hs.1 j hj]
  have e2 : (parseR T).2 = (0, 0) := by rw [← (parse_same T).2, hs.2]
  have hpr : parseR ((T ++ 47 :: Lib.itoa (m : Int)).take T.length) = ((parseR T).1, 0, 0) := by
    rw [ht]
    exact Prod.ext rfl e2
  have f0 : (parseR T).1 0 = n0 := e 0 (by decide)
  have f1 : (parseR T).1 1 = n1 := e 1 (by decide)
  have f2 : (parseR T).1 2 = n2 := e 2 (by decide)
  have f3 : (parseR T).1 3 = n3 := e 3 (by decide)
  have f4 : (parseR T).1 4 = n4 := e 4 (by decide)
  have f5 : (parseR T).1 5 = n5 := e 5 (by decide)
  have f6 : (parseR T).1 6 = n6 := e 6 (by decide)
  have f7 : (parseR T).1 7 = n7 := e 7 (by decide)
  have hg := pfx_good (n := m) hpr (by rw [hd]; exact bits_itoa hm) (by rw [f0, f1, f2, f3, f4, f5, f6, f7]; exact hp)
  unfold PfxV
  rw [hg]
  simp only [f0, f1, f2, f3, f4, f5, f6, f7]
theorem pp_short {n0 n1 n2 n3 n4 n5 n6 n7 m : Nat} (h0 : n0 ≤ 65535) (h1 : n1 ≤ 65535) (h2 : n2 ≤ 65535) (h3 : n3 ≤ 65535) (h4 : n4 ≤ 65535) (h5 : n5 ≤ 65535) (h6 : n6 ≤ 65535) (h7 : n7 ≤ 65535) (hm : m ≤ 128) : (ppL n0 n1 n2 n3 n4 n5 n6 n7 m).length ≤ 1048576 := by
  obtain ⟨l1, l2⟩ := pp_len h0 h1 h2 h3 h4 h5 h6 h7 hm
  unfold ppL
  rw [List.length_append, List.length_cons]
  omega
end Go.Proofs.YtcgdjnmfeibnoaaGreatDoor
/-! SixComV -/
namespace Go.Proofs.YtcgdjnmfeibnoaaGreatDoor
set_option linter.unusedVariables false
set_option linter.unusedSimpArgs false
/-- The first n bits are the same, the next one is not. -/
def ComN (f g : Nat → Nat) (n : Nat) : Prop := n ≤ 128 ∧ (∀ j, j < n → f (j / 16) / 2 ^ (15 - j % 16) % 2 = g (j / 16) / 2 ^ (15 - j % 16) % 2) ∧ (n < 128 → f (n / 16) / 2 ^ (15 - n % 16) % 2 ≠ g (n / 16) / 2 ^ (15 - n % 16) % 2)
theorem ComN.one {f g : Nat → Nat} {n m : Nat} (h : ComN f g n) (k : ComN f g m) : n = m := by
  rcases Nat.lt_trichotomy n m with c | c | c
  · exact absurd (k.2.1 n c) (h.2.2 (by have := k.1; omega))
  · exact c
  · exact absurd (h.2.1 m c) (k.2.2 (by have := h.1; omega))
theorem com_all {f g : Nat → Nat} (h : ∀ j, j < 8 → f j = g j) : ComN f g 128 :=
  ⟨Nat.le_refl _, fun j hj => by rw [h (j / 16) (by omega)], fun c => absurd c (by decide)⟩
theorem bitLen_b : ∀ (n x : Nat), x ≤ n → 0 < x → x < 2 ^ 64 → 0 < Lib.bitLen x ∧ 2 ^ (Lib.bitLen x - 1) ≤ x ∧ x < 2 ^ Lib.bitLen x
  | 0, x, hn, h0, _ => by omega
  | n + 1, x, hn, h0, hx => by
    by_cases h1 : x = 1
    · subst h1
      decide
    · obtain ⟨a, b, c⟩ := bitLen_b n (x / 2) (by omega) (by omega) (by omega)
      rw [Lib.bitLen_half x (by omega) hx]
      obtain ⟨m, hm⟩ : ∃ m, Lib.bitLen (x / 2) = m + 1 := ⟨Lib.bitLen (x / 2) - 1, by omega⟩
      rw [hm] at b c ⊢
      simp only [Nat.add_sub_cancel] at b
      rw [show 1 + (m + 1) - 1 = m + 1 from by omega, show 1 + (m + 1) = m + 1 + 1 from by omega, Nat.pow_succ]
      rw [Nat.pow_succ] at c
      rw [Nat.pow_succ]
      exact ⟨by omega, by omega, by omega⟩
theorem bit_eq {x y k : Nat} : x / 2 ^ k % 2 = y / 2 ^ k % 2 ↔ (x ^^^ y).testBit k = false := by
  rw [Nat.testBit_xor, Nat.testBit_eq_decide_div_mod_eq, Nat.testBit_eq_decide_div_mod_eq]
  have h1 : x / 2 ^ k % 2 < 2 := Nat.mod_lt _ (by decide)
  have h2 : y / 2 ^ k % 2 < 2 := Nat.mod_lt _ (by decide)
  generalize x / 2 ^ k % 2 = a at *
  generalize y / 2 ^ k % 2 = b at *
  match a, b, h1, h2 with
  | 0, 0, _, _ => simp
  | 0, 1, _, _ => simp
  | 1, 0, _, _ => simp
  | 1, 1, _, _ => simp
theorem com_at {f g : Nat → Nat} {i : Nat} (hi : i < 8) (he : ∀ j, j < i → f j = g j) (hf : f i < 65536) (hg : g i < 65536) (hne : f i ≠ g i) : Lib.bitLen (f i ^^^ g i) ≤ 16 ∧ ComN f g (16 * i + (16 - Lib.bitLen (f i ^^^ g i))) := by
  have hx0 : f i ^^^ g i ≠ 0 := fun h => hne (by
    apply Nat.eq_of_testBit_eq
    intro k
    have := congrArg (fun z => Nat.testBit z k) h
    simpa using this)
  have hx : f i ^^^ g i < 2 ^ 16 := Nat.xor_lt_two_pow hf hg
  obtain ⟨h1, h2, h3⟩ := bitLen_b _ (f i ^^^ g i) (Nat.le_refl _) (by omega) (by omega)
  generalize hL : Lib.bitLen (f i ^^^ g i) = L at *
  have hL16 : L ≤ 16 := by
    rcases Nat.lt_or_ge 16 L with c | c
    · have : 2 ^ 16 ≤ 2 ^ (L - 1) := Nat.pow_le_pow_right (by decide) (by omega)
      omega
    · exact c
  refine ⟨hL16, by omega, fun j hj => ?_, fun hn => ?_⟩
  · by_cases hji : j / 16 < i
    · rw [he _ hji]
    · have e : j / 16 = i := by omega
      rw [e, bit_eq]
      have hk : L ≤ 15 - j % 16 := by omega
      exact Nat.testBit_lt_two_pow (Nat.lt_of_lt_of_le h3 (Nat.pow_le_pow_right (by decide) hk))
  · have e : (16 * i + (16 - L)) / 16 = i := by omega
    have e2 : 15 - (16 * i + (16 - L)) % 16 = L - 1 := by omega
    rw [e, e2]
    intro h
    rw [bit_eq, Nat.testBit_eq_decide_div_mod_eq] at h
    have hp : 0 < 2 ^ (L - 1) := Nat.two_pow_pos _
    have hd : (f i ^^^ g i) / 2 ^ (L - 1) = 1 := by
      rw [Nat.div_eq_iff hp]
      obtain ⟨m, rfl⟩ : ∃ m, L = m + 1 := ⟨L - 1, by omega⟩
      rw [Nat.add_sub_cancel] at *
      rw [Nat.pow_succ] at h3
      omega
    rw [hd] at h
    simp at h
end Go.Proofs.YtcgdjnmfeibnoaaGreatDoor
/-! SixCom -/
namespace Go.Proofs.YtcgdjnmfeibnoaaGreatDoor
open Go.RowKit Go.Proofs.YtcgdjnmfeibnoaaGreatDoorW.PrintWords Go.IntWalk
set_option linter.unusedVariables false
set_option linter.unusedSimpArgs false
/-- Eight pieces, told by a function. -/
def aF (f : Nat → Nat) : Array Value := #[.int .u16 ((f 0 : Nat) : Int), .int .u16 ((f 1 : Nat) : Int), .int .u16 ((f 2 : Nat) : Int), .int .u16 ((f 3 : Nat) : Int), .int .u16 ((f 4 : Nat) : Int), .int .u16 ((f 5 : Nat) : Int), .int .u16 ((f 6 : Nat) : Int), .int .u16 ((f 7 : Nat) : Int)]
theorem aF_at (f : Nat → Nat) {k : Nat} (hk : k < 8) : (aF f)[k]? = some (.int .u16 ((f k : Nat) : Int)) := by
  match k, hk with
  | 0, _ => rfl
  | 1, _ => rfl
  | 2, _ => rfl
  | 3, _ => rfl
  | 4, _ => rfl
  | 5, _ => rfl
  | 6, _ => rfl
  | 7, _ => rfl
def ComRel (f g : Nat → Nat) (W0 : World) (i : Value) (W : World) : Prop := ∃ k : Nat, k ≤ 8 ∧ i = .int .i64 k ∧ (∀ j, j < k → f j = g j) ∧ Below W0.heap.size W0 W
set_option maxHeartbeats 2000000 in
set_option maxRecDepth 100000 in
theorem common_walk (f g : Nat → Nat) (hf : ∀ j, j < 8 → f j < 65536) (hg : ∀ j, j < 8 → g j < 65536) (w : World) :
    Calls Tryz.prog 11 #[.agg #[.int .u16 ((f 0 : Nat) : Int), .int .u16 ((f 1 : Nat) : Int), .int .u16 ((f 2 : Nat) : Int), .int .u16 ((f 3 : Nat) : Int), .int .u16 ((f 4 : Nat) : Int), .int .u16 ((f 5 : Nat) : Int), .int .u16 ((f 6 : Nat) : Int), .int .u16 ((f 7 : Nat) : Int)], .agg #[.int .u16 ((g 0 : Nat) : Int), .int .u16 ((g 1 : Nat) : Int), .int .u16 ((g 2 : Nat) : Int), .int .u16 ((g 3 : Nat) : Int), .int .u16 ((g 4 : Nat) : Int), .int .u16 ((g 5 : Nat) : Int), .int .u16 ((g 6 : Nat) : Int), .int .u16 ((g 7 : Nat) : Int)]] w fun e w' => ∃ n : Nat, e = .returned (.int .i64 n) ∧ ComN f g n ∧ Below w.heap.size w w' := by
  have h0 : ((w.alloc (.cells #[.int .u16 ((f 0 : Nat) : Int), .int .u16 ((f 1 : Nat) : Int), .int .u16 ((f 2 : Nat) : Int), .int .u16 ((f 3 : Nat) : Int), .int .u16 ((f 4 : Nat) : Int), .int .u16 ((f 5 : Nat) : Int), .int .u16 ((f 6 : Nat) : Int), .int .u16 ((f 7 : Nat) : Int)] 24)).alloc (.cells #[.int .u16 ((g 0 : Nat) : Int), .int .u16 ((g 1 : Nat) : Int), .int .u16 ((g 2 : Nat) : Int), .int .u16 ((g 3 : Nat) : Int), .int .u16 ((g 4 : Nat) : Int), .int .u16 ((g 5 : Nat) : Int), .int .u16 ((g 6 : Nat) : Int), .int .u16 ((g 7 : Nat) : Int)] 24)).heap[w.heap.size]? = some (.cells #[.int .u16 ((f 0 : Nat) : Int), .int .u16 ((f 1 : Nat) : Int), .int .u16 ((f 2 : Nat) : Int), .int .u16 ((f 3 : Nat) : Int), .int .u16 ((f 4 : Nat) : Int), .int .u16 ((f 5 : Nat) : Int), .int .u16 ((f 6 : Nat) : Int), .int .u16 ((f 7 : Nat) : Int)] 24 (0, 0)) := blk_alloc (blk_new _ _) _
  have h1 : ((w.alloc (.cells #[.int .u16 ((f 0 : Nat) : Int), .int .u16 ((f 1 : Nat) : Int), .int .u16 ((f 2 : Nat) : Int), .int .u16 ((f 3 : Nat) : Int), .int .u16 ((f 4 : Nat) : Int), .int .u16 ((f 5 : Nat) : Int), .int .u16 ((f 6 : Nat) : Int), .int .u16 ((f 7 : Nat) : Int)] 24)).alloc (.cells #[.int .u16 ((g 0 : Nat) : Int), .int .u16 ((g 1 : Nat) : Int), .int .u16 ((g 2 : Nat) : Int), .int .u16 ((g 3 : Nat) : Int), .int .u16 ((g 4 : Nat) : Int), .int .u16 ((g 5 : Nat) : Int), .int .u16 ((g 6 : Nat) : Int), .int .u16 ((g 7 : Nat) : Int)] 24)).heap[w.heap.size + 1]? = some (.cells #[.int .u16 ((g 0 : Nat) : Int), .int .u16 ((g 1 : Nat) : Int), .int .u16 ((g 2 : Nat) : Int), .int .u16 ((g 3 : Nat) : Int), .int .u16 ((g 4 : Nat) : Int), .int .u16 ((g 5 : Nat) : Int), .int .u16 ((g 6 : Nat) : Int), .int .u16 ((g 7 : Nat) : Int)] 24 (0, 0)) := by
    have := blk_new (w.alloc (.cells #[.int .u16 ((f 0 : Nat) : Int), .int .u16 ((f 1 : Nat) : Int), .int .u16 ((f 2 : Nat) : Int), .int .u16 ((f 3 : Nat) : Int), .int .u16 ((f 4 : Nat) : Int), .int .u16 ((f 5 : Nat) : Int), .int .u16 ((f 6 : Nat) : Int), .int .u16 ((f 7 : Nat) : Int)] 24)) (.cells #[.int .u16 ((g 0 : Nat) : Int), .int .u16 ((g 1 : Nat) : Int), .int .u16 ((g 2 : Nat) : Int), .int .u16 ((g 3 : Nat) : Int), .int .u16 ((g 4 : Nat) : Int), .int .u16 ((g 5 : Nat) : Int), .int .u16 ((g 6 : Nat) : Int), .int .u16 ((g 7 : Nat) : Int)] 24)
    rwa [World.size_alloc] at this
  have hb : Below w.heap.size w ((w.alloc (.cells #[.int .u16 ((f 0 : Nat) : Int), .int .u16 ((f 1 : Nat) : Int), .int .u16 ((f 2 : Nat) : Int), .int .u16 ((f 3 : Nat) : Int), .int .u16 ((f 4 : Nat) : Int), .int .u16 ((f 5 : Nat) : Int), .int .u16 ((f 6 : Nat) : Int), .int .u16 ((f 7 : Nat) : Int)] 24)).alloc (.cells #[.int .u16 ((g 0 : Nat) : Int), .int .u16 ((g 1 : Nat) : Int), .int .u16 ((g 2 : Nat) : Int), .int .u16 ((g 3 : Nat) : Int), .int .u16 ((g 4 : Nat) : Int), .int .u16 ((g 5 : Nat) : Int), .int .u16 ((g 6 : Nat) : Int), .int .u16 ((g 7 : Nat) : Int)] 24)) := ((Below.refl _ _).alloc (Nat.le_refl _) _).alloc (by simp) _
  have HF := Lib.hid (And.intro hf hg)
  clear hf hg
  go_enter Tryz.func11, Tryz.ntmps11
  go_upto_region 1 with fail
  generalize (w.alloc (.cells #[.int .u16 ((f 0 : Nat) : Int), .int .u16 ((f 1 : Nat) : Int), .int .u16 ((f 2 : Nat) : Int), .int .u16 ((f 3 : Nat) : Int), .int .u16 ((f 4 : Nat) : Int), .int .u16 ((f 5 : Nat) : Int), .int .u16 ((f 6 : Nat) : Int), .int .u16 ((f 7 : Nat) : Int)] 24)).alloc (.cells #[.int .u16 ((g 0 : Nat) : Int), .int .u16 ((g 1 : Nat) : Int), .int .u16 ((g 2 : Nat) : Int), .int .u16 ((g 3 : Nat) : Int), .int .u16 ((g 4 : Nat) : Int), .int .u16 ((g 5 : Nat) : Int), .int .u16 ((g 6 : Nat) : Int), .int .u16 ((g 7 : Nat) : Int)] 24) = W0 at *
  have H0 := Lib.hid h0
  have H1 := Lib.hid h1
  have HB := Lib.hid hb
  clear h0 h1 hb
  go_wp2_with fail
  go_loopw [7] (fun i W => ComRel f g W0 i W) (fun i _ => 8 - (intOf i).toNat)
  case atStart => exact ⟨0, by omega, rfl, fun j h => absurd h (Nat.not_lt_zero _), Below.refl _ _⟩
  case round =>
    obtain ⟨k, hk, rfl, heq, hbw⟩ := hrel
    have HEQ := Lib.hid heq
    have HBW := Lib.hid hbw
    clear heq hbw
    by_cases hlt : k < 8
    · have hkz : (k : Int) < 8 := by omega
      have c0 : wr.cell? ⟨w.heap.size, k, none⟩ = some (.int .u16 ((f k : Nat) : Int)) := (blk_cell (blk_below H0.out HBW.out) k).trans (aF_at f hlt)
      have c1 : wr.cell? ⟨w.heap.size + 1, k, none⟩ = some (.int .u16 ((g k : Nat) : Int)) := (blk_cell (blk_below H1.out HBW.out) k).trans (aF_at g hlt)
      have l0 := blk_lt (blk_below H0.out HBW.out)
      have l1 := blk_lt (blk_below H1.out HBW.out)
      have hx := u16_xor_nat (f k) (g k) (HF.out.1 k hlt) (HF.out.2 k hlt)
      have hx64 : f k ^^^ g k < 65536 := Nat.xor_lt_two_pow (n := 16) (HF.out.1 k hlt) (HF.out.2 k hlt)
      go_upto_region 4 with fail
      refine wp_region_ext (by kernel_rfl) (by kernel_rfl) ?_
      repeat (go_big_quiet_step (fail))
      refine wpQuiet_nil ?_
      rintro W2 ⟨⟨_, hb2⟩, rfl⟩
      have HB2 := Lib.hid (below_step HBW.out hb2)
      clear hb2 c0 c1 l0 l1
      by_cases hfg : f k = g k
      · have hz : ((f k ^^^ g k : Nat) : Int) = 0 := by rw [hfg, Nat.xor_self]; rfl
        have HFG := Lib.hid hfg
        clear hfg hx
        rw [hz]
        go_wp2_with fail
        exact ⟨⟨k + 1, by omega, by simp, fun j hj => by
          by_cases e : j = k
          · subst e
            exact HFG.out
          · exact HEQ.out j (by omega), HB2.out⟩, by simp [intOf]; omega⟩
      · obtain ⟨hL, hC⟩ := com_at hlt HEQ.out (HF.out.1 k hlt) (HF.out.2 k hlt) hfg
        have hnz : ¬ ((f k ^^^ g k : Nat) : Int) = 0 := by
          intro h
          apply hfg
          have h : f k ^^^ g k = 0 := by omega
          apply Nat.eq_of_testBit_eq
          intro j
          have := congrArg (fun z => Nat.testBit z j) h
          simpa using this
        have HC := Lib.hid hC
        have hLZ := fun w => Tryz.bits_LeadingZeros16 ((f k ^^^ g k : Nat) : Int) w (by omega) (by omega)
        rw [Int.toNat_natCast] at hLZ
        have HLZ := Lib.hid hLZ
        generalize f k ^^^ g k = X at *
        generalize Lib.bitLen X = L at *
        clear hfg hx hC hLZ
        go_wp2_with fail
        refine (HLZ.out _).mono ?_
        rintro e W3 ⟨rfl, rfl⟩
        go_wp2_with fail
        go_returns
        refine ⟨16 * k + (16 - L), ?_, HC.out, below_step HB.out HB2.out⟩
        rw [show ((16 * k + (16 - L) : Nat) : Int) = (k : Int) * 16 + (16 - (L : Int)) from by omega]
        rfl
    · obtain rfl : k = 8 := by omega
      go_wp2_with fail
      go_returns
      exact ⟨128, rfl, com_all HEQ.out, below_step HB.out HBW.out⟩
end Go.Proofs.YtcgdjnmfeibnoaaGreatDoor
/-! SixRefCom -/
namespace Go.Proofs.YtcgdjnmfeibnoaaGreatDoor
open Go.RowKit Go.Proofs.YtcgdjnmfeibnoaaGreatDoorW.PrintWords Go.IntWalk
set_option linter.unusedVariables false
set_option linter.unusedSimpArgs false
theorem bit_int (x t : Nat) (hx : x < 65536) : bits .and .u16 ((x / 2 ^ t : Nat) : Int) 1 = ((x / 2 ^ t % 2 : Nat) : Int) := by
  have h : x / 2 ^ t < 65536 := Nat.lt_of_le_of_lt (Nat.div_le_self _ _) hx
  have := u16_and_nat (x / 2 ^ t) 1 h (by decide)
  rw [Nat.and_one_is_mod] at this
  exact this
theorem bit_at (x t : Nat) (hx : x < 65536) (ht : t ≤ 15) : bits .and .u16 ((x : Int) / 2 ^ (15 - (15 - t))) 1 = ((x / 2 ^ t % 2 : Nat) : Int) := by
  rw [← bit_int x t hx, show 15 - (15 - t) = t from by omega]
  congr 1
def RComRel (f g : Nat → Nat) (W0 : World) (i : Value) (W : World) : Prop := ∃ k : Nat, k ≤ 128 ∧ i = .int .i64 k ∧ (∀ j, j < k → f (j / 16) / 2 ^ (15 - j % 16) % 2 = g (j / 16) / 2 ^ (15 - j % 16) % 2) ∧ Below W0.heap.size W0 W
set_option maxHeartbeats 2000000 in
set_option maxRecDepth 100000 in
theorem refCommon_walk (f g : Nat → Nat) (hf : ∀ j, j < 8 → f j < 65536) (hg : ∀ j, j < 8 → g j < 65536) (w : World) :
    Calls Tryz.prog 12 #[.agg #[.int .u16 ((f 0 : Nat) : Int), .int .u16 ((f 1 : Nat) : Int), .int .u16 ((f 2 : Nat) : Int), .int .u16 ((f 3 : Nat) : Int), .int .u16 ((f 4 : Nat) : Int), .int .u16 ((f 5 : Nat) : Int), .int .u16 ((f 6 : Nat) : Int), .int .u16 ((f 7 : Nat) : Int)], .agg #[.int .u16 ((g 0 : Nat) : Int), .int .u16 ((g 1 : Nat) : Int), .int .u16 ((g 2 : Nat) : Int), .int .u16 ((g 3 : Nat) : Int), .int .u16 ((g 4 : Nat) : Int), .int .u16 ((g 5 : Nat) : Int), .int .u16 ((g 6 : Nat) : Int), .int .u16 ((g 7 : Nat) : Int)]] w fun e w' => ∃ n : Nat, e = .returned (.int .i64 n) ∧ ComN f g n ∧ Below w.heap.size w w' := by
  have h0 : ((w.alloc (.cells #[.int .u16 ((f 0 : Nat) : Int), .int .u16 ((f 1 : Nat) : Int), .int .u16 ((f 2 : Nat) : Int), .int .u16 ((f 3 : Nat) : Int), .int .u16 ((f 4 : Nat) : Int), .int .u16 ((f 5 : Nat) : Int), .int .u16 ((f 6 : Nat) : Int), .int .u16 ((f 7 : Nat) : Int)] 30)).alloc (.cells #[.int .u16 ((g 0 : Nat) : Int), .int .u16 ((g 1 : Nat) : Int), .int .u16 ((g 2 : Nat) : Int), .int .u16 ((g 3 : Nat) : Int), .int .u16 ((g 4 : Nat) : Int), .int .u16 ((g 5 : Nat) : Int), .int .u16 ((g 6 : Nat) : Int), .int .u16 ((g 7 : Nat) : Int)] 30)).heap[w.heap.size]? = some (.cells #[.int .u16 ((f 0 : Nat) : Int), .int .u16 ((f 1 : Nat) : Int), .int .u16 ((f 2 : Nat) : Int), .int .u16 ((f 3 : Nat) : Int), .int .u16 ((f 4 : Nat) : Int), .int .u16 ((f 5 : Nat) : Int), .int .u16 ((f 6 : Nat) : Int), .int .u16 ((f 7 : Nat) : Int)] 30 (0, 0)) := blk_alloc (blk_new _ _) _
  have h1 : ((w.alloc (.cells #[.int .u16 ((f 0 : Nat) : Int), .int .u16 ((f 1 : Nat) : Int), .int .u16 ((f 2 : Nat) : Int), .int .u16 ((f 3 : Nat) : Int), .int .u16 ((f 4 : Nat) : Int), .int .u16 ((f 5 : Nat) : Int), .int .u16 ((f 6 : Nat) : Int), .int .u16 ((f 7 : Nat) : Int)] 30)).alloc (.cells #[.int .u16 ((g 0 : Nat) : Int), .int .u16 ((g 1 : Nat) : Int), .int .u16 ((g 2 : Nat) : Int), .int .u16 ((g 3 : Nat) : Int), .int .u16 ((g 4 : Nat) : Int), .int .u16 ((g 5 : Nat) : Int), .int .u16 ((g 6 : Nat) : Int), .int .u16 ((g 7 : Nat) : Int)] 30)).heap[w.heap.size + 1]? = some (.cells #[.int .u16 ((g 0 : Nat) : Int), .int .u16 ((g 1 : Nat) : Int), .int .u16 ((g 2 : Nat) : Int), .int .u16 ((g 3 : Nat) : Int), .int .u16 ((g 4 : Nat) : Int), .int .u16 ((g 5 : Nat) : Int), .int .u16 ((g 6 : Nat) : Int), .int .u16 ((g 7 : Nat) : Int)] 30 (0, 0)) := by
    have := blk_new (w.alloc (.cells #[.int .u16 ((f 0 : Nat) : Int), .int .u16 ((f 1 : Nat) : Int), .int .u16 ((f 2 : Nat) : Int), .int .u16 ((f 3 : Nat) : Int), .int .u16 ((f 4 : Nat) : Int), .int .u16 ((f 5 : Nat) : Int), .int .u16 ((f 6 : Nat) : Int), .int .u16 ((f 7 : Nat) : Int)] 30)) (.cells #[.int .u16 ((g 0 : Nat) : Int), .int .u16 ((g 1 : Nat) : Int), .int .u16 ((g 2 : Nat) : Int), .int .u16 ((g 3 : Nat) : Int), .int .u16 ((g 4 : Nat) : Int), .int .u16 ((g 5 : Nat) : Int), .int .u16 ((g 6 : Nat) : Int), .int .u16 ((g 7 : Nat) : Int)] 30)
    rwa [World.size_alloc] at this
  have hb : Below w.heap.size w ((w.alloc (.cells #[.int .u16 ((f 0 : Nat) : Int), .int .u16 ((f 1 : Nat) : Int), .int .u16 ((f 2 : Nat) : Int), .int .u16 ((f 3 : Nat) : Int), .int .u16 ((f 4 : Nat) : Int), .int .u16 ((f 5 : Nat) : Int), .int .u16 ((f 6 : Nat) : Int), .int .u16 ((f 7 : Nat) : Int)] 30)).alloc (.cells #[.int .u16 ((g 0 : Nat) : Int), .int .u16 ((g 1 : Nat) : Int), .int .u16 ((g 2 : Nat) : Int), .int .u16 ((g 3 : Nat) : Int), .int .u16 ((g 4 : Nat) : Int), .int .u16 ((g 5 : Nat) : Int), .int .u16 ((g 6 : Nat) : Int), .int .u16 ((g 7 : Nat) : Int)] 30)) := ((Below.refl _ _).alloc (Nat.le_refl _) _).alloc (by simp) _
  have HF := Lib.hid (And.intro hf hg)
  clear hf hg
  go_enter Tryz.func12, Tryz.ntmps12
  go_upto_region 1 with fail
  generalize (w.alloc (.cells #[.int .u16 ((f 0 : Nat) : Int), .int .u16 ((f 1 : Nat) : Int), .int .u16 ((f 2 : Nat) : Int), .int .u16 ((f 3 : Nat) : Int), .int .u16 ((f 4 : Nat) : Int), .int .u16 ((f 5 : Nat) : Int), .int .u16 ((f 6 : Nat) : Int), .int .u16 ((f 7 : Nat) : Int)] 30)).alloc (.cells #[.int .u16 ((g 0 : Nat) : Int), .int .u16 ((g 1 : Nat) : Int), .int .u16 ((g 2 : Nat) : Int), .int .u16 ((g 3 : Nat) : Int), .int .u16 ((g 4 : Nat) : Int), .int .u16 ((g 5 : Nat) : Int), .int .u16 ((g 6 : Nat) : Int), .int .u16 ((g 7 : Nat) : Int)] 30) = W0 at *
  have H0 := Lib.hid h0
  have H1 := Lib.hid h1
  have HB := Lib.hid hb
  clear h0 h1 hb
  go_wp2_with fail
  go_loopw [5] (fun i W => RComRel f g W0 i W) (fun i _ => 128 - (intOf i).toNat)
  case atStart => exact ⟨0, by omega, rfl, fun j h => absurd h (Nat.not_lt_zero _), Below.refl _ _⟩
  case round =>
    obtain ⟨k, hk, rfl, heq, hbw⟩ := hrel
    have HEQ := Lib.hid heq
    have HBW := Lib.hid hbw
    clear heq hbw
    by_cases hlt : k < 128
    · obtain ⟨q, t, hqt, hq, ht⟩ : ∃ q t : Nat, k = 16 * q + (15 - t) ∧ q < 8 ∧ t ≤ 15 := ⟨k / 16, 15 - k % 16, by omega, by omega, by omega⟩
      have HQT := Lib.hid hqt
      have e1 : (k : Int).tdiv 16 = (q : Int) := by rw [Int.tdiv_eq_ediv_of_nonneg (by omega)]; omega
      have e2 : (k : Int).tmod 16 = 15 - (t : Int) := by rw [Int.tmod_eq_emod_of_nonneg (by omega)]; omega
      have hkz : (k : Int) < 128 := by omega
      have hqz : (q : Int) < 8 := by omega
      clear hqt
      have c0 : wr.cell? ⟨w.heap.size, q, none⟩ = some (.int .u16 ((f q : Nat) : Int)) := (blk_cell (blk_below H0.out HBW.out) q).trans (aF_at f hq)
      have c1 : wr.cell? ⟨w.heap.size + 1, q, none⟩ = some (.int .u16 ((g q : Nat) : Int)) := (blk_cell (blk_below H1.out HBW.out) q).trans (aF_at g hq)
      have l0 := blk_lt (blk_below H0.out HBW.out)
      have l1 := blk_lt (blk_below H1.out HBW.out)
      go_upto_region 2 with fail
      refine wp_region_ext (by kernel_rfl) (by kernel_rfl) ?_
      repeat (go_big_quiet_step (fail))
      have hbf := bit_at (f q) t (HF.out.1 q hq) ht
      have hbg := bit_at (g q) t (HF.out.2 q hq) ht
      rw [hbf, hbg]
      have ek : k / 16 = q := by have := HQT.out; omega
      have et : 15 - k % 16 = t := by have := HQT.out; omega
      refine wpQuiet_nil ?_
      rintro W2 ⟨⟨_, hb2⟩, rfl⟩
      have HB2 := Lib.hid (below_step HBW.out hb2)
      have HKT := Lib.hid (And.intro ek et)
      clear hb2 c0 c1 l0 l1 hbf hbg ek et
      by_cases hbit : f q / 2 ^ t % 2 = g q / 2 ^ t % 2
      · rw [hbit, beq_self_eq_true]
        have HBT := Lib.hid hbit
        clear hbit
        go_wp2_with fail
        exact ⟨⟨k + 1, by omega, by simp, fun j hj => by
          by_cases e : j = k
          · subst e
            rw [HKT.out.1, HKT.out.2]
            exact HBT.out
          · exact HEQ.out j (by omega), HB2.out⟩, by simp [intOf]; omega⟩
      · have hne : (((f q / 2 ^ t % 2 : Nat) : Int) == ((g q / 2 ^ t % 2 : Nat) : Int)) = false := by
          rw [beq_eq_false_iff_ne]
          omega
        rw [hne]
        have HBT := Lib.hid hbit
        clear hbit hne
        go_wp2_with fail
        go_returns
        exact ⟨k, rfl, ⟨hk, HEQ.out, fun _ => by rw [HKT.out.1, HKT.out.2]; exact HBT.out⟩, below_step HB.out HB2.out⟩
    · obtain rfl : k = 128 := by omega
      clear hlt
      go_upto_region 2 with fail
      refine wp_region_ext (by kernel_rfl) (by kernel_rfl) ?_
      repeat (go_big_quiet_step (fail))
      refine wpQuiet_nil ?_
      rintro W2 ⟨⟨_, hb2⟩, rfl⟩
      have HB2 := Lib.hid (below_step HBW.out hb2)
      clear hb2
      go_wp2_with fail
      go_returns
      exact ⟨128, rfl, ⟨Nat.le_refl _, HEQ.out, fun h => absurd h (by decide)⟩, below_step HB.out HB2.out⟩
end Go.Proofs.YtcgdjnmfeibnoaaGreatDoor
/-! SixRefPfx -/
namespace Go.Proofs.YtcgdjnmfeibnoaaGreatDoor
open Go.RowKit Go.Proofs.YtcgdjnmfeibnoaaGreatDoorW.PrintWords
set_option linter.unusedVariables false
set_option linter.unusedSimpArgs false
@[irreducible] def storeQ (x v : Value) : Sem Unit := Instr.storeAt 32 x v
@[go_sem ↓ high] theorem storeQ_of (x v : Value) : Instr.storeAt 32 x v = storeQ x v := by unfold storeQ; rfl
theorem storeQ_old {W : World} {g : Nat} {old : Array Value} (h : W.heap[g]? = some (.cells old 32 (0, 0))) (ho : old.size = 9) (y0 y1 y2 y3 y4 y5 y6 y7 n : Int) :
    (storeQ (.pointer (some ⟨g, 0, none⟩)) (.agg #[.int .u16 y0, .int .u16 y1, .int .u16 y2, .int .u16 y3, .int .u16 y4, .int .u16 y5, .int .u16 y6, .int .u16 y7, .int .i64 n])).run Tryz.prog W = .ok () (W.setRow g #[.int .u16 y0, .int .u16 y1, .int .u16 y2, .int .u16 y3, .int .u16 y4, .int .u16 y5, .int .u16 y6, .int .u16 y7, .int .i64 n]) := by
  unfold storeQ
  simp only [Instr.storeAt, Instr.sureAddr, Sem.run_bind, Sem.run_pure, Result.andThen]
  exact run_storeVar_row _ _ 32 32 old #[.int .u16 y0, .int .u16 y1, .int .u16 y2, .int .u16 y3, .int .u16 y4, .int .u16 y5, .int .u16 y6, .int .u16 y7, .int .i64 n] h (by kernel_rfl) ho (by simp [Value.oneCell'])
@[go_sem] theorem storeQ_new {b : Nat} (W : World) (z0 z1 z2 z3 z4 z5 z6 z7 m y0 y1 y2 y3 y4 y5 y6 y7 n : Int) (hn : b = W.heap.size) :
    (storeQ (.pointer (some ⟨b, 0, none⟩)) (.agg #[.int .u16 y0, .int .u16 y1, .int .u16 y2, .int .u16 y3, .int .u16 y4, .int .u16 y5, .int .u16 y6, .int .u16 y7, .int .i64 n])).run Tryz.prog (W.alloc (.cells #[.int .u16 z0, .int .u16 z1, .int .u16 z2, .int .u16 z3, .int .u16 z4, .int .u16 z5, .int .u16 z6, .int .u16 z7, .int .i64 m] 32)) = .ok () (W.alloc (.cells #[.int .u16 y0, .int .u16 y1, .int .u16 y2, .int .u16 y3, .int .u16 y4, .int .u16 y5, .int .u16 y6, .int .u16 y7, .int .i64 n] 32)) := by
  subst hn
  rw [storeQ_old (heap_alloc_new W _) rfl]
  congr 1
  exact World.setRow_alloc_new W _ _ 32
theorem store_toQ {W : World} {g : Nat} {old : Array Value} (h : W.heap[g]? = some (.cells old 32 (0, 0))) (ho : old.size = 9) (y0 y1 y2 y3 y4 y5 y6 y7 n : Int) :
    ∃ wB, (storeQ (.pointer (some ⟨g, 0, none⟩)) (.agg #[.int .u16 y0, .int .u16 y1, .int .u16 y2, .int .u16 y3, .int .u16 y4, .int .u16 y5, .int .u16 y6, .int .u16 y7, .int .i64 n])).run Tryz.prog W = .ok () wB ∧ wB.heap[g]? = some (.cells #[.int .u16 y0, .int .u16 y1, .int .u16 y2, .int .u16 y3, .int .u16 y4, .int .u16 y5, .int .u16 y6, .int .u16 y7, .int .i64 n] 32 (0, 0)) ∧ (∀ B w0, B ≤ g → Below B w0 W → Below B w0 wB) ∧ (∀ b, b ≠ g → wB.heap[b]? = W.heap[b]?) :=
  ⟨_, storeQ_old h ho _ _ _ _ _ _ _ _ _, setRow_at h, fun B w0 hB hw => below_setRow hw hB _, fun b hb => setRow_elseS hb⟩
/-- Are the digits' number and place well begun? -/
def ok0 (t : List UInt8) : Bool := decide (1 ≤ t.length ∧ t.length ≤ 3) && (decide (t.head? ≠ some 48) || decide (t.length = 1))
def dgs (t : List UInt8) (i : Nat) : Prop := ∀ j c, j < i → t[j]? = some c → 48 ≤ c.toNat ∧ c.toNat ≤ 57
def foldD (l : List UInt8) : Nat := l.foldl (fun n c => 10 * n + (c.toNat - 48)) 0
theorem foldD_snoc (l : List UInt8) (c : UInt8) : foldD (l ++ [c]) = 10 * foldD l + (c.toNat - 48) := by simp [foldD]
theorem fold_lt : ∀ (l : List UInt8) (a : Nat), (∀ c ∈ l, 48 ≤ c.toNat ∧ c.toNat ≤ 57) → l.foldl (fun n c => 10 * n + (c.toNat - 48)) a < (a + 1) * 10 ^ l.length
  | [], a, _ => by simp
  | c :: l, a, h => by
    have hc := h c (by simp)
    have ih := fold_lt l (10 * a + (c.toNat - 48)) (fun d hd => h d (by simp [hd]))
    rw [List.foldl_cons, List.length_cons, Nat.pow_succ]
    have h2 : (10 * a + (c.toNat - 48) + 1) * 10 ^ l.length ≤ (10 * (a + 1)) * 10 ^ l.length := Nat.mul_le_mul_right _ (by omega)
    have e : (a + 1) * (10 ^ l.length * 10) = (10 * (a + 1)) * 10 ^ l.length := by
      rw [Nat.mul_comm (10 ^ l.length) 10, ← Nat.mul_assoc, Nat.mul_comm (a + 1) 10]
    rw [e]
    exact Nat.lt_of_lt_of_le ih h2
theorem foldD_lt {l : List UInt8} (h : ∀ c ∈ l, 48 ≤ c.toNat ∧ c.toNat ≤ 57) (hl : l.length ≤ 3) : foldD l < 1000 := by
  have h1 := fold_lt l 0 h
  have h2 : 10 ^ l.length ≤ 10 ^ 3 := Nat.pow_le_pow_right (by decide) hl
  unfold foldD
  omega
theorem digR_end {t : List UInt8} (h0 : ok0 t = true) (h : dgs t t.length) : digR t = some (foldD t) := by
  unfold ok0 at h0
  simp only [Bool.and_eq_true, Bool.or_eq_true, decide_eq_true_eq] at h0
  unfold digR
  have ha : t.all (fun c => decide (48 ≤ c.toNat ∧ c.toNat ≤ 57)) = true := by
    rw [List.all_eq_true]
    intro c hc
    obtain ⟨j, hj⟩ := List.getElem?_of_mem hc
    exact decide_eq_true (h j c (List.getElem?_eq_some_iff.1 hj).1 hj)
  rw [if_pos ⟨h0.1.1, h0.1.2, h0.2, ha⟩]
  rfl
theorem digR_bad0 {t : List UInt8} (h0 : ok0 t = false) : digR t = none := by
  unfold digR
  rw [if_neg]
  intro h
  unfold ok0 at h0
  rw [decide_eq_true (⟨h.1, h.2.1⟩ : 1 ≤ t.length ∧ t.length ≤ 3)] at h0
  rcases h.2.2.1 with h1 | h1
  · rw [decide_eq_true h1] at h0
    cases h0
  · rw [decide_eq_true h1, Bool.or_true] at h0
    cases h0
theorem digR_bad {t : List UInt8} {c : UInt8} {j : Nat} (hj : t[j]? = some c) (h : ¬ (48 ≤ c.toNat ∧ c.toNat ≤ 57)) : digR t = none := by
  unfold digR
  rw [if_neg]
  intro hh
  have := List.all_eq_true.1 hh.2.2.2 c (List.mem_of_getElem? hj)
  exact h (of_decide_eq_true this)
/-- Where the search for the stroke stands. -/
def CutRel (D : List UInt8) (W0 : World) (c i : Value) (W : World) : Prop := ∃ (k : Nat) (z : Int), k ≤ D.length ∧ i = .int .i64 k ∧ c = .int .i64 z ∧ LastR D k z ∧ W = W0
/-- Where the reading of the digits stands. -/
def DigRel (t : List UInt8) (W0 : World) (n ok i : Value) (W : World) : Prop := ∃ (k : Nat) (z : Int) (b : Bool), k ≤ t.length ∧ i = .int .i64 k ∧ n = .int .i64 z ∧ ok = .bool b ∧ W = W0 ∧
  (b = true → ok0 t = true ∧ dgs t k ∧ z = foldD (t.take k)) ∧ (b = false → digR t = none)
set_option maxHeartbeats 4000000 in
set_option maxRecDepth 100000 in
theorem refParsePrefix_walk (D : List UInt8) (hD : D.length ≤ 1048576) (c0 : Int) (hc0 : LastR D D.length c0) (w : World) :
    Calls Tryz.prog 5 #[.string (BA D)] w fun e w' => e = .returned (PfxV D c0) ∧ Below w.heap.size w w' := by
  have hsz : (BA D).size = D.length := ba_size D
  have HC0 := Lib.hid hc0
  clear hc0
  go_enter Tryz.func5, Tryz.ntmps5
  have hz0 : (w.alloc (.cells #[.int .u16 0, .int .u16 0, .int .u16 0, .int .u16 0, .int .u16 0, .int .u16 0, .int .u16 0, .int .u16 0, .int .i64 0] 32)).heap[w.heap.size]? = some (.cells #[.int .u16 0, .int .u16 0, .int .u16 0, .int .u16 0, .int .u16 0, .int .u16 0, .int .u16 0, .int .u16 0, .int .i64 0] 32 (0, 0)) := blk_new _ _
  have hbz : Below w.heap.size w (w.alloc (.cells #[.int .u16 0, .int .u16 0, .int .u16 0, .int .u16 0, .int .u16 0, .int .u16 0, .int .u16 0, .int .u16 0, .int .i64 0] 32)) := (Below.refl _ _).alloc (Nat.le_refl _) _
  go_upto_region 1 with fail
  generalize w.alloc (.cells #[.int .u16 0, .int .u16 0, .int .u16 0, .int .u16 0, .int .u16 0, .int .u16 0, .int .u16 0, .int .u16 0, .int .i64 0] 32) = W0 at *
  have HZ0 := Lib.hid hz0
  have HBZ := Lib.hid hbz
  clear hz0 hbz
  go_wp2_with fail
  go_loopw [5, 6] (fun c i W => CutRel D W0 c i W) (fun _ i _ => D.length - (intOf i).toNat)
  case atStart => exact ⟨0, -1, Nat.zero_le _, rfl, rfl, lastR_zero D, rfl⟩
  case round =>
    obtain ⟨k, z, hk, rfl, rfl, hl, rfl⟩ := hrel
    have HL := Lib.hid hl
    clear hl
    by_cases hlt : k < D.length
    · have hkz : (k : Int) < (D.length : Int) := by omega
      have hg : D[k]? = some D[k] := List.getElem?_eq_getElem hlt
      have hlt' : k < (BA D).size := by rw [hsz]; exact hlt
      by_cases hs : D[k] = 47
      · have hq : ((((BA D)[k]'hlt').toNat : Int) == 47) = true := by
          rw [show (BA D)[k]'hlt' = D[k] from rfl, hs]
          rfl
        have HH := Lib.hid (LastR.hit (m := k) (D := D) (c := 0) (by rw [hg]; exact congrArg some hs))
        clear hs hg
        go_wp2_with fail
        exact ⟨⟨k + 1, (k : Int), by omega, by simp, rfl, HH.out, rfl⟩, by simp [intOf]; omega⟩
      · have hq : ((((BA D)[k]'hlt').toNat : Int) == 47) = false := by
          rw [beq_eq_false_iff_ne, show (BA D)[k]'hlt' = D[k] from rfl]
          intro h
          exact hs (UInt8.toNat_inj.1 (show (D[k]).toNat = (47 : UInt8).toNat from by have : (47 : UInt8).toNat = 47 := rfl; omega))
        have HH := Lib.hid (HL.out.miss (by rw [hg]; intro h; exact hs (Option.some.inj h)))
        clear hs hg
        go_wp2_with fail
        exact ⟨⟨k + 1, z, by omega, by simp, rfl, HH.out, rfl⟩, by simp [intOf]; omega⟩
    · obtain rfl : k = D.length := by omega
      obtain rfl := HC0.out.one HL.out
      clear HC0 hlt
      by_cases hneg : c0 < 0
      · have hp : pfxR D c0 = (fun _ => 0, 0, (D.length : Int), 211) := by unfold pfxR; rw [if_pos hneg]
        have HPX := Lib.hid hp
        clear hp
        go_upto_region 8 with fail
        obtain ⟨wB, hst, hBx, hBb, _⟩ := store_toQ HZ0.out rfl 0 0 0 0 0 0 0 0 0
        have u0 := (blk_cell hBx 0).trans (show _ = some (Value.int .u16 0) from rfl)
        have u1 := (blk_cell hBx 1).trans (show _ = some (Value.int .u16 0) from rfl)
        have u2 := (blk_cell hBx 2).trans (show _ = some (Value.int .u16 0) from rfl)
        have u3 := (blk_cell hBx 3).trans (show _ = some (Value.int .u16 0) from rfl)
        have u4 := (blk_cell hBx 4).trans (show _ = some (Value.int .u16 0) from rfl)
        have u5 := (blk_cell hBx 5).trans (show _ = some (Value.int .u16 0) from rfl)
        have u6 := (blk_cell hBx 6).trans (show _ = some (Value.int .u16 0) from rfl)
        have u7 := (blk_cell hBx 7).trans (show _ = some (Value.int .u16 0) from rfl)
        have u8 := (blk_cell hBx 8).trans (show _ = some (Value.int .i64 0) from rfl)
        have hBl := blk_lt hBx
        have HBB := Lib.hid (hBb w.heap.size w (Nat.le_refl _) HBZ.out)
        clear hBx hBb
        go_wp2_with fail
        refine bodyPost_ret (by simp [results, Tryz.results5, go_sem, u0, u1, u2, u3, u4, u5, u6, u7, u8]; try rfl) rfl ?_
        exact ⟨by unfold PfxV; rw [HPX.out], HBB.out⟩
      · obtain ⟨k, rfl⟩ : ∃ k : Nat, c0 = k := ⟨c0.toNat, by omega⟩
        have hk : k < D.length := by
          rcases HL.out with ⟨e, _⟩ | ⟨k', h, e, _⟩
          · omega
          · omega
        have ex1 : (BA D).extract 0 k = BA (D.take k) := by rw [extract_head, ba_list]
        have ex2 : (BA D).extract (k + 1) D.length = BA (D.drop (k + 1)) := by rw [extract_ba, ba_list, List.take_of_length_le (by simp)]
        obtain ⟨f, a, b, hpr⟩ : ∃ f a b, parseR (D.take k) = (f, a, b) := ⟨_, _, _, rfl⟩
        have HPR := Lib.hid hpr
        have HPW := Lib.hid (fun w => (refParse_walk (BA (D.take k)) (Nat.le_trans (Nat.le_of_eq (ba_size _)) (by have := List.length_take (i := k) (l := D); omega)) w).mono fun e w' h => parsed_at (f := f) (a := a) (b := b) (by rw [ba_list]; exact hpr) h)
        have hneg' : ¬ (k : Int) < 0 := by omega
        have hkz : (k : Int) ≤ (D.length : Int) := by omega
        have hkz2 : (k : Int) + 1 ≤ (D.length : Int) := by omega
        clear hpr
        go_wp2_with fail
        refine (HPW.out _).mono ?_
        rintro e w2 ⟨rfl, hb2⟩
        have hz2 := blk_alloc (blk_below HZ0.out hb2) (.cells #[.int .u16 (f 0), .int .u16 (f 1), .int .u16 (f 2), .int .u16 (f 3), .int .u16 (f 4), .int .u16 (f 5), .int .u16 (f 6), .int .u16 (f 7)] 30)
        have hB2 : Below w.heap.size w (w2.alloc (.cells #[.int .u16 (f 0), .int .u16 (f 1), .int .u16 (f 2), .int .u16 (f 3), .int .u16 (f 4), .int .u16 (f 5), .int .u16 (f 6), .int .u16 (f 7)] 30)) := (below_step HBZ.out hb2).alloc (below_step HBZ.out hb2).size _
        have h6 : (w2.alloc (.cells #[.int .u16 (f 0), .int .u16 (f 1), .int .u16 (f 2), .int .u16 (f 3), .int .u16 (f 4), .int .u16 (f 5), .int .u16 (f 6), .int .u16 (f 7)] 30)).heap[w2.heap.size]? = some (.cells #[.int .u16 (f 0), .int .u16 (f 1), .int .u16 (f 2), .int .u16 (f 3), .int .u16 (f 4), .int .u16 (f 5), .int .u16 (f 6), .int .u16 (f 7)] 30 (0, 0)) := blk_new _ _
        clear hb2 HPW
        by_cases hb0 : b = 0
        · subst hb0
          go_upto_region 12 with fail
          generalize w2.heap.size = b6 at *
          generalize w2.alloc (.cells #[.int .u16 (f 0), .int .u16 (f 1), .int .u16 (f 2), .int .u16 (f 3), .int .u16 (f 4), .int .u16 (f 5), .int .u16 (f 6), .int .u16 (f 7)] 30) = W3 at *
          have H6 := Lib.hid h6
          have HZ := Lib.hid hz2
          have HB2 := Lib.hid hB2
          clear h6 hz2 hB2
          refine wp_region_ext (by kernel_rfl) (by kernel_rfl) ?_
          repeat (go_big_quiet_step (fail))
          refine wpQuiet_nil ?_
          rintro W4 ⟨⟨_, hb4⟩, rfl⟩
          have H64 := Lib.hid (blk_below H6.out hb4)
          have HZ4 := Lib.hid (blk_below HZ.out hb4)
          have HB4 := Lib.hid (below_step HB2.out hb4)
          clear hb4 H6 HZ HB2
          obtain ⟨E, hE⟩ : ∃ E, E = D.drop (k + 1) := ⟨_, rfl⟩
          have hEl : E.length ≤ 1048576 := by rw [hE]; have := List.length_drop (i := k + 1) (l := D); omega
          have hEs : (BA E).size = E.length := ba_size E
          rw [← hE] at ex2 ⊢
          have HE := Lib.hid hE
          clear hE
          go_upto_region 13 with fail
          go_cut [12] (fun s W => s = .bool (ok0 E) ∧ W = W4)
          case first =>
            rcases E with _ | ⟨c, r⟩
            · have he : ok0 [] = false := rfl
              have hl0 : ([] : List UInt8).length = 0 := rfl
              rw [hl0] at hEs
              go_wp2_with fail
              go_meet
              exact ⟨rfl, rfl⟩
            · have hl1 : (c :: r).length = r.length + 1 := rfl
              rw [hl1] at hEs
              have h0 : 0 < (BA (c :: r)).size := by rw [hEs]; omega
              have hc : ((((BA (c :: r))[0]'h0).toNat : Int) == 48) = decide (c = 48) := by
                rw [show (BA (c :: r))[0]'h0 = c from rfl]
                by_cases h : c = 48
                · rw [h]
                  rfl
                · rw [decide_eq_false h, beq_eq_false_iff_ne]
                  intro h2
                  exact h (UInt8.toNat_inj.1 (show c.toNat = (48 : UInt8).toNat from by have : (48 : UInt8).toNat = 48 := rfl; omega))
              have hk0 : ok0 (c :: r) = (decide (r.length + 1 ≤ 3) && (!(decide (c = 48)) || decide (r.length + 1 = 1))) := by
                unfold ok0
                simp
              have HK0 := Lib.hid hk0
              clear hk0
              have hr0 : (0 : Int) ≤ (r.length : Int) := by omega
              have hr1 : (1 : Int) ≤ (r.length : Int) + 1 := by omega
              by_cases h3 : r.length + 1 ≤ 3
              · have h3z : (r.length : Int) + 1 ≤ 3 := by omega
                by_cases h4 : c = 48
                · rw [decide_eq_true h4, beq_iff_eq] at hc
                  have H4 := Lib.hid h4
                  clear h4
                  by_cases h5 : r.length + 1 = 1
                  · have h5z : ((r.length : Int) + 1 == 1) = true := by rw [beq_iff_eq]; omega
                    go_wp2_with fail
                    go_meet
                    exact ⟨by rw [HK0.out]; simp [h3, H4.out, h5], rfl⟩
                  · have h5z : ((r.length : Int) + 1 == 1) = false := by rw [beq_eq_false_iff_ne]; omega
                    have h5n : r ≠ [] := fun e => h5 (by rw [e]; rfl)
                    go_wp2_with fail
                    go_meet
                    exact ⟨by rw [HK0.out]; simp [h3, H4.out, h5, h5n], rfl⟩
                · rw [decide_eq_false h4, beq_eq_false_iff_ne] at hc
                  have H4 := Lib.hid h4
                  clear h4
                  go_wp2_with fail
                  go_meet
                  exact ⟨by rw [HK0.out]; simp [h3, H4.out], rfl⟩
              · have h3z : ¬ (r.length : Int) + 1 ≤ 3 := by omega
                go_wp2_with fail
                go_meet
                exact ⟨by rw [HK0.out]; simp [h3], rfl⟩
          case rest =>
            obtain ⟨rfl, rfl⟩ := hcut
            have HR8 : Hid (R8 (f 0) (f 1) (f 2) (f 3) (f 4) (f 5) (f 6) (f 7)) := Lib.hid (by have h := parseR_r8 (D.take k); rw [HPR.out] at h; exact h)
            go_wp2_with fail
            go_loopw [10, 12, 13] (fun n ok i W => DigRel E wc n ok i W) (fun _ _ i _ => E.length - (intOf i).toNat)
            case atStart => exact ⟨0, 0, ok0 E, Nat.zero_le _, rfl, rfl, rfl, rfl, fun h => ⟨h, fun j c hj => absurd hj (Nat.not_lt_zero _), rfl⟩, fun h => digR_bad0 h⟩
            case round =>
              obtain ⟨i, z, b, hi, rfl, rfl, rfl, hW, ht, hf⟩ := hrel
              obtain rfl := hW.symm
              cases b with
              | false =>
                have HDG : Hid (digR E = none) := Lib.hid (hf rfl)
                clear ht hf
                by_cases hlt : i < E.length
                · have hiz : (i : Int) < (E.length : Int) := by omega
                  have c0 := (blk_cell H64.out 0).trans (show _ = some (Value.int .u16 (f 0)) from rfl)
                  have c1 := (blk_cell H64.out 1).trans (show _ = some (Value.int .u16 (f 1)) from rfl)
                  have c2 := (blk_cell H64.out 2).trans (show _ = some (Value.int .u16 (f 2)) from rfl)
                  have c3 := (blk_cell H64.out 3).trans (show _ = some (Value.int .u16 (f 3)) from rfl)
                  have c4 := (blk_cell H64.out 4).trans (show _ = some (Value.int .u16 (f 4)) from rfl)
                  have c5 := (blk_cell H64.out 5).trans (show _ = some (Value.int .u16 (f 5)) from rfl)
                  have c6 := (blk_cell H64.out 6).trans (show _ = some (Value.int .u16 (f 6)) from rfl)
                  have c7 := (blk_cell H64.out 7).trans (show _ = some (Value.int .u16 (f 7)) from rfl)
                  have hl6 := blk_lt H64.out
                  go_upto_region 20 with fail
                  have hz5 := blk_alloc HZ4.out (.cells #[.int .u16 (f 0), .int .u16 (f 1), .int .u16 (f 2), .int .u16 (f 3), .int .u16 (f 4), .int .u16 (f 5), .int .u16 (f 6), .int .u16 (f 7), .int .i64 z] 32)
                  have hB5 := HB4.out.alloc HB4.out.size (.cells #[.int .u16 (f 0), .int .u16 (f 1), .int .u16 (f 2), .int .u16 (f 3), .int .u16 (f 4), .int .u16 (f 5), .int .u16 (f 6), .int .u16 (f 7), .int .i64 z] 32)
                  have h14 : (wc.alloc (.cells #[.int .u16 (f 0), .int .u16 (f 1), .int .u16 (f 2), .int .u16 (f 3), .int .u16 (f 4), .int .u16 (f 5), .int .u16 (f 6), .int .u16 (f 7), .int .i64 z] 32)).heap[wc.heap.size]? = some (.cells #[.int .u16 (f 0), .int .u16 (f 1), .int .u16 (f 2), .int .u16 (f 3), .int .u16 (f 4), .int .u16 (f 5), .int .u16 (f 6), .int .u16 (f 7), .int .i64 z] 32 (0, 0)) := blk_new _ _
                  generalize wc.heap.size = b14 at *
                  generalize wc.alloc (.cells #[.int .u16 (f 0), .int .u16 (f 1), .int .u16 (f 2), .int .u16 (f 3), .int .u16 (f 4), .int .u16 (f 5), .int .u16 (f 6), .int .u16 (f 7), .int .i64 z] 32) = W5 at *
                  have HZ5 := Lib.hid hz5
                  have HB5 := Lib.hid hB5
                  have H14 := Lib.hid h14
                  clear hz5 hB5 h14 c0 c1 c2 c3 c4 c5 c6 c7 hl6
                  have hz6 := HZ5.out
                  have hB6 := HB5.out
                  have hp := pfx_bad HPR.out (fun n hn => absurd (bits_some hn).2.1 (by rw [← HE.out, HDG.out]; exact fun h => nomatch h))
                  have HPX := Lib.hid hp
                  clear hp
                  go_upto_region 21 with fail
                  obtain ⟨wB, hst, hBx, hBb, _⟩ := store_toQ hz6 rfl 0 0 0 0 0 0 0 0 0
                  have u0 := (blk_cell hBx 0).trans (show _ = some (Value.int .u16 0) from rfl)
                  have u1 := (blk_cell hBx 1).trans (show _ = some (Value.int .u16 0) from rfl)
                  have u2 := (blk_cell hBx 2).trans (show _ = some (Value.int .u16 0) from rfl)
                  have u3 := (blk_cell hBx 3).trans (show _ = some (Value.int .u16 0) from rfl)
                  have u4 := (blk_cell hBx 4).trans (show _ = some (Value.int .u16 0) from rfl)
                  have u5 := (blk_cell hBx 5).trans (show _ = some (Value.int .u16 0) from rfl)
                  have u6 := (blk_cell hBx 6).trans (show _ = some (Value.int .u16 0) from rfl)
                  have u7 := (blk_cell hBx 7).trans (show _ = some (Value.int .u16 0) from rfl)
                  have u8 := (blk_cell hBx 8).trans (show _ = some (Value.int .i64 0) from rfl)
                  have hBl := blk_lt hBx
                  have HBB := Lib.hid (hBb w.heap.size w (Nat.le_refl _) hB6)
                  clear hBx hBb hz6 hB6
                  go_wp2_with fail
                  refine bodyPost_ret (by simp [results, Tryz.results5, go_sem, u0, u1, u2, u3, u4, u5, u6, u7, u8]; try rfl) rfl ?_
                  exact ⟨by unfold PfxV; rw [HPX.out], HBB.out⟩
                · have hiz : ¬ (i : Int) < (E.length : Int) := by omega
                  have c0 := (blk_cell H64.out 0).trans (show _ = some (Value.int .u16 (f 0)) from rfl)
                  have c1 := (blk_cell H64.out 1).trans (show _ = some (Value.int .u16 (f 1)) from rfl)
                  have c2 := (blk_cell H64.out 2).trans (show _ = some (Value.int .u16 (f 2)) from rfl)
                  have c3 := (blk_cell H64.out 3).trans (show _ = some (Value.int .u16 (f 3)) from rfl)
                  have c4 := (blk_cell H64.out 4).trans (show _ = some (Value.int .u16 (f 4)) from rfl)
                  have c5 := (blk_cell H64.out 5).trans (show _ = some (Value.int .u16 (f 5)) from rfl)
                  have c6 := (blk_cell H64.out 6).trans (show _ = some (Value.int .u16 (f 6)) from rfl)
                  have c7 := (blk_cell H64.out 7).trans (show _ = some (Value.int .u16 (f 7)) from rfl)
                  have hl6 := blk_lt H64.out
                  go_upto_region 20 with fail
                  have hz5 := blk_alloc HZ4.out (.cells #[.int .u16 (f 0), .int .u16 (f 1), .int .u16 (f 2), .int .u16 (f 3), .int .u16 (f 4), .int .u16 (f 5), .int .u16 (f 6), .int .u16 (f 7), .int .i64 z] 32)
                  have hB5 := HB4.out.alloc HB4.out.size (.cells #[.int .u16 (f 0), .int .u16 (f 1), .int .u16 (f 2), .int .u16 (f 3), .int .u16 (f 4), .int .u16 (f 5), .int .u16 (f 6), .int .u16 (f 7), .int .i64 z] 32)
                  have h14 : (wc.alloc (.cells #[.int .u16 (f 0), .int .u16 (f 1), .int .u16 (f 2), .int .u16 (f 3), .int .u16 (f 4), .int .u16 (f 5), .int .u16 (f 6), .int .u16 (f 7), .int .i64 z] 32)).heap[wc.heap.size]? = some (.cells #[.int .u16 (f 0), .int .u16 (f 1), .int .u16 (f 2), .int .u16 (f 3), .int .u16 (f 4), .int .u16 (f 5), .int .u16 (f 6), .int .u16 (f 7), .int .i64 z] 32 (0, 0)) := blk_new _ _
                  generalize wc.heap.size = b14 at *
                  generalize wc.alloc (.cells #[.int .u16 (f 0), .int .u16 (f 1), .int .u16 (f 2), .int .u16 (f 3), .int .u16 (f 4), .int .u16 (f 5), .int .u16 (f 6), .int .u16 (f 7), .int .i64 z] 32) = W5 at *
                  have HZ5 := Lib.hid hz5
                  have HB5 := Lib.hid hB5
                  have H14 := Lib.hid h14
                  clear hz5 hB5 h14 c0 c1 c2 c3 c4 c5 c6 c7 hl6
                  have hz6 := HZ5.out
                  have hB6 := HB5.out
                  have hp := pfx_bad HPR.out (fun n hn => absurd (bits_some hn).2.1 (by rw [← HE.out, HDG.out]; exact fun h => nomatch h))
                  have HPX := Lib.hid hp
                  clear hp
                  go_upto_region 21 with fail
                  obtain ⟨wB, hst, hBx, hBb, _⟩ := store_toQ hz6 rfl 0 0 0 0 0 0 0 0 0
                  have u0 := (blk_cell hBx 0).trans (show _ = some (Value.int .u16 0) from rfl)
                  have u1 := (blk_cell hBx 1).trans (show _ = some (Value.int .u16 0) from rfl)
                  have u2 := (blk_cell hBx 2).trans (show _ = some (Value.int .u16 0) from rfl)
                  have u3 := (blk_cell hBx 3).trans (show _ = some (Value.int .u16 0) from rfl)
                  have u4 := (blk_cell hBx 4).trans (show _ = some (Value.int .u16 0) from rfl)
                  have u5 := (blk_cell hBx 5).trans (show _ = some (Value.int .u16 0) from rfl)
                  have u6 := (blk_cell hBx 6).trans (show _ = some (Value.int .u16 0) from rfl)
                  have u7 := (blk_cell hBx 7).trans (show _ = some (Value.int .u16 0) from rfl)
                  have u8 := (blk_cell hBx 8).trans (show _ = some (Value.int .i64 0) from rfl)
                  have hBl := blk_lt hBx
                  have HBB := Lib.hid (hBb w.heap.size w (Nat.le_refl _) hB6)
                  clear hBx hBb hz6 hB6
                  go_wp2_with fail
                  refine bodyPost_ret (by simp [results, Tryz.results5, go_sem, u0, u1, u2, u3, u4, u5, u6, u7, u8]; try rfl) rfl ?_
                  exact ⟨by unfold PfxV; rw [HPX.out], HBB.out⟩
              | true =>
                obtain ⟨h0, hd, hz⟩ := ht rfl
                clear ht hf
                have HOK := Lib.hid h0
                have HDS := Lib.hid hd
                have HZV := Lib.hid hz
                clear h0 hd hz
                by_cases hlt : i < E.length
                · have hiz : (i : Int) < (E.length : Int) := by omega
                  have hzb : 0 ≤ z ∧ z < 1000 := by
                    have hl3 : E.length ≤ 3 := by
                      have h := HOK.out
                      unfold ok0 at h
                      simp only [Bool.and_eq_true, decide_eq_true_eq] at h
                      exact h.1.2
                    have := foldD_lt (l := E.take i) (fun c hc => by
                      obtain ⟨j, hj⟩ := List.getElem?_of_mem hc
                      have hji : j < i := by
                        have h1 := (List.getElem?_eq_some_iff.1 hj).1
                        rw [List.length_take] at h1
                        omega
                      rw [List.getElem?_take_of_lt hji] at hj
                      exact HDS.out j c hji hj) (by rw [List.length_take]; omega)
                    have := HZV.out
                    omega
                  have hlt' : i < (BA E).size := by rw [hEs]; exact hlt
                  have hg : E[i]? = some E[i] := List.getElem?_eq_getElem hlt
                  have hcv : (BA E)[i]'hlt' = E[i] := rfl
                  generalize E[i] = c at hg hcv
                  have HG := Lib.hid hg
                  clear hg
                  rw [← hcv] at HG
                  clear hcv
                  have hcb : ((BA E)[i]'hlt').toNat < 256 := UInt8.toNat_lt _
                  obtain ⟨hzb1, hzb2⟩ := hzb
                  by_cases hd1 : 48 ≤ ((BA E)[i]'hlt').toNat
                  · have hd1z : (48 : Int) ≤ (((BA E)[i]'hlt').toNat : Int) := by omega
                    by_cases hd2 : ((BA E)[i]'hlt').toNat ≤ 57
                    · have hd2z : (((BA E)[i]'hlt').toNat : Int) ≤ 57 := by omega
                      go_wp2_with fail
                      refine ⟨⟨i + 1, 10 * z + ((((BA E)[i]'hlt').toNat : Int) - 48), true, by omega, by simp, ?_, rfl, rfl, fun _ => ⟨HOK.out, ?_, ?_⟩, fun h => Bool.noConfusion h⟩, by simp [intOf]; omega⟩
                      · rfl
                      · intro j c hj hc
                        by_cases e : j = i
                        · subst e
                          rw [HG.out] at hc
                          injection hc with hc
                          rw [← hc]
                          exact ⟨hd1, hd2⟩
                        · exact HDS.out j c (by omega) hc
                      · rw [List.take_add_one, HG.out, Option.toList_some, foldD_snoc, HZV.out]
                        omega
                    · have hd2z : ¬ (((BA E)[i]'hlt').toNat : Int) ≤ 57 := by omega
                      have HBD := Lib.hid (digR_bad HG.out (fun h => hd2 h.2))
                      go_wp2_with fail
                      exact ⟨⟨i + 1, _, false, by omega, by simp, rfl, rfl, rfl, fun h => Bool.noConfusion h, fun _ => HBD.out⟩, by simp [intOf]; omega⟩
                  · have hd1z : ¬ (48 : Int) ≤ (((BA E)[i]'hlt').toNat : Int) := by omega
                    have HBD := Lib.hid (digR_bad HG.out (fun h => hd1 h.1))
                    go_wp2_with fail
                    exact ⟨⟨i + 1, _, false, by omega, by simp, rfl, rfl, rfl, fun h => Bool.noConfusion h, fun _ => HBD.out⟩, by simp [intOf]; omega⟩
                · have hiz : ¬ (i : Int) < (E.length : Int) := by omega
                  have HDG : Hid (digR E = some (foldD E)) := Lib.hid (by
                    refine digR_end HOK.out ?_
                    rw [show E.length = i from by omega]
                    exact HDS.out)
                  have HZF : Hid (z = (foldD E : Int)) := Lib.hid (by rw [HZV.out, List.take_of_length_le (by omega)])
                  clear HDS HZV HOK
                  have c0 := (blk_cell H64.out 0).trans (show _ = some (Value.int .u16 (f 0)) from rfl)
                  have c1 := (blk_cell H64.out 1).trans (show _ = some (Value.int .u16 (f 1)) from rfl)
                  have c2 := (blk_cell H64.out 2).trans (show _ = some (Value.int .u16 (f 2)) from rfl)
                  have c3 := (blk_cell H64.out 3).trans (show _ = some (Value.int .u16 (f 3)) from rfl)
                  have c4 := (blk_cell H64.out 4).trans (show _ = some (Value.int .u16 (f 4)) from rfl)
                  have c5 := (blk_cell H64.out 5).trans (show _ = some (Value.int .u16 (f 5)) from rfl)
                  have c6 := (blk_cell H64.out 6).trans (show _ = some (Value.int .u16 (f 6)) from rfl)
                  have c7 := (blk_cell H64.out 7).trans (show _ = some (Value.int .u16 (f 7)) from rfl)
                  have hl6 := blk_lt H64.out
                  go_upto_region 20 with fail
                  have hz5 := blk_alloc HZ4.out (.cells #[.int .u16 (f 0), .int .u16 (f 1), .int .u16 (f 2), .int .u16 (f 3), .int .u16 (f 4), .int .u16 (f 5), .int .u16 (f 6), .int .u16 (f 7), .int .i64 z] 32)
                  have hB5 := HB4.out.alloc HB4.out.size (.cells #[.int .u16 (f 0), .int .u16 (f 1), .int .u16 (f 2), .int .u16 (f 3), .int .u16 (f 4), .int .u16 (f 5), .int .u16 (f 6), .int .u16 (f 7), .int .i64 z] 32)
                  have h14 : (wc.alloc (.cells #[.int .u16 (f 0), .int .u16 (f 1), .int .u16 (f 2), .int .u16 (f 3), .int .u16 (f 4), .int .u16 (f 5), .int .u16 (f 6), .int .u16 (f 7), .int .i64 z] 32)).heap[wc.heap.size]? = some (.cells #[.int .u16 (f 0), .int .u16 (f 1), .int .u16 (f 2), .int .u16 (f 3), .int .u16 (f 4), .int .u16 (f 5), .int .u16 (f 6), .int .u16 (f 7), .int .i64 z] 32 (0, 0)) := blk_new _ _
                  generalize wc.heap.size = b14 at *
                  generalize wc.alloc (.cells #[.int .u16 (f 0), .int .u16 (f 1), .int .u16 (f 2), .int .u16 (f 3), .int .u16 (f 4), .int .u16 (f 5), .int .u16 (f 6), .int .u16 (f 7), .int .i64 z] 32) = W5 at *
                  have HZ5 := Lib.hid hz5
                  have HB5 := Lib.hid hB5
                  have H14 := Lib.hid h14
                  clear hz5 hB5 h14 c0 c1 c2 c3 c4 c5 c6 c7 hl6
                  have c0 := (blk_cell H14.out 0).trans (show _ = some (Value.int .u16 (f 0)) from rfl)
                  have c1 := (blk_cell H14.out 1).trans (show _ = some (Value.int .u16 (f 1)) from rfl)
                  have c2 := (blk_cell H14.out 2).trans (show _ = some (Value.int .u16 (f 2)) from rfl)
                  have c3 := (blk_cell H14.out 3).trans (show _ = some (Value.int .u16 (f 3)) from rfl)
                  have c4 := (blk_cell H14.out 4).trans (show _ = some (Value.int .u16 (f 4)) from rfl)
                  have c5 := (blk_cell H14.out 5).trans (show _ = some (Value.int .u16 (f 5)) from rfl)
                  have c6 := (blk_cell H14.out 6).trans (show _ = some (Value.int .u16 (f 6)) from rfl)
                  have c7 := (blk_cell H14.out 7).trans (show _ = some (Value.int .u16 (f 7)) from rfl)
                  have c8 := (blk_cell H14.out 8).trans (show _ = some (Value.int .i64 z) from rfl)
                  have hl14 := blk_lt H14.out
                  have HIS := Lib.hid (fun W => refIsPrefix_walk _ _ _ _ _ _ _ _ HR8.out z W)
                  cases hpre : isPre (V8 (f 0) (f 1) (f 2) (f 3) (f 4) (f 5) (f 6) (f 7)) z with
                  | true =>
                    rw [hpre] at HIS
                    have HPRE := Lib.hid hpre
                    clear hpre
                    go_wp2_with fail
                    refine (HIS.out _).mono ?_
                    rintro e W6 ⟨rfl, hb6⟩
                    have hz6 := blk_below HZ5.out hb6
                    have hB6 := below_step HB5.out hb6
                    clear c0 c1 c2 c3 c4 c5 c6 c7 c8 hl14
                    have h15 := blk_below H14.out hb6
                    have c0 := (blk_cell h15 0).trans (show _ = some (Value.int .u16 (f 0)) from rfl)
                    have c1 := (blk_cell h15 1).trans (show _ = some (Value.int .u16 (f 1)) from rfl)
                    have c2 := (blk_cell h15 2).trans (show _ = some (Value.int .u16 (f 2)) from rfl)
                    have c3 := (blk_cell h15 3).trans (show _ = some (Value.int .u16 (f 3)) from rfl)
                    have c4 := (blk_cell h15 4).trans (show _ = some (Value.int .u16 (f 4)) from rfl)
                    have c5 := (blk_cell h15 5).trans (show _ = some (Value.int .u16 (f 5)) from rfl)
                    have c6 := (blk_cell h15 6).trans (show _ = some (Value.int .u16 (f 6)) from rfl)
                    have c7 := (blk_cell h15 7).trans (show _ = some (Value.int .u16 (f 7)) from rfl)
                    have c8 := (blk_cell h15 8).trans (show _ = some (Value.int .i64 z) from rfl)
                    have hl15 := blk_lt h15
                    clear h15 hb6
                    have hbn : bitsP (D.drop (k + 1)) = some (foldD E) := by
                      rw [← HE.out]
                      cases hbp : bitsP E with
                      | none => exact absurd (by have := pre_out HPRE.out; have := HZF.out; omega) (bits_noneR hbp HDG.out)
                      | some n =>
                        have := (bits_some hbp).2.1
                        rw [HDG.out] at this
                        exact this.symm
                    have hp := pfx_good HPR.out hbn (by rw [← HZF.out]; exact HPRE.out)
                    have HPX := Lib.hid hp
                    clear hp hbn
                    go_upto_region 22 with fail
                    obtain ⟨wB, hst, hBx, hBb, _⟩ := store_toQ hz6 rfl (f 0) (f 1) (f 2) (f 3) (f 4) (f 5) (f 6) (f 7) z
                    have u0 := (blk_cell hBx 0).trans (show _ = some (Value.int .u16 (f 0)) from rfl)
                    have u1 := (blk_cell hBx 1).trans (show _ = some (Value.int .u16 (f 1)) from rfl)
                    have u2 := (blk_cell hBx 2).trans (show _ = some (Value.int .u16 (f 2)) from rfl)
                    have u3 := (blk_cell hBx 3).trans (show _ = some (Value.int .u16 (f 3)) from rfl)
                    have u4 := (blk_cell hBx 4).trans (show _ = some (Value.int .u16 (f 4)) from rfl)
                    have u5 := (blk_cell hBx 5).trans (show _ = some (Value.int .u16 (f 5)) from rfl)
                    have u6 := (blk_cell hBx 6).trans (show _ = some (Value.int .u16 (f 6)) from rfl)
                    have u7 := (blk_cell hBx 7).trans (show _ = some (Value.int .u16 (f 7)) from rfl)
                    have u8 := (blk_cell hBx 8).trans (show _ = some (Value.int .i64 z) from rfl)
                    have hBl := blk_lt hBx
                    have HBB := Lib.hid (hBb w.heap.size w (Nat.le_refl _) hB6)
                    clear hBx hBb hz6 hB6
                    go_wp2_with fail
                    refine bodyPost_ret (by simp [results, Tryz.results5, go_sem, u0, u1, u2, u3, u4, u5, u6, u7, u8]; try rfl) rfl ?_
                    exact ⟨by unfold PfxV; rw [HPX.out, ← HZF.out], HBB.out⟩
                  | false =>
                    rw [hpre] at HIS
                    have HPRE := Lib.hid hpre
                    clear hpre
                    go_wp2_with fail
                    refine (HIS.out _).mono ?_
                    rintro e W6 ⟨rfl, hb6⟩
                    have hz6 := blk_below HZ5.out hb6
                    have hB6 := below_step HB5.out hb6
                    clear c0 c1 c2 c3 c4 c5 c6 c7 c8 hl14
                    have hp := pfx_bad HPR.out (fun n hn => by
                      have h1 := (bits_some hn).2.1
                      rw [← HE.out, HDG.out] at h1
                      injection h1 with h1
                      rw [← h1, ← HZF.out]
                      exact HPRE.out)
                    have HPX := Lib.hid hp
                    clear hp hb6
                    go_upto_region 21 with fail
                    obtain ⟨wB, hst, hBx, hBb, _⟩ := store_toQ hz6 rfl 0 0 0 0 0 0 0 0 0
                    have u0 := (blk_cell hBx 0).trans (show _ = some (Value.int .u16 0) from rfl)
                    have u1 := (blk_cell hBx 1).trans (show _ = some (Value.int .u16 0) from rfl)
                    have u2 := (blk_cell hBx 2).trans (show _ = some (Value.int .u16 0) from rfl)
                    have u3 := (blk_cell hBx 3).trans (show _ = some (Value.int .u16 0) from rfl)
                    have u4 := (blk_cell hBx 4).trans (show _ = some (Value.int .u16 0) from rfl)
                    have u5 := (blk_cell hBx 5).trans (show _ = some (Value.int .u16 0) from rfl)
                    have u6 := (blk_cell hBx 6).trans (show _ = some (Value.int .u16 0) from rfl)
                    have u7 := (blk_cell hBx 7).trans (show _ = some (Value.int .u16 0) from rfl)
                    have u8 := (blk_cell hBx 8).trans (show _ = some (Value.int .i64 0) from rfl)
                    have hBl := blk_lt hBx
                    have HBB := Lib.hid (hBb w.heap.size w (Nat.le_refl _) hB6)
                    clear hBx hBb hz6 hB6
                    go_wp2_with fail
                    refine bodyPost_ret (by simp [results, Tryz.results5, go_sem, u0, u1, u2, u3, u4, u5, u6, u7, u8]; try rfl) rfl ?_
                    exact ⟨by unfold PfxV; rw [HPX.out], HBB.out⟩
        · have hp : pfxR D k = (fun _ => 0, 0, a, b) := by
            unfold pfxR
            rw [if_neg (show ¬ ((k : Int) < 0) from by omega), Int.toNat_natCast, HPR.out, if_neg hb0]
          have HPX := Lib.hid hp
          clear hp
          have hbne : (b == 0) = false := by rw [beq_eq_false_iff_ne]; exact hb0
          go_upto_region 11 with fail
          obtain ⟨wB, hst, hBx, hBb, _⟩ := store_toQ hz2 rfl 0 0 0 0 0 0 0 0 0
          have u0 := (blk_cell hBx 0).trans (show _ = some (Value.int .u16 0) from rfl)
          have u1 := (blk_cell hBx 1).trans (show _ = some (Value.int .u16 0) from rfl)
          have u2 := (blk_cell hBx 2).trans (show _ = some (Value.int .u16 0) from rfl)
          have u3 := (blk_cell hBx 3).trans (show _ = some (Value.int .u16 0) from rfl)
          have u4 := (blk_cell hBx 4).trans (show _ = some (Value.int .u16 0) from rfl)
          have u5 := (blk_cell hBx 5).trans (show _ = some (Value.int .u16 0) from rfl)
          have u6 := (blk_cell hBx 6).trans (show _ = some (Value.int .u16 0) from rfl)
          have u7 := (blk_cell hBx 7).trans (show _ = some (Value.int .u16 0) from rfl)
          have u8 := (blk_cell hBx 8).trans (show _ = some (Value.int .i64 0) from rfl)
          have hBl := blk_lt hBx
          have HBB := Lib.hid (hBb w.heap.size w (Nat.le_refl _) hB2)
          clear hBx hBb
          go_wp2_with fail
          refine bodyPost_ret (by simp [results, Tryz.results5, go_sem, u0, u1, u2, u3, u4, u5, u6, u7, u8]; try rfl) rfl ?_
          exact ⟨by unfold PfxV; rw [HPX.out], HBB.out⟩
end Go.Proofs.YtcgdjnmfeibnoaaGreatDoor
/-! SixLawPfx -/
namespace Go.Proofs.YtcgdjnmfeibnoaaGreatDoor
open Go.RowKit Go.Proofs.YtcgdjnmfeibnoaaGreatDoorW.PrintWords
set_option linter.unusedVariables false
set_option linter.unusedSimpArgs false
theorem com_ex {f g : Nat → Nat} (hf : ∀ j, j < 8 → f j < 65536) (hg : ∀ j, j < 8 → g j < 65536) : ∃ n, ComN f g n := by
  have aux : ∀ m, m ≤ 8 → (∀ j, j < m → f j = g j) ∨ ∃ i, i < m ∧ f i ≠ g i ∧ ∀ j, j < i → f j = g j := by
    intro m
    induction m with
    | zero => exact fun _ => .inl fun j h => absurd h (Nat.not_lt_zero _)
    | succ m ih =>
      intro hm
      rcases ih (by omega) with h | ⟨i, h1, h2, h3⟩
      · by_cases e : f m = g m
        · refine .inl fun j hj => ?_
          by_cases ej : j = m
          · rw [ej]; exact e
          · exact h j (by omega)
        · exact .inr ⟨m, by omega, e, h⟩
      · exact .inr ⟨i, by omega, h2, h3⟩
  rcases aux 8 (Nat.le_refl _) with h | ⟨i, h1, h2, h3⟩
  · exact ⟨128, com_all h⟩
  · exact ⟨_, (com_at h1 h3 (hf i h1) (hg i h1) h2).2⟩
/-- A number's pieces, as naturals. -/
def pN (v : Int) (j : Nat) : Nat := (pc j v).toNat
theorem av_pN (v : Int) : AV v = .agg #[.int .u16 ((pN v 0 : Nat) : Int), .int .u16 ((pN v 1 : Nat) : Int), .int .u16 ((pN v 2 : Nat) : Int), .int .u16 ((pN v 3 : Nat) : Int), .int .u16 ((pN v 4 : Nat) : Int), .int .u16 ((pN v 5 : Nat) : Int), .int .u16 ((pN v 6 : Nat) : Int), .int .u16 ((pN v 7 : Nat) : Int)] := by
  have h := pc_r8 v
  obtain ⟨⟨a0, b0⟩, ⟨a1, b1⟩, ⟨a2, b2⟩, ⟨a3, b3⟩, ⟨a4, b4⟩, ⟨a5, b5⟩, ⟨a6, b6⟩, ⟨a7, b7⟩⟩ := h
  unfold pN
  rw [Int.toNat_of_nonneg a0, Int.toNat_of_nonneg a1, Int.toNat_of_nonneg a2, Int.toNat_of_nonneg a3, Int.toNat_of_nonneg a4, Int.toNat_of_nonneg a5, Int.toNat_of_nonneg a6, Int.toNat_of_nonneg a7]
theorem pv_pN (v : Int) (n : Int) : PV v n = .agg #[.int .u16 ((pN v 0 : Nat) : Int), .int .u16 ((pN v 1 : Nat) : Int), .int .u16 ((pN v 2 : Nat) : Int), .int .u16 ((pN v 3 : Nat) : Int), .int .u16 ((pN v 4 : Nat) : Int), .int .u16 ((pN v 5 : Nat) : Int), .int .u16 ((pN v 6 : Nat) : Int), .int .u16 ((pN v 7 : Nat) : Int), .int .i64 n] := by
  have h := pc_r8 v
  obtain ⟨⟨a0, b0⟩, ⟨a1, b1⟩, ⟨a2, b2⟩, ⟨a3, b3⟩, ⟨a4, b4⟩, ⟨a5, b5⟩, ⟨a6, b6⟩, ⟨a7, b7⟩⟩ := h
  unfold pN
  rw [Int.toNat_of_nonneg a0, Int.toNat_of_nonneg a1, Int.toNat_of_nonneg a2, Int.toNat_of_nonneg a3, Int.toNat_of_nonneg a4, Int.toNat_of_nonneg a5, Int.toNat_of_nonneg a6, Int.toNat_of_nonneg a7]
theorem pN_lt (v : Int) (j : Nat) (hj : j < 8) : pN v j ≤ 65535 := by
  obtain ⟨⟨a0, b0⟩, ⟨a1, b1⟩, ⟨a2, b2⟩, ⟨a3, b3⟩, ⟨a4, b4⟩, ⟨a5, b5⟩, ⟨a6, b6⟩, ⟨a7, b7⟩⟩ := pc_r8 v
  unfold pN
  match j, hj with
  | 0, _ => omega
  | 1, _ => omega
  | 2, _ => omega
  | 3, _ => omega
  | 4, _ => omega
  | 5, _ => omega
  | 6, _ => omega
  | 7, _ => omega
theorem common_at (v u : Int) : ∃ n : Nat, (∀ w, Calls Tryz.prog 11 #[AV v, AV u] w fun e w' => e = .returned (.int .i64 n) ∧ Below w.heap.size w w') ∧
    (∀ w, Calls Tryz.prog 12 #[AV v, AV u] w fun e w' => e = .returned (.int .i64 n) ∧ Below w.heap.size w w') := by
  have hf : ∀ j, j < 8 → pN v j < 65536 := fun j hj => by have := pN_lt v j hj; omega
  have hg : ∀ j, j < 8 → pN u j < 65536 := fun j hj => by have := pN_lt u j hj; omega
  obtain ⟨n, hn⟩ := com_ex hf hg
  rw [av_pN v, av_pN u]
  refine ⟨n, fun w => (common_walk _ _ hf hg w).mono ?_, fun w => (refCommon_walk _ _ hf hg w).mono ?_⟩
  · rintro e w' ⟨m, rfl, hm, hb⟩
    rw [hm.one hn]
    exact ⟨rfl, hb⟩
  · rintro e w' ⟨m, rfl, hm, hb⟩
    rw [hm.one hn]
    exact ⟨rfl, hb⟩
/-- A prefix's text. -/
def pxT (x : Pz) : List UInt8 := ppL (pN x.a 0) (pN x.a 1) (pN x.a 2) (pN x.a 3) (pN x.a 4) (pN x.a 5) (pN x.a 6) (pN x.a 7) x.n.toNat
theorem pN_v (x : Pz) : V8 (pN x.a 0) (pN x.a 1) (pN x.a 2) (pN x.a 3) (pN x.a 4) (pN x.a 5) (pN x.a 6) (pN x.a 7) = x.v := by
  obtain ⟨⟨a0, b0⟩, ⟨a1, b1⟩, ⟨a2, b2⟩, ⟨a3, b3⟩, ⟨a4, b4⟩, ⟨a5, b5⟩, ⟨a6, b6⟩, ⟨a7, b7⟩⟩ := pc_r8 x.a
  unfold pN Pz.v
  rw [Int.toNat_of_nonneg a0, Int.toNat_of_nonneg a1, Int.toNat_of_nonneg a2, Int.toNat_of_nonneg a3, Int.toNat_of_nonneg a4, Int.toNat_of_nonneg a5, Int.toNat_of_nonneg a6, Int.toNat_of_nonneg a7]
theorem isZ_rng {x : Pz} (hz : isZ x = true) : ∃ m : Nat, m ≤ 128 ∧ x.n = m ∧ x.n.toNat = m := by
  have := pre_out hz
  exact ⟨x.n.toNat, by omega, by omega, rfl⟩
theorem print_good {x : Pz} (hz : isZ x = true) (w : World) (hI : GI w) :
    Calls Tryz.prog 6 #[PV x.a x.n] w fun e w' => e = .returned (.tuple #[.string (BA (pxT x)), .int .i64 0]) ∧ Below w.heap.size w w' := by
  obtain ⟨m, hm, e1, e2⟩ := isZ_rng hz
  unfold pxT
  rw [pv_pN, e2, e1]
  exact printPrefix_walk _ _ _ _ _ _ _ _ m (pN_lt _ 0 (by decide)) (pN_lt _ 1 (by decide)) (pN_lt _ 2 (by decide)) (pN_lt _ 3 (by decide)) (pN_lt _ 4 (by decide)) (pN_lt _ 5 (by decide)) (pN_lt _ 6 (by decide)) (pN_lt _ 7 (by decide)) hm (by rw [pN_v, ← e1]; exact hz) w hI
theorem print_bad {x : Pz} (hz : isZ x = false) (w : World) :
    Calls Tryz.prog 6 #[PV x.a x.n] w fun e w' => e = .returned (.tuple #[.string (BA []), .int .i64 211]) ∧ Below w.heap.size w w' :=
  printPrefix_bad _ _ _ _ _ _ _ _ (pc_r8 x.a) x.n hz w
theorem refPrint_good {x : Pz} (hz : isZ x = true) (w : World) :
    Calls Tryz.prog 14 #[PV x.a x.n] w fun e w' => e = .returned (.string (BA (pxT x))) ∧ Below w.heap.size w w' := by
  obtain ⟨m, hm, e1, e2⟩ := isZ_rng hz
  unfold pxT
  rw [pv_pN, e2, e1]
  exact refPrintPrefix_walk _ _ _ _ _ _ _ _ m (pN_lt _ 0 (by decide)) (pN_lt _ 1 (by decide)) (pN_lt _ 2 (by decide)) (pN_lt _ 3 (by decide)) (pN_lt _ 4 (by decide)) (pN_lt _ 5 (by decide)) (pN_lt _ 6 (by decide)) (pN_lt _ 7 (by decide)) hm w
theorem parse_text {x : Pz} (hz : isZ x = true) (w : World) (hG : GW w) (hI : GI w) (hE : GE w) :
    Calls Tryz.prog 4 #[.string (BA (pxT x))] w fun e w' => e = .returned (.tuple #[PV x.a x.n, .int .i64 0, .int .i64 0]) ∧ Below w.heap.size w w' := by
  obtain ⟨m, hm, e1, e2⟩ := isZ_rng hz
  have l0 := pN_lt x.a 0 (by decide)
  have l1 := pN_lt x.a 1 (by decide)
  have l2 := pN_lt x.a 2 (by decide)
  have l3 := pN_lt x.a 3 (by decide)
  have l4 := pN_lt x.a 4 (by decide)
  have l5 := pN_lt x.a 5 (by decide)
  have l6 := pN_lt x.a 6 (by decide)
  have l7 := pN_lt x.a 7 (by decide)
  have hp := back_pfx l0 l1 l2 l3 l4 l5 l6 l7 hm (by rw [pN_v, ← e1]; exact hz)
  unfold pxT
  rw [pv_pN, e2]
  have h := parsePrefix_walk _ (pp_short l0 l1 l2 l3 l4 l5 l6 l7 hm) w hG hI hE
  rw [hp] at h
  rw [e1]
  exact h
theorem p9_pv {x0 x1 x2 x3 x4 x5 x6 x7 : Int} (h : R8 x0 x1 x2 x3 x4 x5 x6 x7) (n : Int) : P9 x0 x1 x2 x3 x4 x5 x6 x7 n = PV (V8 x0 x1 x2 x3 x4 x5 x6 x7) n := by
  obtain ⟨v, hv⟩ : ∃ v, V8 x0 x1 x2 x3 x4 x5 x6 x7 = v := ⟨_, rfl⟩
  rw [hv]
  obtain ⟨rfl, rfl, rfl, rfl, rfl, rfl, rfl, rfl⟩ := pc_of h hv
  rfl
theorem r8_zero : R8 0 0 0 0 0 0 0 0 := ⟨by decide, by decide, by decide, by decide, by decide, by decide, by decide, by decide⟩
theorem pfx_r8 (D : List UInt8) (c : Int) : R8 ((pfxR D c).1 0) ((pfxR D c).1 1) ((pfxR D c).1 2) ((pfxR D c).1 3) ((pfxR D c).1 4) ((pfxR D c).1 5) ((pfxR D c).1 6) ((pfxR D c).1 7) := by
  unfold pfxR
  split
  · exact r8_zero
  · split
    · split
      · split
        · exact parseR_r8 _
        · exact r8_zero
      · exact r8_zero
    · exact r8_zero
theorem pfx_pz (D : List UInt8) (c : Int) : ∃ (q : Pz) (a b : Int), Wide q.a ∧ PfxV D c = .tuple #[PV q.a q.n, .int .i64 a, .int .i64 b] := by
  have h := p9_pv (pfx_r8 D c) (pfxR D c).2.1
  exact ⟨⟨V8 ((pfxR D c).1 0) ((pfxR D c).1 1) ((pfxR D c).1 2) ((pfxR D c).1 3) ((pfxR D c).1 4) ((pfxR D c).1 5) ((pfxR D c).1 6) ((pfxR D c).1 7), (pfxR D c).2.1⟩, (pfxR D c).2.2.1, (pfxR D c).2.2.2, v8_wide (pfx_r8 D c), by rw [← h]; rfl⟩
theorem last_z {x : Pz} (h : isZ x = true) (hw : Wide x.a) (w : World) : Calls Tryz.prog 15 #[PV x.a x.n] w fun e w' => e = .returned (AV (rngZ x).2) ∧ Below w.heap.size w w' := by
  obtain ⟨h0, h1, h2, h3, h4⟩ := rngZ_ok h hw
  have := refLast_at (n := x.n.toNat) hw (by omega) h3 w
  rw [show ((x.n.toNat : Nat) : Int) = x.n by omega] at this
  rw [h4]
  exact this
end Go.Proofs.YtcgdjnmfeibnoaaGreatDoor
/-! SixEqP -/
namespace Go.Proofs.YtcgdjnmfeibnoaaGreatDoor
open Go.RowKit
set_option linter.unusedVariables false
set_option linter.unusedSimpArgs false
@[go_sem] theorem eq8_six9 (x0 x1 x2 x3 x4 x5 x6 x7 y0 y1 y2 y3 y4 y5 y6 y7 : Int) (w : World) :
    (Op.equalIn 9999 24 (A8 x0 x1 x2 x3 x4 x5 x6 x7) (A8 y0 y1 y2 y3 y4 y5 y6 y7)).run Tryz.prog w = .ok (x0 == y0 && (x1 == y1 && (x2 == y2 && (x3 == y3 && (x4 == y4 && (x5 == y5 && (x6 == y6 && x7 == y7))))))) w := by
  obtain ⟨i, hi, _⟩ := info_parts (show (Tryz.prog.info? 22).map (fun i => (i.zero, i.size, i.bytes)) = some (some (.int .u16 0), 1, 2) by kernel_rfl)
  exact run_eqN8 (d := 9997) Tryz.underlying24 hi Tryz.underlying22 (by kernel_rfl) ..
end Go.Proofs.YtcgdjnmfeibnoaaGreatDoor
