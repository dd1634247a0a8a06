/- An address as a number of 128 bits: its high and its low half. -/
import Derived.Test.YtcgdjnmfeibnoaaDoorSixBits
import Derived.Lib.Hide
import Derived.Laws.Externs
namespace Go.Proofs.YtcgdjnmfeibnoaaDoor
open Go.RowKit
set_option linter.unusedVariables false
set_option linter.unusedSimpArgs false

/-- The number of four pieces. -/
def Q4 (x0 x1 x2 x3 : Int) : Int := ((x0 * 65536 + x1) * 65536 + x2) * 65536 + x3
abbrev W2 (h l : Int) : Value := .agg #[.int .u64 h, .int .u64 l]
/-- A word of 64 bits. -/
def Word (x : Int) : Prop := 0 ≤ x ∧ x < 18446744073709551616
/-- The number of two words. -/
def N2 (h l : Int) : Int := h * 18446744073709551616 + l

@[go_sem] theorem at8_0 (x0 x1 x2 x3 x4 x5 x6 x7 : Int) (w : World) : (Instr.index 24 (A8 x0 x1 x2 x3 x4 x5 x6 x7) (.int .i64 0)).run Tryd.prog w = .ok (.int .u16 x0) w := by
  change _ = _
  kernel_rfl
@[go_sem] theorem at8_1 (x0 x1 x2 x3 x4 x5 x6 x7 : Int) (w : World) : (Instr.index 24 (A8 x0 x1 x2 x3 x4 x5 x6 x7) (.int .i64 1)).run Tryd.prog w = .ok (.int .u16 x1) w := by
  change _ = _
  kernel_rfl
@[go_sem] theorem at8_2 (x0 x1 x2 x3 x4 x5 x6 x7 : Int) (w : World) : (Instr.index 24 (A8 x0 x1 x2 x3 x4 x5 x6 x7) (.int .i64 2)).run Tryd.prog w = .ok (.int .u16 x2) w := by
  change _ = _
  kernel_rfl
@[go_sem] theorem at8_3 (x0 x1 x2 x3 x4 x5 x6 x7 : Int) (w : World) : (Instr.index 24 (A8 x0 x1 x2 x3 x4 x5 x6 x7) (.int .i64 3)).run Tryd.prog w = .ok (.int .u16 x3) w := by
  change _ = _
  kernel_rfl
@[go_sem] theorem at8_4 (x0 x1 x2 x3 x4 x5 x6 x7 : Int) (w : World) : (Instr.index 24 (A8 x0 x1 x2 x3 x4 x5 x6 x7) (.int .i64 4)).run Tryd.prog w = .ok (.int .u16 x4) w := by
  change _ = _
  kernel_rfl
@[go_sem] theorem at8_5 (x0 x1 x2 x3 x4 x5 x6 x7 : Int) (w : World) : (Instr.index 24 (A8 x0 x1 x2 x3 x4 x5 x6 x7) (.int .i64 5)).run Tryd.prog w = .ok (.int .u16 x5) w := by
  change _ = _
  kernel_rfl
@[go_sem] theorem at8_6 (x0 x1 x2 x3 x4 x5 x6 x7 : Int) (w : World) : (Instr.index 24 (A8 x0 x1 x2 x3 x4 x5 x6 x7) (.int .i64 6)).run Tryd.prog w = .ok (.int .u16 x6) w := by
  change _ = _
  kernel_rfl
@[go_sem] theorem at8_7 (x0 x1 x2 x3 x4 x5 x6 x7 : Int) (w : World) : (Instr.index 24 (A8 x0 x1 x2 x3 x4 x5 x6 x7) (.int .i64 7)).run Tryd.prog w = .ok (.int .u16 x7) w := by
  change _ = _
  kernel_rfl

theorem nat_or_add (k x y : Nat) (hx : x % 2 ^ k = 0) (hy : y < 2 ^ k) : x ||| y = x + y := nat_join k x y hx hy
theorem or16_64 (h x : Int) (h0 : 0 ≤ h) (h1 : h < 281474976710656) (x0 : 0 ≤ x) (x1 : x ≤ 65535) : bits .or .u64 (IntKind.u64.wrap (h * 65536)) (IntKind.u64.wrap x) = h * 65536 + x := by
  rw [IntKind.wrap_u64, IntKind.wrap_u64, show h * 65536 % 18446744073709551616 = h * 65536 from by omega, show x % 18446744073709551616 = x from by omega, u64_or _ _ (by omega) (by omega) (by omega) (by omega)]
  obtain ⟨a, rfl⟩ := Int.eq_ofNat_of_zero_le h0
  obtain ⟨b, rfl⟩ := Int.eq_ofNat_of_zero_le x0
  rw [show ((a : Int) * 65536).toNat = a * 65536 from by omega, Int.toNat_natCast, nat_join16 _ _ (by omega) (by omega)]
  omega
theorem or0_64 (x : Int) (x0 : 0 ≤ x) (x1 : x ≤ 65535) : bits .or .u64 0 (IntKind.u64.wrap x) = x := by
  have := or16_64 0 x (by omega) (by omega) x0 x1
  simpa [IntKind.wrap_u64] using this
theorem or_q4 (x0 x1 x2 x3 : Int) (h0 : 0 ≤ x0 ∧ x0 ≤ 65535) (h1 : 0 ≤ x1 ∧ x1 ≤ 65535) (h2 : 0 ≤ x2 ∧ x2 ≤ 65535) (h3 : 0 ≤ x3 ∧ x3 ≤ 65535) :
    bits .or .u64 (IntKind.u64.wrap (bits .or .u64 (IntKind.u64.wrap (bits .or .u64 (IntKind.u64.wrap (bits .or .u64 0 (IntKind.u64.wrap x0) * 65536)) (IntKind.u64.wrap x1) * 65536)) (IntKind.u64.wrap x2) * 65536)) (IntKind.u64.wrap x3) = Q4 x0 x1 x2 x3 := by
  rw [or0_64 x0 h0.1 h0.2, or16_64 _ _ (by omega) (by omega) h1.1 h1.2, or16_64 _ _ (by omega) (by omega) h2.1 h2.2, or16_64 _ _ (by omega) (by omega) h3.1 h3.2]
  rfl
theorem q4_word {x0 x1 x2 x3 : Int} (h0 : 0 ≤ x0 ∧ x0 ≤ 65535) (h1 : 0 ≤ x1 ∧ x1 ≤ 65535) (h2 : 0 ≤ x2 ∧ x2 ≤ 65535) (h3 : 0 ≤ x3 ∧ x3 ≤ 65535) : Word (Q4 x0 x1 x2 x3) := by unfold Word Q4; omega
theorem n2_v8 (x0 x1 x2 x3 x4 x5 x6 x7 : Int) : N2 (Q4 x0 x1 x2 x3) (Q4 x4 x5 x6 x7) = V8 x0 x1 x2 x3 x4 x5 x6 x7 := by unfold N2 Q4 V8; omega
theorem ret_two {a b c d : Int} (h1 : a = c) (h2 : b = d) : Ending.returned (W2 a b) = .returned (W2 c d) := by rw [h1, h2]

set_option maxHeartbeats 4000000 in
set_option maxRecDepth 100000 in
theorem wideOf_walk (x0 x1 x2 x3 x4 x5 x6 x7 : Int) (h : R8 x0 x1 x2 x3 x4 x5 x6 x7) (w : World) :
    Calls Tryd.prog 39 #[A8 x0 x1 x2 x3 x4 x5 x6 x7] w fun e w' => e = .returned (W2 (Q4 x0 x1 x2 x3) (Q4 x4 x5 x6 x7)) ∧ Below w.heap.size w w' := by
  go_enter Tryd.func39, Tryd.ntmps39
  go_wp2
  refine wp_loop_rounds 9 ?_
  iterate 8 (rw [rounds_succ]; go_wp2)
  rw [rounds_succ]
  go_wp2
  go_returns
  exact ⟨ret_two (or_q4 _ _ _ _ h.h0 h.h1 h.h2 h.h3) (or_q4 _ _ _ _ h.h4 h.h5 h.h6 h.h7), by go_grown⟩

/-- One piece is taken off at the right. -/
theorem or48 (h l : Int) (hh : Word h) (hl : Word l) : bits .or .u64 (l / 65536) (IntKind.u64.wrap (h * 281474976710656)) = h % 65536 * 281474976710656 + l / 65536 := by
  obtain ⟨h0, h1⟩ := hh
  obtain ⟨l0, l1⟩ := hl
  rw [IntKind.wrap_u64, show h * 281474976710656 % 18446744073709551616 = h % 65536 * 281474976710656 from by omega, u64_or _ _ (by omega) (by omega) (by omega) (by omega)]
  obtain ⟨a, rfl⟩ := Int.eq_ofNat_of_zero_le h0
  obtain ⟨b, rfl⟩ := Int.eq_ofNat_of_zero_le l0
  rw [show ((a : Int) % 65536 * 281474976710656).toNat = a % 65536 * 281474976710656 from by omega, show ((b : Int) / 65536).toNat = b / 65536 from by omega, Nat.or_comm, nat_or_add 48 _ _ (by omega) (by omega)]
  omega
theorem shr_step {h l h' l' : Int} (hh : Word h) (hl : Word l) (e1 : h / 65536 = h') (e2 : h % 65536 * 281474976710656 + l / 65536 = l') : Word h' ∧ Word l' ∧ N2 h l = N2 h' l' * 65536 + l % 65536 := by
  obtain ⟨h0, h1⟩ := hh
  obtain ⟨l0, l1⟩ := hl
  unfold Word N2
  omega

set_option maxHeartbeats 4000000 in
set_option maxRecDepth 100000 in
theorem wsix_walk (h0 l0 : Int) (hh0 : Word h0) (hl0 : Word l0) (w : World) :
    Calls Tryd.prog 64 #[W2 h0 l0] w fun e w' => ∃ y0 y1 y2 y3 y4 y5 y6 y7 : Int, e = .returned (A8 y0 y1 y2 y3 y4 y5 y6 y7) ∧ R8 y0 y1 y2 y3 y4 y5 y6 y7 ∧ V8 y0 y1 y2 y3 y4 y5 y6 y7 = N2 h0 l0 ∧ Below w.heap.size w w' := by
  go_enter Tryd.func64, Tryd.ntmps64
  go_wp2
  refine wp_loop_rounds 9 ?_
  rw [rounds_succ]
  go_wp2
  rw [or48 h0 l0 hh0 hl0]
  generalize e0 : h0 / 65536 = h1
  generalize f0 : h0 % 65536 * 281474976710656 + l0 / 65536 = l1
  obtain ⟨hh1, hl1, g0⟩ := shr_step hh0 hl0 e0 f0
  clear e0 f0
  have G0 := Lib.hid g0
  clear g0
  rw [rounds_succ]
  go_wp2
  rw [or48 h1 l1 hh1 hl1]
  generalize e1 : h1 / 65536 = h2
  generalize f1 : h1 % 65536 * 281474976710656 + l1 / 65536 = l2
  obtain ⟨hh2, hl2, g1⟩ := shr_step hh1 hl1 e1 f1
  clear e1 f1
  have G1 := Lib.hid g1
  clear g1
  rw [rounds_succ]
  go_wp2
  rw [or48 h2 l2 hh2 hl2]
  generalize e2 : h2 / 65536 = h3
  generalize f2 : h2 % 65536 * 281474976710656 + l2 / 65536 = l3
  obtain ⟨hh3, hl3, g2⟩ := shr_step hh2 hl2 e2 f2
  clear e2 f2
  have G2 := Lib.hid g2
  clear g2
  rw [rounds_succ]
  go_wp2
  rw [or48 h3 l3 hh3 hl3]
  generalize e3 : h3 / 65536 = h4
  generalize f3 : h3 % 65536 * 281474976710656 + l3 / 65536 = l4
  obtain ⟨hh4, hl4, g3⟩ := shr_step hh3 hl3 e3 f3
  clear e3 f3
  have G3 := Lib.hid g3
  clear g3
  rw [rounds_succ]
  go_wp2
  rw [or48 h4 l4 hh4 hl4]
  generalize e4 : h4 / 65536 = h5
  generalize f4 : h4 % 65536 * 281474976710656 + l4 / 65536 = l5
  obtain ⟨hh5, hl5, g4⟩ := shr_step hh4 hl4 e4 f4
  clear e4 f4
  have G4 := Lib.hid g4
  clear g4
  rw [rounds_succ]
  go_wp2
  rw [or48 h5 l5 hh5 hl5]
  generalize e5 : h5 / 65536 = h6
  generalize f5 : h5 % 65536 * 281474976710656 + l5 / 65536 = l6
  obtain ⟨hh6, hl6, g5⟩ := shr_step hh5 hl5 e5 f5
  clear e5 f5
  have G5 := Lib.hid g5
  clear g5
  rw [rounds_succ]
  go_wp2
  rw [or48 h6 l6 hh6 hl6]
  generalize e6 : h6 / 65536 = h7
  generalize f6 : h6 % 65536 * 281474976710656 + l6 / 65536 = l7
  obtain ⟨hh7, hl7, g6⟩ := shr_step hh6 hl6 e6 f6
  clear e6 f6
  have G6 := Lib.hid g6
  clear g6
  rw [rounds_succ]
  go_wp2
  rw [or48 h7 l7 hh7 hl7]
  generalize e7 : h7 / 65536 = h8
  generalize f7 : h7 % 65536 * 281474976710656 + l7 / 65536 = l8
  obtain ⟨hh8, hl8, g7⟩ := shr_step hh7 hl7 e7 f7
  clear e7 f7
  have G7 := Lib.hid g7
  clear g7
  rw [rounds_succ]
  go_wp2
  go_returns
  refine ⟨_, _, _, _, _, _, _, _, rfl, ?_, ?_, by go_grown⟩
  · simp only [IntKind.wrap_u16]
    constructor <;> omega
  · simp only [IntKind.wrap_u16]
    have g0 := G0.out
    have g1 := G1.out
    have g2 := G2.out
    have g3 := G3.out
    have g4 := G4.out
    have g5 := G5.out
    have g6 := G6.out
    have g7 := G7.out
    obtain ⟨_, _⟩ := hh0
    obtain ⟨_, _⟩ := hl0
    have z : N2 h8 l8 = 0 := by
      unfold N2 at *
      unfold Word at *
      omega
    rw [z] at g7
    unfold V8
    omega

set_option maxHeartbeats 1000000 in
set_option maxRecDepth 100000 in
theorem less_walk (h l k m : Int) (hh : Word h) (hl : Word l) (hk : Word k) (hm : Word m) (w : World) :
    Calls Tryd.prog 60 #[W2 h l, W2 k m] w fun e w' => e = .returned (.bool (decide (N2 h l < N2 k m))) ∧ Below w.heap.size w w' := by
  obtain ⟨_, _⟩ := hl
  obtain ⟨_, _⟩ := hm
  by_cases c1 : h < k
  · rw [decide_eq_true (show N2 h l < N2 k m by unfold N2; omega)]
    go_enter Tryd.func60, Tryd.ntmps60
    go_wp2
    go_returns
    exact ⟨rfl, by go_grown⟩
  by_cases c2 : h = k
  · subst c2
    rw [show decide (N2 h l < N2 h m) = decide (l < m) from by unfold N2; simp]
    go_enter Tryd.func60, Tryd.ntmps60
    go_wp2
    go_returns
    exact ⟨rfl, by go_grown⟩
  · rw [decide_eq_false (show ¬ N2 h l < N2 k m by unfold N2; omega)]
    go_enter Tryd.func60, Tryd.ntmps60
    go_wp2
    go_returns
    exact ⟨rfl, by go_grown⟩

theorem add64 (x y c : Int) (hx : 0 ≤ x) (hy : 0 ≤ y) (hc0 : 0 ≤ c) (hc : c ≤ 1) (w : World) : (callFunc 102 #[.int .u64 x, .int .u64 y, .int .u64 c]).run Tryd.prog w =
    .ok (.value (.tuple #[.int .u64 ((x + y + c) % 18446744073709551616), .int .u64 ((x + y + c) / 18446744073709551616)])) w := by
  rw [run_callFunc_extern Tryd.func102 (by kernel_rfl) (by kernel_rfl) (by kernel_rfl) (e := add64Entry) (by kernel_rfl), run_add64 x y c hx hy hc0 hc]
  rfl
theorem add64_1 (x : Int) (hx : 0 ≤ x) (w : World) : (callFunc 102 #[.int .u64 x, .int .u64 1, .int .u64 0]).run Tryd.prog w =
    .ok (.value (.tuple #[.int .u64 ((x + 1) % 18446744073709551616), .int .u64 ((x + 1) / 18446744073709551616)])) w := by
  simpa using add64 x 1 0 hx (by decide) (Int.le_refl 0) (by decide) w
theorem add64_c (x c : Int) (hx : 0 ≤ x) (hc0 : 0 ≤ c) (hc : c ≤ 1) (w : World) : (callFunc 102 #[.int .u64 x, .int .u64 0, .int .u64 c]).run Tryd.prog w =
    .ok (.value (.tuple #[.int .u64 ((x + c) % 18446744073709551616), .int .u64 ((x + c) / 18446744073709551616)])) w := by
  simpa using add64 x 0 c hx (by decide) hc0 hc w

/-- What next answers: the number one more, or that there is none. -/
def WNext (h l : Int) (w : World) (e : Ending) (w' : World) : Prop :=
  ∃ k m : Int, e = .returned (.tuple #[W2 k m, .bool (decide (N2 h l < 340282366920938463463374607431768211455))]) ∧ Word k ∧ Word m ∧ (N2 h l < 340282366920938463463374607431768211455 → N2 k m = N2 h l + 1) ∧ Below w.heap.size w w'

set_option maxHeartbeats 1000000 in
set_option maxRecDepth 100000 in
theorem wnext_walk (h l : Int) (hh : Word h) (hl : Word l) (w : World) :
    Calls Tryd.prog 59 #[W2 h l] w (WNext h l w) := by
  obtain ⟨a0, a1⟩ := hh
  obtain ⟨b0, b1⟩ := hl
  have k0 : 0 ≤ (l + 1) / 18446744073709551616 := by omega
  have k1 : (l + 1) / 18446744073709551616 ≤ 1 := by omega
  go_enter Tryd.func59, Tryd.ntmps59
  go_wp2_with (first | simp only [add64_1 l b0] | simp only [add64_c h _ a0 k0 k1])
  go_returns
  refine ⟨(h + (l + 1) / 18446744073709551616) % 18446744073709551616, (l + 1) % 18446744073709551616, ?_, ⟨by omega, by omega⟩, ⟨by omega, by omega⟩, by unfold N2; omega, by go_grown⟩
  rw [show ((h + (l + 1) / 18446744073709551616) / 18446744073709551616 == 0) = decide (N2 h l < 340282366920938463463374607431768211455) from ?_]
  rw [Bool.eq_iff_iff]
  simp only [beq_iff_eq, decide_eq_true_eq]
  unfold N2
  omega
end Go.Proofs.YtcgdjnmfeibnoaaDoor
