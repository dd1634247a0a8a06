/- Several texts in one (wip/gen/pack.py): Ext SixV SixBits SixMask SixWithin SixNext SixRefMask SixAll SixCoverV SixRefPre SixIs SixWide SixWide2 App. -/
import Derived.BigQuiet
import Derived.Deep.QuietTactic
import Derived.Handy
import Derived.ProofKit
import Derived.Test.YtcgdjnmfeibnoaaDoorRows
import Derived.WalkKit
import Derived.WalkLawsBesides
import Derived.WalkSpells
import Derived.ChangeKeysEq
import Derived.Laws.BitsAllLaws
import Derived.Lib.Hide
import Derived.Laws.Externs
import Derived.Shelf.Spec.TrailingZeros
import Derived.Lib.Builder
/-! Ext -/
namespace Go.Proofs.YtcgdjnmfeibnoaaDoor
open Go.RowKit
set_option linter.unusedVariables false
set_option linter.unusedSimpArgs false
theorem bdn {B : Nat} {w W : World} (h : Below B w W) (n : Nat) : Below B w (W.drewN n) := ⟨h.os, h.tape, h.output, h.size, h.block⟩
/-- What stands behind a call that let all stand that was there. -/
theorem after {W w1 : World} (hb : Below W.heap.size W w1) : (∀ b o, b < W.heap.size → w1.cell? ⟨b, o, none⟩ = W.cell? ⟨b, o, none⟩) ∧ (∀ b o, b < W.heap.size → w1.frozen? ⟨b, o, none⟩ = W.frozen? ⟨b, o, none⟩) ∧ W.heap.size ≤ w1.heap.size :=
  ⟨fun b o h => hb.cell (p := ⟨b, o, none⟩) h, fun b o h => hb.frozen (p := ⟨b, o, none⟩) h, hb.size⟩
/-- A world in which all that was in w0 is as it was. -/
structure Ext (w0 : World) where
  wd : World
  below : Below w0.heap.size w0 wd
instance (w0 : World) : Nonempty (Ext w0) := ⟨⟨w0, Below.refl _ _⟩⟩
@[go_sem] theorem Ext.cell {w0 : World} (x : Ext w0) {b o : Nat} (h : b < w0.heap.size) : x.wd.cell? ⟨b, o, none⟩ = w0.cell? ⟨b, o, none⟩ := x.below.cell (p := ⟨b, o, none⟩) h
theorem wp_region_ext {P : Program} {id : Nat} {Q : Exit → Act → World → Prop} {a : Act} {w : World} {l : List Oper} (hm : P.follows .mixedOrders = true) (hB : Region.lexB .any l.toArray = true)
    (h : wpQuiet P l.toArray (fun w' => ∃ x : Ext w, w' = x.wd) (fun a' => ∀ w', (∃ x : Ext w, w' = x.wd) → Q .normal a' w') l a) : (Code.region id l.toArray true).wp P Q a w :=
  wp_region_quiet (C := fun w' => ∃ x : Ext w, w' = x.wd) hm hB ⟨⟨_, (Below.refl _ w).drew⟩, rfl⟩ (by simpa using h)
/-- A callee's contract, met in a world that goes on from w. -/
theorem ext_of {P : Program} {f : FuncId} {args : Array Value} {w : World} {x : Ext w} {v : Value} (h : Calls P f args x.wd fun e w' => e = .returned v ∧ Below x.wd.heap.size x.wd w') :
    Calls P f args x.wd fun e w'' => e = .returned v ∧ ∃ y : Ext w, w'' = y.wd :=
  h.mono fun _ w' ⟨he, hb⟩ => ⟨he, ⟨w', x.below.trans (hb.mono x.below.size)⟩, rfl⟩
end Go.Proofs.YtcgdjnmfeibnoaaDoor
/-! SixV -/
namespace Go.Proofs.YtcgdjnmfeibnoaaDoor
open Go.RowKit
set_option linter.unusedVariables false
set_option linter.unusedSimpArgs false
abbrev A8 (x0 x1 x2 x3 x4 x5 x6 x7 : Int) : Value := .agg #[.int .u16 x0, .int .u16 x1, .int .u16 x2, .int .u16 x3, .int .u16 x4, .int .u16 x5, .int .u16 x6, .int .u16 x7]
/-- The number that eight pieces are. -/
def V8 (x0 x1 x2 x3 x4 x5 x6 x7 : Int) : Int := ((((((x0 * 65536 + x1) * 65536 + x2) * 65536 + x3) * 65536 + x4) * 65536 + x5) * 65536 + x6) * 65536 + x7
/-- Each piece is of 16 bits. -/
structure R8 (x0 x1 x2 x3 x4 x5 x6 x7 : Int) : Prop where
  h0 : 0 ≤ x0 ∧ x0 ≤ 65535
  h1 : 0 ≤ x1 ∧ x1 ≤ 65535
  h2 : 0 ≤ x2 ∧ x2 ≤ 65535
  h3 : 0 ≤ x3 ∧ x3 ≤ 65535
  h4 : 0 ≤ x4 ∧ x4 ≤ 65535
  h5 : 0 ≤ x5 ∧ x5 ≤ 65535
  h6 : 0 ≤ x6 ∧ x6 ≤ 65535
  h7 : 0 ≤ x7 ∧ x7 ≤ 65535
/-- -1, 0, 1: which of two numbers is less. -/
def cmpI (x y : Int) : Int := if x < y then -1 else if y < x then 1 else 0
theorem cmpI_gt {x y : Int} (h : y < x) : cmpI x y = 1 := by unfold cmpI; rw [if_neg (by omega), if_pos h]
theorem cmpI_zero {x y : Int} : cmpI x y = 0 ↔ x = y := by
  unfold cmpI
  constructor
  · intro h
    split at h
    · omega
    · split at h <;> omega
  · intro h
    rw [if_neg (by omega), if_neg (by omega)]
theorem ret_int {k : IntKind} {a b : Int} (h : a = b) : Ending.returned (.int k a) = .returned (.int k b) := by rw [h]
theorem ret_bool {a b : Bool} (h : a = b) : Ending.returned (.bool a) = .returned (.bool b) := by rw [h]
/-- The cells of eight pieces. -/
abbrev C8 (w : World) (b : Nat) (x0 x1 x2 x3 x4 x5 x6 x7 : Int) : Prop :=
  w.cell? ⟨b, 0, none⟩ = some (.int .u16 x0) ∧ w.cell? ⟨b, 1, none⟩ = some (.int .u16 x1) ∧ w.cell? ⟨b, 2, none⟩ = some (.int .u16 x2) ∧ w.cell? ⟨b, 3, none⟩ = some (.int .u16 x3) ∧
  w.cell? ⟨b, 4, none⟩ = some (.int .u16 x4) ∧ w.cell? ⟨b, 5, none⟩ = some (.int .u16 x5) ∧ w.cell? ⟨b, 6, none⟩ = some (.int .u16 x6) ∧ w.cell? ⟨b, 7, none⟩ = some (.int .u16 x7)
theorem C8_keep {w W : World} {b : Nat} {x0 x1 x2 x3 x4 x5 x6 x7 : Int} (h : C8 w b x0 x1 x2 x3 x4 x5 x6 x7) (hb : b < w.heap.size) (hB : Below w.heap.size w W) : C8 W b x0 x1 x2 x3 x4 x5 x6 x7 := by
  obtain ⟨h0, h1, h2, h3, h4, h5, h6, h7⟩ := h
  exact ⟨(hB.cell (p := ⟨b, 0, none⟩) hb).trans h0, (hB.cell (p := ⟨b, 1, none⟩) hb).trans h1, (hB.cell (p := ⟨b, 2, none⟩) hb).trans h2, (hB.cell (p := ⟨b, 3, none⟩) hb).trans h3,
    (hB.cell (p := ⟨b, 4, none⟩) hb).trans h4, (hB.cell (p := ⟨b, 5, none⟩) hb).trans h5, (hB.cell (p := ⟨b, 6, none⟩) hb).trans h6, (hB.cell (p := ⟨b, 7, none⟩) hb).trans h7⟩
/-- What goes on from a world goes on from the one ahead of it. -/
theorem chain {w W W' : World} (h : Below w.heap.size w W) (k : Below W.heap.size W W') : Below w.heap.size w W' := h.trans (k.mono h.size)
theorem run_part8 {P : Program} {E : TypeId} (hE : P.underlying E = some (.int .u16)) (cs : Array Value) (k : Nat) (v : Value) (h : cs[k]? = some v) (w : World) : (part E cs k).run P w = .ok v w := by
  simp [part, isAgg, run_underlying hE, h]
/-- Two arrays of eight pieces: '=='. -/
theorem run_eq8 {P : Program} {T E : TypeId} {i : TypeInfo} (hT : P.underlying T = some (.array 8 E)) (hi : P.info? E = some i) (hE : P.underlying E = some (.int .u16)) (hc : P.cellsOf E = 1)
    (x0 x1 x2 x3 x4 x5 x6 x7 y0 y1 y2 y3 y4 y5 y6 y7 : Int) (w : World) :
    (Op.equalIn 10000 T (A8 x0 x1 x2 x3 x4 x5 x6 x7) (A8 y0 y1 y2 y3 y4 y5 y6 y7)).run P w = .ok (x0 == y0 && (x1 == y1 && (x2 == y2 && (x3 == y3 && (x4 == y4 && (x5 == y5 && (x6 == y6 && x7 == y7))))))) w := by
  rw [run_equalIn_array w 9999 _ _ hT hi, hc, show List.range 8 = [0, 1, 2, 3, 4, 5, 6, 7] from rfl]
  have he : ∀ a b : Int, (Op.equalIn 9999 E (.int .u16 a) (.int .u16 b)).run P w = .ok (a == b) w := fun a b => run_equalIn_int w 9998 E .u16 .u16 a b hE
  have st : ∀ (xs ys : Array Value) (k : Nat) (ks : List Nat) (a b : Int) (r : Bool), xs[k]? = some (.int .u16 a) → ys[k]? = some (.int .u16 b) → (Op.eqItems 9999 E 1 xs ys ks).run P w = .ok r w →
      (Op.eqItems 9999 E 1 xs ys (k :: ks)).run P w = .ok (a == b && r) w := by
    intro xs ys k ks a b r h1 h2 h3
    simp only [Op.eqItems, Sem.run_bind, Nat.mul_one]
    rw [run_part8 hE _ k _ h1, Result.andThen_ok, run_part8 hE _ k _ h2, Result.andThen_ok, he, Result.andThen_ok]
    cases a == b
    · simp
    · simpa using h3
  have h8 : (Op.eqItems 9999 E 1 #[.int .u16 x0, .int .u16 x1, .int .u16 x2, .int .u16 x3, .int .u16 x4, .int .u16 x5, .int .u16 x6, .int .u16 x7] #[.int .u16 y0, .int .u16 y1, .int .u16 y2, .int .u16 y3, .int .u16 y4, .int .u16 y5, .int .u16 y6, .int .u16 y7] []).run P w = .ok true w := rfl
  have h7 := st _ _ 7 [] x7 y7 _ rfl rfl h8
  have h6 := st _ _ 6 [7] x6 y6 _ rfl rfl h7
  have h5 := st _ _ 5 [6, 7] x5 y5 _ rfl rfl h6
  have h4 := st _ _ 4 [5, 6, 7] x4 y4 _ rfl rfl h5
  have h3 := st _ _ 3 [4, 5, 6, 7] x3 y3 _ rfl rfl h4
  have h2 := st _ _ 2 [3, 4, 5, 6, 7] x2 y2 _ rfl rfl h3
  have h1 := st _ _ 1 [2, 3, 4, 5, 6, 7] x1 y1 _ rfl rfl h2
  have h0 := st _ _ 0 [1, 2, 3, 4, 5, 6, 7] x0 y0 _ rfl rfl h1
  rw [Bool.and_true] at h0
  exact h0
/-- Two addresses of the same pieces are the same number. -/
theorem eq8_dec {x0 x1 x2 x3 x4 x5 x6 x7 y0 y1 y2 y3 y4 y5 y6 y7 : Int} (h : R8 x0 x1 x2 x3 x4 x5 x6 x7) (k : R8 y0 y1 y2 y3 y4 y5 y6 y7) :
    (x0 == y0 && (x1 == y1 && (x2 == y2 && (x3 == y3 && (x4 == y4 && (x5 == y5 && (x6 == y6 && x7 == y7))))))) = decide (V8 x0 x1 x2 x3 x4 x5 x6 x7 = V8 y0 y1 y2 y3 y4 y5 y6 y7) := by
  obtain ⟨⟨_, _⟩, ⟨_, _⟩, ⟨_, _⟩, ⟨_, _⟩, ⟨_, _⟩, ⟨_, _⟩, ⟨_, _⟩, ⟨_, _⟩⟩ := h
  obtain ⟨⟨_, _⟩, ⟨_, _⟩, ⟨_, _⟩, ⟨_, _⟩, ⟨_, _⟩, ⟨_, _⟩, ⟨_, _⟩, ⟨_, _⟩⟩ := k
  rw [Bool.eq_iff_iff]
  simp only [Bool.and_eq_true, beq_iff_eq, decide_eq_true_eq]
  unfold V8
  omega
@[go_sem] theorem eq8_six (x0 x1 x2 x3 x4 x5 x6 x7 y0 y1 y2 y3 y4 y5 y6 y7 : Int) (w : World) :
    (Op.equalIn 10000 24 (A8 x0 x1 x2 x3 x4 x5 x6 x7) (A8 y0 y1 y2 y3 y4 y5 y6 y7)).run Tryd.prog w = .ok (x0 == y0 && (x1 == y1 && (x2 == y2 && (x3 == y3 && (x4 == y4 && (x5 == y5 && (x6 == y6 && x7 == y7))))))) w := by
  obtain ⟨i, hi, _⟩ := info_parts (show (Tryd.prog.info? 22).map (fun i => (i.zero, i.size, i.bytes)) = some (some (.int .u16 0), 1, 2) by kernel_rfl)
  exact run_eq8 Tryd.underlying24 hi Tryd.underlying22 (by kernel_rfl) ..
@[go_sem] theorem eq8_ref (x0 x1 x2 x3 x4 x5 x6 x7 y0 y1 y2 y3 y4 y5 y6 y7 : Int) (w : World) :
    (Op.equalIn 10000 30 (A8 x0 x1 x2 x3 x4 x5 x6 x7) (A8 y0 y1 y2 y3 y4 y5 y6 y7)).run Tryd.prog w = .ok (x0 == y0 && (x1 == y1 && (x2 == y2 && (x3 == y3 && (x4 == y4 && (x5 == y5 && (x6 == y6 && x7 == y7))))))) w := by
  obtain ⟨i, hi, _⟩ := info_parts (show (Tryd.prog.info? 22).map (fun i => (i.zero, i.size, i.bytes)) = some (some (.int .u16 0), 1, 2) by kernel_rfl)
  exact run_eq8 Tryd.underlying30 hi Tryd.underlying22 (by kernel_rfl) ..
end Go.Proofs.YtcgdjnmfeibnoaaDoor
/-! SixBits -/
namespace Go.Proofs.YtcgdjnmfeibnoaaDoor
open Go.RowKit
set_option linter.unusedVariables false
set_option linter.unusedSimpArgs false
theorem nat_and_compl_tail (a t : Nat) (ha : a < 65536) (ht : t ≤ 16) : a &&& (65535 - (2 ^ t - 1)) = a - a % 2 ^ t := by
  have e : a - a % 2 ^ t = 2 ^ t * (a / 2 ^ t) := by have := Nat.div_add_mod a (2 ^ t); omega
  rw [e]
  apply Nat.eq_of_testBit_eq
  intro i
  have hp : 2 ^ t ≤ 65536 := by have := Nat.pow_le_pow_right (n := 2) (by omega) ht; simpa using this
  have hq : 0 < 2 ^ t := Nat.two_pow_pos t
  have e2 : 65535 - (2 ^ t - 1) = 2 ^ 16 - ((2 ^ t - 1) + 1) := by omega
  rw [Nat.testBit_and, e2, Nat.testBit_two_pow_sub_succ (by omega), Nat.testBit_two_pow_mul, Nat.testBit_div_two_pow, Nat.testBit_two_pow_sub_one]
  by_cases hi : t ≤ i
  · have h1 : ¬ i < t := by omega
    rw [show i - t + t = i from by omega]
    by_cases h16 : i < 16
    · simp [hi, h1, h16]
    · have hz : a.testBit i = false := Nat.testBit_lt_two_pow (Nat.lt_of_lt_of_le ha (by have := Nat.pow_le_pow_right (n := 2) (by omega) (show 16 ≤ i by omega); simpa using this))
      simp [hz]
  · have h1 : i < t := by omega
    have h2 : ¬ i ≥ t := by omega
    simp [h1, h2]
theorem nat_and_compl_bit (a t : Nat) (ha : a < 65536) (ht : t < 16) : a &&& (65535 - 2 ^ t) = a - a / 2 ^ t % 2 * 2 ^ t := by
  have hq : 0 < 2 ^ t := Nat.two_pow_pos t
  have e : a - a / 2 ^ t % 2 * 2 ^ t = 2 ^ t * (2 * (a / 2 ^ t / 2)) + a % 2 ^ t := by
    have h1 := Nat.div_add_mod a (2 ^ t)
    have h2 := Nat.div_add_mod (a / 2 ^ t) 2
    have h3 : 2 ^ t * (a / 2 ^ t) = 2 ^ t * (2 * (a / 2 ^ t / 2)) + a / 2 ^ t % 2 * 2 ^ t := by
      rw [← Nat.mul_comm (2 ^ t) (a / 2 ^ t % 2), ← Nat.mul_add, h2]
    omega
  rw [e]
  apply Nat.eq_of_testBit_eq
  intro i
  have hp : 2 ^ t ≤ 32768 := by have := Nat.pow_le_pow_right (n := 2) (by omega) (show t ≤ 15 by omega); simpa using this
  have e2 : 65535 - 2 ^ t = 2 ^ 16 - (2 ^ t + 1) := by omega
  rw [Nat.testBit_and, e2, Nat.testBit_two_pow_sub_succ (by omega), Nat.testBit_two_pow_mul_add _ (Nat.mod_lt _ hq), Nat.testBit_two_pow]
  by_cases hi : i < t
  · have h1 : ¬ t = i := by omega
    have h16 : i < 16 := by omega
    rw [if_pos hi, Nat.testBit_mod_two_pow]
    simp [h1, hi, h16]
  · rw [if_neg hi]
    by_cases hit : t = i
    · subst hit
      simp [Nat.testBit_zero]
    · have h1 : t < i := by omega
      obtain ⟨j, hj⟩ : ∃ j, i - t = j + 1 := ⟨i - t - 1, by omega⟩
      rw [hj, show 2 * (a / 2 ^ t / 2) = 2 ^ 1 * (a / 2 ^ t / 2) from rfl, Nat.testBit_two_pow_mul, show a / 2 ^ t / 2 = a / 2 ^ t / 2 ^ 1 from rfl, Nat.testBit_div_two_pow, Nat.testBit_div_two_pow, show j + 1 - 1 + 1 + t = i from by omega]
      by_cases h16 : i < 16
      · simp [hit, h16]
      · have hz : a.testBit i = false := Nat.testBit_lt_two_pow (Nat.lt_of_lt_of_le ha (by have := Nat.pow_le_pow_right (n := 2) (by omega) (show 16 ≤ i by omega); simpa using this))
        simp [hz]
theorem pow_le16 {t : Nat} (ht : t ≤ 16) : (2 : Int) ^ t ≤ 65536 := by
  have := Nat.pow_le_pow_right (n := 2) (by omega) ht
  have h : ((2 ^ t : Nat) : Int) ≤ ((2 ^ 16 : Nat) : Int) := by exact_mod_cast this
  simpa using h
theorem pow_pos2 (t : Nat) : (0 : Int) < 2 ^ t := by
  have := Nat.two_pow_pos t
  have h : ((0 : Nat) : Int) < ((2 ^ t : Nat) : Int) := by exact_mod_cast this
  simpa using h
theorem andNot_tail (x : Int) (t : Nat) (h0 : 0 ≤ x) (h1 : x ≤ 65535) (ht : t ≤ 16) :
    bits .andNot .u16 x (IntKind.u16.wrap (IntKind.u16.wrap ((2 : Int) ^ t) - 1)) = x - x % 2 ^ t := by
  have hp := pow_pos2 t
  have hl := pow_le16 ht
  have e : IntKind.u16.wrap (IntKind.u16.wrap ((2 : Int) ^ t) - 1) = 2 ^ t - 1 := by
    simp only [IntKind.wrap_u16]
    by_cases h16 : (2 : Int) ^ t = 65536
    · rw [h16]; decide
    · omega
  rw [e, u16_andNot x _ h0 (by omega) (by omega) (by omega)]
  obtain ⟨a, rfl⟩ := Int.eq_ofNat_of_zero_le h0
  have e2 : ((2 : Int) ^ t - 1).toNat = 2 ^ t - 1 := by
    have : (2 : Int) ^ t = ((2 ^ t : Nat) : Int) := by simp
    rw [this]; omega
  rw [e2, Int.toNat_natCast, nat_and_compl_tail a t (by omega) ht]
  have h3 : (a : Int) % 2 ^ t = ((a % 2 ^ t : Nat) : Int) := by simp
  rw [h3]
  have := Nat.mod_le a (2 ^ t)
  omega
theorem andNot_none (x : Int) (h0 : 0 ≤ x) (h1 : x ≤ 65535) : bits .andNot .u16 x 0 = x := by
  have h := andNot_tail x 0 h0 h1 (by omega)
  rw [show IntKind.u16.wrap (IntKind.u16.wrap ((2 : Int) ^ 0) - 1) = 0 from by decide] at h
  simpa using h
theorem andNot_whole (x : Int) (h0 : 0 ≤ x) (h1 : x ≤ 65535) : bits .andNot .u16 x (IntKind.u16.wrap (IntKind.u16.wrap 65536 - 1)) = 0 := by
  have := andNot_tail x 16 h0 h1 (by omega)
  rw [show ((2 : Int) ^ 16) = 65536 from by decide] at this
  rw [this]; omega
theorem andNot_bit (x : Int) (t : Nat) (h0 : 0 ≤ x) (h1 : x ≤ 65535) (ht : t < 16) : bits .andNot .u16 x ((2 : Int) ^ t) = x - x / 2 ^ t % 2 * 2 ^ t := by
  have hp := pow_pos2 t
  have hl : (2 : Int) ^ t ≤ 32768 := by
    have := Nat.pow_le_pow_right (n := 2) (by omega) (show t ≤ 15 by omega)
    have h : ((2 ^ t : Nat) : Int) ≤ ((2 ^ 15 : Nat) : Int) := by exact_mod_cast this
    simpa using h
  rw [u16_andNot x _ h0 (by omega) (by omega) (by omega)]
  obtain ⟨a, rfl⟩ := Int.eq_ofNat_of_zero_le h0
  have e2 : ((2 : Int) ^ t).toNat = 2 ^ t := by
    have : (2 : Int) ^ t = ((2 ^ t : Nat) : Int) := by simp
    rw [this]; omega
  rw [e2, Int.toNat_natCast, nat_and_compl_bit a t (by omega) ht]
  have h3 : (a : Int) / 2 ^ t % 2 * 2 ^ t = ((a / 2 ^ t % 2 * 2 ^ t : Nat) : Int) := by simp
  rw [h3]
  have h4 : a / 2 ^ t % 2 * 2 ^ t ≤ a := by
    have h5 := Nat.div_mul_le_self a (2 ^ t)
    exact Nat.le_trans (Nat.mul_le_mul_right _ (Nat.mod_le _ _)) h5
  omega
theorem emod_le16 (x : Int) {t : Nat} (ht : t ≤ 16) (h0 : 0 ≤ x) : x % 2 ^ t ≤ x := by
  have hp := pow_pos2 t
  have h1 := Int.mul_ediv_add_emod x (2 ^ t)
  have h2 := Int.mul_nonneg (Int.le_of_lt hp) (Int.ediv_nonneg h0 (Int.le_of_lt hp))
  omega
/-- The last bits of a number of three parts. -/
theorem mod_mid (A x lo B p c : Int) (hx : 0 ≤ x) (hB : 0 < B) (h0 : 0 ≤ lo) (h1 : lo < B) (hp : 0 < p) (hc : p * c = 65536) :
    ((A * 65536 + x) * B + lo) % (p * B) = (x % p) * B + lo := by
  have e1 : x = p * (x / p) + x % p := (Int.mul_ediv_add_emod x p).symm
  have h2 := Int.emod_nonneg x (show p ≠ 0 by omega)
  have h3 := Int.emod_lt_of_pos x hp
  have e : (A * 65536 + x) * B + lo = ((x % p) * B + lo) + (p * B) * (A * c + x / p) := by
    rw [← hc]
    calc (A * (p * c) + x) * B + lo = (A * (p * c) + (p * (x / p) + x % p)) * B + lo := by rw [← e1]
      _ = ((x % p) * B + lo) + (p * B) * (A * c + x / p) := by
        simp only [Int.add_mul, Int.mul_add]
        have : A * (p * c) * B = p * B * (A * c) := by ac_rfl
        have : p * (x / p) * B = p * B * (x / p) := by ac_rfl
        omega
  rw [e, Int.add_mul_emod_self_left]
  apply Int.emod_eq_of_lt
  · have := Int.mul_nonneg h2 (Int.le_of_lt hB); omega
  · have h4 : x % p + 1 ≤ p := by omega
    have h5 := Int.mul_le_mul_of_nonneg_right h4 (Int.le_of_lt hB)
    rw [Int.add_mul] at h5
    omega
end Go.Proofs.YtcgdjnmfeibnoaaDoor
/-! SixMask -/
namespace Go.Proofs.YtcgdjnmfeibnoaaDoor
open Go.RowKit
set_option linter.unusedVariables false
set_option linter.unusedSimpArgs false
/-- What is in the last bits of a number of 128 bits, behind the first n. -/
def tailOf (v n : Int) : Int := v % (2 ^ (128 - n).toNat)
/-- What Mask answers. -/
def MaskPost (v n : Int) (w : World) (e : Ending) (w' : World) : Prop :=
  ∃ y0 y1 y2 y3 y4 y5 y6 y7 : Int, e = .returned (.tuple #[A8 y0 y1 y2 y3 y4 y5 y6 y7, .int .i64 0]) ∧ R8 y0 y1 y2 y3 y4 y5 y6 y7 ∧
    V8 y0 y1 y2 y3 y4 y5 y6 y7 = v - tailOf v n ∧ Below w.heap.size w w'
theorem mask_ret {v n : Int} {w W : World} {y0 y1 y2 y3 y4 y5 y6 y7 : Int} (hr : R8 y0 y1 y2 y3 y4 y5 y6 y7) (h1 : V8 y0 y1 y2 y3 y4 y5 y6 y7 = v - tailOf v n) (hb : Below w.heap.size w W) :
    MaskPost v n w (.returned (.tuple #[A8 y0 y1 y2 y3 y4 y5 y6 y7, .int .i64 0])) W := ⟨y0, y1, y2, y3, y4, y5, y6, y7, rfl, hr, h1, hb⟩
set_option maxHeartbeats 2000000 in
set_option maxRecDepth 100000 in
theorem mask_in_0 (x0 x1 x2 x3 x4 x5 x6 x7 : Int) (h : R8 x0 x1 x2 x3 x4 x5 x6 x7) (n : Int) (n0 : 0 < n) (n1 : n < 16) (w : World) :
    Calls Tryd.prog 61 #[A8 x0 x1 x2 x3 x4 x5 x6 x7, .int .i64 n] w (MaskPost (V8 x0 x1 x2 x3 x4 x5 x6 x7) n w) := by
  go_enter Tryd.func61, Tryd.ntmps61
  go_wp2
  refine wp_loop_rounds 9 ?_
  iterate 8 (rw [rounds_succ]; go_wp2; go_region; go_wp2)
  rw [rounds_succ]
  go_wp2
  go_returns
  refine mask_ret ?_ ?_ (by go_grown)
  all_goals go_tidy
  all_goals obtain ⟨⟨_, _⟩, ⟨_, _⟩, ⟨_, _⟩, ⟨_, _⟩, ⟨_, _⟩, ⟨_, _⟩, ⟨_, _⟩, ⟨_, _⟩⟩ := h
  all_goals try rw [show min 16 (max 0 n) = n from by omega]
  all_goals try rw [show min 16 (max 0 (n - 16)) = 0 from by omega]
  all_goals try rw [show min 16 (max 0 (n - 32)) = 0 from by omega]
  all_goals try rw [show min 16 (max 0 (n - 48)) = 0 from by omega]
  all_goals try rw [show min 16 (max 0 (n - 64)) = 0 from by omega]
  all_goals try rw [show min 16 (max 0 (n - 80)) = 0 from by omega]
  all_goals try rw [show min 16 (max 0 (n - 96)) = 0 from by omega]
  all_goals try rw [show min 16 (max 0 (n - 112)) = 0 from by omega]
  all_goals try rw [show IntKind.u16.wrap (IntKind.u16.wrap ((2 : Int) ^ ((16 : Int) - 16).toNat) - 1) = 0 from by decide]
  all_goals try rw [show ((2 : Int) ^ ((16 : Int) - 0).toNat) = 65536 from by decide]
  all_goals have ht : (16 - n).toNat ≤ 16 := by omega
  all_goals rw [andNot_tail x0 _ (by assumption) (by assumption) ht, andNot_whole x1 (by assumption) (by assumption), andNot_whole x2 (by assumption) (by assumption), andNot_whole x3 (by assumption) (by assumption), andNot_whole x4 (by assumption) (by assumption), andNot_whole x5 (by assumption) (by assumption), andNot_whole x6 (by assumption) (by assumption), andNot_whole x7 (by assumption) (by assumption)]
  · generalize hu : x0 % 2 ^ (16 - n).toNat = u
    have h1 := Int.emod_nonneg x0 (show (2 : Int) ^ (16 - n).toNat ≠ 0 from by have := pow_pos2 ((16 - n).toNat); omega)
    have h2 := emod_le16 x0 ht (by assumption)
    rw [hu] at h1 h2
    constructor <;> omega
  · have e : V8 x0 x1 x2 x3 x4 x5 x6 x7 = (0 * 65536 + x0) * 5192296858534827628530496329220096 + ((((((x1 * 65536 + x2) * 65536 + x3) * 65536 + x4) * 65536 + x5) * 65536 + x6) * 65536 + x7) := by unfold V8; omega
    have e2 : (2 : Int) ^ (128 - n).toNat = 2 ^ (16 - n).toNat * 5192296858534827628530496329220096 := by
      rw [show (128 - n).toNat = (16 - n).toNat + 112 from by omega, Int.pow_add]
      rfl
    have hpc : (2 : Int) ^ (16 - n).toNat * 2 ^ (16 - (16 - n).toNat) = 65536 := by
      rw [← Int.pow_add, show (16 - n).toNat + (16 - (16 - n).toNat) = 16 from by omega]
      rfl
    unfold tailOf
    rw [e2, e, mod_mid _ _ _ _ _ _ (by assumption) (by decide) (by omega) (by omega) (pow_pos2 _) hpc]
    generalize x0 % 2 ^ (16 - n).toNat = u
    unfold V8
    omega
set_option maxHeartbeats 2000000 in
set_option maxRecDepth 100000 in
theorem mask_in_1 (x0 x1 x2 x3 x4 x5 x6 x7 : Int) (h : R8 x0 x1 x2 x3 x4 x5 x6 x7) (n : Int) (n0 : 16 < n) (n1 : n < 32) (w : World) :
    Calls Tryd.prog 61 #[A8 x0 x1 x2 x3 x4 x5 x6 x7, .int .i64 n] w (MaskPost (V8 x0 x1 x2 x3 x4 x5 x6 x7) n w) := by
  go_enter Tryd.func61, Tryd.ntmps61
  go_wp2
  refine wp_loop_rounds 9 ?_
  iterate 8 (rw [rounds_succ]; go_wp2; go_region; go_wp2)
  rw [rounds_succ]
  go_wp2
  go_returns
  refine mask_ret ?_ ?_ (by go_grown)
  all_goals go_tidy
  all_goals obtain ⟨⟨_, _⟩, ⟨_, _⟩, ⟨_, _⟩, ⟨_, _⟩, ⟨_, _⟩, ⟨_, _⟩, ⟨_, _⟩, ⟨_, _⟩⟩ := h
  all_goals try rw [show min 16 (max 0 n) = 16 from by omega]
  all_goals try rw [show min 16 (max 0 (n - 16)) = (n - 16) from by omega]
  all_goals try rw [show min 16 (max 0 (n - 32)) = 0 from by omega]
  all_goals try rw [show min 16 (max 0 (n - 48)) = 0 from by omega]
  all_goals try rw [show min 16 (max 0 (n - 64)) = 0 from by omega]
  all_goals try rw [show min 16 (max 0 (n - 80)) = 0 from by omega]
  all_goals try rw [show min 16 (max 0 (n - 96)) = 0 from by omega]
  all_goals try rw [show min 16 (max 0 (n - 112)) = 0 from by omega]
  all_goals try rw [show IntKind.u16.wrap (IntKind.u16.wrap ((2 : Int) ^ ((16 : Int) - 16).toNat) - 1) = 0 from by decide]
  all_goals try rw [show ((2 : Int) ^ ((16 : Int) - 0).toNat) = 65536 from by decide]
  all_goals have ht : (16 - (n - 16)).toNat ≤ 16 := by omega
  all_goals rw [andNot_none x0 (by assumption) (by assumption), andNot_tail x1 _ (by assumption) (by assumption) ht, andNot_whole x2 (by assumption) (by assumption), andNot_whole x3 (by assumption) (by assumption), andNot_whole x4 (by assumption) (by assumption), andNot_whole x5 (by assumption) (by assumption), andNot_whole x6 (by assumption) (by assumption), andNot_whole x7 (by assumption) (by assumption)]
  · generalize hu : x1 % 2 ^ (16 - (n - 16)).toNat = u
    have h1 := Int.emod_nonneg x1 (show (2 : Int) ^ (16 - (n - 16)).toNat ≠ 0 from by have := pow_pos2 ((16 - (n - 16)).toNat); omega)
    have h2 := emod_le16 x1 ht (by assumption)
    rw [hu] at h1 h2
    constructor <;> omega
  · have e : V8 x0 x1 x2 x3 x4 x5 x6 x7 = (x0 * 65536 + x1) * 79228162514264337593543950336 + (((((x2 * 65536 + x3) * 65536 + x4) * 65536 + x5) * 65536 + x6) * 65536 + x7) := by unfold V8; omega
    have e2 : (2 : Int) ^ (128 - n).toNat = 2 ^ (16 - (n - 16)).toNat * 79228162514264337593543950336 := by
      rw [show (128 - n).toNat = (16 - (n - 16)).toNat + 96 from by omega, Int.pow_add]
      rfl
    have hpc : (2 : Int) ^ (16 - (n - 16)).toNat * 2 ^ (16 - (16 - (n - 16)).toNat) = 65536 := by
      rw [← Int.pow_add, show (16 - (n - 16)).toNat + (16 - (16 - (n - 16)).toNat) = 16 from by omega]
      rfl
    unfold tailOf
    rw [e2, e, mod_mid _ _ _ _ _ _ (by assumption) (by decide) (by omega) (by omega) (pow_pos2 _) hpc]
    generalize x1 % 2 ^ (16 - (n - 16)).toNat = u
    unfold V8
    omega
set_option maxHeartbeats 2000000 in
set_option maxRecDepth 100000 in
theorem mask_in_2 (x0 x1 x2 x3 x4 x5 x6 x7 : Int) (h : R8 x0 x1 x2 x3 x4 x5 x6 x7) (n : Int) (n0 : 32 < n) (n1 : n < 48) (w : World) :
    Calls Tryd.prog 61 #[A8 x0 x1 x2 x3 x4 x5 x6 x7, .int .i64 n] w (MaskPost (V8 x0 x1 x2 x3 x4 x5 x6 x7) n w) := by
  go_enter Tryd.func61, Tryd.ntmps61
  go_wp2
  refine wp_loop_rounds 9 ?_
  iterate 8 (rw [rounds_succ]; go_wp2; go_region; go_wp2)
  rw [rounds_succ]
  go_wp2
  go_returns
  refine mask_ret ?_ ?_ (by go_grown)
  all_goals go_tidy
  all_goals obtain ⟨⟨_, _⟩, ⟨_, _⟩, ⟨_, _⟩, ⟨_, _⟩, ⟨_, _⟩, ⟨_, _⟩, ⟨_, _⟩, ⟨_, _⟩⟩ := h
  all_goals try rw [show min 16 (max 0 n) = 16 from by omega]
  all_goals try rw [show min 16 (max 0 (n - 16)) = 16 from by omega]
  all_goals try rw [show min 16 (max 0 (n - 32)) = (n - 32) from by omega]
  all_goals try rw [show min 16 (max 0 (n - 48)) = 0 from by omega]
  all_goals try rw [show min 16 (max 0 (n - 64)) = 0 from by omega]
  all_goals try rw [show min 16 (max 0 (n - 80)) = 0 from by omega]
  all_goals try rw [show min 16 (max 0 (n - 96)) = 0 from by omega]
  all_goals try rw [show min 16 (max 0 (n - 112)) = 0 from by omega]
  all_goals try rw [show IntKind.u16.wrap (IntKind.u16.wrap ((2 : Int) ^ ((16 : Int) - 16).toNat) - 1) = 0 from by decide]
  all_goals try rw [show ((2 : Int) ^ ((16 : Int) - 0).toNat) = 65536 from by decide]
  all_goals have ht : (16 - (n - 32)).toNat ≤ 16 := by omega
  all_goals rw [andNot_none x0 (by assumption) (by assumption), andNot_none x1 (by assumption) (by assumption), andNot_tail x2 _ (by assumption) (by assumption) ht, andNot_whole x3 (by assumption) (by assumption), andNot_whole x4 (by assumption) (by assumption), andNot_whole x5 (by assumption) (by assumption), andNot_whole x6 (by assumption) (by assumption), andNot_whole x7 (by assumption) (by assumption)]
  · generalize hu : x2 % 2 ^ (16 - (n - 32)).toNat = u
    have h1 := Int.emod_nonneg x2 (show (2 : Int) ^ (16 - (n - 32)).toNat ≠ 0 from by have := pow_pos2 ((16 - (n - 32)).toNat); omega)
    have h2 := emod_le16 x2 ht (by assumption)
    rw [hu] at h1 h2
    constructor <;> omega
  · have e : V8 x0 x1 x2 x3 x4 x5 x6 x7 = ((x0 * 65536 + x1) * 65536 + x2) * 1208925819614629174706176 + ((((x3 * 65536 + x4) * 65536 + x5) * 65536 + x6) * 65536 + x7) := by unfold V8; omega
    have e2 : (2 : Int) ^ (128 - n).toNat = 2 ^ (16 - (n - 32)).toNat * 1208925819614629174706176 := by
      rw [show (128 - n).toNat = (16 - (n - 32)).toNat + 80 from by omega, Int.pow_add]
      rfl
    have hpc : (2 : Int) ^ (16 - (n - 32)).toNat * 2 ^ (16 - (16 - (n - 32)).toNat) = 65536 := by
      rw [← Int.pow_add, show (16 - (n - 32)).toNat + (16 - (16 - (n - 32)).toNat) = 16 from by omega]
      rfl
    unfold tailOf
    rw [e2, e, mod_mid _ _ _ _ _ _ (by assumption) (by decide) (by omega) (by omega) (pow_pos2 _) hpc]
    generalize x2 % 2 ^ (16 - (n - 32)).toNat = u
    unfold V8
    omega
set_option maxHeartbeats 2000000 in
set_option maxRecDepth 100000 in
theorem mask_in_3 (x0 x1 x2 x3 x4 x5 x6 x7 : Int) (h : R8 x0 x1 x2 x3 x4 x5 x6 x7) (n : Int) (n0 : 48 < n) (n1 : n < 64) (w : World) :
    Calls Tryd.prog 61 #[A8 x0 x1 x2 x3 x4 x5 x6 x7, .int .i64 n] w (MaskPost (V8 x0 x1 x2 x3 x4 x5 x6 x7) n w) := by
  go_enter Tryd.func61, Tryd.ntmps61
  go_wp2
  refine wp_loop_rounds 9 ?_
  iterate 8 (rw [rounds_succ]; go_wp2; go_region; go_wp2)
  rw [rounds_succ]
  go_wp2
  go_returns
  refine mask_ret ?_ ?_ (by go_grown)
  all_goals go_tidy
  all_goals obtain ⟨⟨_, _⟩, ⟨_, _⟩, ⟨_, _⟩, ⟨_, _⟩, ⟨_, _⟩, ⟨_, _⟩, ⟨_, _⟩, ⟨_, _⟩⟩ := h
  all_goals try rw [show min 16 (max 0 n) = 16 from by omega]
  all_goals try rw [show min 16 (max 0 (n - 16)) = 16 from by omega]
  all_goals try rw [show min 16 (max 0 (n - 32)) = 16 from by omega]
  all_goals try rw [show min 16 (max 0 (n - 48)) = (n - 48) from by omega]
  all_goals try rw [show min 16 (max 0 (n - 64)) = 0 from by omega]
  all_goals try rw [show min 16 (max 0 (n - 80)) = 0 from by omega]
  all_goals try rw [show min 16 (max 0 (n - 96)) = 0 from by omega]
  all_goals try rw [show min 16 (max 0 (n - 112)) = 0 from by omega]
  all_goals try rw [show IntKind.u16.wrap (IntKind.u16.wrap ((2 : Int) ^ ((16 : Int) - 16).toNat) - 1) = 0 from by decide]
  all_goals try rw [show ((2 : Int) ^ ((16 : Int) - 0).toNat) = 65536 from by decide]
  all_goals have ht : (16 - (n - 48)).toNat ≤ 16 := by omega
  all_goals rw [andNot_none x0 (by assumption) (by assumption), andNot_none x1 (by assumption) (by assumption), andNot_none x2 (by assumption) (by assumption), andNot_tail x3 _ (by assumption) (by assumption) ht, andNot_whole x4 (by assumption) (by assumption), andNot_whole x5 (by assumption) (by assumption), andNot_whole x6 (by assumption) (by assumption), andNot_whole x7 (by assumption) (by assumption)]
  · generalize hu : x3 % 2 ^ (16 - (n - 48)).toNat = u
    have h1 := Int.emod_nonneg x3 (show (2 : Int) ^ (16 - (n - 48)).toNat ≠ 0 from by have := pow_pos2 ((16 - (n - 48)).toNat); omega)
    have h2 := emod_le16 x3 ht (by assumption)
    rw [hu] at h1 h2
    constructor <;> omega
  · have e : V8 x0 x1 x2 x3 x4 x5 x6 x7 = (((x0 * 65536 + x1) * 65536 + x2) * 65536 + x3) * 18446744073709551616 + (((x4 * 65536 + x5) * 65536 + x6) * 65536 + x7) := by unfold V8; omega
    have e2 : (2 : Int) ^ (128 - n).toNat = 2 ^ (16 - (n - 48)).toNat * 18446744073709551616 := by
      rw [show (128 - n).toNat = (16 - (n - 48)).toNat + 64 from by omega, Int.pow_add]
      rfl
    have hpc : (2 : Int) ^ (16 - (n - 48)).toNat * 2 ^ (16 - (16 - (n - 48)).toNat) = 65536 := by
      rw [← Int.pow_add, show (16 - (n - 48)).toNat + (16 - (16 - (n - 48)).toNat) = 16 from by omega]
      rfl
    unfold tailOf
    rw [e2, e, mod_mid _ _ _ _ _ _ (by assumption) (by decide) (by omega) (by omega) (pow_pos2 _) hpc]
    generalize x3 % 2 ^ (16 - (n - 48)).toNat = u
    unfold V8
    omega
set_option maxHeartbeats 2000000 in
set_option maxRecDepth 100000 in
theorem mask_in_4 (x0 x1 x2 x3 x4 x5 x6 x7 : Int) (h : R8 x0 x1 x2 x3 x4 x5 x6 x7) (n : Int) (n0 : 64 < n) (n1 : n < 80) (w : World) :
    Calls Tryd.prog 61 #[A8 x0 x1 x2 x3 x4 x5 x6 x7, .int .i64 n] w (MaskPost (V8 x0 x1 x2 x3 x4 x5 x6 x7) n w) := by
  go_enter Tryd.func61, Tryd.ntmps61
  go_wp2
  refine wp_loop_rounds 9 ?_
  iterate 8 (rw [rounds_succ]; go_wp2; go_region; go_wp2)
  rw [rounds_succ]
  go_wp2
  go_returns
  refine mask_ret ?_ ?_ (by go_grown)
  all_goals go_tidy
  all_goals obtain ⟨⟨_, _⟩, ⟨_, _⟩, ⟨_, _⟩, ⟨_, _⟩, ⟨_, _⟩, ⟨_, _⟩, ⟨_, _⟩, ⟨_, _⟩⟩ := h
  all_goals try rw [show min 16 (max 0 n) = 16 from by omega]
  all_goals try rw [show min 16 (max 0 (n - 16)) = 16 from by omega]
  all_goals try rw [show min 16 (max 0 (n - 32)) = 16 from by omega]
  all_goals try rw [show min 16 (max 0 (n - 48)) = 16 from by omega]
  all_goals try rw [show min 16 (max 0 (n - 64)) = (n - 64) from by omega]
  all_goals try rw [show min 16 (max 0 (n - 80)) = 0 from by omega]
  all_goals try rw [show min 16 (max 0 (n - 96)) = 0 from by omega]
  all_goals try rw [show min 16 (max 0 (n - 112)) = 0 from by omega]
  all_goals try rw [show IntKind.u16.wrap (IntKind.u16.wrap ((2 : Int) ^ ((16 : Int) - 16).toNat) - 1) = 0 from by decide]
  all_goals try rw [show ((2 : Int) ^ ((16 : Int) - 0).toNat) = 65536 from by decide]
  all_goals have ht : (16 - (n - 64)).toNat ≤ 16 := by omega
  all_goals rw [andNot_none x0 (by assumption) (by assumption), andNot_none x1 (by assumption) (by assumption), andNot_none x2 (by assumption) (by assumption), andNot_none x3 (by assumption) (by assumption), andNot_tail x4 _ (by assumption) (by assumption) ht, andNot_whole x5 (by assumption) (by assumption), andNot_whole x6 (by assumption) (by assumption), andNot_whole x7 (by assumption) (by assumption)]
  · generalize hu : x4 % 2 ^ (16 - (n - 64)).toNat = u
    have h1 := Int.emod_nonneg x4 (show (2 : Int) ^ (16 - (n - 64)).toNat ≠ 0 from by have := pow_pos2 ((16 - (n - 64)).toNat); omega)
    have h2 := emod_le16 x4 ht (by assumption)
    rw [hu] at h1 h2
    constructor <;> omega
  · have e : V8 x0 x1 x2 x3 x4 x5 x6 x7 = ((((x0 * 65536 + x1) * 65536 + x2) * 65536 + x3) * 65536 + x4) * 281474976710656 + ((x5 * 65536 + x6) * 65536 + x7) := by unfold V8; omega
    have e2 : (2 : Int) ^ (128 - n).toNat = 2 ^ (16 - (n - 64)).toNat * 281474976710656 := by
      rw [show (128 - n).toNat = (16 - (n - 64)).toNat + 48 from by omega, Int.pow_add]
      rfl
    have hpc : (2 : Int) ^ (16 - (n - 64)).toNat * 2 ^ (16 - (16 - (n - 64)).toNat) = 65536 := by
      rw [← Int.pow_add, show (16 - (n - 64)).toNat + (16 - (16 - (n - 64)).toNat) = 16 from by omega]
      rfl
    unfold tailOf
    rw [e2, e, mod_mid _ _ _ _ _ _ (by assumption) (by decide) (by omega) (by omega) (pow_pos2 _) hpc]
    generalize x4 % 2 ^ (16 - (n - 64)).toNat = u
    unfold V8
    omega
set_option maxHeartbeats 2000000 in
set_option maxRecDepth 100000 in
theorem mask_in_5 (x0 x1 x2 x3 x4 x5 x6 x7 : Int) (h : R8 x0 x1 x2 x3 x4 x5 x6 x7) (n : Int) (n0 : 80 < n) (n1 : n < 96) (w : World) :
    Calls Tryd.prog 61 #[A8 x0 x1 x2 x3 x4 x5 x6 x7, .int .i64 n] w (MaskPost (V8 x0 x1 x2 x3 x4 x5 x6 x7) n w) := by
  go_enter Tryd.func61, Tryd.ntmps61
  go_wp2
  refine wp_loop_rounds 9 ?_
  iterate 8 (rw [rounds_succ]; go_wp2; go_region; go_wp2)
  rw [rounds_succ]
  go_wp2
  go_returns
  refine mask_ret ?_ ?_ (by go_grown)
  all_goals go_tidy
  all_goals obtain ⟨⟨_, _⟩, ⟨_, _⟩, ⟨_, _⟩, ⟨_, _⟩, ⟨_, _⟩, ⟨_, _⟩, ⟨_, _⟩, ⟨_, _⟩⟩ := h
  all_goals try rw [show min 16 (max 0 n) = 16 from by omega]
  all_goals try rw [show min 16 (max 0 (n - 16)) = 16 from by omega]
  all_goals try rw [show min 16 (max 0 (n - 32)) = 16 from by omega]
  all_goals try rw [show min 16 (max 0 (n - 48)) = 16 from by omega]
  all_goals try rw [show min 16 (max 0 (n - 64)) = 16 from by omega]
  all_goals try rw [show min 16 (max 0 (n - 80)) = (n - 80) from by omega]
  all_goals try rw [show min 16 (max 0 (n - 96)) = 0 from by omega]
  all_goals try rw [show min 16 (max 0 (n - 112)) = 0 from by omega]
  all_goals try rw [show IntKind.u16.wrap (IntKind.u16.wrap ((2 : Int) ^ ((16 : Int) - 16).toNat) - 1) = 0 from by decide]
  all_goals try rw [show ((2 : Int) ^ ((16 : Int) - 0).toNat) = 65536 from by decide]
  all_goals have ht : (16 - (n - 80)).toNat ≤ 16 := by omega
  all_goals rw [andNot_none x0 (by assumption) (by assumption), andNot_none x1 (by assumption) (by assumption), andNot_none x2 (by assumption) (by assumption), andNot_none x3 (by assumption) (by assumption), andNot_none x4 (by assumption) (by assumption), andNot_tail x5 _ (by assumption) (by assumption) ht, andNot_whole x6 (by assumption) (by assumption), andNot_whole x7 (by assumption) (by assumption)]
  · generalize hu : x5 % 2 ^ (16 - (n - 80)).toNat = u
    have h1 := Int.emod_nonneg x5 (show (2 : Int) ^ (16 - (n - 80)).toNat ≠ 0 from by have := pow_pos2 ((16 - (n - 80)).toNat); omega)
    have h2 := emod_le16 x5 ht (by assumption)
    rw [hu] at h1 h2
    constructor <;> omega
  · have e : V8 x0 x1 x2 x3 x4 x5 x6 x7 = (((((x0 * 65536 + x1) * 65536 + x2) * 65536 + x3) * 65536 + x4) * 65536 + x5) * 4294967296 + (x6 * 65536 + x7) := by unfold V8; omega
    have e2 : (2 : Int) ^ (128 - n).toNat = 2 ^ (16 - (n - 80)).toNat * 4294967296 := by
      rw [show (128 - n).toNat = (16 - (n - 80)).toNat + 32 from by omega, Int.pow_add]
      rfl
    have hpc : (2 : Int) ^ (16 - (n - 80)).toNat * 2 ^ (16 - (16 - (n - 80)).toNat) = 65536 := by
      rw [← Int.pow_add, show (16 - (n - 80)).toNat + (16 - (16 - (n - 80)).toNat) = 16 from by omega]
      rfl
    unfold tailOf
    rw [e2, e, mod_mid _ _ _ _ _ _ (by assumption) (by decide) (by omega) (by omega) (pow_pos2 _) hpc]
    generalize x5 % 2 ^ (16 - (n - 80)).toNat = u
    unfold V8
    omega
set_option maxHeartbeats 2000000 in
set_option maxRecDepth 100000 in
theorem mask_in_6 (x0 x1 x2 x3 x4 x5 x6 x7 : Int) (h : R8 x0 x1 x2 x3 x4 x5 x6 x7) (n : Int) (n0 : 96 < n) (n1 : n < 112) (w : World) :
    Calls Tryd.prog 61 #[A8 x0 x1 x2 x3 x4 x5 x6 x7, .int .i64 n] w (MaskPost (V8 x0 x1 x2 x3 x4 x5 x6 x7) n w) := by
  go_enter Tryd.func61, Tryd.ntmps61
  go_wp2
  refine wp_loop_rounds 9 ?_
  iterate 8 (rw [rounds_succ]; go_wp2; go_region; go_wp2)
  rw [rounds_succ]
  go_wp2
  go_returns
  refine mask_ret ?_ ?_ (by go_grown)
  all_goals go_tidy
  all_goals obtain ⟨⟨_, _⟩, ⟨_, _⟩, ⟨_, _⟩, ⟨_, _⟩, ⟨_, _⟩, ⟨_, _⟩, ⟨_, _⟩, ⟨_, _⟩⟩ := h
  all_goals try rw [show min 16 (max 0 n) = 16 from by omega]
  all_goals try rw [show min 16 (max 0 (n - 16)) = 16 from by omega]
  all_goals try rw [show min 16 (max 0 (n - 32)) = 16 from by omega]
  all_goals try rw [show min 16 (max 0 (n - 48)) = 16 from by omega]
  all_goals try rw [show min 16 (max 0 (n - 64)) = 16 from by omega]
  all_goals try rw [show min 16 (max 0 (n - 80)) = 16 from by omega]
  all_goals try rw [show min 16 (max 0 (n - 96)) = (n - 96) from by omega]
  all_goals try rw [show min 16 (max 0 (n - 112)) = 0 from by omega]
  all_goals try rw [show IntKind.u16.wrap (IntKind.u16.wrap ((2 : Int) ^ ((16 : Int) - 16).toNat) - 1) = 0 from by decide]
  all_goals try rw [show ((2 : Int) ^ ((16 : Int) - 0).toNat) = 65536 from by decide]
  all_goals have ht : (16 - (n - 96)).toNat ≤ 16 := by omega
  all_goals rw [andNot_none x0 (by assumption) (by assumption), andNot_none x1 (by assumption) (by assumption), andNot_none x2 (by assumption) (by assumption), andNot_none x3 (by assumption) (by assumption), andNot_none x4 (by assumption) (by assumption), andNot_none x5 (by assumption) (by assumption), andNot_tail x6 _ (by assumption) (by assumption) ht, andNot_whole x7 (by assumption) (by assumption)]
  · generalize hu : x6 % 2 ^ (16 - (n - 96)).toNat = u
    have h1 := Int.emod_nonneg x6 (show (2 : Int) ^ (16 - (n - 96)).toNat ≠ 0 from by have := pow_pos2 ((16 - (n - 96)).toNat); omega)
    have h2 := emod_le16 x6 ht (by assumption)
    rw [hu] at h1 h2
    constructor <;> omega
  · have e : V8 x0 x1 x2 x3 x4 x5 x6 x7 = ((((((x0 * 65536 + x1) * 65536 + x2) * 65536 + x3) * 65536 + x4) * 65536 + x5) * 65536 + x6) * 65536 + x7 := by unfold V8; omega
    have e2 : (2 : Int) ^ (128 - n).toNat = 2 ^ (16 - (n - 96)).toNat * 65536 := by
      rw [show (128 - n).toNat = (16 - (n - 96)).toNat + 16 from by omega, Int.pow_add]
      rfl
    have hpc : (2 : Int) ^ (16 - (n - 96)).toNat * 2 ^ (16 - (16 - (n - 96)).toNat) = 65536 := by
      rw [← Int.pow_add, show (16 - (n - 96)).toNat + (16 - (16 - (n - 96)).toNat) = 16 from by omega]
      rfl
    unfold tailOf
    rw [e2, e, mod_mid _ _ _ _ _ _ (by assumption) (by decide) (by omega) (by omega) (pow_pos2 _) hpc]
    generalize x6 % 2 ^ (16 - (n - 96)).toNat = u
    unfold V8
    omega
set_option maxHeartbeats 2000000 in
set_option maxRecDepth 100000 in
theorem mask_in_7 (x0 x1 x2 x3 x4 x5 x6 x7 : Int) (h : R8 x0 x1 x2 x3 x4 x5 x6 x7) (n : Int) (n0 : 112 < n) (n1 : n < 128) (w : World) :
    Calls Tryd.prog 61 #[A8 x0 x1 x2 x3 x4 x5 x6 x7, .int .i64 n] w (MaskPost (V8 x0 x1 x2 x3 x4 x5 x6 x7) n w) := by
  go_enter Tryd.func61, Tryd.ntmps61
  go_wp2
  refine wp_loop_rounds 9 ?_
  iterate 8 (rw [rounds_succ]; go_wp2; go_region; go_wp2)
  rw [rounds_succ]
  go_wp2
  go_returns
  refine mask_ret ?_ ?_ (by go_grown)
  all_goals go_tidy
  all_goals obtain ⟨⟨_, _⟩, ⟨_, _⟩, ⟨_, _⟩, ⟨_, _⟩, ⟨_, _⟩, ⟨_, _⟩, ⟨_, _⟩, ⟨_, _⟩⟩ := h
  all_goals try rw [show min 16 (max 0 n) = 16 from by omega]
  all_goals try rw [show min 16 (max 0 (n - 16)) = 16 from by omega]
  all_goals try rw [show min 16 (max 0 (n - 32)) = 16 from by omega]
  all_goals try rw [show min 16 (max 0 (n - 48)) = 16 from by omega]
  all_goals try rw [show min 16 (max 0 (n - 64)) = 16 from by omega]
  all_goals try rw [show min 16 (max 0 (n - 80)) = 16 from by omega]
  all_goals try rw [show min 16 (max 0 (n - 96)) = 16 from by omega]
  all_goals try rw [show min 16 (max 0 (n - 112)) = (n - 112) from by omega]
  all_goals try rw [show IntKind.u16.wrap (IntKind.u16.wrap ((2 : Int) ^ ((16 : Int) - 16).toNat) - 1) = 0 from by decide]
  all_goals try rw [show ((2 : Int) ^ ((16 : Int) - 0).toNat) = 65536 from by decide]
  all_goals have ht : (16 - (n - 112)).toNat ≤ 16 := by omega
  all_goals rw [andNot_none x0 (by assumption) (by assumption), andNot_none x1 (by assumption) (by assumption), andNot_none x2 (by assumption) (by assumption), andNot_none x3 (by assumption) (by assumption), andNot_none x4 (by assumption) (by assumption), andNot_none x5 (by assumption) (by assumption), andNot_none x6 (by assumption) (by assumption), andNot_tail x7 _ (by assumption) (by assumption) ht]
  · generalize hu : x7 % 2 ^ (16 - (n - 112)).toNat = u
    have h1 := Int.emod_nonneg x7 (show (2 : Int) ^ (16 - (n - 112)).toNat ≠ 0 from by have := pow_pos2 ((16 - (n - 112)).toNat); omega)
    have h2 := emod_le16 x7 ht (by assumption)
    rw [hu] at h1 h2
    constructor <;> omega
  · have e : V8 x0 x1 x2 x3 x4 x5 x6 x7 = (((((((x0 * 65536 + x1) * 65536 + x2) * 65536 + x3) * 65536 + x4) * 65536 + x5) * 65536 + x6) * 65536 + x7) * 1 + 0 := by unfold V8; omega
    have e2 : (2 : Int) ^ (128 - n).toNat = 2 ^ (16 - (n - 112)).toNat * 1 := by
      rw [show (128 - n).toNat = (16 - (n - 112)).toNat + 0 from by omega, Int.pow_add]
      rfl
    have hpc : (2 : Int) ^ (16 - (n - 112)).toNat * 2 ^ (16 - (16 - (n - 112)).toNat) = 65536 := by
      rw [← Int.pow_add, show (16 - (n - 112)).toNat + (16 - (16 - (n - 112)).toNat) = 16 from by omega]
      rfl
    unfold tailOf
    rw [e2, e, mod_mid _ _ _ _ _ _ (by assumption) (by decide) (by omega) (by omega) (pow_pos2 _) hpc]
    generalize x7 % 2 ^ (16 - (n - 112)).toNat = u
    unfold V8
    omega
set_option maxHeartbeats 2000000 in
set_option maxRecDepth 100000 in
theorem mask_at_0 (x0 x1 x2 x3 x4 x5 x6 x7 : Int) (h : R8 x0 x1 x2 x3 x4 x5 x6 x7) (w : World) :
    Calls Tryd.prog 61 #[A8 x0 x1 x2 x3 x4 x5 x6 x7, .int .i64 0] w (MaskPost (V8 x0 x1 x2 x3 x4 x5 x6 x7) 0 w) := by
  go_enter Tryd.func61, Tryd.ntmps61
  go_wp2
  refine wp_loop_rounds 9 ?_
  iterate 8 (rw [rounds_succ]; go_wp2; go_region; go_wp2)
  rw [rounds_succ]
  go_wp2
  go_returns
  refine mask_ret ?_ ?_ (by go_grown)
  all_goals go_tidy
  all_goals obtain ⟨⟨_, _⟩, ⟨_, _⟩, ⟨_, _⟩, ⟨_, _⟩, ⟨_, _⟩, ⟨_, _⟩, ⟨_, _⟩, ⟨_, _⟩⟩ := h
  all_goals try rw [show ((2 : Int) ^ ((16 : Int) - min 16 0).toNat) = 65536 from by decide]
  all_goals try rw [show ((2 : Int) ^ ((16 : Int) - min 16 (max 0 (-16))).toNat) = 65536 from by decide]
  all_goals try rw [show ((2 : Int) ^ ((16 : Int) - min 16 (max 0 (-32))).toNat) = 65536 from by decide]
  all_goals try rw [show ((2 : Int) ^ ((16 : Int) - min 16 (max 0 (-48))).toNat) = 65536 from by decide]
  all_goals try rw [show ((2 : Int) ^ ((16 : Int) - min 16 (max 0 (-64))).toNat) = 65536 from by decide]
  all_goals try rw [show ((2 : Int) ^ ((16 : Int) - min 16 (max 0 (-80))).toNat) = 65536 from by decide]
  all_goals try rw [show ((2 : Int) ^ ((16 : Int) - min 16 (max 0 (-96))).toNat) = 65536 from by decide]
  all_goals try rw [show ((2 : Int) ^ ((16 : Int) - min 16 (max 0 (-112))).toNat) = 65536 from by decide]
  all_goals rw [andNot_whole x0 (by assumption) (by assumption), andNot_whole x1 (by assumption) (by assumption), andNot_whole x2 (by assumption) (by assumption), andNot_whole x3 (by assumption) (by assumption), andNot_whole x4 (by assumption) (by assumption), andNot_whole x5 (by assumption) (by assumption), andNot_whole x6 (by assumption) (by assumption), andNot_whole x7 (by assumption) (by assumption)]
  · constructor <;> omega
  · unfold tailOf
    rw [show (2 : Int) ^ ((128 : Int) - 0).toNat = 340282366920938463463374607431768211456 from by decide]
    unfold V8
    omega
set_option maxHeartbeats 2000000 in
set_option maxRecDepth 100000 in
theorem mask_at_1 (x0 x1 x2 x3 x4 x5 x6 x7 : Int) (h : R8 x0 x1 x2 x3 x4 x5 x6 x7) (w : World) :
    Calls Tryd.prog 61 #[A8 x0 x1 x2 x3 x4 x5 x6 x7, .int .i64 16] w (MaskPost (V8 x0 x1 x2 x3 x4 x5 x6 x7) 16 w) := by
  go_enter Tryd.func61, Tryd.ntmps61
  go_wp2
  refine wp_loop_rounds 9 ?_
  iterate 8 (rw [rounds_succ]; go_wp2; go_region; go_wp2)
  rw [rounds_succ]
  go_wp2
  go_returns
  refine mask_ret ?_ ?_ (by go_grown)
  all_goals go_tidy
  all_goals obtain ⟨⟨_, _⟩, ⟨_, _⟩, ⟨_, _⟩, ⟨_, _⟩, ⟨_, _⟩, ⟨_, _⟩, ⟨_, _⟩, ⟨_, _⟩⟩ := h
  all_goals try rw [show IntKind.u16.wrap (IntKind.u16.wrap ((2 : Int) ^ ((16 : Int) - min 16 (max 0 (16))).toNat) - 1) = 0 from by decide]
  all_goals try rw [show ((2 : Int) ^ ((16 : Int) - min 16 0).toNat) = 65536 from by decide]
  all_goals try rw [show ((2 : Int) ^ ((16 : Int) - min 16 (max 0 (-16))).toNat) = 65536 from by decide]
  all_goals try rw [show ((2 : Int) ^ ((16 : Int) - min 16 (max 0 (-32))).toNat) = 65536 from by decide]
  all_goals try rw [show ((2 : Int) ^ ((16 : Int) - min 16 (max 0 (-48))).toNat) = 65536 from by decide]
  all_goals try rw [show ((2 : Int) ^ ((16 : Int) - min 16 (max 0 (-64))).toNat) = 65536 from by decide]
  all_goals try rw [show ((2 : Int) ^ ((16 : Int) - min 16 (max 0 (-80))).toNat) = 65536 from by decide]
  all_goals try rw [show ((2 : Int) ^ ((16 : Int) - min 16 (max 0 (-96))).toNat) = 65536 from by decide]
  all_goals rw [andNot_none x0 (by assumption) (by assumption), andNot_whole x1 (by assumption) (by assumption), andNot_whole x2 (by assumption) (by assumption), andNot_whole x3 (by assumption) (by assumption), andNot_whole x4 (by assumption) (by assumption), andNot_whole x5 (by assumption) (by assumption), andNot_whole x6 (by assumption) (by assumption), andNot_whole x7 (by assumption) (by assumption)]
  · constructor <;> omega
  · unfold tailOf
    rw [show (2 : Int) ^ ((128 : Int) - 16).toNat = 5192296858534827628530496329220096 from by decide]
    unfold V8
    omega
set_option maxHeartbeats 2000000 in
set_option maxRecDepth 100000 in
theorem mask_at_2 (x0 x1 x2 x3 x4 x5 x6 x7 : Int) (h : R8 x0 x1 x2 x3 x4 x5 x6 x7) (w : World) :
    Calls Tryd.prog 61 #[A8 x0 x1 x2 x3 x4 x5 x6 x7, .int .i64 32] w (MaskPost (V8 x0 x1 x2 x3 x4 x5 x6 x7) 32 w) := by
  go_enter Tryd.func61, Tryd.ntmps61
  go_wp2
  refine wp_loop_rounds 9 ?_
  iterate 8 (rw [rounds_succ]; go_wp2; go_region; go_wp2)
  rw [rounds_succ]
  go_wp2
  go_returns
  refine mask_ret ?_ ?_ (by go_grown)
  all_goals go_tidy
  all_goals obtain ⟨⟨_, _⟩, ⟨_, _⟩, ⟨_, _⟩, ⟨_, _⟩, ⟨_, _⟩, ⟨_, _⟩, ⟨_, _⟩, ⟨_, _⟩⟩ := h
  all_goals try rw [show IntKind.u16.wrap (IntKind.u16.wrap ((2 : Int) ^ ((16 : Int) - min 16 (max 0 (32))).toNat) - 1) = 0 from by decide]
  all_goals try rw [show IntKind.u16.wrap (IntKind.u16.wrap ((2 : Int) ^ ((16 : Int) - min 16 (max 0 (16))).toNat) - 1) = 0 from by decide]
  all_goals try rw [show ((2 : Int) ^ ((16 : Int) - min 16 0).toNat) = 65536 from by decide]
  all_goals try rw [show ((2 : Int) ^ ((16 : Int) - min 16 (max 0 (-16))).toNat) = 65536 from by decide]
  all_goals try rw [show ((2 : Int) ^ ((16 : Int) - min 16 (max 0 (-32))).toNat) = 65536 from by decide]
  all_goals try rw [show ((2 : Int) ^ ((16 : Int) - min 16 (max 0 (-48))).toNat) = 65536 from by decide]
  all_goals try rw [show ((2 : Int) ^ ((16 : Int) - min 16 (max 0 (-64))).toNat) = 65536 from by decide]
  all_goals try rw [show ((2 : Int) ^ ((16 : Int) - min 16 (max 0 (-80))).toNat) = 65536 from by decide]
  all_goals rw [andNot_none x0 (by assumption) (by assumption), andNot_none x1 (by assumption) (by assumption), andNot_whole x2 (by assumption) (by assumption), andNot_whole x3 (by assumption) (by assumption), andNot_whole x4 (by assumption) (by assumption), andNot_whole x5 (by assumption) (by assumption), andNot_whole x6 (by assumption) (by assumption), andNot_whole x7 (by assumption) (by assumption)]
  · constructor <;> omega
  · unfold tailOf
    rw [show (2 : Int) ^ ((128 : Int) - 32).toNat = 79228162514264337593543950336 from by decide]
    unfold V8
    omega
set_option maxHeartbeats 2000000 in
set_option maxRecDepth 100000 in
theorem mask_at_3 (x0 x1 x2 x3 x4 x5 x6 x7 : Int) (h : R8 x0 x1 x2 x3 x4 x5 x6 x7) (w : World) :
    Calls Tryd.prog 61 #[A8 x0 x1 x2 x3 x4 x5 x6 x7, .int .i64 48] w (MaskPost (V8 x0 x1 x2 x3 x4 x5 x6 x7) 48 w) := by
  go_enter Tryd.func61, Tryd.ntmps61
  go_wp2
  refine wp_loop_rounds 9 ?_
  iterate 8 (rw [rounds_succ]; go_wp2; go_region; go_wp2)
  rw [rounds_succ]
  go_wp2
  go_returns
  refine mask_ret ?_ ?_ (by go_grown)
  all_goals go_tidy
  all_goals obtain ⟨⟨_, _⟩, ⟨_, _⟩, ⟨_, _⟩, ⟨_, _⟩, ⟨_, _⟩, ⟨_, _⟩, ⟨_, _⟩, ⟨_, _⟩⟩ := h
  all_goals try rw [show IntKind.u16.wrap (IntKind.u16.wrap ((2 : Int) ^ ((16 : Int) - min 16 (max 0 (48))).toNat) - 1) = 0 from by decide]
  all_goals try rw [show IntKind.u16.wrap (IntKind.u16.wrap ((2 : Int) ^ ((16 : Int) - min 16 (max 0 (32))).toNat) - 1) = 0 from by decide]
  all_goals try rw [show IntKind.u16.wrap (IntKind.u16.wrap ((2 : Int) ^ ((16 : Int) - min 16 (max 0 (16))).toNat) - 1) = 0 from by decide]
  all_goals try rw [show ((2 : Int) ^ ((16 : Int) - min 16 0).toNat) = 65536 from by decide]
  all_goals try rw [show ((2 : Int) ^ ((16 : Int) - min 16 (max 0 (-16))).toNat) = 65536 from by decide]
  all_goals try rw [show ((2 : Int) ^ ((16 : Int) - min 16 (max 0 (-32))).toNat) = 65536 from by decide]
  all_goals try rw [show ((2 : Int) ^ ((16 : Int) - min 16 (max 0 (-48))).toNat) = 65536 from by decide]
  all_goals try rw [show ((2 : Int) ^ ((16 : Int) - min 16 (max 0 (-64))).toNat) = 65536 from by decide]
  all_goals rw [andNot_none x0 (by assumption) (by assumption), andNot_none x1 (by assumption) (by assumption), andNot_none x2 (by assumption) (by assumption), andNot_whole x3 (by assumption) (by assumption), andNot_whole x4 (by assumption) (by assumption), andNot_whole x5 (by assumption) (by assumption), andNot_whole x6 (by assumption) (by assumption), andNot_whole x7 (by assumption) (by assumption)]
  · constructor <;> omega
  · unfold tailOf
    rw [show (2 : Int) ^ ((128 : Int) - 48).toNat = 1208925819614629174706176 from by decide]
    unfold V8
    omega
set_option maxHeartbeats 2000000 in
set_option maxRecDepth 100000 in
theorem mask_at_4 (x0 x1 x2 x3 x4 x5 x6 x7 : Int) (h : R8 x0 x1 x2 x3 x4 x5 x6 x7) (w : World) :
    Calls Tryd.prog 61 #[A8 x0 x1 x2 x3 x4 x5 x6 x7, .int .i64 64] w (MaskPost (V8 x0 x1 x2 x3 x4 x5 x6 x7) 64 w) := by
  go_enter Tryd.func61, Tryd.ntmps61
  go_wp2
  refine wp_loop_rounds 9 ?_
  iterate 8 (rw [rounds_succ]; go_wp2; go_region; go_wp2)
  rw [rounds_succ]
  go_wp2
  go_returns
  refine mask_ret ?_ ?_ (by go_grown)
  all_goals go_tidy
  all_goals obtain ⟨⟨_, _⟩, ⟨_, _⟩, ⟨_, _⟩, ⟨_, _⟩, ⟨_, _⟩, ⟨_, _⟩, ⟨_, _⟩, ⟨_, _⟩⟩ := h
  all_goals try rw [show IntKind.u16.wrap (IntKind.u16.wrap ((2 : Int) ^ ((16 : Int) - min 16 (max 0 (64))).toNat) - 1) = 0 from by decide]
  all_goals try rw [show IntKind.u16.wrap (IntKind.u16.wrap ((2 : Int) ^ ((16 : Int) - min 16 (max 0 (48))).toNat) - 1) = 0 from by decide]
  all_goals try rw [show IntKind.u16.wrap (IntKind.u16.wrap ((2 : Int) ^ ((16 : Int) - min 16 (max 0 (32))).toNat) - 1) = 0 from by decide]
  all_goals try rw [show IntKind.u16.wrap (IntKind.u16.wrap ((2 : Int) ^ ((16 : Int) - min 16 (max 0 (16))).toNat) - 1) = 0 from by decide]
  all_goals try rw [show ((2 : Int) ^ ((16 : Int) - min 16 0).toNat) = 65536 from by decide]
  all_goals try rw [show ((2 : Int) ^ ((16 : Int) - min 16 (max 0 (-16))).toNat) = 65536 from by decide]
  all_goals try rw [show ((2 : Int) ^ ((16 : Int) - min 16 (max 0 (-32))).toNat) = 65536 from by decide]
  all_goals try rw [show ((2 : Int) ^ ((16 : Int) - min 16 (max 0 (-48))).toNat) = 65536 from by decide]
  all_goals rw [andNot_none x0 (by assumption) (by assumption), andNot_none x1 (by assumption) (by assumption), andNot_none x2 (by assumption) (by assumption), andNot_none x3 (by assumption) (by assumption), andNot_whole x4 (by assumption) (by assumption), andNot_whole x5 (by assumption) (by assumption), andNot_whole x6 (by assumption) (by assumption), andNot_whole x7 (by assumption) (by assumption)]
  · constructor <;> omega
  · unfold tailOf
    rw [show (2 : Int) ^ ((128 : Int) - 64).toNat = 18446744073709551616 from by decide]
    unfold V8
    omega
set_option maxHeartbeats 2000000 in
set_option maxRecDepth 100000 in
theorem mask_at_5 (x0 x1 x2 x3 x4 x5 x6 x7 : Int) (h : R8 x0 x1 x2 x3 x4 x5 x6 x7) (w : World) :
    Calls Tryd.prog 61 #[A8 x0 x1 x2 x3 x4 x5 x6 x7, .int .i64 80] w (MaskPost (V8 x0 x1 x2 x3 x4 x5 x6 x7) 80 w) := by
  go_enter Tryd.func61, Tryd.ntmps61
  go_wp2
  refine wp_loop_rounds 9 ?_
  iterate 8 (rw [rounds_succ]; go_wp2; go_region; go_wp2)
  rw [rounds_succ]
  go_wp2
  go_returns
  refine mask_ret ?_ ?_ (by go_grown)
  all_goals go_tidy
  all_goals obtain ⟨⟨_, _⟩, ⟨_, _⟩, ⟨_, _⟩, ⟨_, _⟩, ⟨_, _⟩, ⟨_, _⟩, ⟨_, _⟩, ⟨_, _⟩⟩ := h
  all_goals try rw [show IntKind.u16.wrap (IntKind.u16.wrap ((2 : Int) ^ ((16 : Int) - min 16 (max 0 (80))).toNat) - 1) = 0 from by decide]
  all_goals try rw [show IntKind.u16.wrap (IntKind.u16.wrap ((2 : Int) ^ ((16 : Int) - min 16 (max 0 (64))).toNat) - 1) = 0 from by decide]
  all_goals try rw [show IntKind.u16.wrap (IntKind.u16.wrap ((2 : Int) ^ ((16 : Int) - min 16 (max 0 (48))).toNat) - 1) = 0 from by decide]
  all_goals try rw [show IntKind.u16.wrap (IntKind.u16.wrap ((2 : Int) ^ ((16 : Int) - min 16 (max 0 (32))).toNat) - 1) = 0 from by decide]
  all_goals try rw [show IntKind.u16.wrap (IntKind.u16.wrap ((2 : Int) ^ ((16 : Int) - min 16 (max 0 (16))).toNat) - 1) = 0 from by decide]
  all_goals try rw [show ((2 : Int) ^ ((16 : Int) - min 16 0).toNat) = 65536 from by decide]
  all_goals try rw [show ((2 : Int) ^ ((16 : Int) - min 16 (max 0 (-16))).toNat) = 65536 from by decide]
  all_goals try rw [show ((2 : Int) ^ ((16 : Int) - min 16 (max 0 (-32))).toNat) = 65536 from by decide]
  all_goals rw [andNot_none x0 (by assumption) (by assumption), andNot_none x1 (by assumption) (by assumption), andNot_none x2 (by assumption) (by assumption), andNot_none x3 (by assumption) (by assumption), andNot_none x4 (by assumption) (by assumption), andNot_whole x5 (by assumption) (by assumption), andNot_whole x6 (by assumption) (by assumption), andNot_whole x7 (by assumption) (by assumption)]
  · constructor <;> omega
  · unfold tailOf
    rw [show (2 : Int) ^ ((128 : Int) - 80).toNat = 281474976710656 from by decide]
    unfold V8
    omega
set_option maxHeartbeats 2000000 in
set_option maxRecDepth 100000 in
theorem mask_at_6 (x0 x1 x2 x3 x4 x5 x6 x7 : Int) (h : R8 x0 x1 x2 x3 x4 x5 x6 x7) (w : World) :
    Calls Tryd.prog 61 #[A8 x0 x1 x2 x3 x4 x5 x6 x7, .int .i64 96] w (MaskPost (V8 x0 x1 x2 x3 x4 x5 x6 x7) 96 w) := by
  go_enter Tryd.func61, Tryd.ntmps61
  go_wp2
  refine wp_loop_rounds 9 ?_
  iterate 8 (rw [rounds_succ]; go_wp2; go_region; go_wp2)
  rw [rounds_succ]
  go_wp2
  go_returns
  refine mask_ret ?_ ?_ (by go_grown)
  all_goals go_tidy
  all_goals obtain ⟨⟨_, _⟩, ⟨_, _⟩, ⟨_, _⟩, ⟨_, _⟩, ⟨_, _⟩, ⟨_, _⟩, ⟨_, _⟩, ⟨_, _⟩⟩ := h
  all_goals try rw [show IntKind.u16.wrap (IntKind.u16.wrap ((2 : Int) ^ ((16 : Int) - min 16 (max 0 (96))).toNat) - 1) = 0 from by decide]
  all_goals try rw [show IntKind.u16.wrap (IntKind.u16.wrap ((2 : Int) ^ ((16 : Int) - min 16 (max 0 (80))).toNat) - 1) = 0 from by decide]
  all_goals try rw [show IntKind.u16.wrap (IntKind.u16.wrap ((2 : Int) ^ ((16 : Int) - min 16 (max 0 (64))).toNat) - 1) = 0 from by decide]
  all_goals try rw [show IntKind.u16.wrap (IntKind.u16.wrap ((2 : Int) ^ ((16 : Int) - min 16 (max 0 (48))).toNat) - 1) = 0 from by decide]
  all_goals try rw [show IntKind.u16.wrap (IntKind.u16.wrap ((2 : Int) ^ ((16 : Int) - min 16 (max 0 (32))).toNat) - 1) = 0 from by decide]
  all_goals try rw [show IntKind.u16.wrap (IntKind.u16.wrap ((2 : Int) ^ ((16 : Int) - min 16 (max 0 (16))).toNat) - 1) = 0 from by decide]
  all_goals try rw [show ((2 : Int) ^ ((16 : Int) - min 16 0).toNat) = 65536 from by decide]
  all_goals try rw [show ((2 : Int) ^ ((16 : Int) - min 16 (max 0 (-16))).toNat) = 65536 from by decide]
  all_goals rw [andNot_none x0 (by assumption) (by assumption), andNot_none x1 (by assumption) (by assumption), andNot_none x2 (by assumption) (by assumption), andNot_none x3 (by assumption) (by assumption), andNot_none x4 (by assumption) (by assumption), andNot_none x5 (by assumption) (by assumption), andNot_whole x6 (by assumption) (by assumption), andNot_whole x7 (by assumption) (by assumption)]
  · constructor <;> omega
  · unfold tailOf
    rw [show (2 : Int) ^ ((128 : Int) - 96).toNat = 4294967296 from by decide]
    unfold V8
    omega
set_option maxHeartbeats 2000000 in
set_option maxRecDepth 100000 in
theorem mask_at_7 (x0 x1 x2 x3 x4 x5 x6 x7 : Int) (h : R8 x0 x1 x2 x3 x4 x5 x6 x7) (w : World) :
    Calls Tryd.prog 61 #[A8 x0 x1 x2 x3 x4 x5 x6 x7, .int .i64 112] w (MaskPost (V8 x0 x1 x2 x3 x4 x5 x6 x7) 112 w) := by
  go_enter Tryd.func61, Tryd.ntmps61
  go_wp2
  refine wp_loop_rounds 9 ?_
  iterate 8 (rw [rounds_succ]; go_wp2; go_region; go_wp2)
  rw [rounds_succ]
  go_wp2
  go_returns
  refine mask_ret ?_ ?_ (by go_grown)
  all_goals go_tidy
  all_goals obtain ⟨⟨_, _⟩, ⟨_, _⟩, ⟨_, _⟩, ⟨_, _⟩, ⟨_, _⟩, ⟨_, _⟩, ⟨_, _⟩, ⟨_, _⟩⟩ := h
  all_goals try rw [show IntKind.u16.wrap (IntKind.u16.wrap ((2 : Int) ^ ((16 : Int) - min 16 (max 0 (112))).toNat) - 1) = 0 from by decide]
  all_goals try rw [show IntKind.u16.wrap (IntKind.u16.wrap ((2 : Int) ^ ((16 : Int) - min 16 (max 0 (96))).toNat) - 1) = 0 from by decide]
  all_goals try rw [show IntKind.u16.wrap (IntKind.u16.wrap ((2 : Int) ^ ((16 : Int) - min 16 (max 0 (80))).toNat) - 1) = 0 from by decide]
  all_goals try rw [show IntKind.u16.wrap (IntKind.u16.wrap ((2 : Int) ^ ((16 : Int) - min 16 (max 0 (64))).toNat) - 1) = 0 from by decide]
  all_goals try rw [show IntKind.u16.wrap (IntKind.u16.wrap ((2 : Int) ^ ((16 : Int) - min 16 (max 0 (48))).toNat) - 1) = 0 from by decide]
  all_goals try rw [show IntKind.u16.wrap (IntKind.u16.wrap ((2 : Int) ^ ((16 : Int) - min 16 (max 0 (32))).toNat) - 1) = 0 from by decide]
  all_goals try rw [show IntKind.u16.wrap (IntKind.u16.wrap ((2 : Int) ^ ((16 : Int) - min 16 (max 0 (16))).toNat) - 1) = 0 from by decide]
  all_goals try rw [show ((2 : Int) ^ ((16 : Int) - min 16 0).toNat) = 65536 from by decide]
  all_goals rw [andNot_none x0 (by assumption) (by assumption), andNot_none x1 (by assumption) (by assumption), andNot_none x2 (by assumption) (by assumption), andNot_none x3 (by assumption) (by assumption), andNot_none x4 (by assumption) (by assumption), andNot_none x5 (by assumption) (by assumption), andNot_none x6 (by assumption) (by assumption), andNot_whole x7 (by assumption) (by assumption)]
  · constructor <;> omega
  · unfold tailOf
    rw [show (2 : Int) ^ ((128 : Int) - 112).toNat = 65536 from by decide]
    unfold V8
    omega
set_option maxHeartbeats 2000000 in
set_option maxRecDepth 100000 in
theorem mask_at_8 (x0 x1 x2 x3 x4 x5 x6 x7 : Int) (h : R8 x0 x1 x2 x3 x4 x5 x6 x7) (w : World) :
    Calls Tryd.prog 61 #[A8 x0 x1 x2 x3 x4 x5 x6 x7, .int .i64 128] w (MaskPost (V8 x0 x1 x2 x3 x4 x5 x6 x7) 128 w) := by
  go_enter Tryd.func61, Tryd.ntmps61
  go_wp2
  refine wp_loop_rounds 9 ?_
  iterate 8 (rw [rounds_succ]; go_wp2; go_region; go_wp2)
  rw [rounds_succ]
  go_wp2
  go_returns
  refine mask_ret ?_ ?_ (by go_grown)
  all_goals go_tidy
  all_goals obtain ⟨⟨_, _⟩, ⟨_, _⟩, ⟨_, _⟩, ⟨_, _⟩, ⟨_, _⟩, ⟨_, _⟩, ⟨_, _⟩, ⟨_, _⟩⟩ := h
  all_goals try rw [show IntKind.u16.wrap (IntKind.u16.wrap ((2 : Int) ^ ((16 : Int) - min 16 (max 0 (128))).toNat) - 1) = 0 from by decide]
  all_goals try rw [show IntKind.u16.wrap (IntKind.u16.wrap ((2 : Int) ^ ((16 : Int) - min 16 (max 0 (112))).toNat) - 1) = 0 from by decide]
  all_goals try rw [show IntKind.u16.wrap (IntKind.u16.wrap ((2 : Int) ^ ((16 : Int) - min 16 (max 0 (96))).toNat) - 1) = 0 from by decide]
  all_goals try rw [show IntKind.u16.wrap (IntKind.u16.wrap ((2 : Int) ^ ((16 : Int) - min 16 (max 0 (80))).toNat) - 1) = 0 from by decide]
  all_goals try rw [show IntKind.u16.wrap (IntKind.u16.wrap ((2 : Int) ^ ((16 : Int) - min 16 (max 0 (64))).toNat) - 1) = 0 from by decide]
  all_goals try rw [show IntKind.u16.wrap (IntKind.u16.wrap ((2 : Int) ^ ((16 : Int) - min 16 (max 0 (48))).toNat) - 1) = 0 from by decide]
  all_goals try rw [show IntKind.u16.wrap (IntKind.u16.wrap ((2 : Int) ^ ((16 : Int) - min 16 (max 0 (32))).toNat) - 1) = 0 from by decide]
  all_goals try rw [show IntKind.u16.wrap (IntKind.u16.wrap ((2 : Int) ^ ((16 : Int) - min 16 (max 0 (16))).toNat) - 1) = 0 from by decide]
  all_goals rw [andNot_none x0 (by assumption) (by assumption), andNot_none x1 (by assumption) (by assumption), andNot_none x2 (by assumption) (by assumption), andNot_none x3 (by assumption) (by assumption), andNot_none x4 (by assumption) (by assumption), andNot_none x5 (by assumption) (by assumption), andNot_none x6 (by assumption) (by assumption), andNot_none x7 (by assumption) (by assumption)]
  · constructor <;> omega
  · unfold tailOf
    rw [show (2 : Int) ^ ((128 : Int) - 128).toNat = 1 from by decide]
    unfold V8
    omega
theorem mask_walk (x0 x1 x2 x3 x4 x5 x6 x7 : Int) (h : R8 x0 x1 x2 x3 x4 x5 x6 x7) (n : Int) (n0 : 0 ≤ n) (n1 : n ≤ 128) (w : World) :
    Calls Tryd.prog 61 #[A8 x0 x1 x2 x3 x4 x5 x6 x7, .int .i64 n] w (MaskPost (V8 x0 x1 x2 x3 x4 x5 x6 x7) n w) := by
  by_cases a0 : n = 0
  · subst a0; exact mask_at_0 _ _ _ _ _ _ _ _ h w
  by_cases b0 : n < 16
  · exact mask_in_0 _ _ _ _ _ _ _ _ h n (by omega) b0 w
  by_cases a1 : n = 16
  · subst a1; exact mask_at_1 _ _ _ _ _ _ _ _ h w
  by_cases b1 : n < 32
  · exact mask_in_1 _ _ _ _ _ _ _ _ h n (by omega) b1 w
  by_cases a2 : n = 32
  · subst a2; exact mask_at_2 _ _ _ _ _ _ _ _ h w
  by_cases b2 : n < 48
  · exact mask_in_2 _ _ _ _ _ _ _ _ h n (by omega) b2 w
  by_cases a3 : n = 48
  · subst a3; exact mask_at_3 _ _ _ _ _ _ _ _ h w
  by_cases b3 : n < 64
  · exact mask_in_3 _ _ _ _ _ _ _ _ h n (by omega) b3 w
  by_cases a4 : n = 64
  · subst a4; exact mask_at_4 _ _ _ _ _ _ _ _ h w
  by_cases b4 : n < 80
  · exact mask_in_4 _ _ _ _ _ _ _ _ h n (by omega) b4 w
  by_cases a5 : n = 80
  · subst a5; exact mask_at_5 _ _ _ _ _ _ _ _ h w
  by_cases b5 : n < 96
  · exact mask_in_5 _ _ _ _ _ _ _ _ h n (by omega) b5 w
  by_cases a6 : n = 96
  · subst a6; exact mask_at_6 _ _ _ _ _ _ _ _ h w
  by_cases b6 : n < 112
  · exact mask_in_6 _ _ _ _ _ _ _ _ h n (by omega) b6 w
  by_cases a7 : n = 112
  · subst a7; exact mask_at_7 _ _ _ _ _ _ _ _ h w
  by_cases b7 : n < 128
  · exact mask_in_7 _ _ _ _ _ _ _ _ h n (by omega) b7 w
  by_cases a8 : n = 128
  · subst a8; exact mask_at_8 _ _ _ _ _ _ _ _ h w
  omega
end Go.Proofs.YtcgdjnmfeibnoaaDoor
/-! SixWithin -/
namespace Go.Proofs.YtcgdjnmfeibnoaaDoor
open Go.RowKit
set_option linter.unusedVariables false
set_option linter.unusedSimpArgs false
set_option maxHeartbeats 1000000 in
set_option maxRecDepth 100000 in
theorem mask_less (x0 x1 x2 x3 x4 x5 x6 x7 : Int) (n : Int) (n0 : n < 0) (w : World) :
    Calls Tryd.prog 61 #[A8 x0 x1 x2 x3 x4 x5 x6 x7, .int .i64 n] w fun e w' => e = .returned (.tuple #[A8 0 0 0 0 0 0 0 0, .int .i64 211]) ∧ Below w.heap.size w w' := by
  go_enter Tryd.func61, Tryd.ntmps61
  go_wp2
  go_returns
  exact ⟨rfl, by go_grown⟩
set_option maxHeartbeats 1000000 in
set_option maxRecDepth 100000 in
theorem mask_more (x0 x1 x2 x3 x4 x5 x6 x7 : Int) (n : Int) (n0 : 128 < n) (w : World) :
    Calls Tryd.prog 61 #[A8 x0 x1 x2 x3 x4 x5 x6 x7, .int .i64 n] w fun e w' => e = .returned (.tuple #[A8 0 0 0 0 0 0 0 0, .int .i64 211]) ∧ Below w.heap.size w w' := by
  go_enter Tryd.func61, Tryd.ntmps61
  go_wp2
  go_returns
  exact ⟨rfl, by go_grown⟩
end Go.Proofs.YtcgdjnmfeibnoaaDoor
/-! SixNext -/
namespace Go.Proofs.YtcgdjnmfeibnoaaDoor
open Go.RowKit
set_option linter.unusedVariables false
set_option linter.unusedSimpArgs false
/-- What Next answers. -/
def NextPost (v : Int) (w : World) (e : Ending) (w' : World) : Prop :=
  ∃ y0 y1 y2 y3 y4 y5 y6 y7 : Int, ∃ ok : Bool, e = .returned (.tuple #[A8 y0 y1 y2 y3 y4 y5 y6 y7, .bool ok]) ∧ R8 y0 y1 y2 y3 y4 y5 y6 y7 ∧
    (ok = true → V8 y0 y1 y2 y3 y4 y5 y6 y7 = v + 1) ∧ (ok = false → v = 340282366920938463463374607431768211455 ∧ V8 y0 y1 y2 y3 y4 y5 y6 y7 = 0) ∧ Below w.heap.size w w'
theorem next_ret {v : Int} {w W : World} {y0 y1 y2 y3 y4 y5 y6 y7 : Int} {ok : Bool} (hr : R8 y0 y1 y2 y3 y4 y5 y6 y7)
    (h1 : ok = true → V8 y0 y1 y2 y3 y4 y5 y6 y7 = v + 1) (h2 : ok = false → v = 340282366920938463463374607431768211455 ∧ V8 y0 y1 y2 y3 y4 y5 y6 y7 = 0) (hb : Below w.heap.size w W) :
    NextPost v w (.returned (.tuple #[A8 y0 y1 y2 y3 y4 y5 y6 y7, .bool ok])) W := ⟨y0, y1, y2, y3, y4, y5, y6, y7, ok, rfl, hr, h1, h2, hb⟩
set_option maxHeartbeats 1000000 in
set_option maxRecDepth 100000 in
theorem next_walk (x0 x1 x2 x3 x4 x5 x6 x7 : Int) (h : R8 x0 x1 x2 x3 x4 x5 x6 x7) (w : World) :
    Calls Tryd.prog 25 #[A8 x0 x1 x2 x3 x4 x5 x6 x7] w (NextPost (V8 x0 x1 x2 x3 x4 x5 x6 x7) w) := by
  go_enter Tryd.func25, Tryd.ntmps25
  go_wp2
  go_rounds 9
  all_goals go_returns
  all_goals refine next_ret ?_ ?_ ?_ (by go_grown)
  all_goals go_tidy
  all_goals obtain ⟨⟨_, _⟩, ⟨_, _⟩, ⟨_, _⟩, ⟨_, _⟩, ⟨_, _⟩, ⟨_, _⟩, ⟨_, _⟩, ⟨_, _⟩⟩ := h
  all_goals simp only [IntKind.wrap_u16, bne_iff_ne, ne_eq, bne_eq_false_iff_eq] at *
  all_goals first
    | (constructor <;> omega)
    | (intro hk; exact absurd hk (by decide))
    | (intro _; unfold V8; omega)
end Go.Proofs.YtcgdjnmfeibnoaaDoor
/-! SixRefMask -/
namespace Go.Proofs.YtcgdjnmfeibnoaaDoor
open Go.RowKit
set_option linter.unusedVariables false
set_option linter.unusedSimpArgs false
theorem pow_add2 (a b : Nat) : (2 : Int) ^ (a + b) = 2 ^ a * 2 ^ b := Int.pow_add ..
theorem tailOf_nonneg (v n : Int) : 0 ≤ tailOf v n := Int.emod_nonneg _ (by have := pow_pos2 (128 - n).toNat; omega)
theorem tailOf_lt (v n : Int) : tailOf v n < 2 ^ (128 - n).toNat := Int.emod_lt_of_pos _ (pow_pos2 _)
/-- One bit of the last bits, and the bits behind it. -/
theorem tail_bit {v : Int} {k : Nat} (hk : k < 128) : tailOf v k = tailOf v k / 2 ^ (127 - k) * 2 ^ (127 - k) + tailOf v ((k : Int) + 1) := by
  have hp := pow_pos2 (127 - k)
  have e1 : (128 - (k : Int)).toNat = (127 - k) + 1 := by omega
  have e2 : (128 - ((k : Int) + 1)).toNat = 127 - k := by omega
  have h2 : tailOf v ((k : Int) + 1) = tailOf v k % 2 ^ (127 - k) := by
    unfold tailOf
    rw [e1, e2, pow_add2, Int.emod_emod_of_dvd _ ⟨_, rfl⟩]
  rw [h2, Int.mul_comm]
  exact (Int.mul_ediv_add_emod _ _).symm
theorem tail_bit_range {v : Int} {k : Nat} (hk : k < 128) : 0 ≤ tailOf v k / 2 ^ (127 - k) ∧ tailOf v k / 2 ^ (127 - k) ≤ 1 := by
  have hp := pow_pos2 (127 - k)
  have e1 : (128 - (k : Int)).toNat = (127 - k) + 1 := by omega
  have h1 := tailOf_lt v k
  have h0 := tailOf_nonneg v k
  rw [e1, Int.pow_succ] at h1
  refine ⟨Int.ediv_nonneg h0 (Int.le_of_lt hp), ?_⟩
  have : tailOf v k / 2 ^ (127 - k) < 2 := Int.ediv_lt_of_lt_mul hp (by omega)
  omega
/-- A bit of a number of three parts is a bit of the middle one. -/
theorem bit_mid (A x lo B : Int) (t : Nat) (ht : t ≤ 15) (hB : 0 < B) (h0 : 0 ≤ lo) (h1 : lo < B) : ((A * 65536 + x) * B + lo) / (2 ^ t * B) % 2 = x / 2 ^ t % 2 := by
  have hp := pow_pos2 t
  rw [Int.mul_comm (2 ^ t) B, ← Int.ediv_ediv_of_nonneg (Int.le_of_lt hB), Int.add_comm ((A * 65536 + x) * B) lo, Int.add_mul_ediv_right _ _ (by omega), Int.ediv_eq_zero_of_lt h0 h1, Int.zero_add]
  have e : A * 65536 = (A * 2 ^ (15 - t) * 2) * 2 ^ t := by
    have h : (2 : Int) ^ (15 - t) * 2 * 2 ^ t = 65536 := by
      rw [← Int.pow_succ, ← pow_add2, show 15 - t + 1 + t = 16 from by omega]; rfl
    rw [Int.mul_assoc, Int.mul_assoc, ← Int.mul_assoc (2 ^ (15 - t)) 2, h]
  rw [e, Int.add_comm, Int.add_mul_ediv_right _ _ (by omega), Int.add_mul_emod_self_right]
theorem masked_bit {v : Int} {n k : Nat} (hn : n ≤ k) (hk : k < 128) : (v - tailOf v n + tailOf v k) / 2 ^ (127 - k) % 2 = tailOf v k / 2 ^ (127 - k) := by
  have hp := pow_pos2 (127 - k)
  have e1 : (128 - (n : Int)).toNat = (127 - k) + (1 + (k - n)) := by omega
  have e : v - tailOf v n = (2 ^ (k - n) * (v / 2 ^ (128 - (n : Int)).toNat) * 2) * 2 ^ (127 - k) := by
    have h := Int.mul_ediv_add_emod v (2 ^ (128 - (n : Int)).toNat)
    have h2 : v - tailOf v n = 2 ^ (128 - (n : Int)).toNat * (v / 2 ^ (128 - (n : Int)).toNat) := by unfold tailOf; omega
    rw [h2]
    generalize v / 2 ^ (128 - (n : Int)).toNat = q
    rw [e1, pow_add2, pow_add2, show (2 : Int) ^ 1 = 2 from rfl]
    ac_rfl
  rw [e, Int.add_comm, Int.add_mul_ediv_right _ _ (by omega), Int.add_mul_emod_self_right]
  have := tail_bit_range (v := v) hk
  omega
/-- Marked from here: the step of one bit. -/
theorem piece_step {v n A x lo B Y : Int} {k t : Nat} (n0 : 0 ≤ n) (hn : n ≤ k) (hk : k < 128) (hx0 : 0 ≤ x) (hx1 : x ≤ 65535) (ht : t ≤ 15) (hB : B = 2 ^ (127 - k - t)) (htk : t ≤ 127 - k) (h0 : 0 ≤ lo) (h1 : lo < B)
    (hY : Y = (A * 65536 + x) * B + lo) (hv : Y = if (k : Int) ≤ n then v else v - tailOf v n + tailOf v k) :
    ∃ x', bits .andNot .u16 x (IntKind.u16.wrap (2 ^ t)) = x' ∧ 0 ≤ x' ∧ x' ≤ 65535 ∧ (A * 65536 + x') * B + lo = v - tailOf v n + tailOf v ((k : Int) + 1) := by
  obtain ⟨m, rfl⟩ := Int.eq_ofNat_of_zero_le n0
  have hY2 : Y = v - tailOf v m + tailOf v k := by
    rw [hv]; split
    · have : m = k := by omega
      subst this; omega
    · rfl
  have hp := pow_pos2 t
  have hpB : 0 < B := by rw [hB]; exact pow_pos2 _
  have hl : (2 : Int) ^ t ≤ 65535 := by
    have := Nat.pow_le_pow_right (n := 2) (by omega) ht
    have h : ((2 ^ t : Nat) : Int) ≤ ((2 ^ 15 : Nat) : Int) := by exact_mod_cast this
    have h2 : ((2 ^ t : Nat) : Int) = 2 ^ t := by simp
    rw [← h2]; omega
  have hw : IntKind.u16.wrap (2 ^ t) = 2 ^ t := by simp only [IntKind.wrap_u16]; omega
  have hPB : (2 : Int) ^ (127 - k) = 2 ^ t * B := by rw [hB, ← pow_add2, show t + (127 - k - t) = 127 - k from by omega]
  have hb : x / 2 ^ t % 2 = tailOf v k / 2 ^ (127 - k) := by
    rw [← masked_bit (v := v) (n := m) (by omega) hk, ← hY2, hY, hPB, bit_mid A x lo B t ht hpB h0 h1]
  have hr := tail_bit_range (v := v) hk
  have hs := tail_bit (v := v) hk
  rw [hw, andNot_bit x t hx0 hx1 (by omega), hb]
  rw [← hb] at hr
  refine ⟨_, rfl, ?_, ?_, ?_⟩
  · rw [← hb]
    have h5 := Int.mul_ediv_add_emod x (2 ^ t)
    have h6 := Int.emod_nonneg x (show (2 : Int) ^ t ≠ 0 by omega)
    have h7 := Int.ediv_nonneg hx0 (Int.le_of_lt hp)
    have h8 : x / 2 ^ t % 2 ≤ x / 2 ^ t := by omega
    have h9 := Int.mul_le_mul_of_nonneg_right h8 (Int.le_of_lt hp)
    rw [Int.mul_comm (2 ^ t)] at h5
    omega
  · rw [← hb]
    have := Int.mul_nonneg hr.1 (Int.le_of_lt hp)
    omega
  · rw [hPB] at hs
    rw [hPB]
    generalize tailOf v k / (2 ^ t * B) = b at *
    have e : (A * 65536 + (x - b * 2 ^ t)) * B + lo = (A * 65536 + x) * B + lo - b * (2 ^ t * B) := by
      rw [← Int.add_sub_assoc, Int.sub_mul, Int.mul_assoc b]
      omega
    rw [e, ← hY, hY2, hs]
    omega
/-- What stands at the head of a round of the document's Mask. -/
def RefMaskRel (v n : Int) (w : World) (i : Value) (W : World) : Prop :=
  ∃ (k : Nat) (y0 y1 y2 y3 y4 y5 y6 y7 : Int), k ≤ 128 ∧ i = .int .i64 k ∧ R8 y0 y1 y2 y3 y4 y5 y6 y7 ∧ V8 y0 y1 y2 y3 y4 y5 y6 y7 = (if (k : Int) ≤ n then v else v - tailOf v n + tailOf v k) ∧ W = (w.alloc (.cells #[.int .u16 y0, .int .u16 y1, .int .u16 y2, .int .u16 y3, .int .u16 y4, .int .u16 y5, .int .u16 y6, .int .u16 y7] 30)).alloc (.cells #[.int .u16 0, .int .u16 0, .int .u16 0, .int .u16 0, .int .u16 0, .int .u16 0, .int .u16 0, .int .u16 0] 30)
theorem ref_meas {k : Nat} (h : k < 128) : 128 - (intOf (.int .i64 ((k : Int) + 1))).toNat < 128 - (intOf (.int .i64 (k : Int))).toNat := by simp [intOf]; omega
theorem ref_none {v n : Int} {w : World} {k : Nat} {y0 y1 y2 y3 y4 y5 y6 y7 : Int} (hk : k < 128) (h : (k : Int) < n) (hr : R8 y0 y1 y2 y3 y4 y5 y6 y7) (hy : V8 y0 y1 y2 y3 y4 y5 y6 y7 = (if (k : Int) ≤ n then v else v - tailOf v n + tailOf v k)) :
    RefMaskRel v n w (.int .i64 ((k : Int) + 1)) ((w.alloc (.cells #[.int .u16 y0, .int .u16 y1, .int .u16 y2, .int .u16 y3, .int .u16 y4, .int .u16 y5, .int .u16 y6, .int .u16 y7] 30)).alloc (.cells #[.int .u16 0, .int .u16 0, .int .u16 0, .int .u16 0, .int .u16 0, .int .u16 0, .int .u16 0, .int .u16 0] 30)) :=
  ⟨k + 1, y0, y1, y2, y3, y4, y5, y6, y7, by omega, by simp, hr, by rw [hy, if_pos (by omega), if_pos (by omega)], rfl⟩
theorem ref_step_0 {v n : Int} {w : World} {k t : Nat} {y0 y1 y2 y3 y4 y5 y6 y7 : Int} (n0 : 0 ≤ n) (hk : k < 128) (h : n ≤ (k : Int)) (ht : 127 - k = t + 112) (ht2 : t ≤ 15) (hr : R8 y0 y1 y2 y3 y4 y5 y6 y7) (hy : V8 y0 y1 y2 y3 y4 y5 y6 y7 = (if (k : Int) ≤ n then v else v - tailOf v n + tailOf v k)) :
    RefMaskRel v n w (.int .i64 ((k : Int) + 1)) ((w.alloc (.cells #[.int .u16 (bits .andNot .u16 y0 (IntKind.u16.wrap (2 ^ t))), .int .u16 y1, .int .u16 y2, .int .u16 y3, .int .u16 y4, .int .u16 y5, .int .u16 y6, .int .u16 y7] 30)).alloc (.cells #[.int .u16 0, .int .u16 0, .int .u16 0, .int .u16 0, .int .u16 0, .int .u16 0, .int .u16 0, .int .u16 0] 30)) := by
  have hR := hr
  obtain ⟨⟨_, _⟩, ⟨_, _⟩, ⟨_, _⟩, ⟨_, _⟩, ⟨_, _⟩, ⟨_, _⟩, ⟨_, _⟩, ⟨_, _⟩⟩ := hr
  obtain ⟨z, hz, z0, z1, he⟩ := piece_step (A := 0) (x := y0) (lo := ((((((y1 * 65536 + y2) * 65536 + y3) * 65536 + y4) * 65536 + y5) * 65536 + y6) * 65536 + y7)) (B := 5192296858534827628530496329220096) (t := t) n0 h hk (by assumption) (by assumption) ht2 (by rw [show 127 - k - t = 112 from by omega]; rfl) (by omega) (by omega) (by omega) (show V8 y0 y1 y2 y3 y4 y5 y6 y7 = _ from by unfold V8; omega) hy
  refine ⟨k + 1, z, y1, y2, y3, y4, y5, y6, y7, by omega, by simp, ?_, ?_, by rw [hz]⟩
  · constructor <;> omega
  · rw [if_neg (by omega), show ((k + 1 : Nat) : Int) = (k : Int) + 1 from by omega, ← he]
    unfold V8
    omega
theorem ref_step_1 {v n : Int} {w : World} {k t : Nat} {y0 y1 y2 y3 y4 y5 y6 y7 : Int} (n0 : 0 ≤ n) (hk : k < 128) (h : n ≤ (k : Int)) (ht : 127 - k = t + 96) (ht2 : t ≤ 15) (hr : R8 y0 y1 y2 y3 y4 y5 y6 y7) (hy : V8 y0 y1 y2 y3 y4 y5 y6 y7 = (if (k : Int) ≤ n then v else v - tailOf v n + tailOf v k)) :
    RefMaskRel v n w (.int .i64 ((k : Int) + 1)) ((w.alloc (.cells #[.int .u16 y0, .int .u16 (bits .andNot .u16 y1 (IntKind.u16.wrap (2 ^ t))), .int .u16 y2, .int .u16 y3, .int .u16 y4, .int .u16 y5, .int .u16 y6, .int .u16 y7] 30)).alloc (.cells #[.int .u16 0, .int .u16 0, .int .u16 0, .int .u16 0, .int .u16 0, .int .u16 0, .int .u16 0, .int .u16 0] 30)) := by
  have hR := hr
  obtain ⟨⟨_, _⟩, ⟨_, _⟩, ⟨_, _⟩, ⟨_, _⟩, ⟨_, _⟩, ⟨_, _⟩, ⟨_, _⟩, ⟨_, _⟩⟩ := hr
  obtain ⟨z, hz, z0, z1, he⟩ := piece_step (A := y0) (x := y1) (lo := (((((y2 * 65536 + y3) * 65536 + y4) * 65536 + y5) * 65536 + y6) * 65536 + y7)) (B := 79228162514264337593543950336) (t := t) n0 h hk (by assumption) (by assumption) ht2 (by rw [show 127 - k - t = 96 from by omega]; rfl) (by omega) (by omega) (by omega) (show V8 y0 y1 y2 y3 y4 y5 y6 y7 = _ from by unfold V8; omega) hy
  refine ⟨k + 1, y0, z, y2, y3, y4, y5, y6, y7, by omega, by simp, ?_, ?_, by rw [hz]⟩
  · constructor <;> omega
  · rw [if_neg (by omega), show ((k + 1 : Nat) : Int) = (k : Int) + 1 from by omega, ← he]
    unfold V8
    omega
theorem ref_step_2 {v n : Int} {w : World} {k t : Nat} {y0 y1 y2 y3 y4 y5 y6 y7 : Int} (n0 : 0 ≤ n) (hk : k < 128) (h : n ≤ (k : Int)) (ht : 127 - k = t + 80) (ht2 : t ≤ 15) (hr : R8 y0 y1 y2 y3 y4 y5 y6 y7) (hy : V8 y0 y1 y2 y3 y4 y5 y6 y7 = (if (k : Int) ≤ n then v else v - tailOf v n + tailOf v k)) :
    RefMaskRel v n w (.int .i64 ((k : Int) + 1)) ((w.alloc (.cells #[.int .u16 y0, .int .u16 y1, .int .u16 (bits .andNot .u16 y2 (IntKind.u16.wrap (2 ^ t))), .int .u16 y3, .int .u16 y4, .int .u16 y5, .int .u16 y6, .int .u16 y7] 30)).alloc (.cells #[.int .u16 0, .int .u16 0, .int .u16 0, .int .u16 0, .int .u16 0, .int .u16 0, .int .u16 0, .int .u16 0] 30)) := by
  have hR := hr
  obtain ⟨⟨_, _⟩, ⟨_, _⟩, ⟨_, _⟩, ⟨_, _⟩, ⟨_, _⟩, ⟨_, _⟩, ⟨_, _⟩, ⟨_, _⟩⟩ := hr
  obtain ⟨z, hz, z0, z1, he⟩ := piece_step (A := (y0 * 65536 + y1)) (x := y2) (lo := ((((y3 * 65536 + y4) * 65536 + y5) * 65536 + y6) * 65536 + y7)) (B := 1208925819614629174706176) (t := t) n0 h hk (by assumption) (by assumption) ht2 (by rw [show 127 - k - t = 80 from by omega]; rfl) (by omega) (by omega) (by omega) (show V8 y0 y1 y2 y3 y4 y5 y6 y7 = _ from by unfold V8; omega) hy
  refine ⟨k + 1, y0, y1, z, y3, y4, y5, y6, y7, by omega, by simp, ?_, ?_, by rw [hz]⟩
  · constructor <;> omega
  · rw [if_neg (by omega), show ((k + 1 : Nat) : Int) = (k : Int) + 1 from by omega, ← he]
    unfold V8
    omega
theorem ref_step_3 {v n : Int} {w : World} {k t : Nat} {y0 y1 y2 y3 y4 y5 y6 y7 : Int} (n0 : 0 ≤ n) (hk : k < 128) (h : n ≤ (k : Int)) (ht : 127 - k = t + 64) (ht2 : t ≤ 15) (hr : R8 y0 y1 y2 y3 y4 y5 y6 y7) (hy : V8 y0 y1 y2 y3 y4 y5 y6 y7 = (if (k : Int) ≤ n then v else v - tailOf v n + tailOf v k)) :
    RefMaskRel v n w (.int .i64 ((k : Int) + 1)) ((w.alloc (.cells #[.int .u16 y0, .int .u16 y1, .int .u16 y2, .int .u16 (bits .andNot .u16 y3 (IntKind.u16.wrap (2 ^ t))), .int .u16 y4, .int .u16 y5, .int .u16 y6, .int .u16 y7] 30)).alloc (.cells #[.int .u16 0, .int .u16 0, .int .u16 0, .int .u16 0, .int .u16 0, .int .u16 0, .int .u16 0, .int .u16 0] 30)) := by
  have hR := hr
  obtain ⟨⟨_, _⟩, ⟨_, _⟩, ⟨_, _⟩, ⟨_, _⟩, ⟨_, _⟩, ⟨_, _⟩, ⟨_, _⟩, ⟨_, _⟩⟩ := hr
  obtain ⟨z, hz, z0, z1, he⟩ := piece_step (A := ((y0 * 65536 + y1) * 65536 + y2)) (x := y3) (lo := (((y4 * 65536 + y5) * 65536 + y6) * 65536 + y7)) (B := 18446744073709551616) (t := t) n0 h hk (by assumption) (by assumption) ht2 (by rw [show 127 - k - t = 64 from by omega]; rfl) (by omega) (by omega) (by omega) (show V8 y0 y1 y2 y3 y4 y5 y6 y7 = _ from by unfold V8; omega) hy
  refine ⟨k + 1, y0, y1, y2, z, y4, y5, y6, y7, by omega, by simp, ?_, ?_, by rw [hz]⟩
  · constructor <;> omega
  · rw [if_neg (by omega), show ((k + 1 : Nat) : Int) = (k : Int) + 1 from by omega, ← he]
    unfold V8
    omega
theorem ref_step_4 {v n : Int} {w : World} {k t : Nat} {y0 y1 y2 y3 y4 y5 y6 y7 : Int} (n0 : 0 ≤ n) (hk : k < 128) (h : n ≤ (k : Int)) (ht : 127 - k = t + 48) (ht2 : t ≤ 15) (hr : R8 y0 y1 y2 y3 y4 y5 y6 y7) (hy : V8 y0 y1 y2 y3 y4 y5 y6 y7 = (if (k : Int) ≤ n then v else v - tailOf v n + tailOf v k)) :
    RefMaskRel v n w (.int .i64 ((k : Int) + 1)) ((w.alloc (.cells #[.int .u16 y0, .int .u16 y1, .int .u16 y2, .int .u16 y3, .int .u16 (bits .andNot .u16 y4 (IntKind.u16.wrap (2 ^ t))), .int .u16 y5, .int .u16 y6, .int .u16 y7] 30)).alloc (.cells #[.int .u16 0, .int .u16 0, .int .u16 0, .int .u16 0, .int .u16 0, .int .u16 0, .int .u16 0, .int .u16 0] 30)) := by
  have hR := hr
  obtain ⟨⟨_, _⟩, ⟨_, _⟩, ⟨_, _⟩, ⟨_, _⟩, ⟨_, _⟩, ⟨_, _⟩, ⟨_, _⟩, ⟨_, _⟩⟩ := hr
  obtain ⟨z, hz, z0, z1, he⟩ := piece_step (A := (((y0 * 65536 + y1) * 65536 + y2) * 65536 + y3)) (x := y4) (lo := ((y5 * 65536 + y6) * 65536 + y7)) (B := 281474976710656) (t := t) n0 h hk (by assumption) (by assumption) ht2 (by rw [show 127 - k - t = 48 from by omega]; rfl) (by omega) (by omega) (by omega) (show V8 y0 y1 y2 y3 y4 y5 y6 y7 = _ from by unfold V8; omega) hy
  refine ⟨k + 1, y0, y1, y2, y3, z, y5, y6, y7, by omega, by simp, ?_, ?_, by rw [hz]⟩
  · constructor <;> omega
  · rw [if_neg (by omega), show ((k + 1 : Nat) : Int) = (k : Int) + 1 from by omega, ← he]
    unfold V8
    omega
theorem ref_step_5 {v n : Int} {w : World} {k t : Nat} {y0 y1 y2 y3 y4 y5 y6 y7 : Int} (n0 : 0 ≤ n) (hk : k < 128) (h : n ≤ (k : Int)) (ht : 127 - k = t + 32) (ht2 : t ≤ 15) (hr : R8 y0 y1 y2 y3 y4 y5 y6 y7) (hy : V8 y0 y1 y2 y3 y4 y5 y6 y7 = (if (k : Int) ≤ n then v else v - tailOf v n + tailOf v k)) :
    RefMaskRel v n w (.int .i64 ((k : Int) + 1)) ((w.alloc (.cells #[.int .u16 y0, .int .u16 y1, .int .u16 y2, .int .u16 y3, .int .u16 y4, .int .u16 (bits .andNot .u16 y5 (IntKind.u16.wrap (2 ^ t))), .int .u16 y6, .int .u16 y7] 30)).alloc (.cells #[.int .u16 0, .int .u16 0, .int .u16 0, .int .u16 0, .int .u16 0, .int .u16 0, .int .u16 0, .int .u16 0] 30)) := by
  have hR := hr
  obtain ⟨⟨_, _⟩, ⟨_, _⟩, ⟨_, _⟩, ⟨_, _⟩, ⟨_, _⟩, ⟨_, _⟩, ⟨_, _⟩, ⟨_, _⟩⟩ := hr
  obtain ⟨z, hz, z0, z1, he⟩ := piece_step (A := ((((y0 * 65536 + y1) * 65536 + y2) * 65536 + y3) * 65536 + y4)) (x := y5) (lo := (y6 * 65536 + y7)) (B := 4294967296) (t := t) n0 h hk (by assumption) (by assumption) ht2 (by rw [show 127 - k - t = 32 from by omega]; rfl) (by omega) (by omega) (by omega) (show V8 y0 y1 y2 y3 y4 y5 y6 y7 = _ from by unfold V8; omega) hy
  refine ⟨k + 1, y0, y1, y2, y3, y4, z, y6, y7, by omega, by simp, ?_, ?_, by rw [hz]⟩
  · constructor <;> omega
  · rw [if_neg (by omega), show ((k + 1 : Nat) : Int) = (k : Int) + 1 from by omega, ← he]
    unfold V8
    omega
theorem ref_step_6 {v n : Int} {w : World} {k t : Nat} {y0 y1 y2 y3 y4 y5 y6 y7 : Int} (n0 : 0 ≤ n) (hk : k < 128) (h : n ≤ (k : Int)) (ht : 127 - k = t + 16) (ht2 : t ≤ 15) (hr : R8 y0 y1 y2 y3 y4 y5 y6 y7) (hy : V8 y0 y1 y2 y3 y4 y5 y6 y7 = (if (k : Int) ≤ n then v else v - tailOf v n + tailOf v k)) :
    RefMaskRel v n w (.int .i64 ((k : Int) + 1)) ((w.alloc (.cells #[.int .u16 y0, .int .u16 y1, .int .u16 y2, .int .u16 y3, .int .u16 y4, .int .u16 y5, .int .u16 (bits .andNot .u16 y6 (IntKind.u16.wrap (2 ^ t))), .int .u16 y7] 30)).alloc (.cells #[.int .u16 0, .int .u16 0, .int .u16 0, .int .u16 0, .int .u16 0, .int .u16 0, .int .u16 0, .int .u16 0] 30)) := by
  have hR := hr
  obtain ⟨⟨_, _⟩, ⟨_, _⟩, ⟨_, _⟩, ⟨_, _⟩, ⟨_, _⟩, ⟨_, _⟩, ⟨_, _⟩, ⟨_, _⟩⟩ := hr
  obtain ⟨z, hz, z0, z1, he⟩ := piece_step (A := (((((y0 * 65536 + y1) * 65536 + y2) * 65536 + y3) * 65536 + y4) * 65536 + y5)) (x := y6) (lo := y7) (B := 65536) (t := t) n0 h hk (by assumption) (by assumption) ht2 (by rw [show 127 - k - t = 16 from by omega]; rfl) (by omega) (by omega) (by omega) (show V8 y0 y1 y2 y3 y4 y5 y6 y7 = _ from by unfold V8; omega) hy
  refine ⟨k + 1, y0, y1, y2, y3, y4, y5, z, y7, by omega, by simp, ?_, ?_, by rw [hz]⟩
  · constructor <;> omega
  · rw [if_neg (by omega), show ((k + 1 : Nat) : Int) = (k : Int) + 1 from by omega, ← he]
    unfold V8
    omega
theorem ref_step_7 {v n : Int} {w : World} {k t : Nat} {y0 y1 y2 y3 y4 y5 y6 y7 : Int} (n0 : 0 ≤ n) (hk : k < 128) (h : n ≤ (k : Int)) (ht : 127 - k = t + 0) (ht2 : t ≤ 15) (hr : R8 y0 y1 y2 y3 y4 y5 y6 y7) (hy : V8 y0 y1 y2 y3 y4 y5 y6 y7 = (if (k : Int) ≤ n then v else v - tailOf v n + tailOf v k)) :
    RefMaskRel v n w (.int .i64 ((k : Int) + 1)) ((w.alloc (.cells #[.int .u16 y0, .int .u16 y1, .int .u16 y2, .int .u16 y3, .int .u16 y4, .int .u16 y5, .int .u16 y6, .int .u16 (bits .andNot .u16 y7 (IntKind.u16.wrap (2 ^ t)))] 30)).alloc (.cells #[.int .u16 0, .int .u16 0, .int .u16 0, .int .u16 0, .int .u16 0, .int .u16 0, .int .u16 0, .int .u16 0] 30)) := by
  have hR := hr
  obtain ⟨⟨_, _⟩, ⟨_, _⟩, ⟨_, _⟩, ⟨_, _⟩, ⟨_, _⟩, ⟨_, _⟩, ⟨_, _⟩, ⟨_, _⟩⟩ := hr
  obtain ⟨z, hz, z0, z1, he⟩ := piece_step (A := ((((((y0 * 65536 + y1) * 65536 + y2) * 65536 + y3) * 65536 + y4) * 65536 + y5) * 65536 + y6)) (x := y7) (lo := 0) (B := 1) (t := t) n0 h hk (by assumption) (by assumption) ht2 (by rw [show 127 - k - t = 0 from by omega]; rfl) (by omega) (by omega) (by omega) (show V8 y0 y1 y2 y3 y4 y5 y6 y7 = _ from by unfold V8; omega) hy
  refine ⟨k + 1, y0, y1, y2, y3, y4, y5, y6, z, by omega, by simp, ?_, ?_, by rw [hz]⟩
  · constructor <;> omega
  · rw [if_neg (by omega), show ((k + 1 : Nat) : Int) = (k : Int) + 1 from by omega, ← he]
    unfold V8
    omega
set_option maxHeartbeats 1000000 in
set_option maxRecDepth 100000 in
theorem refMask_walk (x0 x1 x2 x3 x4 x5 x6 x7 : Int) (h : R8 x0 x1 x2 x3 x4 x5 x6 x7) (n : Int) (n0 : 0 ≤ n) (n1 : n ≤ 128) (w : World) :
    Calls Tryd.prog 62 #[A8 x0 x1 x2 x3 x4 x5 x6 x7, .int .i64 n] w (MaskPost (V8 x0 x1 x2 x3 x4 x5 x6 x7) n w) := by
  obtain ⟨v, hv⟩ : ∃ v, v = V8 x0 x1 x2 x3 x4 x5 x6 x7 := ⟨_, rfl⟩
  rw [← hv]
  go_enter Tryd.func62, Tryd.ntmps62
  go_wp2
  go_loopw [6] (fun i W => RefMaskRel v n w i W) (fun i _ => 128 - (intOf i).toNat)
  case atStart => exact ⟨0, x0, x1, x2, x3, x4, x5, x6, x7, by omega, rfl, h, by rw [if_pos (by simpa using n0), hv], rfl⟩
  case round =>
    obtain ⟨k, y0, y1, y2, y3, y4, y5, y6, y7, hk, rfl, hr, hy, rfl⟩ := hrel
    have HY := Lib.hid hy
    have HV := Lib.hid hv
    have HR := Lib.hid hr
    clear hy hv hr h
    by_cases hlt : k < 128
    · have hj : k / 16 = 0 ∨ k / 16 = 1 ∨ k / 16 = 2 ∨ k / 16 = 3 ∨ k / 16 = 4 ∨ k / 16 = 5 ∨ k / 16 = 6 ∨ k / 16 = 7 := by omega
      rcases hj with hj | hj | hj | hj | hj | hj | hj | hj
      · have hq : (k : Int) / 16 = 0 := by omega
        go_wp2
        · exact ⟨ref_step_0 n0 hlt (by assumption) (by omega) (by omega) HR.out HY.out, ref_meas hlt⟩
        · exact ⟨ref_none hlt (by assumption) HR.out HY.out, ref_meas hlt⟩
      · have hq : (k : Int) / 16 = 1 := by omega
        go_wp2
        · exact ⟨ref_step_1 n0 hlt (by assumption) (by omega) (by omega) HR.out HY.out, ref_meas hlt⟩
        · exact ⟨ref_none hlt (by assumption) HR.out HY.out, ref_meas hlt⟩
      · have hq : (k : Int) / 16 = 2 := by omega
        go_wp2
        · exact ⟨ref_step_2 n0 hlt (by assumption) (by omega) (by omega) HR.out HY.out, ref_meas hlt⟩
        · exact ⟨ref_none hlt (by assumption) HR.out HY.out, ref_meas hlt⟩
      · have hq : (k : Int) / 16 = 3 := by omega
        go_wp2
        · exact ⟨ref_step_3 n0 hlt (by assumption) (by omega) (by omega) HR.out HY.out, ref_meas hlt⟩
        · exact ⟨ref_none hlt (by assumption) HR.out HY.out, ref_meas hlt⟩
      · have hq : (k : Int) / 16 = 4 := by omega
        go_wp2
        · exact ⟨ref_step_4 n0 hlt (by assumption) (by omega) (by omega) HR.out HY.out, ref_meas hlt⟩
        · exact ⟨ref_none hlt (by assumption) HR.out HY.out, ref_meas hlt⟩
      · have hq : (k : Int) / 16 = 5 := by omega
        go_wp2
        · exact ⟨ref_step_5 n0 hlt (by assumption) (by omega) (by omega) HR.out HY.out, ref_meas hlt⟩
        · exact ⟨ref_none hlt (by assumption) HR.out HY.out, ref_meas hlt⟩
      · have hq : (k : Int) / 16 = 6 := by omega
        go_wp2
        · exact ⟨ref_step_6 n0 hlt (by assumption) (by omega) (by omega) HR.out HY.out, ref_meas hlt⟩
        · exact ⟨ref_none hlt (by assumption) HR.out HY.out, ref_meas hlt⟩
      · have hq : (k : Int) / 16 = 7 := by omega
        go_wp2
        · exact ⟨ref_step_7 n0 hlt (by assumption) (by omega) (by omega) HR.out HY.out, ref_meas hlt⟩
        · exact ⟨ref_none hlt (by assumption) HR.out HY.out, ref_meas hlt⟩
    · obtain rfl : k = 128 := by omega
      go_wp2
      go_returns
      refine mask_ret HR.out ?_ (by go_grown)
      have he := HY.out
      have ht : tailOf v (128 : Nat) = 0 := by unfold tailOf; rw [show (128 - ((128 : Nat) : Int)).toNat = 0 from by decide]; omega
      rw [ht] at he
      rw [he]
      split
      · have : n = (128 : Nat) := by omega
        subst this
        rw [ht]; omega
      · omega
end Go.Proofs.YtcgdjnmfeibnoaaDoor
/-! SixAll -/
namespace Go.Proofs.YtcgdjnmfeibnoaaDoor
open Go.RowKit
set_option linter.unusedVariables false
set_option linter.unusedSimpArgs false
def maskE (n : Int) : Int := if 0 ≤ n ∧ n ≤ 128 then 0 else 211
def maskV (v n : Int) : Int := if 0 ≤ n ∧ n ≤ 128 then v - tailOf v n else 0
/-- What Mask answers, of any bits. -/
def MaskAll (v n : Int) (w : World) (e : Ending) (w' : World) : Prop :=
  ∃ y0 y1 y2 y3 y4 y5 y6 y7 : Int, e = .returned (.tuple #[A8 y0 y1 y2 y3 y4 y5 y6 y7, .int .i64 (maskE n)]) ∧ R8 y0 y1 y2 y3 y4 y5 y6 y7 ∧
    V8 y0 y1 y2 y3 y4 y5 y6 y7 = maskV v n ∧ Below w.heap.size w w'
theorem R8_zero : R8 0 0 0 0 0 0 0 0 := ⟨by decide, by decide, by decide, by decide, by decide, by decide, by decide, by decide⟩
theorem mask_in_all {v n : Int} {w : World} {e : Ending} {w' : World} (n0 : 0 ≤ n) (n1 : n ≤ 128) (h : MaskPost v n w e w') : MaskAll v n w e w' := by
  obtain ⟨y0, y1, y2, y3, y4, y5, y6, y7, he, hr, hv, hb⟩ := h
  exact ⟨y0, y1, y2, y3, y4, y5, y6, y7, by rw [he, maskE, if_pos ⟨n0, n1⟩], hr, by rw [hv, maskV, if_pos ⟨n0, n1⟩], hb⟩
theorem mask_out_all {v n : Int} {w : World} {e : Ending} {w' : World} (hn : ¬ (0 ≤ n ∧ n ≤ 128)) (h : e = .returned (.tuple #[A8 0 0 0 0 0 0 0 0, .int .i64 211]) ∧ Below w.heap.size w w') : MaskAll v n w e w' :=
  ⟨0, 0, 0, 0, 0, 0, 0, 0, by rw [h.1, maskE, if_neg hn], R8_zero, by rw [maskV, if_neg hn]; rfl, h.2⟩
theorem mask_all (x0 x1 x2 x3 x4 x5 x6 x7 : Int) (h : R8 x0 x1 x2 x3 x4 x5 x6 x7) (n : Int) (w : World) :
    Calls Tryd.prog 61 #[A8 x0 x1 x2 x3 x4 x5 x6 x7, .int .i64 n] w (MaskAll (V8 x0 x1 x2 x3 x4 x5 x6 x7) n w) := by
  by_cases h0 : n < 0
  · exact (mask_less _ _ _ _ _ _ _ _ n h0 w).mono fun e w' hh => mask_out_all (by omega) hh
  by_cases h1 : 128 < n
  · exact (mask_more _ _ _ _ _ _ _ _ n h1 w).mono fun e w' hh => mask_out_all (by omega) hh
  · exact (mask_walk _ _ _ _ _ _ _ _ h n (by omega) (by omega) w).mono fun e w' hh => mask_in_all (by omega) (by omega) hh
set_option maxHeartbeats 1000000 in
set_option maxRecDepth 100000 in
theorem refMask_less (x0 x1 x2 x3 x4 x5 x6 x7 : Int) (n : Int) (n0 : n < 0) (w : World) :
    Calls Tryd.prog 62 #[A8 x0 x1 x2 x3 x4 x5 x6 x7, .int .i64 n] w fun e w' => e = .returned (.tuple #[A8 0 0 0 0 0 0 0 0, .int .i64 211]) ∧ Below w.heap.size w w' := by
  go_enter Tryd.func62, Tryd.ntmps62
  go_wp2
  go_returns
  exact ⟨rfl, by go_grown⟩
set_option maxHeartbeats 1000000 in
set_option maxRecDepth 100000 in
theorem refMask_more (x0 x1 x2 x3 x4 x5 x6 x7 : Int) (n : Int) (n0 : 128 < n) (w : World) :
    Calls Tryd.prog 62 #[A8 x0 x1 x2 x3 x4 x5 x6 x7, .int .i64 n] w fun e w' => e = .returned (.tuple #[A8 0 0 0 0 0 0 0 0, .int .i64 211]) ∧ Below w.heap.size w w' := by
  go_enter Tryd.func62, Tryd.ntmps62
  go_wp2
  go_returns
  exact ⟨rfl, by go_grown⟩
theorem refMask_all (x0 x1 x2 x3 x4 x5 x6 x7 : Int) (h : R8 x0 x1 x2 x3 x4 x5 x6 x7) (n : Int) (w : World) :
    Calls Tryd.prog 62 #[A8 x0 x1 x2 x3 x4 x5 x6 x7, .int .i64 n] w (MaskAll (V8 x0 x1 x2 x3 x4 x5 x6 x7) n w) := by
  by_cases h0 : n < 0
  · exact (refMask_less _ _ _ _ _ _ _ _ n h0 w).mono fun e w' hh => mask_out_all (by omega) hh
  by_cases h1 : 128 < n
  · exact (refMask_more _ _ _ _ _ _ _ _ n h1 w).mono fun e w' hh => mask_out_all (by omega) hh
  · exact (refMask_walk _ _ _ _ _ _ _ _ h n (by omega) (by omega) w).mono fun e w' hh => mask_in_all (by omega) (by omega) hh
end Go.Proofs.YtcgdjnmfeibnoaaDoor
/-! SixCoverV -/
namespace Go.Proofs.YtcgdjnmfeibnoaaDoor
open Go.RowKit
set_option linter.unusedVariables false
set_option linter.unusedSimpArgs false
/-- The pieces of a number. -/
def pc (i : Nat) (v : Int) : Int := v / 65536 ^ (7 - i) % 65536
theorem pc_range (i : Nat) (v : Int) : 0 ≤ pc i v ∧ pc i v ≤ 65535 := by unfold pc; omega
/-- A number of 128 bits. -/
def Wide (v : Int) : Prop := 0 ≤ v ∧ v < 340282366920938463463374607431768211456
theorem v8_wide {x0 x1 x2 x3 x4 x5 x6 x7 : Int} (h : R8 x0 x1 x2 x3 x4 x5 x6 x7) : Wide (V8 x0 x1 x2 x3 x4 x5 x6 x7) := by
  obtain ⟨⟨_, _⟩, ⟨_, _⟩, ⟨_, _⟩, ⟨_, _⟩, ⟨_, _⟩, ⟨_, _⟩, ⟨_, _⟩, ⟨_, _⟩⟩ := h
  unfold Wide V8
  omega
theorem pc_of {x0 x1 x2 x3 x4 x5 x6 x7 : Int} (h : R8 x0 x1 x2 x3 x4 x5 x6 x7) {v : Int} (hv : V8 x0 x1 x2 x3 x4 x5 x6 x7 = v) :
    x0 = pc 0 v ∧ x1 = pc 1 v ∧ x2 = pc 2 v ∧ x3 = pc 3 v ∧ x4 = pc 4 v ∧ x5 = pc 5 v ∧ x6 = pc 6 v ∧ x7 = pc 7 v := by
  obtain ⟨⟨_, _⟩, ⟨_, _⟩, ⟨_, _⟩, ⟨_, _⟩, ⟨_, _⟩, ⟨_, _⟩, ⟨_, _⟩, ⟨_, _⟩⟩ := h
  subst hv
  unfold V8 pc
  simp only [show (65536 : Int) ^ (7 - 0) = 5192296858534827628530496329220096 from by decide, show (65536 : Int) ^ (7 - 1) = 79228162514264337593543950336 from by decide, show (65536 : Int) ^ (7 - 2) = 1208925819614629174706176 from by decide,
    show (65536 : Int) ^ (7 - 3) = 18446744073709551616 from by decide, show (65536 : Int) ^ (7 - 4) = 281474976710656 from by decide, show (65536 : Int) ^ (7 - 5) = 4294967296 from by decide, show (65536 : Int) ^ (7 - 6) = 65536 from by decide, show (65536 : Int) ^ (7 - 7) = 1 from by decide]
  refine ⟨?_, ?_, ?_, ?_, ?_, ?_, ?_, ?_⟩ <;> omega
theorem pc_r8 (v : Int) : R8 (pc 0 v) (pc 1 v) (pc 2 v) (pc 3 v) (pc 4 v) (pc 5 v) (pc 6 v) (pc 7 v) :=
  ⟨pc_range _ _, pc_range _ _, pc_range _ _, pc_range _ _, pc_range _ _, pc_range _ _, pc_range _ _, pc_range _ _⟩
theorem pc_v8 {v : Int} (h : Wide v) : V8 (pc 0 v) (pc 1 v) (pc 2 v) (pc 3 v) (pc 4 v) (pc 5 v) (pc 6 v) (pc 7 v) = v := by
  obtain ⟨h0, h1⟩ := h
  unfold V8 pc
  simp only [show (65536 : Int) ^ (7 - 0) = 5192296858534827628530496329220096 from by decide, show (65536 : Int) ^ (7 - 1) = 79228162514264337593543950336 from by decide, show (65536 : Int) ^ (7 - 2) = 1208925819614629174706176 from by decide,
    show (65536 : Int) ^ (7 - 3) = 18446744073709551616 from by decide, show (65536 : Int) ^ (7 - 4) = 281474976710656 from by decide, show (65536 : Int) ^ (7 - 5) = 4294967296 from by decide, show (65536 : Int) ^ (7 - 6) = 65536 from by decide, show (65536 : Int) ^ (7 - 7) = 1 from by decide]
  omega
/-- A prefix of so many bits begins at f and does not go beyond t. -/
def OkKeep (f t : Int) (k : Nat) : Prop := f % 2 ^ (128 - k) = 0 ∧ f + 2 ^ (128 - k) - 1 ≤ t
instance (f t : Int) (k : Nat) : Decidable (OkKeep f t k) := inferInstanceAs (Decidable (_ ∧ _))
/-- The widest such prefix. -/
structure Keep (f t : Int) (k : Nat) : Prop where
  le : k ≤ 128
  ok : OkKeep f t k
  least : ∀ j, j < k → ¬ OkKeep f t j
theorem ok_last {f t : Int} (h : f ≤ t) : OkKeep f t 128 := by
  unfold OkKeep
  rw [show (2 : Int) ^ (128 - 128) = 1 from by decide]
  omega
theorem Keep.one {f t : Int} {j k : Nat} (h : Keep f t j) (g : Keep f t k) : j = k := by
  rcases Nat.lt_trichotomy j k with c | c | c
  · exact absurd h.ok (g.least j c)
  · exact c
  · exact absurd g.ok (h.least k c)
def keepFrom (f t : Int) : Nat → Nat → Nat
  | 0, k => k
  | n + 1, k => if OkKeep f t k then k else keepFrom f t n (k + 1)
theorem keepFrom_keep {f t : Int} (h : f ≤ t) : ∀ n k, n + k = 128 → (∀ j, j < k → ¬ OkKeep f t j) → Keep f t (keepFrom f t n k)
  | 0, k, e, hl => by
    obtain rfl : k = 128 := by omega
    exact ⟨Nat.le_refl _, ok_last h, hl⟩
  | n + 1, k, e, hl => by
    unfold keepFrom
    split
    · rename_i hk
      exact ⟨by omega, hk, hl⟩
    · rename_i hk
      refine keepFrom_keep h n (k + 1) (by omega) fun j hj => ?_
      by_cases hjk : j = k
      · subst hjk; exact hk
      · exact hl j (by omega)
def keepOf (f t : Int) : Nat := keepFrom f t 128 0
theorem keepOf_keep {f t : Int} (h : f ≤ t) : Keep f t (keepOf f t) := keepFrom_keep h 128 0 rfl fun j hj => absurd hj (Nat.not_lt_zero j)
/-- The fewest prefixes from f to t. -/
def coverL (f t : Int) : List (Int × Nat) := (f, keepOf f t) :: (if f + 2 ^ (128 - keepOf f t) ≤ t then coverL (f + 2 ^ (128 - keepOf f t)) t else [])
  termination_by (t + 1 - f).toNat
  decreasing_by have := pow_pos2 (128 - keepOf f t); omega
theorem coverL_more {f t : Int} {k : Nat} (hf : f ≤ t) (hk : Keep f t k) (h : f + 2 ^ (128 - k) ≤ t) : coverL f t = (f, k) :: coverL (f + 2 ^ (128 - k)) t := by
  obtain rfl := (keepOf_keep hf).one hk
  rw [coverL, if_pos h]
theorem coverL_last {f t : Int} {k : Nat} (hf : f ≤ t) (hk : Keep f t k) (h : ¬ f + 2 ^ (128 - k) ≤ t) : coverL f t = [(f, k)] := by
  obtain rfl := (keepOf_keep hf).one hk
  rw [coverL, if_neg h]
theorem pow_le_pow {a b : Nat} (h : a ≤ b) : (2 : Int) ^ a ≤ 2 ^ b := by
  have := Nat.pow_le_pow_right (n := 2) (by omega) h
  have h : ((2 ^ a : Nat) : Int) ≤ ((2 ^ b : Nat) : Int) := by exact_mod_cast this
  simpa using h
theorem pow_lt_pow {a b : Nat} (h : (2 : Int) ^ a < 2 ^ b) : a < b := by
  rcases Nat.lt_or_ge a b with c | c
  · exact c
  · have := pow_le_pow c; omega
theorem mod_less {f : Int} {a b : Nat} (h : a ≤ b) (hz : f % 2 ^ b = 0) : f % 2 ^ a = 0 := by
  obtain ⟨d, rfl⟩ : ∃ d, b = a + d := ⟨b - a, by omega⟩
  rw [pow_add2] at hz
  have e := Int.mul_ediv_add_emod f (2 ^ a * 2 ^ d)
  rw [hz, Int.add_zero, Int.mul_assoc] at e
  rw [← e]
  exact Int.mul_emod_right _ _
/-- How many prefixes there may be ahead of f: an invariant. -/
def Phase (k : Nat) (f t : Int) : Prop := (k ≤ 128 ∧ f % 2 ^ k = 0) ∨ ∃ m : Nat, m ≤ 128 ∧ t + 1 - f < 2 ^ m ∧ f % 2 ^ m = 0 ∧ k + m ≤ 257
theorem Phase.le {k : Nat} {f t : Int} (h : Phase k f t) : k ≤ 257 := by
  rcases h with h | ⟨m, _, _, _, h⟩ <;> omega
theorem add_mod {f : Int} {s : Nat} (h : f % 2 ^ s = 0) : (f + 2 ^ s) % 2 ^ s = 0 := by simp [h]
theorem Phase.step {k q : Nat} {f t : Int} (h0 : 0 ≤ f) (ht : t < 340282366920938463463374607431768211456) (h : Phase k f t) (hq : Keep f t q) (hm : f + 2 ^ (128 - q) ≤ t) : Phase (k + 1) (f + 2 ^ (128 - q)) t := by
  obtain ⟨hqle, ⟨ho1, ho2⟩, hl⟩ := hq
  obtain ⟨s, hs⟩ : ∃ s, s = 128 - q := ⟨_, rfl⟩
  rw [← hs] at ho1 ho2 hm ⊢
  have hs1 : s ≤ 128 := by omega
  -- one bit more does not serve
  have hmax : s < 128 → f % 2 ^ (s + 1) = 0 → t + 1 - f < 2 ^ (s + 1) := by
    intro hs2 hz
    have := hl (q - 1) (by omega)
    unfold OkKeep at this
    rw [show 128 - (q - 1) = s + 1 from by omega] at this
    rcases Int.lt_or_le (t + 1 - f) (2 ^ (s + 1)) with c | c
    · exact c
    · exact absurd ⟨hz, by omega⟩ this
  have e2 : (2 : Int) ^ (s + 1) = 2 * 2 ^ s := by rw [Int.pow_succ]; omega
  have hp := pow_pos2 s
  have hs128 : s < 128 := by
    rcases Nat.lt_or_ge s 128 with c | c
    · exact c
    · obtain rfl : s = 128 := by omega
      rw [show (2 : Int) ^ 128 = 340282366920938463463374607431768211456 from by decide] at hm
      omega
  have two : t + 1 - f < 2 ^ (s + 1) → k + 1 + s ≤ 257 → Phase (k + 1) (f + 2 ^ s) t := fun c d => Or.inr ⟨s, hs1, by omega, add_mod ho1, d⟩
  rcases h with ⟨a1, a2⟩ | ⟨m, b1, b2, b3, b4⟩
  · by_cases hz : f % 2 ^ (s + 1) = 0
    · exact two (hmax hs128 hz) (by omega)
    · have hks : k ≤ s := by
        rcases Nat.lt_or_ge s k with c | c
        · exact absurd (mod_less (show s + 1 ≤ k by omega) a2) hz
        · exact c
      refine Or.inl ⟨by omega, mod_less (show k + 1 ≤ s + 1 by omega) ?_⟩
      have g1 := Int.mul_ediv_add_emod f (2 ^ s)
      rw [ho1, Int.add_zero] at g1
      generalize f / 2 ^ s = d at g1
      have g2 : d % 2 = 1 := by
        rcases (show d % 2 = 0 ∨ d % 2 = 1 by omega) with c | c
        · exfalso
          apply hz
          rw [← g1, Int.pow_succ, Int.mul_emod_mul_of_pos _ _ hp, c, Int.mul_zero]
        · exact c
      have g3 : f + 2 ^ s = 2 ^ s * (d + 1) := by rw [Int.mul_add, g1, Int.mul_one]
      rw [g3, Int.pow_succ, Int.mul_emod_mul_of_pos _ _ hp, show (d + 1) % 2 = 0 from by omega, Int.mul_zero]
  · have hsm : s < m := pow_lt_pow (by omega)
    exact two (hmax hs128 (mod_less (show s + 1 ≤ m by omega) b3)) (by omega)
end Go.Proofs.YtcgdjnmfeibnoaaDoor
/-! SixRefPre -/
namespace Go.Proofs.YtcgdjnmfeibnoaaDoor
open Go.RowKit
set_option linter.unusedVariables false
set_option linter.unusedSimpArgs false
abbrev P9 (x0 x1 x2 x3 x4 x5 x6 x7 n : Int) : Value := .agg #[.int .u16 x0, .int .u16 x1, .int .u16 x2, .int .u16 x3, .int .u16 x4, .int .u16 x5, .int .u16 x6, .int .u16 x7, .int .i64 n]
/-- Is it a prefix? -/
def isPre (v n : Int) : Bool := decide (0 ≤ n ∧ n ≤ 128 ∧ tailOf v n = 0)
set_option maxHeartbeats 1000000 in
set_option maxRecDepth 100000 in
theorem refIsPrefix_walk (x0 x1 x2 x3 x4 x5 x6 x7 : Int) (h : R8 x0 x1 x2 x3 x4 x5 x6 x7) (n : Int) (w : World) :
    Calls Tryd.prog 26 #[P9 x0 x1 x2 x3 x4 x5 x6 x7 n] w fun e w' => e = .returned (.bool (isPre (V8 x0 x1 x2 x3 x4 x5 x6 x7) n)) ∧ Below w.heap.size w w' := by
  go_enter Tryd.func26, Tryd.ntmps26
  go_wp2_with fail
  refine (refMask_all _ _ _ _ _ _ _ _ h n _).mono ?_
  rintro e w1 ⟨y0, y1, y2, y3, y4, y5, y6, y7, rfl, hy, hv, hb1⟩
  have B1 : Below w.heap.size w w1 := chain (by go_grown) hb1
  obtain ⟨hc1, _, hs1⟩ := after hb1
  simp only [World.size_alloc] at hs1
  have l0 : w.heap.size < w1.heap.size := by omega
  have HV := Lib.hid hv
  clear hv hs1
  by_cases hn : 0 ≤ n ∧ n ≤ 128
  · rw [show maskE n = 0 from if_pos hn]
    go_wp2_with fail
    go_returns
    rw [eq8_dec hy h, HV.out, maskV, if_pos hn]
    refine ⟨ret_bool ?_, B1.alloc B1.size _⟩
    unfold isPre
    rw [decide_eq_decide]
    omega
  · rw [show maskE n = 211 from if_neg hn]
    go_wp2_with fail
    go_returns
    refine ⟨ret_bool ?_, B1.alloc B1.size _⟩
    rw [show isPre (V8 x0 x1 x2 x3 x4 x5 x6 x7) n = false from decide_eq_false (by omega)]
/-- The pieces of a number, as the document has it. -/
abbrev AV (v : Int) : Value := A8 (pc 0 v) (pc 1 v) (pc 2 v) (pc 3 v) (pc 4 v) (pc 5 v) (pc 6 v) (pc 7 v)
abbrev PV (v n : Int) : Value := P9 (pc 0 v) (pc 1 v) (pc 2 v) (pc 3 v) (pc 4 v) (pc 5 v) (pc 6 v) (pc 7 v) n
theorem isPre_mod {v : Int} {k : Nat} (hk : k ≤ 128) : isPre v k = decide (v % 2 ^ (128 - k) = 0) := by
  unfold isPre tailOf
  rw [decide_eq_decide, show (128 - (k : Int)).toNat = 128 - k from by omega]
  omega
end Go.Proofs.YtcgdjnmfeibnoaaDoor
/-! SixIs -/
namespace Go.Proofs.YtcgdjnmfeibnoaaDoor
open Go.RowKit
set_option linter.unusedVariables false
set_option linter.unusedSimpArgs false
set_option maxHeartbeats 1000000 in
set_option maxRecDepth 100000 in
theorem is_walk (x0 x1 x2 x3 x4 x5 x6 x7 : Int) (h : R8 x0 x1 x2 x3 x4 x5 x6 x7) (n : Int) (w : World) :
    Calls Tryd.prog 52 #[P9 x0 x1 x2 x3 x4 x5 x6 x7 n] w fun e w' => e = .returned (.bool (isPre (V8 x0 x1 x2 x3 x4 x5 x6 x7) n)) ∧ Below w.heap.size w w' := by
  go_enter Tryd.func52, Tryd.ntmps52
  go_wp2_with fail
  refine (mask_all _ _ _ _ _ _ _ _ h n _).mono ?_
  rintro e w1 ⟨y0, y1, y2, y3, y4, y5, y6, y7, rfl, hy, hv, hb1⟩
  have B1 : Below w.heap.size w w1 := chain (by go_grown) hb1
  obtain ⟨hc1, _, hs1⟩ := after hb1
  simp only [World.size_alloc] at hs1
  have l0 : w.heap.size < w1.heap.size := by omega
  have HV := Lib.hid hv
  clear hv hs1
  by_cases hn : 0 ≤ n ∧ n ≤ 128
  · rw [show maskE n = 0 from if_pos hn]
    go_wp2_with fail
    go_returns
    rw [eq8_dec hy h, HV.out, maskV, if_pos hn]
    refine ⟨ret_bool ?_, B1.alloc B1.size _⟩
    unfold isPre
    rw [decide_eq_decide]
    omega
  · rw [show maskE n = 211 from if_neg hn]
    go_wp2_with fail
    go_returns
    refine ⟨ret_bool ?_, B1.alloc B1.size _⟩
    rw [show isPre (V8 x0 x1 x2 x3 x4 x5 x6 x7) n = false from decide_eq_false (by omega)]
end Go.Proofs.YtcgdjnmfeibnoaaDoor
/-! SixWide -/
namespace Go.Proofs.YtcgdjnmfeibnoaaDoor
open Go.RowKit
set_option linter.unusedVariables false
set_option linter.unusedSimpArgs false
/-- The number of four pieces. -/
def Q4 (x0 x1 x2 x3 : Int) : Int := ((x0 * 65536 + x1) * 65536 + x2) * 65536 + x3
abbrev W2 (h l : Int) : Value := .agg #[.int .u64 h, .int .u64 l]
/-- A word of 64 bits. -/
def Word (x : Int) : Prop := 0 ≤ x ∧ x < 18446744073709551616
/-- The number of two words. -/
def N2 (h l : Int) : Int := h * 18446744073709551616 + l
@[go_sem] theorem at8_0 (x0 x1 x2 x3 x4 x5 x6 x7 : Int) (w : World) : (Instr.index 24 (A8 x0 x1 x2 x3 x4 x5 x6 x7) (.int .i64 0)).run Tryd.prog w = .ok (.int .u16 x0) w := by
  change _ = _
  kernel_rfl
@[go_sem] theorem at8_1 (x0 x1 x2 x3 x4 x5 x6 x7 : Int) (w : World) : (Instr.index 24 (A8 x0 x1 x2 x3 x4 x5 x6 x7) (.int .i64 1)).run Tryd.prog w = .ok (.int .u16 x1) w := by
  change _ = _
  kernel_rfl
@[go_sem] theorem at8_2 (x0 x1 x2 x3 x4 x5 x6 x7 : Int) (w : World) : (Instr.index 24 (A8 x0 x1 x2 x3 x4 x5 x6 x7) (.int .i64 2)).run Tryd.prog w = .ok (.int .u16 x2) w := by
  change _ = _
  kernel_rfl
@[go_sem] theorem at8_3 (x0 x1 x2 x3 x4 x5 x6 x7 : Int) (w : World) : (Instr.index 24 (A8 x0 x1 x2 x3 x4 x5 x6 x7) (.int .i64 3)).run Tryd.prog w = .ok (.int .u16 x3) w := by
  change _ = _
  kernel_rfl
@[go_sem] theorem at8_4 (x0 x1 x2 x3 x4 x5 x6 x7 : Int) (w : World) : (Instr.index 24 (A8 x0 x1 x2 x3 x4 x5 x6 x7) (.int .i64 4)).run Tryd.prog w = .ok (.int .u16 x4) w := by
  change _ = _
  kernel_rfl
@[go_sem] theorem at8_5 (x0 x1 x2 x3 x4 x5 x6 x7 : Int) (w : World) : (Instr.index 24 (A8 x0 x1 x2 x3 x4 x5 x6 x7) (.int .i64 5)).run Tryd.prog w = .ok (.int .u16 x5) w := by
  change _ = _
  kernel_rfl
@[go_sem] theorem at8_6 (x0 x1 x2 x3 x4 x5 x6 x7 : Int) (w : World) : (Instr.index 24 (A8 x0 x1 x2 x3 x4 x5 x6 x7) (.int .i64 6)).run Tryd.prog w = .ok (.int .u16 x6) w := by
  change _ = _
  kernel_rfl
@[go_sem] theorem at8_7 (x0 x1 x2 x3 x4 x5 x6 x7 : Int) (w : World) : (Instr.index 24 (A8 x0 x1 x2 x3 x4 x5 x6 x7) (.int .i64 7)).run Tryd.prog w = .ok (.int .u16 x7) w := by
  change _ = _
  kernel_rfl
theorem nat_or_add (k x y : Nat) (hx : x % 2 ^ k = 0) (hy : y < 2 ^ k) : x ||| y = x + y := nat_join k x y hx hy
theorem or16_64 (h x : Int) (h0 : 0 ≤ h) (h1 : h < 281474976710656) (x0 : 0 ≤ x) (x1 : x ≤ 65535) : bits .or .u64 (IntKind.u64.wrap (h * 65536)) (IntKind.u64.wrap x) = h * 65536 + x := by
  rw [IntKind.wrap_u64, IntKind.wrap_u64, show h * 65536 % 18446744073709551616 = h * 65536 from by omega, show x % 18446744073709551616 = x from by omega, u64_or _ _ (by omega) (by omega) (by omega) (by omega)]
  obtain ⟨a, rfl⟩ := Int.eq_ofNat_of_zero_le h0
  obtain ⟨b, rfl⟩ := Int.eq_ofNat_of_zero_le x0
  rw [show ((a : Int) * 65536).toNat = a * 65536 from by omega, Int.toNat_natCast, nat_join16 _ _ (by omega) (by omega)]
  omega
theorem or0_64 (x : Int) (x0 : 0 ≤ x) (x1 : x ≤ 65535) : bits .or .u64 0 (IntKind.u64.wrap x) = x := by
  have := or16_64 0 x (by omega) (by omega) x0 x1
  simpa [IntKind.wrap_u64] using this
theorem or_q4 (x0 x1 x2 x3 : Int) (h0 : 0 ≤ x0 ∧ x0 ≤ 65535) (h1 : 0 ≤ x1 ∧ x1 ≤ 65535) (h2 : 0 ≤ x2 ∧ x2 ≤ 65535) (h3 : 0 ≤ x3 ∧ x3 ≤ 65535) :
    bits .or .u64 (IntKind.u64.wrap (bits .or .u64 (IntKind.u64.wrap (bits .or .u64 (IntKind.u64.wrap (bits .or .u64 0 (IntKind.u64.wrap x0) * 65536)) (IntKind.u64.wrap x1) * 65536)) (IntKind.u64.wrap x2) * 65536)) (IntKind.u64.wrap x3) = Q4 x0 x1 x2 x3 := by
  rw [or0_64 x0 h0.1 h0.2, or16_64 _ _ (by omega) (by omega) h1.1 h1.2, or16_64 _ _ (by omega) (by omega) h2.1 h2.2, or16_64 _ _ (by omega) (by omega) h3.1 h3.2]
  rfl
theorem q4_word {x0 x1 x2 x3 : Int} (h0 : 0 ≤ x0 ∧ x0 ≤ 65535) (h1 : 0 ≤ x1 ∧ x1 ≤ 65535) (h2 : 0 ≤ x2 ∧ x2 ≤ 65535) (h3 : 0 ≤ x3 ∧ x3 ≤ 65535) : Word (Q4 x0 x1 x2 x3) := by unfold Word Q4; omega
theorem n2_v8 (x0 x1 x2 x3 x4 x5 x6 x7 : Int) : N2 (Q4 x0 x1 x2 x3) (Q4 x4 x5 x6 x7) = V8 x0 x1 x2 x3 x4 x5 x6 x7 := by unfold N2 Q4 V8; omega
theorem ret_two {a b c d : Int} (h1 : a = c) (h2 : b = d) : Ending.returned (W2 a b) = .returned (W2 c d) := by rw [h1, h2]
set_option maxHeartbeats 4000000 in
set_option maxRecDepth 100000 in
theorem wideOf_walk (x0 x1 x2 x3 x4 x5 x6 x7 : Int) (h : R8 x0 x1 x2 x3 x4 x5 x6 x7) (w : World) :
    Calls Tryd.prog 39 #[A8 x0 x1 x2 x3 x4 x5 x6 x7] w fun e w' => e = .returned (W2 (Q4 x0 x1 x2 x3) (Q4 x4 x5 x6 x7)) ∧ Below w.heap.size w w' := by
  go_enter Tryd.func39, Tryd.ntmps39
  go_wp2
  refine wp_loop_rounds 9 ?_
  iterate 8 (rw [rounds_succ]; go_wp2)
  rw [rounds_succ]
  go_wp2
  go_returns
  exact ⟨ret_two (or_q4 _ _ _ _ h.h0 h.h1 h.h2 h.h3) (or_q4 _ _ _ _ h.h4 h.h5 h.h6 h.h7), by go_grown⟩
/-- One piece is taken off at the right. -/
theorem or48 (h l : Int) (hh : Word h) (hl : Word l) : bits .or .u64 (l / 65536) (IntKind.u64.wrap (h * 281474976710656)) = h % 65536 * 281474976710656 + l / 65536 := by
  obtain ⟨h0, h1⟩ := hh
  obtain ⟨l0, l1⟩ := hl
  rw [IntKind.wrap_u64, show h * 281474976710656 % 18446744073709551616 = h % 65536 * 281474976710656 from by omega, u64_or _ _ (by omega) (by omega) (by omega) (by omega)]
  obtain ⟨a, rfl⟩ := Int.eq_ofNat_of_zero_le h0
  obtain ⟨b, rfl⟩ := Int.eq_ofNat_of_zero_le l0
  rw [show ((a : Int) % 65536 * 281474976710656).toNat = a % 65536 * 281474976710656 from by omega, show ((b : Int) / 65536).toNat = b / 65536 from by omega, Nat.or_comm, nat_or_add 48 _ _ (by omega) (by omega)]
  omega
theorem shr_step {h l h' l' : Int} (hh : Word h) (hl : Word l) (e1 : h / 65536 = h') (e2 : h % 65536 * 281474976710656 + l / 65536 = l') : Word h' ∧ Word l' ∧ N2 h l = N2 h' l' * 65536 + l % 65536 := by
  obtain ⟨h0, h1⟩ := hh
  obtain ⟨l0, l1⟩ := hl
  unfold Word N2
  omega
set_option maxHeartbeats 4000000 in
set_option maxRecDepth 100000 in
theorem wsix_walk (h0 l0 : Int) (hh0 : Word h0) (hl0 : Word l0) (w : World) :
    Calls Tryd.prog 64 #[W2 h0 l0] w fun e w' => ∃ y0 y1 y2 y3 y4 y5 y6 y7 : Int, e = .returned (A8 y0 y1 y2 y3 y4 y5 y6 y7) ∧ R8 y0 y1 y2 y3 y4 y5 y6 y7 ∧ V8 y0 y1 y2 y3 y4 y5 y6 y7 = N2 h0 l0 ∧ Below w.heap.size w w' := by
  go_enter Tryd.func64, Tryd.ntmps64
  go_wp2
  refine wp_loop_rounds 9 ?_
  rw [rounds_succ]
  go_wp2
  rw [or48 h0 l0 hh0 hl0]
  generalize e0 : h0 / 65536 = h1
  generalize f0 : h0 % 65536 * 281474976710656 + l0 / 65536 = l1
  obtain ⟨hh1, hl1, g0⟩ := shr_step hh0 hl0 e0 f0
  clear e0 f0
  have G0 := Lib.hid g0
  clear g0
  rw [rounds_succ]
  go_wp2
  rw [or48 h1 l1 hh1 hl1]
  generalize e1 : h1 / 65536 = h2
  generalize f1 : h1 % 65536 * 281474976710656 + l1 / 65536 = l2
  obtain ⟨hh2, hl2, g1⟩ := shr_step hh1 hl1 e1 f1
  clear e1 f1
  have G1 := Lib.hid g1
  clear g1
  rw [rounds_succ]
  go_wp2
  rw [or48 h2 l2 hh2 hl2]
  generalize e2 : h2 / 65536 = h3
  generalize f2 : h2 % 65536 * 281474976710656 + l2 / 65536 = l3
  obtain ⟨hh3, hl3, g2⟩ := shr_step hh2 hl2 e2 f2
  clear e2 f2
  have G2 := Lib.hid g2
  clear g2
  rw [rounds_succ]
  go_wp2
  rw [or48 h3 l3 hh3 hl3]
  generalize e3 : h3 / 65536 = h4
  generalize f3 : h3 % 65536 * 281474976710656 + l3 / 65536 = l4
  obtain ⟨hh4, hl4, g3⟩ := shr_step hh3 hl3 e3 f3
  clear e3 f3
  have G3 := Lib.hid g3
  clear g3
  rw [rounds_succ]
  go_wp2
  rw [or48 h4 l4 hh4 hl4]
  generalize e4 : h4 / 65536 = h5
  generalize f4 : h4 % 65536 * 281474976710656 + l4 / 65536 = l5
  obtain ⟨hh5, hl5, g4⟩ := shr_step hh4 hl4 e4 f4
  clear e4 f4
  have G4 := Lib.hid g4
  clear g4
  rw [rounds_succ]
  go_wp2
  rw [or48 h5 l5 hh5 hl5]
  generalize e5 : h5 / 65536 = h6
  generalize f5 : h5 % 65536 * 281474976710656 + l5 / 65536 = l6
  obtain ⟨hh6, hl6, g5⟩ := shr_step hh5 hl5 e5 f5
  clear e5 f5
  have G5 := Lib.hid g5
  clear g5
  rw [rounds_succ]
  go_wp2
  rw [or48 h6 l6 hh6 hl6]
  generalize e6 : h6 / 65536 = h7
  generalize f6 : h6 % 65536 * 281474976710656 + l6 / 65536 = l7
  obtain ⟨hh7, hl7, g6⟩ := shr_step hh6 hl6 e6 f6
  clear e6 f6
  have G6 := Lib.hid g6
  clear g6
  rw [rounds_succ]
  go_wp2
  rw [or48 h7 l7 hh7 hl7]
  generalize e7 : h7 / 65536 = h8
  generalize f7 : h7 % 65536 * 281474976710656 + l7 / 65536 = l8
  obtain ⟨hh8, hl8, g7⟩ := shr_step hh7 hl7 e7 f7
  clear e7 f7
  have G7 := Lib.hid g7
  clear g7
  rw [rounds_succ]
  go_wp2
  go_returns
  refine ⟨_, _, _, _, _, _, _, _, rfl, ?_, ?_, by go_grown⟩
  · simp only [IntKind.wrap_u16]
    constructor <;> omega
  · simp only [IntKind.wrap_u16]
    have g0 := G0.out
    have g1 := G1.out
    have g2 := G2.out
    have g3 := G3.out
    have g4 := G4.out
    have g5 := G5.out
    have g6 := G6.out
    have g7 := G7.out
    obtain ⟨_, _⟩ := hh0
    obtain ⟨_, _⟩ := hl0
    have z : N2 h8 l8 = 0 := by
      unfold N2 at *
      unfold Word at *
      omega
    rw [z] at g7
    unfold V8
    omega
set_option maxHeartbeats 1000000 in
set_option maxRecDepth 100000 in
theorem less_walk (h l k m : Int) (hh : Word h) (hl : Word l) (hk : Word k) (hm : Word m) (w : World) :
    Calls Tryd.prog 60 #[W2 h l, W2 k m] w fun e w' => e = .returned (.bool (decide (N2 h l < N2 k m))) ∧ Below w.heap.size w w' := by
  obtain ⟨_, _⟩ := hl
  obtain ⟨_, _⟩ := hm
  by_cases c1 : h < k
  · rw [decide_eq_true (show N2 h l < N2 k m by unfold N2; omega)]
    go_enter Tryd.func60, Tryd.ntmps60
    go_wp2
    go_returns
    exact ⟨rfl, by go_grown⟩
  by_cases c2 : h = k
  · subst c2
    rw [show decide (N2 h l < N2 h m) = decide (l < m) from by unfold N2; simp]
    go_enter Tryd.func60, Tryd.ntmps60
    go_wp2
    go_returns
    exact ⟨rfl, by go_grown⟩
  · rw [decide_eq_false (show ¬ N2 h l < N2 k m by unfold N2; omega)]
    go_enter Tryd.func60, Tryd.ntmps60
    go_wp2
    go_returns
    exact ⟨rfl, by go_grown⟩
theorem add64 (x y c : Int) (hx : 0 ≤ x) (hy : 0 ≤ y) (hc0 : 0 ≤ c) (hc : c ≤ 1) (w : World) : (callFunc 102 #[.int .u64 x, .int .u64 y, .int .u64 c]).run Tryd.prog w =
    .ok (.value (.tuple #[.int .u64 ((x + y + c) % 18446744073709551616), .int .u64 ((x + y + c) / 18446744073709551616)])) w := by
  rw [run_callFunc_extern Tryd.func102 (by kernel_rfl) (by kernel_rfl) (by kernel_rfl) (e := add64Entry) (by kernel_rfl), run_add64 x y c hx hy hc0 hc]
  rfl
theorem add64_1 (x : Int) (hx : 0 ≤ x) (w : World) : (callFunc 102 #[.int .u64 x, .int .u64 1, .int .u64 0]).run Tryd.prog w =
    .ok (.value (.tuple #[.int .u64 ((x + 1) % 18446744073709551616), .int .u64 ((x + 1) / 18446744073709551616)])) w := by
  simpa using add64 x 1 0 hx (by decide) (Int.le_refl 0) (by decide) w
theorem add64_c (x c : Int) (hx : 0 ≤ x) (hc0 : 0 ≤ c) (hc : c ≤ 1) (w : World) : (callFunc 102 #[.int .u64 x, .int .u64 0, .int .u64 c]).run Tryd.prog w =
    .ok (.value (.tuple #[.int .u64 ((x + c) % 18446744073709551616), .int .u64 ((x + c) / 18446744073709551616)])) w := by
  simpa using add64 x 0 c hx (by decide) hc0 hc w
/-- What next answers: the number one more, or that there is none. -/
def WNext (h l : Int) (w : World) (e : Ending) (w' : World) : Prop :=
  ∃ k m : Int, e = .returned (.tuple #[W2 k m, .bool (decide (N2 h l < 340282366920938463463374607431768211455))]) ∧ Word k ∧ Word m ∧ (N2 h l < 340282366920938463463374607431768211455 → N2 k m = N2 h l + 1) ∧ Below w.heap.size w w'
set_option maxHeartbeats 1000000 in
set_option maxRecDepth 100000 in
theorem wnext_walk (h l : Int) (hh : Word h) (hl : Word l) (w : World) :
    Calls Tryd.prog 59 #[W2 h l] w (WNext h l w) := by
  obtain ⟨a0, a1⟩ := hh
  obtain ⟨b0, b1⟩ := hl
  have k0 : 0 ≤ (l + 1) / 18446744073709551616 := by omega
  have k1 : (l + 1) / 18446744073709551616 ≤ 1 := by omega
  go_enter Tryd.func59, Tryd.ntmps59
  go_wp2_with (first | simp only [add64_1 l b0] | simp only [add64_c h _ a0 k0 k1])
  go_returns
  refine ⟨(h + (l + 1) / 18446744073709551616) % 18446744073709551616, (l + 1) % 18446744073709551616, ?_, ⟨by omega, by omega⟩, ⟨by omega, by omega⟩, by unfold N2; omega, by go_grown⟩
  rw [show ((h + (l + 1) / 18446744073709551616) / 18446744073709551616 == 0) = decide (N2 h l < 340282366920938463463374607431768211455) from ?_]
  rw [Bool.eq_iff_iff]
  simp only [beq_iff_eq, decide_eq_true_eq]
  unfold N2
  omega
end Go.Proofs.YtcgdjnmfeibnoaaDoor
/-! SixWide2 -/
namespace Go.Proofs.YtcgdjnmfeibnoaaDoor
open Go.RowKit
set_option linter.unusedVariables false
set_option linter.unusedSimpArgs false
set_option maxHeartbeats 1000000 in
set_option maxRecDepth 100000 in
theorem tz64_core (x k idx : Nat) (w : World) (hx0 : ((x : Int) == 0) = false)
    (key : IntKind.u64.wrap (bits BinOp.and IntKind.u64 (x : Int) (IntKind.u64.wrap (-(x : Int))) * 285870213051353865) / 288230376151711744 = (idx : Int))
    (hi : idx < 64) (hk : k < 64) (hcell : w.cell? ⟨0, idx, none⟩ = some (.int .u8 k)) :
    Calls Tryd.prog 116 #[.int .u64 x] w fun e w' => e = .returned (.int .i64 k) ∧ w' = w := by
  go_enter Tryd.func116, Tryd.ntmps116
  go_wp2_with (simp only [key])
  go_returns
  exact ⟨rfl, rfl⟩
set_option maxRecDepth 100000 in
theorem tz64_zero (w : World) :
    Calls Tryd.prog 116 #[.int .u64 0] w fun e w' => e = .returned (.int .i64 64) ∧ w' = w := by
  go_enter Tryd.func116, Tryd.ntmps116
  go_wp2
  go_returns
  exact ⟨rfl, rfl⟩
/-- The library's table stands as it was laid. -/
def Tab (w : World) : Prop := TabAt 0 Lib.deBruijn64tab w
theorem Tab.keep {w W : World} {B : Nat} (h : Tab w) (hg : 0 < B) (hb : Below B w W) : Tab W := fun j hj => (hb.cell (p := ⟨0, j, none⟩) hg).trans (h j hj)
theorem tz64_walk (x : Nat) (hx : x < 18446744073709551616) (w : World) (hT : Tab w) :
    Calls Tryd.prog 116 #[.int .u64 x] w fun e w' => e = .returned (.int .i64 (Lib.ctz 64 x)) ∧ w' = w := by
  by_cases hx0 : x = 0
  · subst hx0
    exact tz64_zero w
  · obtain ⟨hlow, hk⟩ := Lib.lowest_bit 64 x hx0 hx
    obtain ⟨hi, htab⟩ := Lib.deBruijn64_at _ hk
    have hcell := hT _ hi
    rw [htab] at hcell
    exact tz64_core x _ _ w (by simp; omega) (tz64_key x _ hx hx0 hlow) hi hk hcell
/-- The lowest bits that are 0. -/
structure Zeros (n z : Int) : Prop where
  lo : 0 ≤ z
  hi : z ≤ 128
  zero : n % 2 ^ z.toNat = 0
  more : z < 128 → n % 2 ^ (z + 1).toNat ≠ 0
theorem ctz_zeros {x : Nat} (h0 : x ≠ 0) (h : x < 18446744073709551616) : Lib.ctz 64 x < 64 ∧ (x : Int) % 2 ^ (Lib.ctz 64 x) = 0 ∧ (x : Int) % 2 ^ (Lib.ctz 64 x + 1) ≠ 0 := by
  obtain ⟨m, he, hl⟩ := Lib.ctzFrom_spec 64 x (by omega) h
  have e : Lib.ctz 64 x = Lib.ctzFrom 64 x := if_neg h0
  rw [e]
  generalize Lib.ctzFrom 64 x = k at *
  subst he
  have hp := pow_pos2 k
  have e1 : (((2 ^ k * (2 * m + 1) : Nat)) : Int) = 2 ^ k * (2 * m + 1) := by simp
  refine ⟨hl, ?_, ?_⟩
  · rw [e1]; exact Int.mul_emod_right _ _
  · rw [e1, Int.pow_succ, Int.mul_emod_mul_of_pos _ _ hp]
    intro hz
    have h3 : ((2 * (m : Int) + 1) % 2) = 1 := by omega
    rw [h3] at hz
    omega
theorem n2_mod_low {h l : Int} {t : Nat} (ht : t ≤ 64) : N2 h l % 2 ^ t = l % 2 ^ t := by
  unfold N2
  have : (18446744073709551616 : Int) = 2 ^ t * 2 ^ (64 - t) := by
    rw [← Int.pow_add, show t + (64 - t) = 64 from by omega]; rfl
  rw [this, show h * (2 ^ t * 2 ^ (64 - t)) = 2 ^ t * (h * 2 ^ (64 - t)) from by ac_rfl, Int.mul_add_emod_self_left]
theorem n2_mod_high {h l : Int} {t : Nat} (hl : Word l) : N2 h l % 2 ^ (64 + t) = N2 (h % 2 ^ t) l := by
  obtain ⟨l0, l1⟩ := hl
  have hp := pow_pos2 t
  unfold N2
  have e1 : (2 : Int) ^ (64 + t) = 2 ^ t * 18446744073709551616 := by rw [Nat.add_comm, Int.pow_add]; rfl
  have e2 := Int.mul_ediv_add_emod h (2 ^ t)
  have h3 := Int.emod_nonneg h (show (2 : Int) ^ t ≠ 0 by omega)
  have h4 := Int.emod_lt_of_pos h hp
  have e : h * 18446744073709551616 + l = (h % 2 ^ t * 18446744073709551616 + l) + 2 ^ t * 18446744073709551616 * (h / 2 ^ t) := by
    have : h * 18446744073709551616 = (2 ^ t * (h / 2 ^ t) + h % 2 ^ t) * 18446744073709551616 := by rw [e2]
    rw [this, Int.add_mul]
    have : 2 ^ t * (h / 2 ^ t) * 18446744073709551616 = 2 ^ t * 18446744073709551616 * (h / 2 ^ t) := by ac_rfl
    omega
  rw [e1, e, Int.add_mul_emod_self_left]
  apply Int.emod_eq_of_lt
  · omega
  · have : h % 2 ^ t + 1 ≤ 2 ^ t := by omega
    have := Int.mul_le_mul_of_nonneg_right this (show (0 : Int) ≤ 18446744073709551616 by decide)
    rw [Int.add_mul] at this
    omega
set_option maxHeartbeats 1000000 in
set_option maxRecDepth 100000 in
theorem zeros_walk (h l : Int) (hh : Word h) (hl : Word l) (w : World) (hg : 0 < w.heap.size) (hT : Tab w) :
    Calls Tryd.prog 83 #[W2 h l] w fun e w' => ∃ z : Int, e = .returned (.int .i64 z) ∧ Zeros (N2 h l) z ∧ Below w.heap.size w w' := by
  have hh' := hh
  have hl' := hl
  obtain ⟨a0, a1⟩ := hh
  obtain ⟨b0, b1⟩ := hl
  obtain ⟨a, rfl⟩ := Int.eq_ofNat_of_zero_le a0
  obtain ⟨b, rfl⟩ := Int.eq_ofNat_of_zero_le b0
  have hT2 : Tab (w.alloc (.cells #[.int .u64 a, .int .u64 b] 74)) := hT.keep hg ((Below.refl _ w).alloc (Nat.le_refl _) _)
  by_cases hb : b = 0
  · subst hb
    go_enter Tryd.func83, Tryd.ntmps83
    go_wp2_with fail
    have hcle : Lib.ctz 64 a ≤ 64 := by
      by_cases ha : a = 0
      · subst ha; decide
      · have := (ctz_zeros ha (by omega)).1; omega
    have hspec : a ≠ 0 → Lib.ctz 64 a < 64 ∧ (a : Int) % 2 ^ (Lib.ctz 64 a) = 0 ∧ (a : Int) % 2 ^ (Lib.ctz 64 a + 1) ≠ 0 := fun ha => ctz_zeros ha (by omega)
    have hzero : a = 0 → Lib.ctz 64 a = 64 := fun ha => by subst ha; rfl
    refine (tz64_walk a (by omega) _ hT2).mono ?_
    rintro e w1 ⟨rfl, rfl⟩
    generalize Lib.ctz 64 a = c at *
    have HS := Lib.hid hspec
    have HZ := Lib.hid hzero
    clear hspec hzero
    go_wp2_with fail
    go_returns
    refine ⟨_, rfl, ?_, by go_grown⟩
    have hW0 : Word 0 := ⟨by decide, by decide⟩
    by_cases ha : a = 0
    · obtain rfl := HZ.out ha
      subst ha
      exact ⟨by decide, by decide, by decide, fun h => absurd h (by decide)⟩
    · obtain ⟨c1, c2, c3⟩ := HS.out ha
      refine ⟨by omega, by omega, ?_, fun _ => ?_⟩
      · rw [show (64 + (c : Int)).toNat = 64 + c from by omega]
        have := n2_mod_high (h := (a : Int)) (t := c) hW0
        rw [show (((0 : Nat) : Int)) = 0 from rfl, this, c2]
        rfl
      · rw [show (64 + (c : Int) + 1).toNat = 64 + (c + 1) from by omega]
        have := n2_mod_high (h := (a : Int)) (t := c + 1) hW0
        rw [show (((0 : Nat) : Int)) = 0 from rfl, this]
        unfold N2
        omega
  · have hb' : ((b : Int) != 0) = true := by simp; omega
    go_enter Tryd.func83, Tryd.ntmps83
    go_wp2_with fail
    refine (tz64_walk b (by omega) _ hT2).mono ?_
    rintro e w1 ⟨rfl, rfl⟩
    go_wp2_with fail
    go_returns
    obtain ⟨c1, c2, c3⟩ := ctz_zeros hb (by omega)
    refine ⟨_, rfl, ⟨by omega, by omega, ?_, fun _ => ?_⟩, by go_grown⟩
    · rw [Int.toNat_natCast, n2_mod_low (by omega)]; exact c2
    · rw [show ((Lib.ctz 64 b : Int) + 1).toNat = Lib.ctz 64 b + 1 from by omega, n2_mod_low (by omega)]; exact c3
theorem pow_lt64 {t : Nat} (h : t < 64) : (2 : Int) ^ t ≤ 9223372036854775808 := by
  have := Nat.pow_le_pow_right (n := 2) (by omega) (show t ≤ 63 by omega)
  have h : ((2 ^ t : Nat) : Int) ≤ ((2 ^ 63 : Nat) : Int) := by exact_mod_cast this
  simpa using h
theorem or_tail (x : Int) (t : Nat) (hx : Word x) (ht : t ≤ 64) (hz : x % 2 ^ t = 0) : bits .or .u64 x (2 ^ t - 1) = x + (2 ^ t - 1) := by
  obtain ⟨x0, x1⟩ := hx
  have hp := pow_pos2 t
  have hl : (2 : Int) ^ t ≤ 18446744073709551616 := by
    have := Nat.pow_le_pow_right (n := 2) (by omega) ht
    have h : ((2 ^ t : Nat) : Int) ≤ ((2 ^ 64 : Nat) : Int) := by exact_mod_cast this
    simpa using h
  obtain ⟨a, rfl⟩ := Int.eq_ofNat_of_zero_le x0
  have e : (2 : Int) ^ t = ((2 ^ t : Nat) : Int) := by simp
  rw [e] at hz hl hp ⊢
  have hz' : a % 2 ^ t = 0 := by exact_mod_cast hz
  rw [u64_or _ _ x0 x1 (by omega) (by omega), show (((2 ^ t : Nat) : Int) - 1).toNat = 2 ^ t - 1 from by omega, Int.toNat_natCast, nat_or_add t _ _ hz' (by omega)]
  omega
theorem wrap_tail {t : Nat} (ht : t ≤ 64) : IntKind.u64.wrap (IntKind.u64.wrap (2 ^ t) - 1) = 2 ^ t - 1 := by
  have hp := pow_pos2 t
  rw [IntKind.wrap_u64, IntKind.wrap_u64]
  by_cases h : t = 64
  · subst h; decide
  · have := pow_lt64 (t := t) (by omega)
    omega
/-- The lowest n bits set. -/
def TailPost (n : Int) (w : World) (e : Ending) (w' : World) : Prop :=
  e = .returned (if 64 ≤ n then W2 (2 ^ (n - 64).toNat - 1) 18446744073709551615 else W2 0 (2 ^ n.toNat - 1)) ∧ Below w.heap.size w w'
set_option maxHeartbeats 1000000 in
set_option maxRecDepth 100000 in
theorem tail_walk (n : Int) (n0 : 0 ≤ n) (n1 : n ≤ 128) (w : World) : Calls Tryd.prog 101 #[.int .i64 n] w (TailPost n w) := by
  by_cases h : 64 ≤ n
  · unfold TailPost
    rw [if_pos h]
    go_enter Tryd.func101, Tryd.ntmps101
    go_wp2
    go_returns
    refine ⟨ret_two (wrap_tail (by omega)) rfl, by go_grown⟩
  · unfold TailPost
    rw [if_neg h]
    go_enter Tryd.func101, Tryd.ntmps101
    go_wp2
    go_returns
    refine ⟨ret_two rfl (wrap_tail (by omega)), by go_grown⟩
/-- What last answers: the last of the addresses of a prefix. -/
def LastPost (v n : Int) (w : World) (e : Ending) (w' : World) : Prop :=
  ∃ k m : Int, e = .returned (W2 k m) ∧ Word k ∧ Word m ∧ N2 k m = v + 2 ^ (128 - n).toNat - 1 ∧ Below w.heap.size w w'
theorem n2_zero {h l : Int} {t : Nat} (hl : Word l) (hz : N2 (h % 2 ^ t) l = 0) : h % 2 ^ t = 0 ∧ l = 0 := by
  obtain ⟨l0, l1⟩ := hl
  have hp := pow_pos2 t
  have h3 := Int.emod_nonneg h (show (2 : Int) ^ t ≠ 0 by omega)
  unfold N2 at hz
  omega
theorem tail_room {x : Int} {t : Nat} (hx : Word x) (ht : t ≤ 64) (hz : x % 2 ^ t = 0) : x + 2 ^ t ≤ 18446744073709551616 ∧ Word (x + (2 ^ t - 1)) := by
  obtain ⟨x0, x1⟩ := hx
  have hp := pow_pos2 t
  have hq := pow_pos2 (64 - t)
  have e : (18446744073709551616 : Int) = 2 ^ t * 2 ^ (64 - t) := by
    rw [← Int.pow_add, show t + (64 - t) = 64 from by omega]; rfl
  have e2 := Int.mul_ediv_add_emod x (2 ^ t)
  rw [hz, Int.add_zero] at e2
  have e3 : x / 2 ^ t < 2 ^ (64 - t) := by
    apply Int.lt_of_mul_lt_mul_left (a := 2 ^ t) _ (Int.le_of_lt hp)
    rw [e2, ← e]; exact x1
  have e4 := Int.mul_le_mul_of_nonneg_left (show x / 2 ^ t + 1 ≤ 2 ^ (64 - t) by omega) (Int.le_of_lt hp)
  rw [Int.mul_add, e2, ← e, Int.mul_one] at e4
  exact ⟨e4, by omega, by omega⟩
theorem or_all : bits .or .u64 0 18446744073709551615 = 18446744073709551615 := by decide
theorem or_none (x : Int) (hx : Word x) : bits .or .u64 x 0 = x := by
  have := or_tail x 0 hx (by omega) (by simp)
  simpa using this
theorem two_at0 {w : World} {b : Nat} {x y : Value} (h0 : w.cell? ⟨b, 0, none⟩ = some x) (h1 : w.cell? ⟨b, 1, none⟩ = some y) (hb : b < w.heap.size) (u v : Value) (o : Obj) :
    (((w.setCell ⟨b, 0, none⟩ u).setCell ⟨b, 1, none⟩ v).alloc o).cell? ⟨b, 0, none⟩ = some u := by
  have hB : Below (w.setCell ⟨b, 0, none⟩ u |>.setCell ⟨b, 1, none⟩ v).heap.size (w.setCell ⟨b, 0, none⟩ u |>.setCell ⟨b, 1, none⟩ v) (((w.setCell ⟨b, 0, none⟩ u).setCell ⟨b, 1, none⟩ v).alloc o) := (Below.refl _ _).alloc (Nat.le_refl _) _
  rw [hB.cell (p := ⟨b, 0, none⟩) (by simp only [World.size_setCell]; exact hb), World.cell?_setCell_other _ _ _ _ (by simp), World.cell?_setCell_same _ _ _ h0]
theorem two_at1 {w : World} {b : Nat} {x y : Value} (h0 : w.cell? ⟨b, 0, none⟩ = some x) (h1 : w.cell? ⟨b, 1, none⟩ = some y) (hb : b < w.heap.size) (u v : Value) (o : Obj) :
    (((w.setCell ⟨b, 0, none⟩ u).setCell ⟨b, 1, none⟩ v).alloc o).cell? ⟨b, 1, none⟩ = some v := by
  have hB : Below (w.setCell ⟨b, 0, none⟩ u |>.setCell ⟨b, 1, none⟩ v).heap.size (w.setCell ⟨b, 0, none⟩ u |>.setCell ⟨b, 1, none⟩ v) (((w.setCell ⟨b, 0, none⟩ u).setCell ⟨b, 1, none⟩ v).alloc o) := (Below.refl _ _).alloc (Nat.le_refl _) _
  rw [hB.cell (p := ⟨b, 1, none⟩) (by simp only [World.size_setCell]; exact hb)]
  exact World.cell?_setCell_same (u := y) _ _ _ ((World.cell?_setCell_other _ _ _ _ (by simp)).trans h1)
set_option maxHeartbeats 1000000 in
set_option maxRecDepth 100000 in
theorem wlast_walk (h l n : Int) (hh : Word h) (hl : Word l) (n0 : 0 ≤ n) (n1 : n ≤ 128) (hz : N2 h l % 2 ^ (128 - n).toNat = 0) (w : World) :
    Calls Tryd.prog 58 #[W2 h l, .int .i64 n] w (LastPost (N2 h l) n w) := by
  have hT := tail_walk (128 - n) (by omega) (by omega)
  by_cases h64 : 64 ≤ 128 - n
  · unfold TailPost at hT
    rw [if_pos h64] at hT
    have HT := Lib.hid hT
    clear hT
    go_enter Tryd.func58, Tryd.ntmps58
    go_wp2_with fail
    refine (HT.out _).mono ?_
    rintro e w1 ⟨rfl, hb⟩
    have B1 : Below w.heap.size w w1 := chain (by go_grown) hb
    obtain ⟨hc, hf, hs⟩ := after hb
    simp only [World.size_alloc] at hs
    have l0 : w.heap.size < w1.heap.size := by omega
    have l1 : w.heap.size + 1 < w1.heap.size := by omega
    have z0 : w1.cell? ⟨w.heap.size + 1, 0, none⟩ = some (.int .u64 0) := (hc _ _ (by simp only [World.size_alloc]; omega)).trans (by go_simp)
    have z1 : w1.cell? ⟨w.heap.size + 1, 1, none⟩ = some (.int .u64 0) := (hc _ _ (by simp only [World.size_alloc]; omega)).trans (by go_simp)
    clear hs hb
    go_wp2_with fail
    refine bodyPost_ret (by simp [results, Tryd.results58, go_sem, two_at0 z0 z1 l1, two_at1 z0 z1 l1]; try rfl) rfl ?_
    have ht : (128 - n).toNat = 64 + (128 - n - 64).toNat := by omega
    rw [ht] at hz
    unfold LastPost
    rw [ht]
    generalize (128 - n - 64).toNat = t at *
    have ht2 : t ≤ 64 := by omega
    obtain ⟨e1, e2⟩ := n2_zero hl (by rw [← n2_mod_high hl]; exact hz)
    subst e2
    obtain ⟨q1, q2⟩ := tail_room hh ht2 e1
    refine ⟨_, _, rfl, ?_, ?_, ?_, by go_grown⟩
    · rw [or_tail h t hh ht2 e1]; exact q2
    · rw [or_all]; exact ⟨by decide, by decide⟩
    · rw [or_tail h t hh ht2 e1, or_all, Int.pow_add]
      unfold N2
      rw [show (2 : Int) ^ 64 = 18446744073709551616 from by decide]
      omega
  · unfold TailPost at hT
    rw [if_neg h64] at hT
    have HT := Lib.hid hT
    clear hT
    go_enter Tryd.func58, Tryd.ntmps58
    go_wp2_with fail
    refine (HT.out _).mono ?_
    rintro e w1 ⟨rfl, hb⟩
    have B1 : Below w.heap.size w w1 := chain (by go_grown) hb
    obtain ⟨hc, hf, hs⟩ := after hb
    simp only [World.size_alloc] at hs
    have l0 : w.heap.size < w1.heap.size := by omega
    have l1 : w.heap.size + 1 < w1.heap.size := by omega
    have z0 : w1.cell? ⟨w.heap.size + 1, 0, none⟩ = some (.int .u64 0) := (hc _ _ (by simp only [World.size_alloc]; omega)).trans (by go_simp)
    have z1 : w1.cell? ⟨w.heap.size + 1, 1, none⟩ = some (.int .u64 0) := (hc _ _ (by simp only [World.size_alloc]; omega)).trans (by go_simp)
    clear hs hb
    go_wp2_with fail
    refine bodyPost_ret (by simp [results, Tryd.results58, go_sem, two_at0 z0 z1 l1, two_at1 z0 z1 l1]; try rfl) rfl ?_
    have ht : (128 - n).toNat ≤ 64 := by omega
    unfold LastPost
    generalize (128 - n).toNat = t at *
    have e1 : l % 2 ^ t = 0 := by rw [← n2_mod_low (h := h) ht]; exact hz
    obtain ⟨q1, q2⟩ := tail_room hl ht e1
    refine ⟨_, _, rfl, ?_, ?_, ?_, by go_grown⟩
    · rw [or_none h hh]; exact hh
    · rw [or_tail l t hl ht e1]; exact q2
    · rw [or_none h hh, or_tail l t hl ht e1]
      unfold N2
      omega
end Go.Proofs.YtcgdjnmfeibnoaaDoor
/-! App -/
namespace Go.Proofs.YtcgdjnmfeibnoaaDoor
open Go.RowKit
set_option linter.unusedVariables false
set_option linter.unusedSimpArgs false
theorem cells_new (w : World) (cs : List Value) (t : TypeId) : ∀ j u, cs[j]? = some u → (w.alloc (.cells cs.toArray t)).cell? ((⟨w.heap.size, 0, none⟩ : Addr).add j) = some u := by
  intro j u hj
  have hb : (w.alloc (.cells cs.toArray t)).heap[w.heap.size]? = some (.cells cs.toArray t (0, 0)) := heap_alloc_new w _
  have ha : ((⟨w.heap.size, 0, none⟩ : Addr).add j) = ⟨w.heap.size, j, none⟩ := by unfold Addr.add; split <;> simp_all
  rw [ha, Lib.cell_of_heap hb]
  simpa using hj
theorem app_one {P : Program} {w : World} {ops : Array Oper} {rest : List Oper} {o : Oper} {a : Act} {Q : Exit → Act → World → Prop} (hgd : o.guard = none) (s x : Operand) (t : TypeId)
    (ho : o.op = .call { callee := .builtin .append, args := #[s, x], argTypes := #[t, t] })
    (base : Nat) (e : TypeId) (i : TypeInfo) (z : Value) (size bytes : Nat) (ht : P.underlying t = some (.slice e)) (hi : P.info? e = some i) (hz : i.zero = some z)
    (hsize : i.size = size) (hby : i.bytes = bytes) (hzs : z.cells.size = size) (hsz : 0 < size)
    (v : Value) (n : Nat) (xs : List Value) (hs : a.eval s = v) (hown : w.ownsRow base e size v n xs)
    (cs : List Value) (hx : a.eval x = .slice (some ⟨w.heap.size, 0, none⟩) 1 1) (hcl : cs.length = size) (h1 : ∀ u ∈ cs, u.oneCell' = true)
    (h63 : n + 1 ≤ maxLen) (hbytes : (n + 1) * bytes ≤ 140737488355328) (hbase : base ≤ w.heap.size)
    (h : ∀ g cap w', base ≤ g → w'.ownsRow base e size (.slice (some ⟨g, 0, none⟩) (n + 1) cap) (n + 1) (xs ++ cs) → (w.alloc (.cells cs.toArray e)).grownBy w' v.ownBlock →
      (∀ B w0, B ≤ base → Below B w0 w → Below B w0 w') → wpList P ops Q rest (a.put o.dst (.slice (some ⟨g, 0, none⟩) (n + 1) cap)) w') :
    wpList P ops Q (o :: rest) a (w.alloc (.cells cs.toArray e)) := by
  refine wpList_append_own _ hgd s x t ho base e i z size bytes ht hi hz hsize hby hzs hsz v n xs hs (hown.alloc _) ⟨w.heap.size, 0, none⟩ 1 1 cs hx (by omega) (cells_new w cs e) h1 h63 hbytes (by simp; omega) ?_
  intro v' w' hown' hgrow _
  have hB : ∀ B w0, B ≤ base → Below B w0 w → Below B w0 w' := fun B w0 hb hw =>
    (hw.alloc (by omega) _).grown hgrow (by simp; omega) (fun k hk => Nat.le_trans hb (hown.lt k hk).1)
  rcases hown'.2 with ⟨_, h0⟩ | ⟨g, cap, cur, hv, hg, _⟩
  · omega
  · subst hv
    exact h g cap w' hg hown' hgrow hB
end Go.Proofs.YtcgdjnmfeibnoaaDoor
