/- What the document's Mask answers: the number without its last bits. -/
import Derived.Test.YtcgdjnmfeibnoaaDoorSixMask
import Derived.Lib.Hide
namespace Go.Proofs.YtcgdjnmfeibnoaaDoor
open Go.RowKit
set_option linter.unusedVariables false
set_option linter.unusedSimpArgs false

theorem pow_add2 (a b : Nat) : (2 : Int) ^ (a + b) = 2 ^ a * 2 ^ b := Int.pow_add ..
theorem tailOf_nonneg (v n : Int) : 0 ≤ tailOf v n := Int.emod_nonneg _ (by have := pow_pos2 (128 - n).toNat; omega)
theorem tailOf_lt (v n : Int) : tailOf v n < 2 ^ (128 - n).toNat := Int.emod_lt_of_pos _ (pow_pos2 _)
/-- One bit of the last bits, and the bits behind it. -/
theorem tail_bit {v : Int} {k : Nat} (hk : k < 128) : tailOf v k = tailOf v k / 2 ^ (127 - k) * 2 ^ (127 - k) + tailOf v ((k : Int) + 1) := by
  have hp := pow_pos2 (127 - k)
  have e1 : (128 - (k : Int)).toNat = (127 - k) + 1 := by omega
  have e2 : (128 - ((k : Int) + 1)).toNat = 127 - k := by omega
  have h2 : tailOf v ((k : Int) + 1) = tailOf v k % 2 ^ (127 - k) := by
    unfold tailOf
    rw [e1, e2, pow_add2, Int.emod_emod_of_dvd _ ⟨_, rfl⟩]
  rw [h2, Int.mul_comm]
  exact (Int.mul_ediv_add_emod _ _).symm
theorem tail_bit_range {v : Int} {k : Nat} (hk : k < 128) : 0 ≤ tailOf v k / 2 ^ (127 - k) ∧ tailOf v k / 2 ^ (127 - k) ≤ 1 := by
  have hp := pow_pos2 (127 - k)
  have e1 : (128 - (k : Int)).toNat = (127 - k) + 1 := by omega
  have h1 := tailOf_lt v k
  have h0 := tailOf_nonneg v k
  rw [e1, Int.pow_succ] at h1
  refine ⟨Int.ediv_nonneg h0 (Int.le_of_lt hp), ?_⟩
  have : tailOf v k / 2 ^ (127 - k) < 2 := Int.ediv_lt_of_lt_mul hp (by omega)
  omega
/-- A bit of a number of three parts is a bit of the middle one. -/
theorem bit_mid (A x lo B : Int) (t : Nat) (ht : t ≤ 15) (hB : 0 < B) (h0 : 0 ≤ lo) (h1 : lo < B) : ((A * 65536 + x) * B + lo) / (2 ^ t * B) % 2 = x / 2 ^ t % 2 := by
  have hp := pow_pos2 t
  rw [Int.mul_comm (2 ^ t) B, ← Int.ediv_ediv_of_nonneg (Int.le_of_lt hB), Int.add_comm ((A * 65536 + x) * B) lo, Int.add_mul_ediv_right _ _ (by omega), Int.ediv_eq_zero_of_lt h0 h1, Int.zero_add]
  have e : A * 65536 = (A * 2 ^ (15 - t) * 2) * 2 ^ t := by
    have h : (2 : Int) ^ (15 - t) * 2 * 2 ^ t = 65536 := by
      rw [← Int.pow_succ, ← pow_add2, show 15 - t + 1 + t = 16 from by omega]; rfl
    rw [Int.mul_assoc, Int.mul_assoc, ← Int.mul_assoc (2 ^ (15 - t)) 2, h]
  rw [e, Int.add_comm, Int.add_mul_ediv_right _ _ (by omega), Int.add_mul_emod_self_right]

theorem masked_bit {v : Int} {n k : Nat} (hn : n ≤ k) (hk : k < 128) : (v - tailOf v n + tailOf v k) / 2 ^ (127 - k) % 2 = tailOf v k / 2 ^ (127 - k) := by
  have hp := pow_pos2 (127 - k)
  have e1 : (128 - (n : Int)).toNat = (127 - k) + (1 + (k - n)) := by omega
  have e : v - tailOf v n = (2 ^ (k - n) * (v / 2 ^ (128 - (n : Int)).toNat) * 2) * 2 ^ (127 - k) := by
    have h := Int.mul_ediv_add_emod v (2 ^ (128 - (n : Int)).toNat)
    have h2 : v - tailOf v n = 2 ^ (128 - (n : Int)).toNat * (v / 2 ^ (128 - (n : Int)).toNat) := by unfold tailOf; omega
    rw [h2]
    generalize v / 2 ^ (128 - (n : Int)).toNat = q
    rw [e1, pow_add2, pow_add2, show (2 : Int) ^ 1 = 2 from rfl]
    ac_rfl
  rw [e, Int.add_comm, Int.add_mul_ediv_right _ _ (by omega), Int.add_mul_emod_self_right]
  have := tail_bit_range (v := v) hk
  omega

/-- Marked from here: the step of one bit. -/
theorem piece_step {v n A x lo B Y : Int} {k t : Nat} (n0 : 0 ≤ n) (hn : n ≤ k) (hk : k < 128) (hx0 : 0 ≤ x) (hx1 : x ≤ 65535) (ht : t ≤ 15) (hB : B = 2 ^ (127 - k - t)) (htk : t ≤ 127 - k) (h0 : 0 ≤ lo) (h1 : lo < B)
    (hY : Y = (A * 65536 + x) * B + lo) (hv : Y = if (k : Int) ≤ n then v else v - tailOf v n + tailOf v k) :
    ∃ x', bits .andNot .u16 x (IntKind.u16.wrap (2 ^ t)) = x' ∧ 0 ≤ x' ∧ x' ≤ 65535 ∧ (A * 65536 + x') * B + lo = v - tailOf v n + tailOf v ((k : Int) + 1) := by
  obtain ⟨m, rfl⟩ := Int.eq_ofNat_of_zero_le n0
  have hY2 : Y = v - tailOf v m + tailOf v k := by
    rw [hv]; split
    · have : m = k := by omega
      subst this; omega
    · rfl
  have hp := pow_pos2 t
  have hpB : 0 < B := by rw [hB]; exact pow_pos2 _
  have hl : (2 : Int) ^ t ≤ 65535 := by
    have := Nat.pow_le_pow_right (n := 2) (by omega) ht
    have h : ((2 ^ t : Nat) : Int) ≤ ((2 ^ 15 : Nat) : Int) := by exact_mod_cast this
    have h2 : ((2 ^ t : Nat) : Int) = 2 ^ t := by simp
    rw [← h2]; omega
  have hw : IntKind.u16.wrap (2 ^ t) = 2 ^ t := by simp only [IntKind.wrap_u16]; omega
  have hPB : (2 : Int) ^ (127 - k) = 2 ^ t * B := by rw [hB, ← pow_add2, show t + (127 - k - t) = 127 - k from by omega]
  have hb : x / 2 ^ t % 2 = tailOf v k / 2 ^ (127 - k) := by
    rw [← masked_bit (v := v) (n := m) (by omega) hk, ← hY2, hY, hPB, bit_mid A x lo B t ht hpB h0 h1]
  have hr := tail_bit_range (v := v) hk
  have hs := tail_bit (v := v) hk
  rw [hw, andNot_bit x t hx0 hx1 (by omega), hb]
  rw [← hb] at hr
  refine ⟨_, rfl, ?_, ?_, ?_⟩
  · rw [← hb]
    have h5 := Int.mul_ediv_add_emod x (2 ^ t)
    have h6 := Int.emod_nonneg x (show (2 : Int) ^ t ≠ 0 by omega)
    have h7 := Int.ediv_nonneg hx0 (Int.le_of_lt hp)
    have h8 : x / 2 ^ t % 2 ≤ x / 2 ^ t := by omega
    have h9 := Int.mul_le_mul_of_nonneg_right h8 (Int.le_of_lt hp)
    rw [Int.mul_comm (2 ^ t)] at h5
    omega
  · rw [← hb]
    have := Int.mul_nonneg hr.1 (Int.le_of_lt hp)
    omega
  · rw [hPB] at hs
    rw [hPB]
    generalize tailOf v k / (2 ^ t * B) = b at *
    have e : (A * 65536 + (x - b * 2 ^ t)) * B + lo = (A * 65536 + x) * B + lo - b * (2 ^ t * B) := by
      rw [← Int.add_sub_assoc, Int.sub_mul, Int.mul_assoc b]
      omega
    rw [e, ← hY, hY2, hs]
    omega

/-- What stands at the head of a round of the document's Mask. -/
def RefMaskRel (v n : Int) (w : World) (i : Value) (W : World) : Prop :=
  ∃ (k : Nat) (y0 y1 y2 y3 y4 y5 y6 y7 : Int), k ≤ 128 ∧ i = .int .i64 k ∧ R8 y0 y1 y2 y3 y4 y5 y6 y7 ∧ V8 y0 y1 y2 y3 y4 y5 y6 y7 = (if (k : Int) ≤ n then v else v - tailOf v n + tailOf v k) ∧ W = (w.alloc (.cells #[.int .u16 y0, .int .u16 y1, .int .u16 y2, .int .u16 y3, .int .u16 y4, .int .u16 y5, .int .u16 y6, .int .u16 y7] 30)).alloc (.cells #[.int .u16 0, .int .u16 0, .int .u16 0, .int .u16 0, .int .u16 0, .int .u16 0, .int .u16 0, .int .u16 0] 30)

theorem ref_meas {k : Nat} (h : k < 128) : 128 - (intOf (.int .i64 ((k : Int) + 1))).toNat < 128 - (intOf (.int .i64 (k : Int))).toNat := by simp [intOf]; omega
theorem ref_none {v n : Int} {w : World} {k : Nat} {y0 y1 y2 y3 y4 y5 y6 y7 : Int} (hk : k < 128) (h : (k : Int) < n) (hr : R8 y0 y1 y2 y3 y4 y5 y6 y7) (hy : V8 y0 y1 y2 y3 y4 y5 y6 y7 = (if (k : Int) ≤ n then v else v - tailOf v n + tailOf v k)) :
    RefMaskRel v n w (.int .i64 ((k : Int) + 1)) ((w.alloc (.cells #[.int .u16 y0, .int .u16 y1, .int .u16 y2, .int .u16 y3, .int .u16 y4, .int .u16 y5, .int .u16 y6, .int .u16 y7] 30)).alloc (.cells #[.int .u16 0, .int .u16 0, .int .u16 0, .int .u16 0, .int .u16 0, .int .u16 0, .int .u16 0, .int .u16 0] 30)) :=
  ⟨k + 1, y0, y1, y2, y3, y4, y5, y6, y7, by omega, by simp, hr, by rw [hy, if_pos (by omega), if_pos (by omega)], rfl⟩
theorem ref_step_0 {v n : Int} {w : World} {k t : Nat} {y0 y1 y2 y3 y4 y5 y6 y7 : Int} (n0 : 0 ≤ n) (hk : k < 128) (h : n ≤ (k : Int)) (ht : 127 - k = t + 112) (ht2 : t ≤ 15) (hr : R8 y0 y1 y2 y3 y4 y5 y6 y7) (hy : V8 y0 y1 y2 y3 y4 y5 y6 y7 = (if (k : Int) ≤ n then v else v - tailOf v n + tailOf v k)) :
    RefMaskRel v n w (.int .i64 ((k : Int) + 1)) ((w.alloc (.cells #[.int .u16 (bits .andNot .u16 y0 (IntKind.u16.wrap (2 ^ t))), .int .u16 y1, .int .u16 y2, .int .u16 y3, .int .u16 y4, .int .u16 y5, .int .u16 y6, .int .u16 y7] 30)).alloc (.cells #[.int .u16 0, .int .u16 0, .int .u16 0, .int .u16 0, .int .u16 0, .int .u16 0, .int .u16 0, .int .u16 0] 30)) := by
  have hR := hr
  obtain ⟨⟨_, _⟩, ⟨_, _⟩, ⟨_, _⟩, ⟨_, _⟩, ⟨_, _⟩, ⟨_, _⟩, ⟨_, _⟩, ⟨_, _⟩⟩ := hr
  obtain ⟨z, hz, z0, z1, he⟩ := piece_step (A := 0) (x := y0) (lo := ((((((y1 * 65536 + y2) * 65536 + y3) * 65536 + y4) * 65536 + y5) * 65536 + y6) * 65536 + y7)) (B := 5192296858534827628530496329220096) (t := t) n0 h hk (by assumption) (by assumption) ht2 (by rw [show 127 - k - t = 112 from by omega]; rfl) (by omega) (by omega) (by omega) (show V8 y0 y1 y2 y3 y4 y5 y6 y7 = _ from by unfold V8; omega) hy
  refine ⟨k + 1, z, y1, y2, y3, y4, y5, y6, y7, by omega, by simp, ?_, ?_, by rw [hz]⟩
  · constructor <;> omega
  · rw [if_neg (by omega), show ((k + 1 : Nat) : Int) = (k : Int) + 1 from by omega, ← he]
    unfold V8
    omega
theorem ref_step_1 {v n : Int} {w : World} {k t : Nat} {y0 y1 y2 y3 y4 y5 y6 y7 : Int} (n0 : 0 ≤ n) (hk : k < 128) (h : n ≤ (k : Int)) (ht : 127 - k = t + 96) (ht2 : t ≤ 15) (hr : R8 y0 y1 y2 y3 y4 y5 y6 y7) (hy : V8 y0 y1 y2 y3 y4 y5 y6 y7 = (if (k : Int) ≤ n then v else v - tailOf v n + tailOf v k)) :
    RefMaskRel v n w (.int .i64 ((k : Int) + 1)) ((w.alloc (.cells #[.int .u16 y0, .int .u16 (bits .andNot .u16 y1 (IntKind.u16.wrap (2 ^ t))), .int .u16 y2, .int .u16 y3, .int .u16 y4, .int .u16 y5, .int .u16 y6, .int .u16 y7] 30)).alloc (.cells #[.int .u16 0, .int .u16 0, .int .u16 0, .int .u16 0, .int .u16 0, .int .u16 0, .int .u16 0, .int .u16 0] 30)) := by
  have hR := hr
  obtain ⟨⟨_, _⟩, ⟨_, _⟩, ⟨_, _⟩, ⟨_, _⟩, ⟨_, _⟩, ⟨_, _⟩, ⟨_, _⟩, ⟨_, _⟩⟩ := hr
  obtain ⟨z, hz, z0, z1, he⟩ := piece_step (A := y0) (x := y1) (lo := (((((y2 * 65536 + y3) * 65536 + y4) * 65536 + y5) * 65536 + y6) * 65536 + y7)) (B := 79228162514264337593543950336) (t := t) n0 h hk (by assumption) (by assumption) ht2 (by rw [show 127 - k - t = 96 from by omega]; rfl) (by omega) (by omega) (by omega) (show V8 y0 y1 y2 y3 y4 y5 y6 y7 = _ from by unfold V8; omega) hy
  refine ⟨k + 1, y0, z, y2, y3, y4, y5, y6, y7, by omega, by simp, ?_, ?_, by rw [hz]⟩
  · constructor <;> omega
  · rw [if_neg (by omega), show ((k + 1 : Nat) : Int) = (k : Int) + 1 from by omega, ← he]
    unfold V8
    omega
theorem ref_step_2 {v n : Int} {w : World} {k t : Nat} {y0 y1 y2 y3 y4 y5 y6 y7 : Int} (n0 : 0 ≤ n) (hk : k < 128) (h : n ≤ (k : Int)) (ht : 127 - k = t + 80) (ht2 : t ≤ 15) (hr : R8 y0 y1 y2 y3 y4 y5 y6 y7) (hy : V8 y0 y1 y2 y3 y4 y5 y6 y7 = (if (k : Int) ≤ n then v else v - tailOf v n + tailOf v k)) :
    RefMaskRel v n w (.int .i64 ((k : Int) + 1)) ((w.alloc (.cells #[.int .u16 y0, .int .u16 y1, .int .u16 (bits .andNot .u16 y2 (IntKind.u16.wrap (2 ^ t))), .int .u16 y3, .int .u16 y4, .int .u16 y5, .int .u16 y6, .int .u16 y7] 30)).alloc (.cells #[.int .u16 0, .int .u16 0, .int .u16 0, .int .u16 0, .int .u16 0, .int .u16 0, .int .u16 0, .int .u16 0] 30)) := by
  have hR := hr
  obtain ⟨⟨_, _⟩, ⟨_, _⟩, ⟨_, _⟩, ⟨_, _⟩, ⟨_, _⟩, ⟨_, _⟩, ⟨_, _⟩, ⟨_, _⟩⟩ := hr
  obtain ⟨z, hz, z0, z1, he⟩ := piece_step (A := (y0 * 65536 + y1)) (x := y2) (lo := ((((y3 * 65536 + y4) * 65536 + y5) * 65536 + y6) * 65536 + y7)) (B := 1208925819614629174706176) (t := t) n0 h hk (by assumption) (by assumption) ht2 (by rw [show 127 - k - t = 80 from by omega]; rfl) (by omega) (by omega) (by omega) (show V8 y0 y1 y2 y3 y4 y5 y6 y7 = _ from by unfold V8; omega) hy
  refine ⟨k + 1, y0, y1, z, y3, y4, y5, y6, y7, by omega, by simp, ?_, ?_, by rw [hz]⟩
  · constructor <;> omega
  · rw [if_neg (by omega), show ((k + 1 : Nat) : Int) = (k : Int) + 1 from by omega, ← he]
    unfold V8
    omega
theorem ref_step_3 {v n : Int} {w : World} {k t : Nat} {y0 y1 y2 y3 y4 y5 y6 y7 : Int} (n0 : 0 ≤ n) (hk : k < 128) (h : n ≤ (k : Int)) (ht : 127 - k = t + 64) (ht2 : t ≤ 15) (hr : R8 y0 y1 y2 y3 y4 y5 y6 y7) (hy : V8 y0 y1 y2 y3 y4 y5 y6 y7 = (if (k : Int) ≤ n then v else v - tailOf v n + tailOf v k)) :
    RefMaskRel v n w (.int .i64 ((k : Int) + 1)) ((w.alloc (.cells #[.int .u16 y0, .int .u16 y1, .int .u16 y2, .int .u16 (bits .andNot .u16 y3 (IntKind.u16.wrap (2 ^ t))), .int .u16 y4, .int .u16 y5, .int .u16 y6, .int .u16 y7] 30)).alloc (.cells #[.int .u16 0, .int .u16 0, .int .u16 0, .int .u16 0, .int .u16 0, .int .u16 0, .int .u16 0, .int .u16 0] 30)) := by
  have hR := hr
  obtain ⟨⟨_, _⟩, ⟨_, _⟩, ⟨_, _⟩, ⟨_, _⟩, ⟨_, _⟩, ⟨_, _⟩, ⟨_, _⟩, ⟨_, _⟩⟩ := hr
  obtain ⟨z, hz, z0, z1, he⟩ := piece_step (A := ((y0 * 65536 + y1) * 65536 + y2)) (x := y3) (lo := (((y4 * 65536 + y5) * 65536 + y6) * 65536 + y7)) (B := 18446744073709551616) (t := t) n0 h hk (by assumption) (by assumption) ht2 (by rw [show 127 - k - t = 64 from by omega]; rfl) (by omega) (by omega) (by omega) (show V8 y0 y1 y2 y3 y4 y5 y6 y7 = _ from by unfold V8; omega) hy
  refine ⟨k + 1, y0, y1, y2, z, y4, y5, y6, y7, by omega, by simp, ?_, ?_, by rw [hz]⟩
  · constructor <;> omega
  · rw [if_neg (by omega), show ((k + 1 : Nat) : Int) = (k : Int) + 1 from by omega, ← he]
    unfold V8
    omega
theorem ref_step_4 {v n : Int} {w : World} {k t : Nat} {y0 y1 y2 y3 y4 y5 y6 y7 : Int} (n0 : 0 ≤ n) (hk : k < 128) (h : n ≤ (k : Int)) (ht : 127 - k = t + 48) (ht2 : t ≤ 15) (hr : R8 y0 y1 y2 y3 y4 y5 y6 y7) (hy : V8 y0 y1 y2 y3 y4 y5 y6 y7 = (if (k : Int) ≤ n then v else v - tailOf v n + tailOf v k)) :
    RefMaskRel v n w (.int .i64 ((k : Int) + 1)) ((w.alloc (.cells #[.int .u16 y0, .int .u16 y1, .int .u16 y2, .int .u16 y3, .int .u16 (bits .andNot .u16 y4 (IntKind.u16.wrap (2 ^ t))), .int .u16 y5, .int .u16 y6, .int .u16 y7] 30)).alloc (.cells #[.int .u16 0, .int .u16 0, .int .u16 0, .int .u16 0, .int .u16 0, .int .u16 0, .int .u16 0, .int .u16 0] 30)) := by
  have hR := hr
  obtain ⟨⟨_, _⟩, ⟨_, _⟩, ⟨_, _⟩, ⟨_, _⟩, ⟨_, _⟩, ⟨_, _⟩, ⟨_, _⟩, ⟨_, _⟩⟩ := hr
  obtain ⟨z, hz, z0, z1, he⟩ := piece_step (A := (((y0 * 65536 + y1) * 65536 + y2) * 65536 + y3)) (x := y4) (lo := ((y5 * 65536 + y6) * 65536 + y7)) (B := 281474976710656) (t := t) n0 h hk (by assumption) (by assumption) ht2 (by rw [show 127 - k - t = 48 from by omega]; rfl) (by omega) (by omega) (by omega) (show V8 y0 y1 y2 y3 y4 y5 y6 y7 = _ from by unfold V8; omega) hy
  refine ⟨k + 1, y0, y1, y2, y3, z, y5, y6, y7, by omega, by simp, ?_, ?_, by rw [hz]⟩
  · constructor <;> omega
  · rw [if_neg (by omega), show ((k + 1 : Nat) : Int) = (k : Int) + 1 from by omega, ← he]
    unfold V8
    omega
theorem ref_step_5 {v n : Int} {w : World} {k t : Nat} {y0 y1 y2 y3 y4 y5 y6 y7 : Int} (n0 : 0 ≤ n) (hk : k < 128) (h : n ≤ (k : Int)) (ht : 127 - k = t + 32) (ht2 : t ≤ 15) (hr : R8 y0 y1 y2 y3 y4 y5 y6 y7) (hy : V8 y0 y1 y2 y3 y4 y5 y6 y7 = (if (k : Int) ≤ n then v else v - tailOf v n + tailOf v k)) :
    RefMaskRel v n w (.int .i64 ((k : Int) + 1)) ((w.alloc (.cells #[.int .u16 y0, .int .u16 y1, .int .u16 y2, .int .u16 y3, .int .u16 y4, .int .u16 (bits .andNot .u16 y5 (IntKind.u16.wrap (2 ^ t))), .int .u16 y6, .int .u16 y7] 30)).alloc (.cells #[.int .u16 0, .int .u16 0, .int .u16 0, .int .u16 0, .int .u16 0, .int .u16 0, .int .u16 0, .int .u16 0] 30)) := by
  have hR := hr
  obtain ⟨⟨_, _⟩, ⟨_, _⟩, ⟨_, _⟩, ⟨_, _⟩, ⟨_, _⟩, ⟨_, _⟩, ⟨_, _⟩, ⟨_, _⟩⟩ := hr
  obtain ⟨z, hz, z0, z1, he⟩ := piece_step (A := ((((y0 * 65536 + y1) * 65536 + y2) * 65536 + y3) * 65536 + y4)) (x := y5) (lo := (y6 * 65536 + y7)) (B := 4294967296) (t := t) n0 h hk (by assumption) (by assumption) ht2 (by rw [show 127 - k - t = 32 from by omega]; rfl) (by omega) (by omega) (by omega) (show V8 y0 y1 y2 y3 y4 y5 y6 y7 = _ from by unfold V8; omega) hy
  refine ⟨k + 1, y0, y1, y2, y3, y4, z, y6, y7, by omega, by simp, ?_, ?_, by rw [hz]⟩
  · constructor <;> omega
  · rw [if_neg (by omega), show ((k + 1 : Nat) : Int) = (k : Int) + 1 from by omega, ← he]
    unfold V8
    omega
theorem ref_step_6 {v n : Int} {w : World} {k t : Nat} {y0 y1 y2 y3 y4 y5 y6 y7 : Int} (n0 : 0 ≤ n) (hk : k < 128) (h : n ≤ (k : Int)) (ht : 127 - k = t + 16) (ht2 : t ≤ 15) (hr : R8 y0 y1 y2 y3 y4 y5 y6 y7) (hy : V8 y0 y1 y2 y3 y4 y5 y6 y7 = (if (k : Int) ≤ n then v else v - tailOf v n + tailOf v k)) :
    RefMaskRel v n w (.int .i64 ((k : Int) + 1)) ((w.alloc (.cells #[.int .u16 y0, .int .u16 y1, .int .u16 y2, .int .u16 y3, .int .u16 y4, .int .u16 y5, .int .u16 (bits .andNot .u16 y6 (IntKind.u16.wrap (2 ^ t))), .int .u16 y7] 30)).alloc (.cells #[.int .u16 0, .int .u16 0, .int .u16 0, .int .u16 0, .int .u16 0, .int .u16 0, .int .u16 0, .int .u16 0] 30)) := by
  have hR := hr
  obtain ⟨⟨_, _⟩, ⟨_, _⟩, ⟨_, _⟩, ⟨_, _⟩, ⟨_, _⟩, ⟨_, _⟩, ⟨_, _⟩, ⟨_, _⟩⟩ := hr
  obtain ⟨z, hz, z0, z1, he⟩ := piece_step (A := (((((y0 * 65536 + y1) * 65536 + y2) * 65536 + y3) * 65536 + y4) * 65536 + y5)) (x := y6) (lo := y7) (B := 65536) (t := t) n0 h hk (by assumption) (by assumption) ht2 (by rw [show 127 - k - t = 16 from by omega]; rfl) (by omega) (by omega) (by omega) (show V8 y0 y1 y2 y3 y4 y5 y6 y7 = _ from by unfold V8; omega) hy
  refine ⟨k + 1, y0, y1, y2, y3, y4, y5, z, y7, by omega, by simp, ?_, ?_, by rw [hz]⟩
  · constructor <;> omega
  · rw [if_neg (by omega), show ((k + 1 : Nat) : Int) = (k : Int) + 1 from by omega, ← he]
    unfold V8
    omega
theorem ref_step_7 {v n : Int} {w : World} {k t : Nat} {y0 y1 y2 y3 y4 y5 y6 y7 : Int} (n0 : 0 ≤ n) (hk : k < 128) (h : n ≤ (k : Int)) (ht : 127 - k = t + 0) (ht2 : t ≤ 15) (hr : R8 y0 y1 y2 y3 y4 y5 y6 y7) (hy : V8 y0 y1 y2 y3 y4 y5 y6 y7 = (if (k : Int) ≤ n then v else v - tailOf v n + tailOf v k)) :
    RefMaskRel v n w (.int .i64 ((k : Int) + 1)) ((w.alloc (.cells #[.int .u16 y0, .int .u16 y1, .int .u16 y2, .int .u16 y3, .int .u16 y4, .int .u16 y5, .int .u16 y6, .int .u16 (bits .andNot .u16 y7 (IntKind.u16.wrap (2 ^ t)))] 30)).alloc (.cells #[.int .u16 0, .int .u16 0, .int .u16 0, .int .u16 0, .int .u16 0, .int .u16 0, .int .u16 0, .int .u16 0] 30)) := by
  have hR := hr
  obtain ⟨⟨_, _⟩, ⟨_, _⟩, ⟨_, _⟩, ⟨_, _⟩, ⟨_, _⟩, ⟨_, _⟩, ⟨_, _⟩, ⟨_, _⟩⟩ := hr
  obtain ⟨z, hz, z0, z1, he⟩ := piece_step (A := ((((((y0 * 65536 + y1) * 65536 + y2) * 65536 + y3) * 65536 + y4) * 65536 + y5) * 65536 + y6)) (x := y7) (lo := 0) (B := 1) (t := t) n0 h hk (by assumption) (by assumption) ht2 (by rw [show 127 - k - t = 0 from by omega]; rfl) (by omega) (by omega) (by omega) (show V8 y0 y1 y2 y3 y4 y5 y6 y7 = _ from by unfold V8; omega) hy
  refine ⟨k + 1, y0, y1, y2, y3, y4, y5, y6, z, by omega, by simp, ?_, ?_, by rw [hz]⟩
  · constructor <;> omega
  · rw [if_neg (by omega), show ((k + 1 : Nat) : Int) = (k : Int) + 1 from by omega, ← he]
    unfold V8
    omega

set_option maxHeartbeats 1000000 in
set_option maxRecDepth 100000 in
theorem refMask_walk (x0 x1 x2 x3 x4 x5 x6 x7 : Int) (h : R8 x0 x1 x2 x3 x4 x5 x6 x7) (n : Int) (n0 : 0 ≤ n) (n1 : n ≤ 128) (w : World) :
    Calls Tryd.prog 62 #[A8 x0 x1 x2 x3 x4 x5 x6 x7, .int .i64 n] w (MaskPost (V8 x0 x1 x2 x3 x4 x5 x6 x7) n w) := by
  obtain ⟨v, hv⟩ : ∃ v, v = V8 x0 x1 x2 x3 x4 x5 x6 x7 := ⟨_, rfl⟩
  rw [← hv]
  go_enter Tryd.func62, Tryd.ntmps62
  go_wp2
  go_loopw [6] (fun i W => RefMaskRel v n w i W) (fun i _ => 128 - (intOf i).toNat)
  case atStart => exact ⟨0, x0, x1, x2, x3, x4, x5, x6, x7, by omega, rfl, h, by rw [if_pos (by simpa using n0), hv], rfl⟩
  case round =>
    obtain ⟨k, y0, y1, y2, y3, y4, y5, y6, y7, hk, rfl, hr, hy, rfl⟩ := hrel
    have HY := Lib.hid hy
    have HV := Lib.hid hv
    have HR := Lib.hid hr
    clear hy hv hr h
    by_cases hlt : k < 128
    · have hj : k / 16 = 0 ∨ k / 16 = 1 ∨ k / 16 = 2 ∨ k / 16 = 3 ∨ k / 16 = 4 ∨ k / 16 = 5 ∨ k / 16 = 6 ∨ k / 16 = 7 := by omega
      rcases hj with hj | hj | hj | hj | hj | hj | hj | hj
      · have hq : (k : Int) / 16 = 0 := by omega
        go_wp2
        · exact ⟨ref_step_0 n0 hlt (by assumption) (by omega) (by omega) HR.out HY.out, ref_meas hlt⟩
        · exact ⟨ref_none hlt (by assumption) HR.out HY.out, ref_meas hlt⟩
      · have hq : (k : Int) / 16 = 1 := by omega
        go_wp2
        · exact ⟨ref_step_1 n0 hlt (by assumption) (by omega) (by omega) HR.out HY.out, ref_meas hlt⟩
        · exact ⟨ref_none hlt (by assumption) HR.out HY.out, ref_meas hlt⟩
      · have hq : (k : Int) / 16 = 2 := by omega
        go_wp2
        · exact ⟨ref_step_2 n0 hlt (by assumption) (by omega) (by omega) HR.out HY.out, ref_meas hlt⟩
        · exact ⟨ref_none hlt (by assumption) HR.out HY.out, ref_meas hlt⟩
      · have hq : (k : Int) / 16 = 3 := by omega
        go_wp2
        · exact ⟨ref_step_3 n0 hlt (by assumption) (by omega) (by omega) HR.out HY.out, ref_meas hlt⟩
        · exact ⟨ref_none hlt (by assumption) HR.out HY.out, ref_meas hlt⟩
      · have hq : (k : Int) / 16 = 4 := by omega
        go_wp2
        · exact ⟨ref_step_4 n0 hlt (by assumption) (by omega) (by omega) HR.out HY.out, ref_meas hlt⟩
        · exact ⟨ref_none hlt (by assumption) HR.out HY.out, ref_meas hlt⟩
      · have hq : (k : Int) / 16 = 5 := by omega
        go_wp2
        · exact ⟨ref_step_5 n0 hlt (by assumption) (by omega) (by omega) HR.out HY.out, ref_meas hlt⟩
        · exact ⟨ref_none hlt (by assumption) HR.out HY.out, ref_meas hlt⟩
      · have hq : (k : Int) / 16 = 6 := by omega
        go_wp2
        · exact ⟨ref_step_6 n0 hlt (by assumption) (by omega) (by omega) HR.out HY.out, ref_meas hlt⟩
        · exact ⟨ref_none hlt (by assumption) HR.out HY.out, ref_meas hlt⟩
      · have hq : (k : Int) / 16 = 7 := by omega
        go_wp2
        · exact ⟨ref_step_7 n0 hlt (by assumption) (by omega) (by omega) HR.out HY.out, ref_meas hlt⟩
        · exact ⟨ref_none hlt (by assumption) HR.out HY.out, ref_meas hlt⟩
    · obtain rfl : k = 128 := by omega
      go_wp2
      go_returns
      refine mask_ret HR.out ?_ (by go_grown)
      have he := HY.out
      have ht : tailOf v (128 : Nat) = 0 := by unfold tailOf; rw [show (128 - ((128 : Nat) : Int)).toNat = 0 from by decide]; omega
      rw [ht] at he
      rw [he]
      split
      · have : n = (128 : Nat) := by omega
        subst this
        rw [ht]; omega
      · omega
end Go.Proofs.YtcgdjnmfeibnoaaDoor
